/- Part 8 of the proof: Cn2, M2r, M2, M3, M4r, M4, C2, M5, M6, M7, M8r, M8 -/
import Derived.Test.YtpdlkdoogojboaaGreatY06
import Derived.Test.YtpdlkdoogojboaaGreatY07
import Derived.Test.YtpdlkdoogojboaaGreatY01
set_option maxHeartbeats 16000000
set_option maxRecDepth 100000
namespace Go.Proofs.YtpdlkdoogojboaaGreat
open Go Go.RowKit
noncomputable section
theorem appCL:AppSrc Tryz.prog 84 84 146 6:=appSrc (z:=.agg #[.string ⟨#[]⟩, .int .i64 0, .int .i64 0, .int .i64 0, .int .i64 0, .bool false]) (bytes:=56) (by kernel_rfl) (by kernel_rfl) rfl (by decide) (by decide)
theorem cloneCL (xs:List Value) (n:Nat) (v:Value) (w:World) (hs:SlX [] w 6 n xs v) (h1:∀u∈xs,u.oneCell'=true) (hlen:n < 1099511627776):
 Calls Tryz.prog 108 #[v] w λ e w'=> ∃v' f',e=.returned v'/\(rowA 146 6 v' n xs).p w' f'/\Below w.heap.size w w'/\∀k∈f',w.heap.size<=k:=by
 rcases hs.cases (by decide) with ⟨c,rfl,rfl,rfl⟩ | ⟨ad,c,rfl⟩
 · have hnil:=λ w'=> Lib.run_eql_slice_nil (P:=Tryz.prog) w' 84 146 none 0 c 0 0 Tryz.underlying84
   simp only [Option.isNone_none] at hnil;clear hs hlen h1;go_enter Tryz.func108,Tryz.ntmps108;go_wp2;go_ret;exact ⟨_,[],rfl,row_nil _ _ _,Below.refl _ _,by simp⟩
 · have hb0:Below w.heap.size w (w.alloc (.cells #[] 146)):=(Below.refl _ _).alloc (Nat.le_refl _) _
   have hrow:(rowA 146 6 (.slice (some ⟨w.heap.size,0,none⟩) 0 0) 0 []).p (w.alloc (.cells #[] 146)) [w.heap.size]:=by have h:=World.ownsRow_lit (base:=0) (e:=146) (size:=6) w #[] 0 (Nat.zero_le _) (by simp) (by simp);exact ⟨h,rfl⟩
   obtain ⟨v',w',f',hr,h2,h3⟩:=appCL 84 _ _ 0 [] _ _ _ _ hrow ((hs.mono hb0).src (tx:=84) (e':=146) (by kernel_rfl) (by decide) h1) (by omega);rw [Nat.zero_add,List.nil_append] at h2;have hb:Below w.heap.size w w':=hb0.trans (h3.below (by simp) (by simp));have HO:Hid ((rowA 146 6 v' n xs).p w' f'/\Below w.heap.size w w'/\∀k∈f',w.heap.size<=k):=by
    refine ⟨h2,hb,λ k hk=> ?_⟩;rcases h3.new k hk with h | h
    · rw [List.mem_singleton.1 h];exact Nat.le_refl _
    · have:=hb0.size;omega
   have hnil:=λ w'=> Lib.run_eql_slice_nil (P:=Tryz.prog) w' 84 146 (some ad) n c 0 0 Tryz.underlying84;simp only [Option.isNone_some] at hnil;have HR:=Lib.hid hr;clear hs hrow h2 h3 hb hb0 hr;go_enter Tryz.func108,Tryz.ntmps108;go_wp2_with (at_builtin;refine wpList_append_run rfl _ _ _ rfl rfl rfl HR.out ?_);go_ret;exact ⟨_,_,rfl,HO.out⟩
theorem appJS:AppSrc Tryz.prog 85 85 90 1:=appSrc (z:=.slice none 0 0) (bytes:=24) (by kernel_rfl) (by kernel_rfl) rfl (by decide) (by decide)
theorem cloneJS (xs:List Value) (n:Nat) (v:Value) (w:World) (hs:SlX [] w 1 n xs v) (h1:∀u∈xs,u.oneCell'=true) (hlen:n < 1099511627776):
 Calls Tryz.prog 109 #[v] w λ e w'=> ∃v' f',e=.returned v'/\(rowA 90 1 v' n xs).p w' f'/\Below w.heap.size w w'/\∀k∈f',w.heap.size<=k:=by
 rcases hs.cases (by decide) with ⟨c,rfl,rfl,rfl⟩ | ⟨ad,c,rfl⟩
 · have hnil:=λ w'=> Lib.run_eql_slice_nil (P:=Tryz.prog) w' 85 90 none 0 c 0 0 Tryz.underlying85
   simp only [Option.isNone_none] at hnil;clear hs hlen h1;go_enter Tryz.func109,Tryz.ntmps109;go_wp2;go_ret;exact ⟨_,[],rfl,row_nil _ _ _,Below.refl _ _,by simp⟩
 · have hb0:Below w.heap.size w (w.alloc (.cells #[] 90)):=(Below.refl _ _).alloc (Nat.le_refl _) _
   have hrow:(rowA 90 1 (.slice (some ⟨w.heap.size,0,none⟩) 0 0) 0 []).p (w.alloc (.cells #[] 90)) [w.heap.size]:=by have h:=World.ownsRow_lit (base:=0) (e:=90) (size:=1) w #[] 0 (Nat.zero_le _) (by simp) (by simp);exact ⟨h,rfl⟩
   obtain ⟨v',w',f',hr,h2,h3⟩:=appJS 85 _ _ 0 [] _ _ _ _ hrow ((hs.mono hb0).src (tx:=85) (e':=90) (by kernel_rfl) (by decide) h1) (by omega);rw [Nat.zero_add,List.nil_append] at h2;have hb:Below w.heap.size w w':=hb0.trans (h3.below (by simp) (by simp));have HO:Hid ((rowA 90 1 v' n xs).p w' f'/\Below w.heap.size w w'/\∀k∈f',w.heap.size<=k):=by
    refine ⟨h2,hb,λ k hk=> ?_⟩;rcases h3.new k hk with h | h
    · rw [List.mem_singleton.1 h];exact Nat.le_refl _
    · have:=hb0.size;omega
   have hnil:=λ w'=> Lib.run_eql_slice_nil (P:=Tryz.prog) w' 85 90 (some ad) n c 0 0 Tryz.underlying85;simp only [Option.isNone_some] at hnil;have HR:=Lib.hid hr;clear hs hrow h2 h3 hb hb0 hr;go_enter Tryz.func109,Tryz.ntmps109;go_wp2_with (at_builtin;refine wpList_append_run rfl _ _ _ rfl rfl rfl HR.out ?_);go_ret;exact ⟨_,_,rfl,HO.out⟩
theorem appFO:AppSrc Tryz.prog 86 86 92 3:=appSrc (z:=.agg #[.slice none 0 0, .int .i64 0, .int .i64 0]) (bytes:=40) (by kernel_rfl) (by kernel_rfl) rfl (by decide) (by decide)
theorem cloneFO (xs:List Value) (n:Nat) (v:Value) (w:World) (hs:SlX [] w 3 n xs v) (h1:∀u∈xs,u.oneCell'=true) (hlen:n < 1099511627776):
 Calls Tryz.prog 111 #[v] w λ e w'=> ∃v' f',e=.returned v'/\(rowA 92 3 v' n xs).p w' f'/\Below w.heap.size w w'/\∀k∈f',w.heap.size<=k:=by
 rcases hs.cases (by decide) with ⟨c,rfl,rfl,rfl⟩ | ⟨ad,c,rfl⟩
 · have hnil:=λ w'=> Lib.run_eql_slice_nil (P:=Tryz.prog) w' 86 92 none 0 c 0 0 Tryz.underlying86
   simp only [Option.isNone_none] at hnil;clear hs hlen h1;go_enter Tryz.func111,Tryz.ntmps111;go_wp2;go_ret;exact ⟨_,[],rfl,row_nil _ _ _,Below.refl _ _,by simp⟩
 · have hb0:Below w.heap.size w (w.alloc (.cells #[] 92)):=(Below.refl _ _).alloc (Nat.le_refl _) _
   have hrow:(rowA 92 3 (.slice (some ⟨w.heap.size,0,none⟩) 0 0) 0 []).p (w.alloc (.cells #[] 92)) [w.heap.size]:=by have h:=World.ownsRow_lit (base:=0) (e:=92) (size:=3) w #[] 0 (Nat.zero_le _) (by simp) (by simp);exact ⟨h,rfl⟩
   obtain ⟨v',w',f',hr,h2,h3⟩:=appFO 86 _ _ 0 [] _ _ _ _ hrow ((hs.mono hb0).src (tx:=86) (e':=92) (by kernel_rfl) (by decide) h1) (by omega);rw [Nat.zero_add,List.nil_append] at h2;have hb:Below w.heap.size w w':=hb0.trans (h3.below (by simp) (by simp));have HO:Hid ((rowA 92 3 v' n xs).p w' f'/\Below w.heap.size w w'/\∀k∈f',w.heap.size<=k):=by
    refine ⟨h2,hb,λ k hk=> ?_⟩;rcases h3.new k hk with h | h
    · rw [List.mem_singleton.1 h];exact Nat.le_refl _
    · have:=hb0.size;omega
   have hnil:=λ w'=> Lib.run_eql_slice_nil (P:=Tryz.prog) w' 86 92 (some ad) n c 0 0 Tryz.underlying86;simp only [Option.isNone_some] at hnil;have HR:=Lib.hid hr;clear hs hrow h2 h3 hb hb0 hr;go_enter Tryz.func111,Tryz.ntmps111;go_wp2_with (at_builtin;refine wpList_append_run rfl _ _ _ rfl rfl rfl HR.out ?_);go_ret;exact ⟨_,_,rfl,HO.out⟩
theorem Rg.Ob.indexN (G:Rg) (i b n c m s:Nat) (hm:m < n) {t e:TypeId} {x y:Operand} (hop:(opAt G.ops i).op=.indexAddr t x y:=by rfl) (hu:G.P.underlying t=some (.slice e):=by rfl) (hz:∀w,(sizeOf e).run G.P w=.ok s w:=by intro _;exact kr (by kernel_rfl)) (hx:∀a,G.env i a x=.slice (some ⟨b,0,none⟩) n c:=by intro _;exact kr (by kernel_rfl)) (hy:∀a,G.env i a y=.int .i64 m:=by intro _;exact kr (by kernel_rfl)) (hv:∀g,G.valD i g=.pointer (some ⟨b,m * s,none⟩):=by intro _;exact kr (by kernel_rfl))
 (hq:(G.quiet i G.pcs.length && G.okV i)=true:=by exact kr (by kernel_rfl)) (hw:∀a,wantE G.ops (opAt G.ops i) (G.env i a)=some true:=by intro _;exact kr (by kernel_rfl)):G.Ob i:=Rg.Ob.read G i hq hw λ L a w _ _=> by
 have e1:0+m * s=m * s:=by omega
 simp only [execOp,hop,hx,hy,Sem.run_bind,run_index1 hu (hz w) hm,Result.andThen_ok,Sem.run_pure,hv,e1]
theorem row_at {w:World} {t:TypeId} {size g n c i:Nat} {xs:List Value} {u:Value} {f:List Nat} (h:(rowA t size (.slice (some ⟨g,0,none⟩) n c) n xs).p w f) (hl:xs.length=n * size) (hu:xs[i]? =some u):w.cell? ⟨g,i,none⟩=some u/\w.frozen? ⟨g,i,none⟩=false/\g < w.heap.size:=by
 obtain ⟨a,c',e, -, -,h4⟩:=row_shape h;have hi:=(List.getElem?_eq_some_iff.1 hu).1;obtain ⟨g',e1,h5,h6,h7⟩:=h4 i (by omega);injection e with e;rw [e1] at e;injection e with e;injection e with e;subst e;exact ⟨h6.trans hu,h7 i,h5⟩
theorem storeRow1 {P:Program} {w:World} {ty t:TypeId} {size g n c i:Nat} {xs:List Value} {u v:Value} {f:List Nat} (hb:(rowA t size (.slice (some ⟨g,0,none⟩) n c) n xs).p w f) (hl:xs.length=n * size) (hu:xs[i]? =some u) (hz:(sizeOf ty).run P w=.ok 1 w) (h1:v.oneCell'=true):
 ∃w' f',(Instr.storeAt ty (.pointer (some ⟨g,i,none⟩)) v).run P w=.ok () w'/\(rowA t size (.slice (some ⟨g,0,none⟩) n c) n (xs.set i v)).p w' f'/\Tr w w' f f':=by
 obtain ⟨hc,hfz, -⟩:=row_at hb hl hu;obtain ⟨h2,h3⟩:=hb;obtain ⟨h4,h5⟩:=h2.stored i v;refine ⟨_,[g],run_store1 hz h1 hc hfz,⟨h4,rfl⟩,?_⟩;rw [h3];exact Tr.of_grown (o:=some g) (o':=some g) h5 (λ k hk=> .inl hk)
theorem clone_in {w0 w w2:World} {fp0 f:List Nat} {R:List Asn} {A B C:Asn} (h:St w0 fp0 ([A,B]++R) w) (h1:C.p w2 f) (h2:Below w.heap.size w w2) (h3:∀k∈f,w.heap.size<=k):St w0 fp0 ([A,starA [B,C]]++R) w2:=by
 have h4:=St_re (L:=[_,_,_]) (h.addF h1 h2 h3) [2,0,1] [] (by kernel_rfl);have h5:St w0 fp0 ([B,C]++(A::R)) w2:=St_re (L:=[_,_,_]) (h.addF h1 h2 h3) [2,0,1] [] (by kernel_rfl);exact (St.star.2 h5).perm (List.Perm.swap _ _ _)
def gCs10 (tb kg n kc i m:Nat) (nm cv fv xv u:Value) (us XS:List Value):=rgx Tryz.prog Tryz.f74 10 69 [28,29,30,31,32,33,34,35,36,37] [(5,pV tb 0),(6,nV i)] (Vq 0 28 [Kp tb 2,Kv (.slice (some ⟨kg,0,none⟩) n kc),Kn i,Kp tb 2,Kv (.slice (some ⟨kg,0,none⟩) n kc),Kn i,Kp kg i,Kv u,Vf.slice,Kp kg i]) [Bk tb (89) [nm,cv, .slice (some ⟨kg,0,none⟩) n kc,fv,xv], .gen [8,10] [36] λ L g=> match L 10 with | true=> starA [rowA 90 1 (.slice (some ⟨kg,0,none⟩) n kc) n (us.set (i) (.slice (sa (g 36)) (sn (g 36)) (sc (g 36)))),rowA 3 1 (g 36) m XS] | false=> match L 8 with | true=> starA [rowA 90 1 (.slice (some ⟨kg,0,none⟩) n kc) n us,rowA 3 1 (g 36) m XS] | false=> rowA 90 1 (.slice (some ⟨kg,0,none⟩) n kc) n us]
theorem rCs10 (tb kg n kc i m:Nat) (nm cv fv xv u:Value) (us XS:List Value) (w0:World) (fp0:List Nat) (R:List Asn) (hi:i < n) (hl:us.length=n * 1) (hu:us[i]? =some u) (hcl:∀(L:List Asn) (w:World),St w0 fp0 (L++R) w->Calls Tryz.prog 110 #[u] w λ e w2=> ∃v f,e=.returned v/\(rowA 3 1 v m XS).p w2 f/\Below w.heap.size w w2/\∀k∈f,w.heap.size<=k) {w:World} {c:Code} {a:Act} {Q:Exit->Act->World->Prop} (c1:isReg c=true) (c2:cops c=opsR Tryz.f74 10) (c3:a.tmps.size=69) (_c4:a.defers=a.defers) (i5:a.eval (.tmp 5)=.pointer (some ⟨tb,0,none⟩)) (i6:a.eval (.tmp 6)=.int .i64 i)
 (hS:St w0 fp0 ([blkA tb (89) #[nm,cv, .slice (some ⟨kg,0,none⟩) n kc,fv,xv],rowA 90 1 (.slice (some ⟨kg,0,none⟩) n kc) n us]++R) w)
 (hQ:∀(u36:Value) (w1:World),(∃a n c,u36=.slice a n c)->St w0 fp0 ([blkA tb (89) #[nm,cv, .slice (some ⟨kg,0,none⟩) n kc,fv,xv],starA [rowA 90 1 (.slice (some ⟨kg,0,none⟩) n kc) n (us.set (i) (.slice (sa (u36)) (sn (u36)) (sc (u36)))),rowA 3 1 (u36) m XS]]++R) w1->Q .normal (putL a [(28, .pointer (some ⟨tb,2,none⟩)),(29, .slice (some ⟨kg,0,none⟩) n kc),(30, .int .i64 i),(31, .pointer (some ⟨tb,2,none⟩)),(32, .slice (some ⟨kg,0,none⟩) n kc),(33, .int .i64 i),(34, .pointer (some ⟨kg,i,none⟩)),(35,u),(36,u36),(37, .pointer (some ⟨kg,i,none⟩))]) w1):c.wp Tryz.prog Q a w:=by
 have ok:(gCs10 tb kg n kc i m nm cv fv xv u us XS w0 fp0 R).Ok 11:=Rg.ok _ 11 [1,4,6,7,8,9,10] ⟨.load _ 1 0 2, .load _ 4 0 2, .index _ 6 kg n kc i hi, .loadBy _ 7 1 (b:=kg) (j:=i) (A:=rowA 90 1 (.slice (some ⟨kg,0,none⟩) n kc) n us) (λ w f h=> ⟨u,(row_at h hl hu).1,λ _=> kr (by kernel_rfl)⟩) (hA:=by intro _ _;exact kr (by kernel_rfl)), .callG _ 8 (f:=110) (args:=λ _=> #[u]) (λ _=> [blkA tb 89 #[nm,cv, .slice (some ⟨kg,0,none⟩) n kc,fv,xv],rowA 90 1 (.slice (some ⟨kg,0,none⟩) n kc) n us]) (λ _ v=> [blkA tb 89 #[nm,cv, .slice (some ⟨kg,0,none⟩) n kc,fv,xv],starA [rowA 90 1 (.slice (some ⟨kg,0,none⟩) n kc) n us,rowA 3 1 (v) m XS]]) (λ g w h=> (hcl [_,_] w h).mono λ e w2 ⟨v,f,e1,h1,h2,h3⟩=> (by obtain ⟨a,c,e2, -⟩:=row_shape h1;subst e2;exact ⟨_,e1,kr (by kernel_rfl),clone_in h h1 h2 h3⟩)), .index _ 9 kg n kc i hi, .skip1 _ 10 1 (λ g=> starA [rowA 90 1 (.slice (some ⟨kg,0,none⟩) n kc) n us,rowA 3 1 (g 36) m XS]) (λ g=> starA [rowA 90 1 (.slice (some ⟨kg,0,none⟩) n kc) n (us.set (i) (.slice (sa (g 36)) (sn (g 36)) (sc (g 36)))),rowA 3 1 (g 36) m XS]) (λ L a w fp hS hp=> (by obtain ⟨f0,hf0, -,hk⟩:=Star.get 0 rfl (show Star w [rowA 90 1 (.slice (some ⟨kg,0,none⟩) n kc) n us,rowA 3 1 (slots a 36) m XS] fp from hp);obtain ⟨w2,f2,h1,h2,h3⟩:=storeRow1 (P:=Tryz.prog) (ty:=90) (v:=.slice (sa (slots a 36)) (sn (slots a 36)) (sc (slots a 36))) hf0 hl hu (kr (by kernel_rfl)) rfl;obtain ⟨fp2,q1,q2⟩:=hk _ w2 f2 h2 h3;exact ⟨w2,fp2,exec_store rfl (kr (by kernel_rfl)) (kr (by kernel_rfl)) h1,q1,q2⟩)),trivial⟩;refine wp_regD ok (by kernel_rfl) ⟨c1,c2⟩ ⟨c3,λ p hp=> ?_⟩ hS λ A1 w1 N1 H1=> ?_
 · simp only [gCs10,rgx,List.map_nil,List.append_nil,List.mem_cons,List.not_mem_nil,or_false] at hp
   rcases hp with rfl | rfl
   · exact i5
   · exact i6
 exact N1.fin [36] (hQ (slots A1 36) w1 ⟨_,_,_,(N1.val 8 rfl)⟩ H1) (by kernel_rfl)
def gCs16 (tb kg n kc i m:Nat) (nm cv kv xv u:Value) (us XS:List Value):=rgx Tryz.prog Tryz.f74 16 69 [49,50,51,52,53,54,55,56,57,58,59,60] [(5,pV tb 0),(7,nV i)] (Vq 0 49 [Kp tb 3,Kv (.slice (some ⟨kg,0,none⟩) n kc),Kn i,Kp tb 3,Kv (.slice (some ⟨kg,0,none⟩) n kc),Kn i,Kp kg (i * 3),Kp kg (i * 3),Kv u,Vf.slice,Kp kg (i * 3),Kp kg (i * 3)]) [Bk tb (89) [nm,cv,kv, .slice (some ⟨kg,0,none⟩) n kc,xv], .gen [9,12] [58] λ L g=> match L 12 with | true=> starA [rowA 92 3 (.slice (some ⟨kg,0,none⟩) n kc) n (us.set (i * 3) (.slice (sa (g 58)) (sn (g 58)) (sc (g 58)))),rowA 3 1 (g 58) m XS] | false=> match L 9 with | true=> starA [rowA 92 3 (.slice (some ⟨kg,0,none⟩) n kc) n us,rowA 3 1 (g 58) m XS] | false=> rowA 92 3 (.slice (some ⟨kg,0,none⟩) n kc) n us]
theorem rCs16 (tb kg n kc i m:Nat) (nm cv kv xv u:Value) (us XS:List Value) (w0:World) (fp0:List Nat) (R:List Asn) (hi:i < n) (hl:us.length=n * 3) (hu:us[i * 3]? =some u) (hcl:∀(L:List Asn) (w:World),St w0 fp0 (L++R) w->Calls Tryz.prog 110 #[u] w λ e w2=> ∃v f,e=.returned v/\(rowA 3 1 v m XS).p w2 f/\Below w.heap.size w w2/\∀k∈f,w.heap.size<=k) {w:World} {c:Code} {a:Act} {Q:Exit->Act->World->Prop} (c1:isReg c=true) (c2:cops c=opsR Tryz.f74 16) (c3:a.tmps.size=69) (_c4:a.defers=a.defers) (i5:a.eval (.tmp 5)=.pointer (some ⟨tb,0,none⟩)) (i7:a.eval (.tmp 7)=.int .i64 i)
 (hS:St w0 fp0 ([blkA tb (89) #[nm,cv,kv, .slice (some ⟨kg,0,none⟩) n kc,xv],rowA 92 3 (.slice (some ⟨kg,0,none⟩) n kc) n us]++R) w)
 (hQ:∀(u58:Value) (w1:World),(∃a n c,u58=.slice a n c)->St w0 fp0 ([blkA tb (89) #[nm,cv,kv, .slice (some ⟨kg,0,none⟩) n kc,xv],starA [rowA 92 3 (.slice (some ⟨kg,0,none⟩) n kc) n (us.set (i * 3) (.slice (sa (u58)) (sn (u58)) (sc (u58)))),rowA 3 1 (u58) m XS]]++R) w1->Q .normal (putL a [(49, .pointer (some ⟨tb,3,none⟩)),(50, .slice (some ⟨kg,0,none⟩) n kc),(51, .int .i64 i),(52, .pointer (some ⟨tb,3,none⟩)),(53, .slice (some ⟨kg,0,none⟩) n kc),(54, .int .i64 i),(55, .pointer (some ⟨kg,i * 3,none⟩)),(56, .pointer (some ⟨kg,i * 3,none⟩)),(57,u),(58,u58),(59, .pointer (some ⟨kg,i * 3,none⟩)),(60, .pointer (some ⟨kg,i * 3,none⟩))]) w1):c.wp Tryz.prog Q a w:=by
 have ok:(gCs16 tb kg n kc i m nm cv kv xv u us XS w0 fp0 R).Ok 13:=Rg.ok _ 13 [1,4,6,8,9,10,12] ⟨.load _ 1 0 3, .load _ 4 0 3, .indexN _ 6 kg n kc i 3 hi, .loadBy _ 8 1 (b:=kg) (j:=i * 3) (A:=rowA 92 3 (.slice (some ⟨kg,0,none⟩) n kc) n us) (λ w f h=> ⟨u,(row_at h hl hu).1,λ _=> kr (by kernel_rfl)⟩) (hA:=by intro _ _;exact kr (by kernel_rfl)), .callG _ 9 (f:=110) (args:=λ _=> #[u]) (λ _=> [blkA tb 89 #[nm,cv,kv, .slice (some ⟨kg,0,none⟩) n kc,xv],rowA 92 3 (.slice (some ⟨kg,0,none⟩) n kc) n us]) (λ _ v=> [blkA tb 89 #[nm,cv,kv, .slice (some ⟨kg,0,none⟩) n kc,xv],starA [rowA 92 3 (.slice (some ⟨kg,0,none⟩) n kc) n us,rowA 3 1 (v) m XS]]) (λ g w h=> (hcl [_,_] w h).mono λ e w2 ⟨v,f,e1,h1,h2,h3⟩=> (by obtain ⟨a,c,e2, -⟩:=row_shape h1;subst e2;exact ⟨_,e1,kr (by kernel_rfl),clone_in h h1 h2 h3⟩)), .indexN _ 10 kg n kc i 3 hi, .skip1 _ 12 1 (λ g=> starA [rowA 92 3 (.slice (some ⟨kg,0,none⟩) n kc) n us,rowA 3 1 (g 58) m XS]) (λ g=> starA [rowA 92 3 (.slice (some ⟨kg,0,none⟩) n kc) n (us.set (i * 3) (.slice (sa (g 58)) (sn (g 58)) (sc (g 58)))),rowA 3 1 (g 58) m XS]) (λ L a w fp hS hp=> (by obtain ⟨f0,hf0, -,hk⟩:=Star.get 0 rfl (show Star w [rowA 92 3 (.slice (some ⟨kg,0,none⟩) n kc) n us,rowA 3 1 (slots a 58) m XS] fp from hp);obtain ⟨w2,f2,h1,h2,h3⟩:=storeRow1 (P:=Tryz.prog) (ty:=90) (v:=.slice (sa (slots a 58)) (sn (slots a 58)) (sc (slots a 58))) hf0 hl hu (kr (by kernel_rfl)) rfl;obtain ⟨fp2,q1,q2⟩:=hk _ w2 f2 h2 h3;exact ⟨w2,fp2,exec_store rfl (kr (by kernel_rfl)) (kr (by kernel_rfl)) h1,q1,q2⟩)),trivial⟩;refine wp_regD ok (by kernel_rfl) ⟨c1,c2⟩ ⟨c3,λ p hp=> ?_⟩ hS λ A1 w1 N1 H1=> ?_
 · simp only [gCs16,rgx,List.map_nil,List.append_nil,List.mem_cons,List.not_mem_nil,or_false] at hp
   rcases hp with rfl | rfl
   · exact i5
   · exact i7
 exact N1.fin [58] (hQ (slots A1 58) w1 ⟨_,_,_,(N1.val 9 rfl)⟩ H1) (by kernel_rfl)
def Td.sh (t:Td):Nat×List (List Int)×List (List Int):=(t.n,t.K,t.F)
theorem appTB:AppSrc Tryz.prog 23 23 89 5:=appSrc (z:=.agg #[.string ⟨#[]⟩, .slice none 0 0, .slice none 0 0, .slice none 0 0, .slice none 0 0]) (bytes:=112) (by kernel_rfl) (by kernel_rfl) rfl (by decide) (by decide)
def KUp (K:List (List Int)) (vs us:List Value) (Y:List Asn) (k:Nat):Prop:=us.length=K.length/\(∀w f,Star w Y f->∀j (h:j < K.length),j < k->∃u,us[j]? =some u/\IntsX [] w K[j] u)/\∀j,k<=j->us[j]? =vs[j]?
def FUp (F:List (List Int)) (vs us:List Value) (Y:List Asn) (k:Nat):Prop:=us.length=F.length * 3/\(∀w f,Star w Y f->∀j (h:j < F.length),j < k->∃u a b,us[j * 3]? =some u/\us[j * 3+1]? =some (.int .i64 a)/\us[j * 3+2]? =some (.int .i64 b)/\IntsX [] w F[j] u)/\∀j,k * 3<=j->us[j]? =vs[j]?
theorem KUp.next {K:List (List Int)} {vs us:List Value} {Y:List Asn} {k:Nat} (h:KUp K vs us Y k) (hk:k < K.length) (v:Value):KUp K vs (us.set k v) (rowA 3 1 v K[k].length (K[k].map intC)::Y) (k+1):=by
 obtain ⟨h1,h2,h3⟩:=h;refine ⟨by rw [List.length_set,h1],λ w f hs j hj hjk=> ?_,λ j hj=> ?_⟩
 · obtain ⟨f0,g,h4,h5, -, -⟩:=hs
   by_cases e:j=k
   · subst e
     exact ⟨v,by rw [List.getElem?_set_self (by omega)],SlX.of_row (X:=[]) h4 (by simp) (by simp)⟩
   · obtain ⟨u,h6,h7⟩:=h2 w g h5 j hj (by omega)
     exact ⟨u,by rw [List.getElem?_set_ne (by omega)];exact h6,h7⟩
 · rw [List.getElem?_set_ne (by omega)]
   exact h3 j (by omega)
theorem FUp.next {F:List (List Int)} {vs us:List Value} {Y:List Asn} {k:Nat} {a b:Int} (h:FUp F vs us Y k) (hk:k < F.length) (v:Value) (ha:vs[k * 3+1]? =some (.int .i64 a)) (hb:vs[k * 3+2]? =some (.int .i64 b)):FUp F vs (us.set (k * 3) v) (rowA 3 1 v F[k].length (F[k].map intC)::Y) (k+1):=by
 obtain ⟨h1,h2,h3⟩:=h;refine ⟨by rw [List.length_set,h1],λ w f hs j hj hjk=> ?_,λ j hj=> ?_⟩
 · obtain ⟨f0,g,h4,h5, -, -⟩:=hs
   by_cases e:j=k
   · subst e
     exact ⟨v,a,b,by rw [List.getElem?_set_self (by omega)],by rw [List.getElem?_set_ne (by omega),h3 _ (by omega)];exact ha,by rw [List.getElem?_set_ne (by omega),h3 _ (by omega)];exact hb,SlX.of_row (X:=[]) h4 (by simp) (by simp)⟩
   · obtain ⟨u,a',b',h6,h7,h8,h9⟩:=h2 w g h5 j hj (by omega)
     exact ⟨u,a',b',by rw [List.getElem?_set_ne (by omega)];exact h6,by rw [List.getElem?_set_ne (by omega)];exact h7,by rw [List.getElem?_set_ne (by omega)];exact h8,h9⟩
 · rw [List.getElem?_set_ne (by omega)]
   exact h3 j (by omega)
theorem KUp.start {K:List (List Int)} {vs:List Value} (h:vs.length=K.length):KUp K vs vs [] 0:=⟨h,λ _ _ _ _ _ h=> by omega,λ _ _=> rfl⟩
theorem FUp.start {F:List (List Int)} {vs:List Value} (h:vs.length=F.length * 3):FUp F vs vs [] 0:=⟨h,λ _ _ _ _ _ h=> by omega,λ _ _=> rfl⟩
def tdL (t:Td) (Y1 Y2:List Asn):List Asn:=rowA 92 3 t.fv t.F.length t.fvs::(Y2++(rowA 90 1 t.kv t.K.length t.kvs::(Y1++[rowA 146 6 (.slice t.ca t.n t.cc) t.n t.cvs])))
theorem td_star {t:Td} {Y1 Y2 X:List Asn} {vs1 vs2:List Value} {l:List Td} (h0:t.cvs.length=t.n * 6) (h1:∀u∈t.cvs,u.oneCell'=true) (hk:KUp t.K vs1 t.kvs Y1 t.K.length) (hf:FUp t.F vs2 t.fvs Y2 t.F.length) (hX:∀w f,Star w X f->∀y∈l,y.X w) (w:World) (f:List Nat) (hs:Star w (tdL t Y1 Y2++X) f):∀y∈l++[t],y.X w:=by
 obtain ⟨g,f1,h2,h3, -, -⟩:=hs.append;obtain ⟨fa,ga,a1,a2, -, -⟩:=h2;obtain ⟨fb,gb,b1,b2, -, -⟩:=a2.append;obtain ⟨fc,gc,c1,c2, -, -⟩:=b2;obtain ⟨fd,gd,d1,d2, -, -⟩:=c2.append;obtain ⟨fe,ge,e1, -, -, -⟩:=d2;intro y hy;rcases List.mem_append.1 hy with hy | hy
 · exact hX w f1 h3 y hy
 · rw [List.mem_singleton.1 hy]
   exact ⟨SlX.of_row (X:=[]) e1 h0 (by simp),h1,⟨SlX.of_row (X:=[]) c1 (by rw [hk.1];omega) (by simp),λ i hi=> hk.2.1 w fd d1 i hi hi⟩,⟨SlX.of_row (X:=[]) a1 hf.1 (by simp),λ i hi=> hf.2.1 w fb b1 i hi hi⟩⟩
def CsInv (w0:World) (fp0:List Nat) (R:List Asn) (td:List Td) (z:Value) (k:Nat) (w:World):Prop:=∃(l:List Td) (X:List Asn),l.map Td.sh=(td.take k).map Td.sh/\l.length=k/\(∀w f,Star w X f->∀y∈l,y.X w)/\St w0 fp0 (rowA 89 5 z k (l.flatMap Td.c)::(X++R)) w
theorem one_ints {vs:List Value} {ks:List (List Int)} {w:World} {v:Value} (h:KeysX w vs ks v):∀u∈vs,u.oneCell'=true:=by
 intro u hu;obtain ⟨i,hi,rfl⟩:=List.mem_iff_getElem.1 hu;have hl:=h.1.2.1;obtain ⟨u,h1,h2⟩:=h.2 i (by omega);rw [List.getElem?_eq_getElem hi] at h1;rw [Option.some.inj h1];obtain ⟨a,n,c,rfl, -, -⟩:=h2.shape;rfl
theorem one_fors {vs:List Value} {ks:List (List Int)} {w:World} {v:Value} (h:ForsX w vs ks v):∀u∈vs,u.oneCell'=true:=by
 intro u hu;obtain ⟨j,hj,rfl⟩:=List.mem_iff_getElem.1 hu;have hl:=h.1.2.1;obtain ⟨i,r,rfl,hr⟩:∃i r,j=i * 3+r/\r < 3:=⟨j / 3,j % 3,by omega,by omega⟩
 obtain ⟨u,a,b,h1,h2,h3,h4⟩:=h.2 i (by omega);rcases (by omega:r=0\/r=1\/r=2) with rfl | rfl | rfl
 · rw [Nat.add_zero] at hj
   rw [List.getElem?_eq_getElem hj] at h1;have:=Option.some.inj h1;simp only [Nat.add_zero];rw [this];obtain ⟨a,n,c,rfl, -, -⟩:=h4.shape;rfl
 · rw [List.getElem?_eq_getElem hj] at h2
   rw [Option.some.inj h2];rfl
 · rw [List.getElem?_eq_getElem hj] at h3
   rw [Option.some.inj h3];rfl
theorem clone_out {w0 w:World} {fp0:List Nat} {R:List Asn} {A B C:Asn} (h:St w0 fp0 ([A,starA [B,C]]++R) w):St w0 fp0 (A::B::C::R) w:=by
 have h1:St w0 fp0 (starA [B,C]::A::R) w:=h.perm (List.Perm.swap _ _ _);have h2:St w0 fp0 ([B,C]++(A::R)) w:=St.star.1 h1;exact St_re (L:=[_,_,_]) h2 [2,0,1] [] (by kernel_rfl)
theorem cells5 {w0 w:World} {fp0:List Nat} {L:List Asn} {b:Nat} {t:TypeId} {c0 c1 c2 c3 c4:Value} (h:St w0 fp0 L w) (i:Nat) (hi:L[i]? =some (blkA b t #[c0,c1,c2,c3,c4])):
 w.cell? ⟨b,0,none⟩=some c0/\w.cell? ⟨b,1,none⟩=some c1/\w.cell? ⟨b,2,none⟩=some c2/\w.cell? ⟨b,3,none⟩=some c3/\w.cell? ⟨b,4,none⟩=some c4/\w.frozen? ⟨b,1,none⟩=false/\w.frozen? ⟨b,2,none⟩=false/\w.frozen? ⟨b,3,none⟩=false/\w.frozen? ⟨b,4,none⟩=false/\b < w.heap.size:=by
 obtain ⟨_,hb⟩:=h.has i hi;obtain ⟨h1,h2,h3⟩:=blk_get hb;exact ⟨h1 0,h1 1,h1 2,h1 3,h1 4,h2 1,h2 2,h2 3,h2 4,h3⟩
theorem copySchema_calls (td:List Td) (v:Value) (hsm:∀t∈td,t.Sm) (htl:td.length<=1000) (w0 w:World) (fp0:List Nat) (R:List Asn) (hv:Rd w0 fp0 R λ w=> SchX w td v) (hS:St w0 fp0 R w):
 Calls Tryz.prog 74 #[v] w λ e w'=> ∃a c,∃td2:List Td,e=.returned (.slice a td2.length c)/\td2.map Td.sh=td.map Td.sh/\St w0 fp0 (schA (.slice a td2.length c) td2::R) w':=by
 obtain ⟨va,vc,rfl⟩:=(hv.here hS).sl.shape;have HV:=Lib.hid hv;have HSM:=Lib.hid hsm;obtain ⟨N,hN⟩:∃N,td.length=N:=⟨_,rfl⟩
 have HN:=Lib.hid hN;have hN63:N<=1000:=by omega
 have H0:Hid (CsInv w0 fp0 R td (.slice none 0 0) 0 w):=⟨[],[],rfl,rfl,(λ _ _ _ _ h=> nomatch h),hS.nilR 89 5⟩
 rw [hN] at HV ⊢;clear hv hsm hN hS htl;go_enter Tryz.func74,Tryz.ntmps74;go_upto_region 3 with (fail)
 go_loopg [3,10] N (λ g z3 z wr=> ∃k:Nat,z=.int .i64 k/\g+k=N/\Hid (CsInv w0 fp0 R td z3 k wr))
 case atStart=> exact ⟨0,rfl,rfl,H0⟩
 case round=>
  clear H0;obtain ⟨k,rfl,hgk,Hi⟩:=hrel;obtain ⟨l,X,hsh,hlk,hX,hS1⟩:=Hi.out;obtain ⟨_,hrow⟩:=hS1.has 0 rfl;obtain ⟨za,zc,rfl, -⟩:=row_shape hrow;clear hrow;by_cases hk:k < N
  · have hkl:k < td.length:=by rw [HN.out];exact hk
    have hlw:=HV.out.at (M:=_::X) hS1;obtain ⟨b,o,c',e1,hpl,p0,p1,p2,p3,p4⟩:=hlw.cells k hkl;obtain ⟨rfl, -,rfl⟩:=Value.slice.inj e1;have htx:Rd w0 fp0 R λ w=> td[k].X w:=HV.out.imp λ w h=> h.td _ (List.getElem_mem hkl);have htm:=HSM.out _ (List.getElem_mem hkl);have hsh2:(td.take (k+1)).map Td.sh=(td.take k).map Td.sh++[td[k].sh]:=by rw [List.take_add_one,List.getElem?_eq_getElem hkl,List.map_append];rfl
    have ht0:=htx.at (M:=_::X) hS1;obtain ⟨ka,kc,hkv⟩:=ht0.keys.1.shape;obtain ⟨fa,fc,hfv⟩:=ht0.fors.1.shape;have hkn:(k:Int) < N:=by omega
    have Hsh:=Lib.hid (And.intro hsh (And.intro hlk (And.intro hX hsh2)));clear e1 hlw Hi hsh hlk hX hsh2;generalize td[k]=t at *;clear hkl;obtain ⟨nm,ca,n,cc,kv,fv,xa,xn,xc,cvs,kvs,fvs,K,F⟩:=t;simp only at p0 p1 p2 p3 p4 hkv hfv;subst hkv hfv;have HTX:=Lib.hid htx;have HTM:=Lib.hid htm;have HT0:=Lib.hid ht0;obtain ⟨kn,hkn⟩:∃kn,K.length=kn:=⟨_,rfl⟩
    obtain ⟨fn,hfn⟩:∃fn,F.length=fn:=⟨_,rfl⟩
    rw [hkn] at HTX HT0 HTM Hsh p2;rw [hfn] at HTX HT0 HTM Hsh p3;have HKN:=Lib.hid hkn;have HFN:=Lib.hid hfn;have HS2:=Lib.hid (hS1.newblk 89 #[.string nm, .slice ca n cc, .slice ka kn kc, .slice fa fn fc, .slice xa xn xc]);have Hgk:=Lib.hid hgk;clear htx htm ht0 hkn hfn hgk hS1;go_upto_region 5 with (fail)
    have hsz:=World.size_alloc wr (.cells #[.string nm, .slice ca n cc, .slice ka kn kc, .slice fa fn fc, .slice xa xn xc] 89);generalize hW2:wr.alloc _=W2 at *;clear hW2 p0 p1 p2 p3 p4 hpl;obtain ⟨tb,htb⟩:∃tb,wr.heap.size=tb:=⟨_,rfl⟩
    rw [htb] at HS2 hsz ⊢;clear htb hsz;obtain ⟨c0,c1,c2,c3,c4,f1,f2,f3,f4,tl⟩:=cells5 HS2.out 0 rfl;have hxr:=HTX.out.at (M:=_::_::X) HS2.out;have HC:=Lib.hid (cloneCL cvs n (.slice ca n cc) W2 hxr.cols hxr.one (by have:=HTM.out.n;simp only at this;omega));clear hxr;go_wp2_with fail;(with_reducible refine HC.out.mono ?_);rintro e w3 ⟨v3,g3,rfl,h3,hb3,hn3⟩;obtain ⟨ca2,cc2,rfl, -⟩:=row_shape h3;have h4:=St_re (L:=[_,_,_]) (HS2.out.addF h3 hb3 hn3) [1,0,2] [] (by kernel_rfl);clear c0 c1 c2 c3 c4 f1 f2 f3 f4 tl HC HS2 h3 hb3 hn3;obtain ⟨c0,c1,c2,c3,c4,f1,f2,f3,f4,tl⟩:=cells5 h4 0 rfl;have H4:=Lib.hid (h4.setB 1 (by simp) (.slice ca2 n cc2));clear h4;simp only [List.setIfInBounds_toArray,List.set_cons_succ,List.set_cons_zero] at H4;go_upto_region 6 with (fail)
    generalize hW2:World.setCell _ _ _=W4 at *;clear hW2 c0 c1 c2 c3 c4 f1 f2 f3 f4 tl;obtain ⟨c0,c1,c2,c3,c4,f1,f2,f3,f4,tl⟩:=cells5 H4.out 0 rfl;have hxr:=HTX.out.at (M:=_::_::_::X) H4.out;have HC:=Lib.hid (cloneJS kvs kn (.slice ka kn kc) W4 (by have h:=hxr.keys.1;simp only at h;rwa [HKN.out] at h) (one_ints hxr.keys) (by have:=HTM.out.k;simp only at this;have:=HKN.out;omega));have HK0:=Lib.hid (KUp.start (K:=K) (vs:=kvs) (by have:=hxr.keys.1.2.1;simp only at this;omega));have HK0':Hid (∀j (h:j < K.length),∃u,kvs[j]? =some u):=λ j h=> (hxr.keys.2 j h).imp λ u h=> h.1;have hkn3:kn<=1000:=by have:=HTM.out.k;simp only at this;have:=HKN.out;omega
    clear hxr;go_wp2_with fail;(with_reducible refine HC.out.mono ?_);rintro e w5 ⟨v5,g5,rfl,h5,hb5,hn5⟩;obtain ⟨ka2,kc2,rfl, -⟩:=row_shape h5;have h6:=St_re (L:=[_,_,_,_]) (H4.out.addF h5 hb5 hn5) [1,0,2,3] [] (by kernel_rfl);clear c0 c1 c2 c3 c4 f1 f2 f3 f4 tl HC H4 h5 hb5 hn5;obtain ⟨c0,c1,c2,c3,c4,f1,f2,f3,f4,tl⟩:=cells5 h6 0 rfl;have H6:=Lib.hid (h6.setB 2 (by simp) (.slice ka2 kn kc2));clear h6;simp only [List.setIfInBounds_toArray,List.set_cons_succ,List.set_cons_zero] at H6;go_upto_region 7 with (fail)
    generalize hW2:World.setCell _ _ _=W6 at *;clear hW2 c0 c1 c2 c3 c4 f1 f2 f3 f4 tl;obtain ⟨c0,c1,c2,c3,c4,f1,f2,f3,f4,tl⟩:=cells5 H6.out 0 rfl;obtain ⟨gk0,rfl⟩:∃x,x=gk:=⟨_,rfl⟩
    go_upto_region 8 with (fail)
    have HI:Hid (∃us Y,KUp K kvs us Y 0/\St w0 fp0 (blkA tb 89 #[.string nm, .slice ca2 n cc2, .slice ka2 kn kc2, .slice fa fn fc, .slice xa xn xc]::rowA 90 1 (.slice ka2 kn kc2) kn us::(Y++(rowA 146 6 (.slice ca2 n cc2) n cvs::rowA 89 5 (.slice za k zc) k (l.flatMap Td.c)::(X++R)))) W6):=⟨kvs,[],HK0.out,H6.out⟩
    clear H6 c0 c1 c2 c3 c4 f1 f2 f3 f4 tl HK0;go_loopg [25] kn (λ g z wr=> ∃i:Nat,z=.int .i64 i/\g+i=kn/\Hid (∃us Y,KUp K kvs us Y i/\St w0 fp0 (blkA tb 89 #[.string nm, .slice ca2 n cc2, .slice ka2 kn kc2, .slice fa fn fc, .slice xa xn xc]::rowA 90 1 (.slice ka2 kn kc2) kn us::(Y++(rowA 146 6 (.slice ca2 n cc2) n cvs::rowA 89 5 (.slice za k zc) k (l.flatMap Td.c)::(X++R)))) wr))
    case atStart=> exact ⟨0,rfl,rfl,HI⟩
    case round=>
     clear HI;obtain ⟨i,rfl,hgi,Hi⟩:=hrel;by_cases hi:i < kn
     · have hii:(i:Int) < kn:=by omega
       have Hgi:=Lib.hid hgi;clear hgi;go_upto_region 10 with (fail)
       obtain ⟨us,Y,hup,hs⟩:=Hi.out;have hiK:i < K.length:=by rw [HKN.out];exact hi
       obtain ⟨_,hrow⟩:=hs.has 1 rfl;obtain ⟨kg,rfl⟩:∃kg,ka2=some ⟨kg,0,none⟩:=by obtain ⟨_,_,e, -, -,h4⟩:=row_shape hrow;obtain ⟨g',e1, -⟩:=h4 i (by omega);injection e with e;exact ⟨g',by rw [e,e1]⟩
       obtain ⟨u,hu⟩:=HK0'.out i hiK;have hcl:∀(L:List Asn) (w:World),St w0 fp0 (L++(Y++(rowA 146 6 (.slice ca2 n cc2) n cvs::rowA 89 5 (.slice za k zc) k (l.flatMap Td.c)::(X++R)))) w->Calls Tryz.prog 110 #[u] w λ e w2=> ∃v f,e=.returned v/\(rowA 3 1 v K[i].length (K[i].map intC)).p w2 f/\Below w.heap.size w w2/\∀k∈f,w.heap.size<=k:=λ L w h=> by
        have hxr:=HTX.out.at (M:=L++(Y++(_::_::X))) (by simp only [List.cons_append,List.append_assoc];exact h)
        obtain ⟨u',hu',hi'⟩:=hxr.keys.2 i hiK;rw [hu] at hu';obtain rfl:=Option.some.inj hu';have:=HTM.out.kl _ (List.getElem_mem hiK);exact cloneI _ _ u w hi' (one_int _) (by omega)
       refine rCs10 (w0:=w0) (fp0:=fp0) tb kg kn kc2 i K[i].length (.string nm) (.slice ca2 n cc2) (.slice fa fn fc) (.slice xa xn xc) u us (K[i].map intC) (R:=Y++(rowA 146 6 (.slice ca2 n cc2) n cvs::rowA 89 5 (.slice za k zc) k (l.flatMap Td.c)::(X++R))) hi (by rw [hup.1,HKN.out];omega) ((hup.2.2 i (Nat.le_refl _)).trans hu) hcl rfl (by kernel_rfl) rfl rfl rfl rfl hs ?_;intro u36 w1 ⟨ya,yn,yc,e36⟩ h1;subst e36;have HI2:Hid (∃us Y,KUp K kvs us Y (i+1)/\St w0 fp0 (blkA tb 89 #[.string nm, .slice ca2 n cc2, .slice (some ⟨kg,0,none⟩) kn kc2, .slice fa fn fc, .slice xa xn xc]::rowA 90 1 (.slice (some ⟨kg,0,none⟩) kn kc2) kn us::(Y++(rowA 146 6 (.slice ca2 n cc2) n cvs::rowA 89 5 (.slice za k zc) k (l.flatMap Td.c)::(X++R)))) w1):=
        ⟨_,_,hup.next hiK (.slice ya yn yc),clone_out h1⟩
       clear h1 hs hup hcl hrow hu Hi hiK;simp only [putL,List.foldl,Act.put,List.setIfInBounds_toArray,List.set_cons_succ,List.set_cons_zero];go_wp2;go_roundg (gk - 1)
       case rel=> exact ⟨i+1,by go_num,by have:=Hgi.out;omega,HI2⟩
       case measure=> have:=Hgi.out;omega
     · obtain rfl:i=kn:=by omega
       obtain ⟨us,Y,hup,hs⟩:=Hi.out;have HUP:=Lib.hid hup;have H7:=Lib.hid hs;have hxr:=HTX.out.at (M:=_::_::(Y++(_::_::X))) (show St w0 fp0 (_::_::((Y++(_::_::X))++R)) _ by simp only [List.cons_append,List.append_assoc];exact hs)
       have HC:=Lib.hid (cloneFO fvs fn (.slice fa fn fc) wr (by have h:=hxr.fors.1;simp only at h;rwa [HFN.out] at h) (one_fors hxr.fors) (by have:=HTM.out.f;simp only at this;have:=HFN.out;omega));have HF0:=Lib.hid (FUp.start (F:=F) (vs:=fvs) (by have:=hxr.fors.1.2.1;simp only at this;omega));have HF0':Hid (∀j (h:j < F.length),∃u a b,fvs[j * 3]? =some u/\fvs[j * 3+1]? =some (.int .i64 a)/\fvs[j * 3+2]? =some (.int .i64 b)):=λ j h=> by obtain ⟨u,a,b,h1,h2,h3, -⟩:=hxr.fors.2 j h;exact ⟨u,a,b,h1,h2,h3⟩
       have hfn3:fn<=1000:=by have:=HTM.out.f;simp only at this;have:=HFN.out;omega
       obtain ⟨c0,c1,c2,c3,c4,f1,f2,f3,f4,tl⟩:=cells5 hs 0 rfl;clear hxr hs hup Hi hgi hi;go_wp2_with fail;(with_reducible refine HC.out.mono ?_);rintro e w7 ⟨v7,g7,rfl,h7,hb7,hn7⟩;obtain ⟨fa2,fc2,rfl, -⟩:=row_shape h7;have h8:=St_re (L:=[_,_,_]) (H7.out.addF h7 hb7 hn7) [1,0,2] [] (by kernel_rfl);clear c0 c1 c2 c3 c4 f1 f2 f3 f4 tl HC H7 h7 hb7 hn7;obtain ⟨c0,c1,c2,c3,c4,f1,f2,f3,f4,tl⟩:=cells5 h8 0 rfl;have H8:=Lib.hid (h8.setB 3 (by simp) (.slice fa2 fn fc2));clear h8;simp only [List.setIfInBounds_toArray,List.set_cons_succ,List.set_cons_zero] at H8;go_upto_region 13 with (fail)
       generalize hW2:World.setCell _ _ _=W8 at *;clear hW2 c0 c1 c2 c3 c4 f1 f2 f3 f4 tl;obtain ⟨c0,c1,c2,c3,c4,f1,f2,f3,f4,tl⟩:=cells5 H8.out 0 rfl;go_upto_region 14 with (fail)
       obtain ⟨R1,hR1⟩:∃R1,rowA 90 1 (.slice ka2 i kc2) i us::(Y++(rowA 146 6 (.slice ca2 n cc2) n cvs::rowA 89 5 (.slice za k zc) k (l.flatMap Td.c)::(X++R)))=R1:=⟨_,rfl⟩
       have HR1:=Lib.hid hR1;have HI:Hid (∃us2 Z,FUp F fvs us2 Z 0/\St w0 fp0 (blkA tb 89 #[.string nm, .slice ca2 n cc2, .slice ka2 i kc2, .slice fa2 fn fc2, .slice xa xn xc]::rowA 92 3 (.slice fa2 fn fc2) fn us2::(Z++R1)) W8):=⟨fvs,[],HF0.out,by rw [<-hR1];exact H8.out⟩
       clear H8 c0 c1 c2 c3 c4 f1 f2 f3 f4 tl HF0 hR1;go_loopg [46] fn (λ g z wr=> ∃j:Nat,z=.int .i64 j/\g+j=fn/\Hid (∃us2 Z,FUp F fvs us2 Z j/\St w0 fp0 (blkA tb 89 #[.string nm, .slice ca2 n cc2, .slice ka2 i kc2, .slice fa2 fn fc2, .slice xa xn xc]::rowA 92 3 (.slice fa2 fn fc2) fn us2::(Z++R1)) wr))
       case atStart=> exact ⟨0,rfl,rfl,HI⟩
       case round=>
        clear HI;obtain ⟨j,rfl,hgj,Hj⟩:=hrel;by_cases hj:j < fn
        · have hjj:(j:Int) < fn:=by omega
          have Hgj:=Lib.hid hgj;clear hgj;go_upto_region 16 with (fail)
          obtain ⟨us2,Z,hup,hs⟩:=Hj.out;have hjF:j < F.length:=by rw [HFN.out];exact hj
          obtain ⟨_,hrow⟩:=hs.has 1 rfl;obtain ⟨fg,rfl⟩:∃fg,fa2=some ⟨fg,0,none⟩:=by obtain ⟨_,_,e, -, -,h4⟩:=row_shape hrow;obtain ⟨g',e1, -⟩:=h4 (j * 3) (by omega);injection e with e;exact ⟨g',by rw [e,e1]⟩
          obtain ⟨u,a,b,hu,hua,hub⟩:=HF0'.out j hjF;have hcl:∀(L:List Asn) (w:World),St w0 fp0 (L++(Z++R1)) w->Calls Tryz.prog 110 #[u] w λ e w2=> ∃v f,e=.returned v/\(rowA 3 1 v F[j].length (F[j].map intC)).p w2 f/\Below w.heap.size w w2/\∀k∈f,w.heap.size<=k:=λ L w h=> by
           rw [<-HR1.out] at h;have hxr:=HTX.out.at (M:=L++(Z++(_::(Y++(_::_::X))))) (by simp only [List.cons_append,List.append_assoc];exact h)
           obtain ⟨u',_,_,hu',_,_,hi'⟩:=hxr.fors.2 j hjF;rw [hu] at hu';obtain rfl:=Option.some.inj hu';have:=HTM.out.fl _ (List.getElem_mem hjF);exact cloneI _ _ u w hi' (one_int _) (by omega)
          refine rCs16 (w0:=w0) (fp0:=fp0) tb fg fn fc2 j F[j].length (.string nm) (.slice ca2 n cc2) (.slice ka2 i kc2) (.slice xa xn xc) u us2 (F[j].map intC) (R:=Z++R1) hj (by rw [hup.1,HFN.out]) ((hup.2.2 _ (Nat.le_refl _)).trans hu) hcl rfl (by kernel_rfl) rfl rfl rfl rfl hs ?_;intro u58 w1 ⟨ya,yn,yc,e58⟩ h1;subst e58;have HI2:Hid (∃us2 Z,FUp F fvs us2 Z (j+1)/\St w0 fp0 (blkA tb 89 #[.string nm, .slice ca2 n cc2, .slice ka2 i kc2, .slice (some ⟨fg,0,none⟩) fn fc2, .slice xa xn xc]::rowA 92 3 (.slice (some ⟨fg,0,none⟩) fn fc2) fn us2::(Z++R1)) w1):=
           ⟨_,_,hup.next hjF (.slice ya yn yc) hua hub,clone_out h1⟩
          clear h1 hs hup hcl hrow hu Hj hjF hua hub;simp only [putL,List.foldl,Act.put,List.setIfInBounds_toArray,List.set_cons_succ,List.set_cons_zero];go_wp2;go_roundg (gk - 1)
          case rel=> exact ⟨j+1,by go_num,by have:=Hgj.out;omega,HI2⟩
          case measure=> have:=Hgj.out;omega
        · obtain rfl:j=fn:=by omega
          obtain ⟨us2,Z,hup2,hs⟩:=Hj.out;obtain ⟨c0,c1,c2,c3,c4,f1,f2,f3,f4,tl⟩:=cells5 hs 0 rfl;have H9:=Lib.hid (hs.setB 4 (by simp) (.slice none 0 0));simp only [List.setIfInBounds_toArray,List.set_cons_succ,List.set_cons_zero] at H9;have hxr:=HTX.out.at (M:=_::_::(Z++(_::(Y++(_::_::X))))) (show St w0 fp0 (_::_::((Z++(_::(Y++(_::_::X))))++R)) _ by rw [<-HR1.out] at hs;simp only [List.cons_append,List.append_assoc];exact hs)
          have HST:=Lib.hid (td_star (t:=⟨nm,ca2,n,cc2, .slice ka2 i kc2, .slice fa2 j fc2,none,0,0,cvs,us,us2,K,F⟩) (X:=X) (l:=l) hxr.cols.2.1 hxr.one (by show KUp K kvs us Y K.length;rw [HKN.out];exact HUP.out) (by show FUp F fvs us2 Z F.length;rw [HFN.out];exact hup2) Hsh.out.2.2.1);clear hxr hs hup2 Hj hgj hj HUP;go_upto_region 19 with (fail)
          generalize hW2:World.setCell _ _ _=W9 at *;clear hW2 c0 c1 c2 c3 c4 f1 f2 f3 f4 tl;obtain ⟨c0,c1,c2,c3,c4,f1,f2,f3,f4,tl⟩:=cells5 H9.out 0 rfl;have HT:Hid (St w0 fp0 (rowA 89 5 (.slice za k zc) k (l.flatMap Td.c)::(blkA tb 89 #[.string nm, .slice ca2 n cc2, .slice ka2 i kc2, .slice fa2 j fc2, .slice none 0 0]::((tdL ⟨nm,ca2,n,cc2, .slice ka2 i kc2, .slice fa2 j fc2,none,0,0,cvs,us,us2,K,F⟩ Y Z++X)++R))) W9):=by
           have h:=H9.out;rw [<-HR1.out] at h;refine h.perm ?_;unfold tdL;rw [HKN.out,HFN.out]
           classical refine List.perm_iff_count.2 λ a=> ?_;simp only [List.count_append,List.count_cons,List.count_nil,List.cons_append,List.append_assoc];omega
          clear H9 HR1;go_upto_region 20 with (first | (at_builtin;refine wpList_appR rfl _ _ _ _ rfl rfl rfl appTB (HT.out.mono ((Below.refl _ _).alloc (Nat.le_refl _) _)) (src_litk (e':=89) (by kernel_rfl) _ 5 _ 1 _ _ _ #[.string nm, .slice ca2 n cc2, .slice ka2 i kc2, .slice fa2 j fc2, .slice none 0 0] (heap_alloc_new _ _) rfl (by simp;exact ⟨rfl,rfl,rfl,rfl,rfl⟩)) (by omega) ?_;intro v9 w9 h9))
          have HI2:Hid (CsInv w0 fp0 R td v9 (k+1) w9):=by
           refine ⟨l++[⟨nm,ca2,n,cc2, .slice ka2 i kc2, .slice fa2 j fc2,none,0,0,cvs,us,us2,K,F⟩],tdL ⟨nm,ca2,n,cc2, .slice ka2 i kc2, .slice fa2 j fc2,none,0,0,cvs,us,us2,K,F⟩ Y Z++X,?_,by rw [List.length_append,Hsh.out.2.1];rfl,HST.out,?_⟩
           · rw [List.map_append,Hsh.out.1,Hsh.out.2.2.2]
             rfl
           · rw [List.flatMap_append]
             exact (h9.out.perm (List.Perm.swap _ _ _)).drop
          clear HT HST h9 c0 c1 c2 c3 c4 f1 f2 f3 f4 tl;go_wp2;go_roundg (gk0 - 1)
          case rel=> exact ⟨k+1,by go_num,by have:=Hgk.out;omega,HI2⟩
          case measure=> have:=Hgk.out;omega
  · obtain rfl:k=N:=by omega
    have HF:Hid (∃a c,∃td2:List Td,Value.slice za k zc=.slice a td2.length c/\td2.map Td.sh=td.map Td.sh/\St w0 fp0 (schA (.slice a td2.length c) td2::R) wr):=by
     refine ⟨za,zc,l,by rw [hlk],?_,?_⟩
     · rw [hsh,List.take_of_length_le (by rw [HN.out];exact Nat.le_refl _)]
     · rw [hlk]
       refine St.schA (X:=rowA 89 5 (.slice za k zc) k (l.flatMap Td.c)::X) (λ w f hf=> ?_) hS1;obtain ⟨g,g2,h1,h2, -, -⟩:=hf;exact ⟨by rw [hlk];exact SlX.of_row (X:=[]) h1 (by rw [flatMap_len tdc_len,hlk]) (by simp),hX w g2 h2⟩
    clear hS1 hX hlk hsh Hi hgk hk;go_wp2;go_ret;obtain ⟨a,c,td2,e,h1,h2⟩:=HF.out;exact ⟨a,c,td2,(show Ending.returned (Value.slice za k zc)=_ by rw [e]),h1,h2⟩
theorem appPS:AppSrc Tryz.prog 102 102 46 1:=appSrc (z:=.pointer none) (bytes:=8) (by kernel_rfl) (by kernel_rfl) rfl (by decide) (by decide)
def gNw5 (b tb n:Nat) (SV TV nm cv kv fv xv:Value) (ps:List Value) (I:List (List Int)):=rgx Tryz.prog Tryz.f38 5 32 [19,20,21,22,23,24,25,26,27,28,29] [(3,pV b 0),(5,pV tb 0)] (Vq 0 19 [Kp b 0,Kp b 0,Kp b 0,Kp b 1,Kv TV,Kv (.agg #[nm,cv,kv,fv,xv]),Vf.ptr,Vf.box,Vf.slice,Kp b 0,Kp b 1]) [.blk b (104) [⟨SV,[]⟩,⟨TV,[(11, .s 27)]⟩],Bk tb (89) [nm,cv,kv,fv,xv], .gen [8] [27,25] λ L g=> match L 8 with | true=> slA 46 (g 27) (ps++[.pointer (some ⟨pb (g 25),0,none⟩)]) | false=> slA 46 TV ps, .new 6 [25] λ g=> storeA (pb (g 25)) n I [] 1, .new 7 [26,25] λ g=> boxsA 46 (g 26) #[.pointer (some ⟨pb (g 25),0,none⟩)]]
theorem rNw5 (b tb n:Nat) (SV TV nm cv kv fv xv:Value) (ps:List Value) (I:List (List Int)) (w0:World) (fp0:List Nat) (R:List Asn) (hl:ps.length+1 < 1099511627776) (hnew:∀w,St w0 fp0 ([blkA b 104 #[SV,TV],blkA tb 89 #[nm,cv,kv,fv,xv],slA 46 TV ps,emp,emp]++R) w->Calls Tryz.prog 75 #[.agg #[nm,cv,kv,fv,xv]] w λ e w2=> ∃S,e=.returned (ptrV S)/\St w0 fp0 (storeA S n I [] 1::[blkA b 104 #[SV,TV],blkA tb 89 #[nm,cv,kv,fv,xv],slA 46 TV ps]++R) w2) {w:World} {c:Code} {a:Act} {Q:Exit->Act->World->Prop} (c1:isReg c=true) (c2:cops c=opsR Tryz.f38 5) (c3:a.tmps.size=32) (_c4:a.defers=a.defers) (i3:a.eval (.tmp 3)=.pointer (some ⟨b,0,none⟩)) (i5:a.eval (.tmp 5)=.pointer (some ⟨tb,0,none⟩))
 (hS:St w0 fp0 ([blkA b (104) #[SV,TV],blkA tb (89) #[nm,cv,kv,fv,xv],slA 46 TV ps,emp,emp]++R) w)
 (hQ:∀(u25 u26 u27:Value) (w1:World),(∃b,u25=.pointer (some ⟨b,0,none⟩))->(∃b,u26=.slice (some ⟨b,0,none⟩) 1 1)->(∃a n c,u27=.slice a n c)->St w0 fp0 ([blkA b (104) #[SV,u27],blkA tb (89) #[nm,cv,kv,fv,xv],slA 46 (u27) (ps++[.pointer (some ⟨pb (u25),0,none⟩)]),storeA (pb (u25)) n I [] 1,boxsA 46 (u26) #[.pointer (some ⟨pb (u25),0,none⟩)]]++R) w1->Q .normal (putL a [(19, .pointer (some ⟨b,0,none⟩)),(20, .pointer (some ⟨b,0,none⟩)),(21, .pointer (some ⟨b,0,none⟩)),(22, .pointer (some ⟨b,1,none⟩)),(23,TV),(24, .agg #[nm,cv,kv,fv,xv]),(25,u25),(26,u26),(27,u27),(28, .pointer (some ⟨b,0,none⟩)),(29, .pointer (some ⟨b,1,none⟩))]) w1):c.wp Tryz.prog Q a w:=by
 have ok:(gNw5 b tb n SV TV nm cv kv fv xv ps I w0 fp0 R).Ok 12:=Rg.ok _ 12 [4,5,6,7,8,11] ⟨.load _ 4 0 1, .run1 _ 5 1 (λ _=> blkA tb 89 #[nm,cv,kv,fv,xv]) (λ _ _=> blkA tb 89 #[nm,cv,kv,fv,xv]) (λ L a w fp _ hp=> (by obtain ⟨h1, -, -⟩:=blk_get hp;exact ⟨.agg #[nm,cv,kv,fv,xv],w,fp,exec_loads (cs:=[nm,cv,kv,fv,xv]) (off:=0) rfl (kr (by kernel_rfl)) (kr (by kernel_rfl)) (kr (by kernel_rfl)) (λ j u hj=> (by rw [Nat.zero_add,h1 j];simpa using hj)),kr (by kernel_rfl),hp,Tr.refl _ _⟩)), .callG _ 6 (f:=75) (args:=λ _=> #[.agg #[nm,cv,kv,fv,xv]]) (λ _=> [blkA b 104 #[SV,TV],blkA tb 89 #[nm,cv,kv,fv,xv],slA 46 TV ps,emp,emp]) (λ _ v=> [blkA b 104 #[SV,TV],blkA tb 89 #[nm,cv,kv,fv,xv],slA 46 TV ps,storeA (pb (v)) n I [] 1,emp]) (λ g w h=> (hnew w h).mono λ e w2 ⟨S,e1,h1⟩=> ⟨_,e1,kr (by kernel_rfl),St_re (L:=[_,_,_,_,_]) (St.emp.2 h1) [2,3,4,1,0] [] (by kernel_rfl)⟩), .boxsG _ 7 4, .appG _ 8 (λ g=> [blkA b 104 #[SV,TV],blkA tb 89 #[nm,cv,kv,fv,xv],slA 46 TV ps,storeA (pb (g 25)) n I [] 1,boxsA 46 (g 26) #[.pointer (some ⟨pb (g 25),0,none⟩)]]) (λ g v=> [blkA b 104 #[SV,TV],blkA tb 89 #[nm,cv,kv,fv,xv],slA 46 (v) (ps++[.pointer (some ⟨pb (g 25),0,none⟩)]),storeA (pb (g 25)) n I [] 1,boxsA 46 (g 26) #[.pointer (some ⟨pb (g 25),0,none⟩)]]) (λ ty g w h=> (by obtain ⟨fb,hfb⟩:=h.has 4 rfl;obtain ⟨v,w2,h1,h2⟩:=St.appSl appPS ty (St_re (L:=[_,_,_,_,_]) h [2,0,1,3,4] [] (by kernel_rfl)) (boxs_src (tx:=102) (e':=46) (by kernel_rfl) hfb rfl (by simp;rfl)) (by omega);obtain ⟨_,hr⟩:=h2.has 0 rfl;obtain ⟨a,n,c,rfl⟩:=sl_shape hr;exact ⟨_,w2,h1,kr (by kernel_rfl),St_re (L:=[_,_,_,_,_]) h2 [1,2,0,3,4] [] (by kernel_rfl)⟩)), .store _ 11 0 1,trivial⟩;refine wp_regD ok (by kernel_rfl) ⟨c1,c2⟩ ⟨c3,λ p hp=> ?_⟩ hS λ A1 w1 N1 H1=> ?_
 · simp only [gNw5,rgx,List.map_nil,List.append_nil,List.mem_cons,List.not_mem_nil,or_false] at hp
   rcases hp with rfl | rfl
   · exact i3
   · exact i5
 exact N1.fin [25,26,27] (hQ (slots A1 25) (slots A1 26) (slots A1 27) w1 ⟨_,(N1.val 6 rfl)⟩ ⟨_,(N1.val 7 rfl)⟩ ⟨_,_,_,(N1.val 8 rfl)⟩ H1) (by kernel_rfl)
theorem Td.Sm.of {t u:Td} (h:t.Sm) (e:u.sh=t.sh):u.Sm:=by
 unfold Td.sh at e;injection e with e1 e2;injection e2 with e2 e3;exact ⟨by rw [e1];exact h.n,by rw [e2];exact h.k,by rw [e3];exact h.f,by rw [e2];exact h.kl,by rw [e3];exact h.fl⟩
theorem sm_of {td2 td:List Td} (h:td2.map Td.sh=td.map Td.sh) (hsm:∀t∈td,t.Sm):∀t∈td2,t.Sm:=by
 intro t ht;have:t.sh∈td.map Td.sh:=by rw [<-h];exact List.mem_map_of_mem ht
 obtain ⟨u,hu,e⟩:=List.mem_map.1 this;exact (hsm u hu).of e.symm
def newD (td:List Td):Db:=td.map λ t=> (t.n,[],1)
theorem newD_of {td2 td:List Td} (h:td2.map Td.sh=td.map Td.sh):newD td2=newD td:=by
 have:=congrArg (List.map λ s:Nat×List (List Int)×List (List Int)=> (s.1,([]:LL),(1:Int))) h;rw [List.map_map,List.map_map] at this;exact this
def NwInv (w0:World) (fp0:List Nat) (R:List Asn) (b:Nat) (sa:Option Addr) (sc:Nat) (td:List Td) (k:Nat) (w:World):Prop:=∃(ts:List Tb) (ta:Option Addr) (tc:Nat),ts.map Tb.d=newD (td.take k)/\ts.length=k/\
 St w0 fp0 (blkA b 104 #[.slice sa td.length sc, .slice ta k tc]::schA (.slice sa td.length sc) td::slA 46 (.slice ta k tc) (ts.map λ t=> ptrV t.S)::(ts.map tbA++R)) w
theorem StNew_calls (td:List Td) (v:Value) (hsm:∀t∈td,t.Sm) (htl:td.length<=1000) (w0 w:World) (fp0:List Nat) (R:List Asn) (hv:Rd w0 fp0 R λ w=> SchX w td v) (hS:St w0 fp0 R w):
 Calls Tryz.prog 38 #[v] w λ e w'=> ∃b,e=.returned (.pointer (some ⟨b,0,none⟩))/\St w0 fp0 (stA b (newD td)::R) w':=by
 obtain ⟨va,vc,rfl⟩:=(hv.here hS).sl.shape;have HC:=Lib.hid (copySchema_calls td _ hsm htl w0 w fp0 R hv hS);have HSM:=Lib.hid hsm;have HTL:=Lib.hid htl;obtain ⟨D0,hD0⟩:∃D0,newD td=D0:=⟨_,rfl⟩
 have HD0:=Lib.hid hD0;rw [hD0];clear hv hS hsm htl hD0;go_enter Tryz.func38,Tryz.ntmps38;go_wp2_with fail;(with_reducible refine HC.out.mono ?_);rintro e w1 ⟨sa,sc,td2,rfl,hsh,h1⟩;have HSM2:=Lib.hid (sm_of hsh HSM.out);have hlen:td2.length<=1000:=by have:=congrArg List.length hsh;simp only [List.length_map] at this;have:=HTL.out;omega
 have HD:=Lib.hid ((newD_of hsh).trans HD0.out);have H1:=Lib.hid (h1.newblk 104 #[.slice sa td2.length sc, .slice none 0 0]);clear HC HSM HTL hsh h1 HD0;go_upto_region 2 with (fail)
 generalize hW:w1.alloc _=W at *;clear hW;obtain ⟨b,hb⟩:∃b,w1.heap.size=b:=⟨_,rfl⟩
 rw [hb] at H1 ⊢;clear hb;obtain ⟨_,hb⟩:=H1.out.has 0 rfl;have c0:=(blk_get hb).1 0;have bl:=(blk_get hb).2.2;simp only [List.getElem?_toArray,List.getElem?_cons_zero] at c0;clear hb;obtain ⟨N,hN⟩:∃N,td2.length=N:=⟨_,rfl⟩
 have HN:=Lib.hid hN;have HI:Hid (NwInv w0 fp0 R b sa sc td2 0 W):=⟨[],none,0,rfl,rfl,St_re (L:=[_,_,_]) (H1.out.nilR 46 1) [1,2,0] [] (by kernel_rfl)⟩
 rw [hN] at c0 hlen ⊢;clear H1 hN;go_upto_region 3 with (fail)
 clear c0 bl;go_loopg [15] N (λ g z wr=> ∃k:Nat,z=.int .i64 k/\g+k=N/\Hid (NwInv w0 fp0 R b sa sc td2 k wr))
 case atStart=> exact ⟨0,rfl,rfl,HI⟩
 case round=>
  clear HI;obtain ⟨k,rfl,hgk,Hi⟩:=hrel;by_cases hk:k < N
  · have hkn:(k:Int) < N:=by omega
    obtain ⟨ts,ta,tc,hts,htl,hs⟩:=Hi.out;have hkl:k < td2.length:=by rw [HN.out];exact hk
    obtain ⟨_,hsch⟩:=hs.has 1 rfl;have hx:=schA_at hsch;obtain ⟨b',o,c',e1,hpl,p0,p1,p2,p3,p4⟩:=hx.cells k hkl;obtain ⟨rfl, -,rfl⟩:=Value.slice.inj e1;have htm:=HSM2.out _ (List.getElem_mem hkl);have ht0:=hx.td _ (List.getElem_mem hkl);have hD:newD (td2.take (k+1))=newD (td2.take k)++[(td2[k].n,[],1)]:=by rw [List.take_add_one,List.getElem?_eq_getElem hkl,newD,List.map_append];rfl
    have HMem:=Lib.hid (List.getElem_mem hkl);clear e1 hsch hx Hi;rw [HN.out] at hs;generalize td2[k]=t at *;clear hkl;obtain ⟨nm,ca,n,cc,kv,fv,xa,xn,xc,cvs,kvs,fvs,K,F⟩:=t;simp only at p0 p1 p2 p3 p4;obtain ⟨ka,kc,hkv⟩:=ht0.keys.1.shape;obtain ⟨fa,fc,hfv⟩:=ht0.fors.1.shape;simp only at hkv hfv;subst hkv hfv;have HS1:=Lib.hid (hs.newblk 89 #[.string nm, .slice ca n cc, .slice ka K.length kc, .slice fa F.length fc, .slice xa xn xc]);have HT:=Lib.hid (And.intro hts (And.intro htl hD));have HTM:=Lib.hid htm;have Hgk:=Lib.hid hgk;clear hs hts htl hD htm hgk ht0;go_upto_region 5 with (fail)
    have hsz:=World.size_alloc wr (.cells #[.string nm, .slice ca n cc, .slice ka K.length kc, .slice fa F.length fc, .slice xa xn xc] 89);generalize hW2:wr.alloc _=W2 at *;clear hW2 p0 p1 p2 p3 p4 hpl;obtain ⟨tb,htb⟩:∃tb,wr.heap.size=tb:=⟨_,rfl⟩
    rw [htb] at HS1 hsz ⊢;clear htb hsz;refine rNw5 (w0:=w0) (fp0:=fp0) b tb n (.slice (some ⟨b',o,none⟩) N sc) (.slice ta k tc) (.string nm) (.slice ca n cc) (.slice ka K.length kc) (.slice fa F.length fc) (.slice xa xn xc) (ts.map λ t=> ptrV t.S) ((K++F).foldl (addI n) []) (R:=schA (.slice (some ⟨b',o,none⟩) N sc) td2::(ts.map tbA++R)) (by rw [List.length_map,HT.out.2.1];omega) ?_ rfl (by kernel_rfl) rfl rfl rfl rfl ?_ ?_
    · intro w' h'
      have h2:St w0 fp0 (blkA b 104 #[.slice (some ⟨b',o,none⟩) N sc, .slice ta k tc]::blkA tb 89 #[.string nm, .slice ca n cc, .slice ka K.length kc, .slice fa F.length fc, .slice xa xn xc]::slA 46 (.slice ta k tc) (ts.map λ t=> ptrV t.S)::schA (.slice (some ⟨b',o,none⟩) N sc) td2::(ts.map tbA++R)) w':=(St_re (L:=[_,_,_,_,_]) h' [3,4,0,1,2] [] (by kernel_rfl)).drop.drop;have hk':=HTM.out;exact SNew_calls nm ca xa n cc xn xc _ _ K F kvs fvs hk'.kl hk'.fl (by have:=hk'.k;simp only at this;omega) (by have:=hk'.f;simp only at this;omega) w0 w' fp0 _ (Rd.of_piece 3 rfl λ w f h=> ((schA_at h).td _ HMem.out).keys) (Rd.of_piece 3 rfl λ w f h=> ((schA_at h).td _ HMem.out).fors) h2
    · refine (St.emp.2 (St.emp.2 HS1.out)).perm ?_
      classical exact List.perm_iff_count.2 λ a=> by simp only [List.cons_append,List.nil_append,List.count_append,List.count_cons];omega
    intro u25 u26 u27 w2 ⟨S,e25⟩ ⟨_,e26⟩ ⟨ya,yn,yc,e27⟩ h2;subst e25 e26 e27;have HI2:Hid (NwInv w0 fp0 R b (some ⟨b',o,none⟩) sc td2 (k+1) w2):=by
     have hyn:yn=k+1:=by obtain ⟨_,hsl⟩:=h2.has 2 rfl;obtain ⟨_,_,e, -⟩:=sl_get hsl;injection e with _ e;rw [e,List.length_append,List.length_map,HT.out.2.1];rfl
     subst hyn;refine ⟨ts++[⟨S,n,(K++F).foldl (addI n) [],[],1⟩],ya,yc,by rw [List.map_append,HT.out.1,HT.out.2.2];rfl,by rw [List.length_append,HT.out.2.1];rfl,?_⟩;rw [HN.out,List.map_append,List.map_append,List.append_assoc];have h3:=(h2.perm (List.Perm.swap _ _ _)).drop;have h4:St w0 fp0 ([blkA b 104 #[.slice (some ⟨b',o,none⟩) N sc, .slice ya (k+1) yc],slA 46 (.slice ya (k+1) yc) ((ts.map λ t=> ptrV t.S)++[ptrV S]),storeA S n ((K++F).foldl (addI n) []) [] 1,boxsA 46 _ _]++(schA (.slice (some ⟨b',o,none⟩) N sc) td2::(ts.map tbA++R))) w2:=h3;have h5:St w0 fp0 (blkA b 104 #[.slice (some ⟨b',o,none⟩) N sc, .slice ya (k+1) yc]::slA 46 (.slice ya (k+1) yc) ((ts.map λ t=> ptrV t.S)++[ptrV S])::storeA S n ((K++F).foldl (addI n) []) [] 1::(schA (.slice (some ⟨b',o,none⟩) N sc) td2::(ts.map tbA++R))) w2:=(St_re (L:=[_,_,_,_]) h4 [3,0,1,2] [] (by kernel_rfl)).drop;refine h5.perm ?_
     classical refine List.perm_iff_count.2 λ a=> ?_;simp only [List.map_cons,List.map_nil,tbA,List.cons_append,List.nil_append,List.count_append,List.count_cons];omega
    clear HS1 h2 HT HTM HMem;simp only [putL,List.foldl,Act.put,List.setIfInBounds_toArray,List.set_cons_succ,List.set_cons_zero];go_wp2;go_roundg (gk - 1)
    case rel=> exact ⟨k+1,by go_num,by have:=Hgk.out;omega,HI2⟩
    case measure=> have:=Hgk.out;omega
  · obtain rfl:k=N:=by omega
    have HF:Hid (St w0 fp0 (stA b D0::R) wr):=by
     obtain ⟨ts,ta,tc,hts,htl,hs⟩:=Hi.out;rw [List.take_of_length_le (by rw [HN.out];exact Nat.le_refl _),HD.out] at hts;refine St.shutD (q:=⟨sa,sc,ta,tc,td2,ts⟩) ⟨hts,?_,HSM2.out,by rw [HN.out];exact hlen⟩ ?_
     · show td2.map (·.n)=_
       rw [<-HD.out,newD,List.map_map];rfl
     · show St w0 fp0 (blkA b 104 #[.slice sa td2.length sc, .slice ta ts.length tc]::schA (.slice sa td2.length sc) td2::slA 46 (.slice ta ts.length tc) _::([]++(ts.map tbA++R))) wr
       rw [htl];exact hs
    clear Hi hgk hk;go_wp2;go_ret;exact ⟨_,rfl,HF.out⟩
theorem compareFunc_calls (R S:Rw) (r s:Value) (w:World) (hr:ValsAt w R r) (hs:ValsAt w S s):Calls Tryz.prog 118 #[r,s, .func (.func 119) #[] #[]] w λ e w'=> e=.returned (.int .i64 (cmpR R S))/\Below w.heap.size w w':=by
 obtain ⟨a,n,c,rfl,hn,hm⟩:=hr.shape;obtain ⟨a',n',c',rfl,hn',hm'⟩:=hs.shape;unfold maxLen at hm hm';have Hr:=Lib.hid hr;have Hs:=Lib.hid hs;have Hn:=Lib.hid hn;have Hn':=Lib.hid hn';clear hr hs hn hn';go_enter Tryz.func118,Tryz.ntmps118;go_wp2;go_loopw [13] (λ i wr=> ∃k:Nat,k<=n/\k<=n'/\i=.int .i64 k/\Hid (cmpR R S=cmpR (R.drop k) (S.drop k))/\Hid (Below w.heap.size w wr)) (λ i _=> n - (intOf i).toNat)
 case atStart=> exact ⟨0,Nat.zero_le _,Nat.zero_le _,rfl,rfl,Below.refl _ _⟩
 case round=>
  obtain ⟨k,hk,hk',rfl,He,Hb⟩:=hrel;by_cases hlt:k < n
  · have hk1:k < R.length:=by have:=Hn.out;omega
    obtain ⟨b,o,rfl⟩:=Hr.out.has k hlt;obtain ⟨c0,c1,c2⟩:=(Hr.out.mono Hb.out).cell k hk1;have hbl:=World.block_lt_of_cell? _ _ c0;by_cases hlt':k < n'
    · have hk2:k < S.length:=by have:=Hn'.out;omega
      obtain ⟨b',o',rfl⟩:=Hs.out.has k hlt';obtain ⟨d0,d1,d2⟩:=(Hs.out.mono Hb.out).cell k hk2;have hbl':=World.block_lt_of_cell? _ _ d0;have Hst:=Lib.hid (cmpR_step hk1 hk2);have HC:=Lib.hid (λ w'=> cmpV_calls R[k] S[k] w');have Hb0:Hid (∀o o',Below w.heap.size w ((wr.alloc o).alloc o')):=λ o o'=> (Hb.out.alloc Hb.out.size o).alloc (by have:=Hb.out.size;simp;omega) o';have V1:Hid (∀c,VarIs (wr.alloc (.cells c 68)) wr.heap.size c):=λ c=> VarIs.new wr c 68;generalize R[k]=x at *;generalize S[k]=y at *;clear hk1 hk2;go_wp2_with fail;refine (HC.out _).mono ?_;rintro e w1 ⟨rfl,hb1⟩;have Hb1:=Lib.hid ((Hb0.out _ _).trans (hb1.mono (Hb0.out _ _).size));clear hb1 c0 c1 c2 d0 d1 d2;by_cases h0:cmpV x y=0
      · have b0:(cmpV x y !=0)=false:=by simp [h0]
        have Hnext:Hid (cmpR R S=cmpR (R.drop (k+1)) (S.drop (k+1))):=by show _=_;rw [He.out,Hst.out,if_pos h0]
        clear h0;go_wp2;go_roundw
        case rel=> exact ⟨k+1,by omega,by omega,by go_num,Hnext,Hb1⟩
        case measure=> simp [intOf];omega
      · have b0:(cmpV x y !=0)=true:=by simp [h0]
        have Hnext:Hid (cmpR R S=cmpV x y):=by show _=_;rw [He.out,Hst.out,if_neg h0]
        clear h0;go_wp2;go_ret;exact ⟨by rw [Hnext.out];rfl,Hb1.out⟩
    · have Hres:Hid (cmpR R S=1):=by show _=_;rw [He.out,cmpR_long hk1 (by have:=Hn'.out;omega)]
      have hge:n'<=k:=by omega
      have Hb0:Hid (∀o,Below w.heap.size w (wr.alloc o)):=λ o=> Hb.out.alloc Hb.out.size o;generalize R[k]=x at *;clear hk1 hlt';go_wp2;go_ret;exact ⟨by rw [Hres.out];rfl,Hb0.out _⟩
  · obtain rfl:k=n:=by omega
    by_cases hlt':k < n'
    · have Hres:Hid (cmpR R S= -1):=by show _=_;rw [He.out,cmpR_short (by have:=Hn.out;omega) (by have:=Hn'.out;omega)]
      go_wp2;go_ret;exact ⟨by rw [Hres.out];rfl,Hb.out⟩
    · have Hres:Hid (cmpR R S=0):=by show _=_;rw [He.out,cmpR_both (by have:=Hn.out;omega) (by have:=Hn'.out;omega)]
      go_wp2;go_ret;exact ⟨by rw [Hres.out];rfl,Hb.out⟩
theorem compareRows_calls (R S:Rw) (r s:Value) (w:World) (hr:ValsAt w R r) (hs:ValsAt w S s):Calls Tryz.prog 82 #[r,s] w λ e w'=> e=.returned (.int .i64 (cmpR R S))/\Below w.heap.size w w':=by
 have H:=Lib.hid (compareFunc_calls R S r s w hr hs);clear hr hs;go_enter Tryz.func82,Tryz.ntmps82;go_wp2_with fail;refine H.out.mono ?_;rintro e w1 ⟨rfl,hb1⟩;have Hb1:=Lib.hid hb1;clear hb1;go_wp2;go_ret;exact ⟨rfl,Hb1.out⟩
theorem table_in (b k:Nat) (ps:List Value) (tv u:Value) (w:World) (h1:w.cell? ⟨b,1,none⟩=some tv) (hs:SlX [] w 1 ps.length ps tv) (hu:ps[k]? =some u):Calls Tryz.prog 21 #[.pointer (some ⟨b,0,none⟩), .int .i64 k] w λ e w'=> e=.returned u/\w=w':=by
 obtain ⟨b',o,c,rfl,hc⟩:=hs.some hu;have hk:=(List.getElem?_eq_some_iff.1 hu).1;generalize ps.length=n at *;have hk':(k:Int) < n:=by omega
 have hbl:=World.block_lt_of_cell? w _ h1;have hbl':=World.block_lt_of_cell? w _ hc;have hnn:decide ((n:Int)<=k)=false:=by simp;omega
 clear hs hu;go_enter Tryz.func21,Tryz.ntmps21;go_wp2;go_ret;exact ⟨rfl,rfl⟩
theorem table_out (b n c:Nat) (a:Option Addr) (i:Int) (w:World) (h1:w.cell? ⟨b,1,none⟩=some (.slice a n c)) (hi:¬ (0<=i/\i < n)):Calls Tryz.prog 21 #[.pointer (some ⟨b,0,none⟩), .int .i64 i] w λ e w'=> e=.returned (.pointer none)/\w=w':=by
 have hbl:=World.block_lt_of_cell? w _ h1;by_cases h0:i < 0
 · go_enter Tryz.func21,Tryz.ntmps21
   go_wp2;go_ret;exact ⟨rfl,rfl⟩
 · have h2:(n:Int)<=i:=by omega
   clear hi;go_enter Tryz.func21,Tryz.ntmps21;go_wp2;go_ret;exact ⟨rfl,rfl⟩
theorem storable41_calls (v:Vl) (w:World) (hs:v.text.size<=maxLen):Calls Tryz.prog 117 #[v.val] w λ e w'=> e=.returned (.bool (!okV v))/\Below w.heap.size w w':=by
 have HC:=Lib.hid (valid_calls v (w.alloc (.cells #[.int .i64 v.kind, .int .i64 v.int, .string v.text] 68)) hs);have HB:=Lib.hid ((Below.refl _ w).alloc (Nat.le_refl _) (.cells #[.int .i64 v.kind, .int .i64 v.int, .string v.text] 68));unfold Vl.val at *;generalize okV v=q at *;clear hs;go_enter Tryz.func117,Tryz.ntmps117;go_wp2_with fail;(with_reducible refine HC.out.mono ?_);rintro e w1 ⟨rfl,hb⟩;have Hb:=Lib.hid (HB.out.trans (hb.mono HB.out.size));clear hb HC;go_wp2;go_ret;exact ⟨rfl,Hb.out⟩
theorem storable40_calls (b k:Nat) (td:List Td) (sv:Value) (hk:k < td.length) (r:Rw) (v:Value) (w:World) (hc:w.cell? ⟨b,0,none⟩=some sv) (hsc:SchX w td sv) (hv:ValsAt w r v):
 Calls Tryz.prog 81 #[.pointer (some ⟨b,0,none⟩), .int .i64 k,v] w λ e w'=> e=.returned (.bool (storB td[k].n r))/\Below w.heap.size w w':=by
 have hl:=World.block_lt_of_cell? w _ hc;have HC:=Lib.hid (containsV_calls r v 117 (λ x=> !okV x) w (enters_own Tryz.func117 (by kernel_rfl) rfl) hv λ x hx w' hb=> storable41_calls x w' (hv.txt x hx));obtain ⟨a,n,cc,rfl,hn,hm⟩:=hv.shape;obtain ⟨b',o,c',rfl,hbl', -,p1, -⟩:=hsc.cells k hk;have hk':(k:Int) < td.length:=by omega
 generalize td[k].ca=ca at *;generalize td[k].cc=tc at *;generalize td[k].n=cols at *;generalize td.length=m at *;have hq:r.any (λ x=> !okV x)=!r.all okV:=by rw [List.all_eq_not_any_not,Bool.not_not]
 rw [hq] at HC;obtain ⟨q,hq'⟩:∃q,storB cols r=q:=⟨_,rfl⟩
 have HQ:Hid ((decide (n=cols) && r.all okV)=q):=by show _=_;rw [hn];exact hq'
 rw [hq'];clear hv hn hq hq' hm hsc;generalize r.all okV=t at *;by_cases he:n=cols
 · have he':((n:Int)==cols)=true:=by simp [he]
   have HE:=Lib.hid he;clear he;go_enter Tryz.func81,Tryz.ntmps81;go_wp2_with fail;(with_reducible refine HC.out.mono ?_);rintro e w1 ⟨rfl,hb⟩;have Hb:=Lib.hid hb;clear hb HC;go_wp2;go_ret;exact ⟨by rw [<-HQ.out];simp [HE.out],Hb.out⟩
 · have he':((n:Int)==cols)=false:=by simp;omega
   have HE:=Lib.hid he;clear he;go_enter Tryz.func81,Tryz.ntmps81;go_wp2;go_ret;exact ⟨by rw [<-HQ.out];simp [HE.out],Below.refl _ _⟩
theorem db_get {w0 w:World} {fp0:List Nat} {R:List Asn} {b:Nat} {q:StQ} (h:St w0 fp0 (dbP b q++R) w):w.cell? ⟨b,0,none⟩=some q.sv/\w.cell? ⟨b,1,none⟩=some q.tv/\b < w.heap.size/\SchX w q.td q.sv/\SlX [] w 1 (q.ts.map λ t=> ptrV t.S).length (q.ts.map λ t=> ptrV t.S) q.tv:=by
 obtain ⟨_,hb⟩:=h.has 0 rfl;obtain ⟨_,h1⟩:=h.has 1 rfl;obtain ⟨_,h2⟩:=h.has 2 rfl;exact ⟨(blk_get hb).1 0,(blk_get hb).1 1,(blk_get hb).2.2,schA_at h1,SlX.of_sl h2 (by simp)⟩
theorem storeA_ok {S cols:Nat} {I:List (List Int)} {L:LL} {next:Int} {w:World} {f:List Nat} (h:(storeA S cols I L next).p w f):AscI L/\(1<=next/\next<=4611686018427387905)/\∀x∈L,1<=x.1/\x.1 < next/\RowOk cols x.2:=by
 obtain ⟨s,g,f2,⟨hk, -⟩, -, -, -⟩:=h;exact ⟨hk.asc,hk.nx,hk.row⟩
theorem rowOk_txt {cols:Nat} {r:Rw} (h:RowOk cols r):∀v∈r,v.text.size<=maxLen:=by
 intro v hv;have h1:=(h.2 v hv).1;unfold okV at h1;unfold maxLen;split at h1
 · have:=(Bool.and_eq_true_iff.1 h1).2
   rw [of_decide_eq_true this];decide
 · split at h1
   · rw [of_decide_eq_true h1];decide
   · split at h1
     · have:=(Bool.and_eq_true_iff.1 (Bool.and_eq_true_iff.1 h1).2).2
       have:=of_decide_eq_true this;omega
     · cases h1
def rowD (D:Db) (i:Int):Option (Nat×LL×Int):=if 0<=i then D[i.toNat]? else none
def chkD (D:Db) (c:Chg):Int:=match rowD D c.tb with
 | some t=> chkT t.1 t.2.1 c.id c.old c.new
 | none=> 1
def appD (D:Db) (c:Chg):Db:=match rowD D c.tb with
 | some t=> if chkT t.1 t.2.1 c.id c.old c.new=0 then D.set c.tb.toNat (t.1,appT t.1 c.id c.new t.2.1,appN t.1 c.id c.new t.2.2) else D
 | none=> D
theorem rowD_in {D:Db} {k:Nat} {t:Nat×LL×Int} (h:D[k]? =some t):rowD D k=some t:=by
 unfold rowD;rw [if_pos (by omega)];exact h
theorem rowD_out {D:Db} {i:Int} (h:¬ (0<=i/\i < D.length)):rowD D i=none:=by
 unfold rowD;by_cases h0:0<=i
 · rw [if_pos h0]
   exact List.getElem?_eq_none (by omega)
 · rw [if_neg h0]
theorem cells4 {w0 w:World} {fp0:List Nat} {L:List Asn} {b:Nat} {t:TypeId} {c0 c1 c2 c3:Value} (h:St w0 fp0 L w) (i:Nat) (hi:L[i]? =some (blkA b t #[c0,c1,c2,c3])):
 w.cell? ⟨b,0,none⟩=some c0/\w.cell? ⟨b,1,none⟩=some c1/\w.cell? ⟨b,2,none⟩=some c2/\w.cell? ⟨b,3,none⟩=some c3/\b < w.heap.size:=by
 obtain ⟨_,hb⟩:=h.has i hi;obtain ⟨h1, -,h3⟩:=blk_get hb;exact ⟨h1 0,h1 1,h1 2,h1 3,h3⟩
def invB (cols:Nat) (id:Int) (old new:Rw):Bool:=decide (¬ (1<=id/\id<=4611686018427387904)\/(old=[]/\new=[])\/(new≠[]/\storB cols new=false))
theorem chkT_inv {cols:Nat} {L:LL} {id:Int} {old new:Rw} (h:invB cols id old new=true):chkT cols L id old new=1:=by
 unfold chkT;rw [if_pos (of_decide_eq_true h)]
theorem chkT_old {cols:Nat} {L:LL} {id:Int} {old new:Rw} (h:invB cols id old new=false) (ho:old=[]):chkT cols L id old new=if (getL L id).isSome then 5 else 0:=by
 unfold chkT;rw [if_neg (of_decide_eq_false h),if_pos ho]
theorem chkT_new {cols:Nat} {L:LL} {id:Int} {old new:Rw} (h:invB cols id old new=false) (ho:old≠[]):chkT cols L id old new=if getL L id=some old then 0 else 4:=by
 unfold chkT;rw [if_neg (of_decide_eq_false h),if_neg ho]
theorem St.unpickT {w0 w:World} {fp0:List Nat} {R:List Asn} {b:Nat} {q:StQ} {i:Nat} (hi:i < q.ts.length) (hs:St w0 fp0 (tbA q.ts[i]::(dbP b q++((q.ts.eraseIdx i).map tbA++R))) w):St w0 fp0 (dbP b q++(q.ts.map tbA++R)) w:=
 hs.perm ((List.Perm.append_left _ (List.Perm.append_right R (map_pick tbA q.ts i hi))).trans List.perm_middle).symm
theorem St.sinkD {w0 w:World} {fp0:List Nat} {R:List Asn} {b:Nat} {q:StQ} {A:Asn} (hs:St w0 fp0 (A::(dbP b q++(q.ts.map tbA++R))) w):St w0 fp0 (dbP b q++(q.ts.map tbA++(A::R))) w:=by
 refine hs.perm ?_
 classical refine List.perm_iff_count.2 λ a=> ?_;simp only [List.count_append,List.count_cons];omega
theorem get_txt {S cols:Nat} {I:List (List Int)} {L:LL} {next:Int} {w:World} {f:List Nat} (h:(storeA S cols I L next).p w f) (id:Int):∀v∈(getL L id).getD [],v.text.size<=maxLen:=by
 cases e:getL L id with
 | none=> simp
 | some r=>
  unfold getL at e;obtain ⟨x,hx,rfl⟩:=Option.map_eq_some_iff.1 e;exact rowOk_txt ((storeA_ok h).2.2 x (List.mem_of_find?_eq_some hx)).2.2
theorem check_calls (b:Nat) (q:StQ) (D:Db) (hq:q.Ok D) (c:Chg) (w0 w:World) (fp0:List Nat) (R:List Asn) (hc:Rd w0 fp0 R λ w=> c.X w) (hS:St w0 fp0 (dbP b q++(q.ts.map tbA++R)) w):
 Calls Tryz.prog 50 #[.pointer (some ⟨b,0,none⟩),c.v] w λ e w'=> e=.returned (.int .i64 (chkD D c))/\St w0 fp0 (dbP b q++(q.ts.map tbA++R)) w':=by
 have HC:=Lib.hid hc;obtain ⟨tb,id,oa,oc,na,nc,old,new⟩:=c;unfold Chg.v Chg.ov Chg.nv chkD;simp only;obtain ⟨on,hon⟩:∃on,old.length=on:=⟨_,rfl⟩
 obtain ⟨nn,hnn⟩:∃nn,new.length=nn:=⟨_,rfl⟩
 have HON:=Lib.hid hon;have HNN:=Lib.hid hnn;rw [hon,hnn];have HS0:=Lib.hid (hS.newblk 35 #[.int .i64 tb, .int .i64 id, .slice oa on oc, .slice na nn nc]);obtain ⟨ch,hch⟩:∃ch:Int,(match rowD D tb with | some t=> chkT t.1 t.2.1 id old new | none=> 1)=ch:=⟨_,rfl⟩
 have HCH:=Lib.hid hch;have HQ:=Lib.hid hq;rw [hch];clear hc hS hon hnn hch hq;go_enter Tryz.func50,Tryz.ntmps50;go_upto_region 1 with (fail)
 generalize hW:w.alloc _=W at *;clear hW;obtain ⟨cb,hcb⟩:∃cb,w.heap.size=cb:=⟨_,rfl⟩
 rw [hcb] at HS0 ⊢;clear hcb;obtain ⟨c0,c1,c2,c3,cl⟩:=cells4 HS0.out 0 rfl;have hdb:=db_get HS0.out.drop;by_cases ht:0<=tb/\tb < q.ts.length
 · obtain ⟨k,rfl⟩:∃k:Nat,tb=k:=⟨tb.toNat,by omega⟩
   have hk:k < q.ts.length:=by omega
   have HT:=Lib.hid (table_in b k _ q.tv (ptrV q.ts[k].S) W hdb.2.1 hdb.2.2.2.2 (by rw [List.getElem?_map,List.getElem?_eq_getElem hk];rfl));have hkd:k < q.td.length:=by rw [HQ.out.dlen,<-HQ.out.tlen];exact hk
   obtain ⟨cols,hcols⟩:∃cols,q.ts[k].cols=cols:=⟨_,rfl⟩
   obtain ⟨L,hL⟩:∃L,q.ts[k].L=L:=⟨_,rfl⟩
   obtain ⟨next,hnext⟩:∃next,q.ts[k].next=next:=⟨_,rfl⟩
   obtain ⟨S,hSS⟩:∃S,q.ts[k].S=S:=⟨_,rfl⟩
   have htd:q.td[k].n=cols:=by rw [HQ.out.tdn k hk hkd,hcols]
   have hcl:cols<=1000000:=by have:=(HQ.out.sm _ (List.getElem_mem hkd)).n;omega
   have HCH2:Hid (chkT cols L id old new=ch):=by show _=_;rw [<-HCH.out,rowD_in (HQ.out.at k hk),hcols,hL]
   have hcx:=HC.out.at (M:=_::(dbP b q++q.ts.map tbA)) (show St w0 fp0 ((_::(dbP b q++q.ts.map tbA))++R) W by simp only [List.cons_append,List.append_assoc];exact HS0.out)
   have HOV:=Lib.hid hcx.old;have HNV:=Lib.hid hcx.new;unfold Chg.ov at HOV;unfold Chg.nv at HNV;simp only at HOV HNV;rw [HON.out] at HOV;rw [HNN.out] at HNV;have HSto:=Lib.hid (storable40_calls b k q.td q.sv hkd new (.slice na nn nc) W hdb.1 hdb.2.2.2.1 HNV.out);rw [htd] at HSto;have HK:=Lib.hid hk;rw [hSS] at HT;have HNM:=Lib.hid (And.intro hcols (And.intro hL (And.intro hnext hSS)));have kk:(0:Int)<=k:=by omega
   clear hdb hcx ht hkd htd hcols hL hnext hSS;unfold ptrV at HT;go_wp2_with fail;(with_reducible refine HT.out.mono ?_);rintro e w1 ⟨rfl,rfl⟩;clear HT;go_upto_region 2 with (fail)
   obtain ⟨iv,hiv⟩:∃iv,invB cols id old new=iv:=⟨_,rfl⟩
   have HIV:=Lib.hid hiv;obtain ⟨st,hst⟩:∃st,storB cols new=st:=⟨_,rfl⟩
   have HST:=Lib.hid hst;rw [hst] at HSto;have HO:Hid (on=0↔old=[]):=by show _↔_;rw [<-HON.out];exact List.length_eq_zero_iff
   have HN:Hid (nn=0↔new=[]):=by show _↔_;rw [<-HNN.out];exact List.length_eq_zero_iff
   clear hiv hst;go_cut [50] (λ z wx=> z=.bool iv/\Hid (St w0 fp0 (blkA cb 35 #[.int .i64 k, .int .i64 id, .slice oa on oc, .slice na nn nc]::(dbP b q++(q.ts.map tbA++R))) wx))
   case first=>
    by_cases h1:id < 1
    · have HE:Hid (iv=true):=by
       show _=_;rw [<-HIV.out];exact decide_eq_true (.inl (by omega))
      obtain rfl:=HE.out;clear HE;go_wp2;go_meet;exact ⟨rfl,HS0.out⟩
    · by_cases h2:4611686018427387904 < id
      · have HE:Hid (iv=true):=by
         show _=_;rw [<-HIV.out];exact decide_eq_true (.inl (by omega))
        obtain rfl:=HE.out;clear HE;go_wp2;go_meet;exact ⟨rfl,HS0.out⟩
      · have HR:Hid (1<=id/\id<=4611686018427387904):=by show _/\_;omega
        by_cases h4:nn=0
        · subst h4
          have hn:=HN.out.1 rfl;by_cases h3:on=0
          · subst h3
            have HE:Hid (iv=true):=by show _=_;rw [<-HIV.out];exact decide_eq_true (.inr (.inl ⟨HO.out.1 rfl,hn⟩))
            obtain rfl:=HE.out;clear HE hn;go_wp2;go_meet;exact ⟨rfl,HS0.out⟩
          · have h3':((on:Int)==0)=false:=by simp;omega
            have HE:Hid (iv=false):=by
             show _=_;rw [<-HIV.out];refine decide_eq_false λ h=> ?_;rcases h with h | h | h
             · exact h HR.out
             · exact h3 (HO.out.2 h.1)
             · exact h.1 hn
            obtain rfl:=HE.out;clear HE hn h3;go_wp2;go_meet;exact ⟨rfl,HS0.out⟩
        · have h4':0 < nn:=by omega
          have h4'':((nn:Int)==0)=false:=by simp;omega
          have HE:Hid (iv=!st):=by
           show _=_;rw [<-HIV.out];cases st with
           | true=>
            refine decide_eq_false λ h=> ?_;rcases h with h | h | h
            · exact h HR.out
            · exact h4 (HN.out.2 h.2)
            · rw [HST.out] at h;cases h.2
           | false=> exact decide_eq_true (.inr (.inr ⟨λ e=> h4 (HN.out.2 e),HST.out⟩))
          obtain rfl:=HE.out;clear HE h4;by_cases h3:on=0
          · subst h3
            go_wp2_with fail;(with_reducible refine HSto.out.mono ?_);rintro e w2 ⟨rfl,hb2⟩;have H2:=Lib.hid (HS0.out.mono hb2);clear HSto hb2;go_wp2;go_meet;exact ⟨rfl,H2.out⟩
          · have h3':((on:Int)==0)=false:=by simp;omega
            clear h3;go_wp2_with fail;(with_reducible refine HSto.out.mono ?_);rintro e w2 ⟨rfl,hb2⟩;have H2:=Lib.hid (HS0.out.mono hb2);clear HSto hb2;go_wp2;go_meet;exact ⟨rfl,H2.out⟩
   obtain ⟨rfl,Hs⟩:=hcut;clear HS0 HSto HST HNV c0 c1 c2 c3 cl;cases iv with
   | true=>
    have HF:Hid (ch=1):=by show _=_;rw [<-HCH2.out,chkT_inv HIV.out]
    go_wp2;go_ret;exact ⟨by rw [HF.out];rfl,Hs.out.drop⟩
   | false=>
    obtain ⟨c0,c1,c2,c3,cl⟩:=cells4 Hs.out 0 rfl;have hp:=Hs.out.sinkD.pickT k HK.out;unfold tbA at hp;rw [HNM.out.1,HNM.out.2.1,HNM.out.2.2.1,HNM.out.2.2.2] at hp;have HG:=Lib.hid (SGet_calls S cols _ L next id w0 _ fp0 _ hcl hp);obtain ⟨so,hso⟩:∃so,(getL L id).isSome=so:=⟨_,rfl⟩
    have HSO:=Lib.hid hso;rw [hso] at HG;unfold ptrV at HG;clear hp hso Hs;go_wp2_with fail;(with_reducible refine HG.out.mono ?_);rintro e w2 ⟨gv,rfl,h2⟩;clear HG c0 c1 c2 c3 cl;obtain ⟨_,hrow⟩:=h2.has 0 rfl;obtain ⟨ga,gc,rfl, -⟩:=row_shape hrow;have hg:ValsAt w2 ((getL L id).getD []) (.slice ga ((getL L id).getD []).length gc):=⟨SlX.of_row (X:=[]) hrow (length_flat _) (by simp),by obtain ⟨_,hst⟩:=h2.has 1 rfl;exact get_txt hst id⟩
    have h3:St w0 fp0 (dbP b q++(q.ts.map tbA++(blkA cb 35 #[.int .i64 k, .int .i64 id, .slice oa on oc, .slice na nn nc]::R))) w2:=St.unpickT HK.out (by unfold tbA;rw [HNM.out.1,HNM.out.2.1,HNM.out.2.2.1,HNM.out.2.2.2];exact h2.drop);have H4:Hid (St w0 fp0 (blkA cb 35 #[.int .i64 k, .int .i64 id, .slice oa on oc, .slice na nn nc]::(dbP b q++(q.ts.map tbA++R))) w2):=by
     refine h3.perm ?_
     classical refine List.perm_iff_count.2 λ a=> ?_;simp only [List.count_append,List.count_cons];omega
    have hov:=HC.out.at (M:=_::(dbP b q++q.ts.map tbA)) (show St w0 fp0 ((_::(dbP b q++q.ts.map tbA))++R) w2 by simp only [List.cons_append,List.append_assoc];exact H4.out)
    have hov:=hov.old;unfold Chg.ov at hov;simp only at hov;rw [HON.out] at hov;have HCR:=Lib.hid (compareRows_calls _ _ _ _ w2 hg hov);obtain ⟨cr,hcr⟩:∃cr,cmpR ((getL L id).getD []) old=cr:=⟨_,rfl⟩
    have HCRE:=Lib.hid hcr;rw [hcr] at HCR;obtain ⟨gn,hgn⟩:∃gn,((getL L id).getD []).length=gn:=⟨_,rfl⟩
    rw [hgn] at HCR ⊢;clear hcr hrow h2 h3 hov hg hgn HOV;obtain ⟨c0,c1,c2,c3,cl⟩:=cells4 H4.out 0 rfl;by_cases ho:on=0
    · subst ho
      cases so with
      | true=>
       have HF:Hid (ch=5):=by show _=_;rw [<-HCH2.out,chkT_old HIV.out (HO.out.1 rfl),HSO.out];rfl
       go_wp2;go_ret;exact ⟨by rw [HF.out];rfl,H4.out.drop⟩
      | false=>
       have HF:Hid (ch=0):=by show _=_;rw [<-HCH2.out,chkT_old HIV.out (HO.out.1 rfl),HSO.out];rfl
       go_wp2;go_ret;exact ⟨by rw [HF.out];rfl,H4.out.drop⟩
    · have ho':((on:Int)==0)=false:=by simp;omega
      have ho'':0 < on:=by omega
      have HO2:Hid (old≠[]):=λ e=> ho (HO.out.2 e);clear ho;cases so with
      | false=>
       have HF:Hid (ch=4):=by show _=_;rw [<-HCH2.out,chkT_new HIV.out HO2.out,if_neg];intro e;have:=HSO.out;rw [e] at this;cases this
       go_wp2;go_ret;exact ⟨by rw [HF.out];rfl,H4.out.drop⟩
      | true=>
       go_wp2_with fail;(with_reducible refine HCR.out.mono ?_);rintro e w3 ⟨rfl,hb3⟩;have H5:=Lib.hid (H4.out.mono hb3);clear HCR H4 hb3 c0 c1 c2 c3 cl;by_cases h0:cr=0
       · have b0:(cr !=0)=false:=by simp [h0]
         have HF:Hid (ch=0):=by
          show _=_;rw [<-HCH2.out,chkT_new HIV.out HO2.out,if_pos];rw [h0] at HCRE;have e1:=cmpR_zero.1 HCRE.out;cases e:getL L id with
          | none=> have:=HSO.out;rw [e] at this;cases this
          | some r=> rw [e] at e1;exact congrArg some e1
         clear h0;go_wp2;go_ret;exact ⟨by rw [HF.out];rfl,H5.out.drop⟩
       · have b0:(cr !=0)=true:=by simp [h0]
         have HF:Hid (ch=4):=by show _=_;rw [<-HCH2.out,chkT_new HIV.out HO2.out,if_neg];intro e;refine h0 ?_;rw [<-HCRE.out,e];exact cmpR_zero.2 rfl
         clear h0;go_wp2;go_ret;exact ⟨by rw [HF.out];rfl,H5.out.drop⟩
 · have HT:=Lib.hid (table_out b q.ts.length q.tc q.ta tb W hdb.2.1 ht)
   have HF:Hid (ch=1):=by show _=_;rw [<-HCH.out,rowD_out (by rw [<-HQ.out.tlen];exact ht)]
   clear hdb ht;go_wp2_with fail;(with_reducible refine HT.out.mono ?_);rintro e w1 ⟨rfl,rfl⟩;clear HT;go_wp2;go_ret;exact ⟨by rw [HF.out];rfl,HS0.out.drop⟩
theorem chkD_ok {D:Db} {c:Chg} (h:chkD D c=0):∃(k:Nat) (t:Nat×LL×Int),c.tb=k/\D[k]? =some t/\chkT t.1 t.2.1 c.id c.old c.new=0/\appD D c=D.set k (t.1,appT t.1 c.id c.new t.2.1,appN t.1 c.id c.new t.2.2):=by
 unfold chkD at h;unfold appD;cases e:rowD D c.tb with
 | none=> rw [e] at h;cases h
 | some t=>
  rw [e] at h;simp only at h;have e0:=e;unfold rowD at e;split at e
  · rename_i h0
    refine ⟨c.tb.toNat,t,by omega,e,h,?_⟩;simp only;rw [if_pos h]
  · cases e
theorem appD_no {D:Db} {c:Chg} (h:chkD D c≠0):appD D c=D:=by
 unfold chkD at h;unfold appD;cases e:rowD D c.tb with
 | none=> rfl
 | some t=>
  rw [e] at h;simp only at h ⊢;rw [if_neg h]
theorem dbP_put (b:Nat) (q:StQ) (k:Nat) (hk:k < q.ts.length) (L:LL) (next:Int):dbP b { q with ts:=q.ts.set k { q.ts[k] with L:=L,next:=next } }=dbP b q:=by
 have h:((q.ts.set k { q.ts[k] with L:=L,next:=next }).map λ t=> ptrV t.S)=q.ts.map λ t=> ptrV t.S:=by
  rw [List.map_set];have h1:(q.ts.map λ t=> ptrV t.S)[k]? =some (ptrV q.ts[k].S):=by rw [List.getElem?_map,List.getElem?_eq_getElem hk];rfl
  obtain ⟨h2,h3⟩:=List.getElem?_eq_some_iff.1 h1;show List.set _ k (ptrV q.ts[k].S)=_;rw [<-h3,List.set_getElem_self]
 unfold dbP StQ.sv StQ.tv;rw [h];simp only [List.length_set]
theorem Apply_calls (b:Nat) (D:Db) (c:Chg) (hok:c.Ok) (hlen:∀t∈D,t.2.1.length < 1000000) (w0 w:World) (fp0:List Nat) (R:List Asn) (hc:Rd w0 fp0 R λ w=> c.X w) (hS:St w0 fp0 (stA b D::R) w):
 Calls Tryz.prog 19 #[.pointer (some ⟨b,0,none⟩),c.v] w λ e w'=> e=.returned (.int .i64 (chkD D c))/\St w0 fp0 (stA b (appD D c)::R) w':=by
 obtain ⟨q,hq,hs⟩:=hS.openD;have h0:=hs.newblk 35 #[.int .i64 c.tb, .int .i64 c.id,c.ov,c.nv];have h1:St w0 fp0 (dbP b q++(q.ts.map tbA++(blkA w.heap.size 35 #[.int .i64 c.tb, .int .i64 c.id,c.ov,c.nv]::R))) _:=h0.sinkD;have HCK:=Lib.hid (check_calls b q D hq c w0 _ fp0 _ (hc.cons _) h1);have HC:=Lib.hid hc;have HQ:=Lib.hid hq;have HOK:=Lib.hid hok;have HLEN:=Lib.hid hlen;obtain ⟨D2,hD2⟩:∃D2,appD D c=D2:=⟨_,rfl⟩
 obtain ⟨ch,hch⟩:∃ch,chkD D c=ch:=⟨_,rfl⟩
 have HD2:=Lib.hid hD2;have HCH:=Lib.hid hch;rw [hch] at HCK ⊢;rw [hD2];have HS0:=Lib.hid h0;clear hc hS hq hs h0 h1 hok hlen hD2 hch;obtain ⟨tb,id,oa,oc,na,nc,old,new⟩:=c;unfold Chg.v Chg.ov Chg.nv at *;simp only at *;obtain ⟨on,hon⟩:∃on,old.length=on:=⟨_,rfl⟩
 obtain ⟨nn,hnn⟩:∃nn,new.length=nn:=⟨_,rfl⟩
 have HNN:=Lib.hid hnn;rw [hon,hnn] at HCK HS0 ⊢;clear hon hnn;go_enter Tryz.func19,Tryz.ntmps19;go_upto_region 1 with (fail)
 generalize hW:w.alloc _=W at *;clear hW;obtain ⟨cb,hcb⟩:∃cb,w.heap.size=cb:=⟨_,rfl⟩
 rw [hcb] at HS0 HCK ⊢;clear hcb;obtain ⟨c0,c1,c2,c3,cl⟩:=cells4 HS0.out 0 rfl;go_wp2_with fail;(with_reducible refine HCK.out.mono ?_);rintro e w1 ⟨rfl,h1⟩;have H1:=Lib.hid h1;clear HCK HS0 h1 c0 c1 c2 c3 cl;by_cases hz:ch=0
 · subst hz
   obtain ⟨k,t,e1,hDk,hck,hD⟩:=chkD_ok HCH.out;simp only at e1 hck hD;subst e1;have hk:k < q.ts.length:=by rw [HQ.out.tlen];exact (List.getElem?_eq_some_iff.1 hDk).1
   have ht:t=(q.ts[k].cols,q.ts[k].L,q.ts[k].next):=by have:=HQ.out.at k hk;rw [hDk] at this;exact Option.some.inj this
   have hkd:k < q.td.length:=by rw [HQ.out.dlen,<-HQ.out.tlen];exact hk
   have hcl:q.ts[k].cols<=1000000:=by have:=(HQ.out.sm _ (List.getElem_mem hkd)).n;rw [HQ.out.tdn k hk hkd] at this;omega
   have hll:q.ts[k].L.length < 1000000:=by have:=HLEN.out t (List.mem_of_getElem? hDk);rw [ht] at this;exact this
   subst ht;simp only at hck hD;obtain ⟨d0,d1,dl, -,dsl⟩:=db_get H1.out;obtain ⟨b',o,tc,etv,p0⟩:=dsl.some (j:=k) (u:=ptrV q.ts[k].S) (by rw [List.getElem?_map,List.getElem?_eq_getElem hk];rfl);rw [etv,List.length_map] at d1;have pl:=World.block_lt_of_cell? w1 _ p0;have HB:Hid (St w0 fp0 (blkA cb 35 #[.int .i64 k, .int .i64 id, .slice oa on oc, .slice na nn nc]::(dbP b q++(q.ts.map tbA++R))) w1):=by
    refine H1.out.perm ?_
    classical refine List.perm_iff_count.2 λ a=> ?_;simp only [List.count_append,List.count_cons];omega
   obtain ⟨c0,c1,c2,c3,cl⟩:=cells4 HB.out 0 rfl;have hp:=H1.out.pickT k hk;have hk':(k:Int) < q.ts.length:=by omega
   have hkz:(0:Int)<=k:=by omega
   obtain ⟨h1,h2,h3, -⟩:=chkT_ok hck;have HD:Hid (∀L next,L=appT q.ts[k].cols id new q.ts[k].L->next=appN q.ts[k].cols id new q.ts[k].next->∀w,St w0 fp0 (storeA q.ts[k].S q.ts[k].cols q.ts[k].I L next::(dbP b q++((q.ts.eraseIdx k).map tbA++(blkA cb 35 #[.int .i64 k, .int .i64 id, .slice oa on oc, .slice na nn nc]::R)))) w->St w0 fp0 (stA b D2::R) w):=by
    intro L next e1 e2 w hs
    have h4:=St.placeT (t:={ q.ts[k] with L:=L,next:=next }) hk hs;rw [e1,e2] at h4;rw [<-HD2.out,hD];have hok2:=HQ.out.put k hk (appT q.ts[k].cols id new q.ts[k].L) (appN q.ts[k].cols id new q.ts[k].next);rw [<-dbP_put b q k hk] at h4;have h5:=St.shutD (b:=b) hok2 h4;exact (h5.perm (List.Perm.swap _ _ _)).drop
   have HPT:Hid (nn≠0->putOk q.ts[k].cols id new=true/\new≠[]):=λ h=> by have hne:new≠[]:=λ e=> h (by rw [<-HNN.out,e];rfl);unfold putOk;rw [decide_eq_true h1,h3 hne];exact ⟨rfl,hne⟩
   have HNE:Hid (nn=0->new=[]):=λ h=> List.length_eq_zero_iff.1 (by rw [HNN.out];exact h);have HSD:Hid (∀w2,Below w1.heap.size w1 w2->_):=λ w2 hb=> SDelete_calls q.ts[k].S q.ts[k].cols q.ts[k].I q.ts[k].L q.ts[k].next id HOK.out.id hcl (by omega) w0 w2 fp0 _ (hp.mono hb);have HSP:Hid (∀w2,Below w1.heap.size w1 w2->_):=λ w2 hb=> SPut_calls q.ts[k].S q.ts[k].cols q.ts[k].I q.ts[k].L q.ts[k].next id new (.slice na nn nc) HOK.out.id HOK.out.new hcl (by omega) w0 w2 fp0 (dbP b q++((q.ts.eraseIdx k).map tbA++(blkA cb 35 #[.int .i64 k, .int .i64 id, .slice oa on oc, .slice na nn nc]::R))) (by
    refine Rd.perm (R:=(dbP b q++((q.ts.eraseIdx k).map tbA++[blkA cb 35 #[.int .i64 k, .int .i64 id, .slice oa on oc, .slice na nn nc]]))++R) ?_ ?_
    · refine Rd.app (HC.out.imp λ w h=> ?_) _
      have:=h.new;unfold Chg.nv at this;simp only at this;rw [HNN.out] at this;exact this
    · simp only [List.append_assoc,List.cons_append,List.nil_append]
      exact List.Perm.refl _) (hp.mono hb)
   have HK:=Lib.hid hk;unfold ptrV at *;clear hp hck hD h1 h2 h3 hDk hkd hcl hll dsl etv d0 H1;generalize q.ts[k]=T at *;clear hk;generalize q.ts.length=m at *;go_upto_region 4 with (fail)
   go_region_held3 (λ w'=> Below w1.heap.size w1 w'/\∀b o,b < w1.heap.size->w'.cell? ⟨b,o,none⟩=w1.cell? ⟨b,o,none⟩)
    (first | assumption | exact S_of (Below.drew (Below.refl _ _)))
    (fail)
   rename_i hH
   have HB3:=Lib.hid (HB.out.mono hH.1);have HSD3:=Lib.hid (HSD.out _ hH.1);have HSP3:=Lib.hid (HSP.out _ hH.1);clear hH HB HSD HSP c0 c1 c2 c3 cl d1 dl p0 pl;obtain ⟨c0,c1,c2,c3,cl⟩:=cells4 HB3.out 0 rfl;go_upto_region 5 with (fail)
   by_cases hn:nn=0
   · subst hn
     have hne:=HNE.out rfl;go_wp2_with fail;(with_reducible refine HSD3.out.mono ?_);rintro e w2 ⟨dv,rfl,h2⟩;have HF:=Lib.hid (HD.out _ _ (show _=appT T.cols id new T.L by unfold appT;rw [if_pos hne]) (show T.next=appN T.cols id new T.next by unfold appN;rw [if_pos hne]) _ h2.drop);clear HSD3 HSP3 h2 c0 c1 c2 c3 cl hne;go_wp2;go_ret;exact ⟨rfl,HF.out⟩
   · have hn':((nn:Int)==0)=false:=by simp;omega
     obtain ⟨hpo,hne⟩:=HPT.out hn;rw [hpo] at HSP3;unfold errV at HSP3;clear hn;go_wp2_with fail;(with_reducible refine HSP3.out.mono ?_);rintro e w2 ⟨rfl,h2⟩;have HF:=Lib.hid (HD.out _ _ (show _=appT T.cols id new T.L by unfold appT;rw [if_neg hne]) (show _=appN T.cols id new T.next by unfold appN;rw [if_neg hne]) _ h2);clear HSD3 HSP3 h2 c0 c1 c2 c3 cl hne hpo;go_wp2;go_ret;exact ⟨rfl,HF.out⟩
 · have hz':(ch !=0)=true:=by simp [hz]
   have HF:Hid (St w0 fp0 (stA b D2::R) w1):=by have h:=St.shutD HQ.out H1.out;rw [<-HD2.out,appD_no (by rw [HCH.out];exact hz)];exact (h.perm (List.Perm.swap _ _ _)).drop
   clear hz H1;go_wp2;go_ret;exact ⟨rfl,HF.out⟩
def put3 (xs:List Value) (k:Nat) (a b c:Value):List Value:=((xs.set (k * 3) a).set (k * 3+1) b).set (k * 3+2) c
theorem appRS:AppSrc Tryz.prog 28 28 44 3:=appSrc (z:=.agg #[.int .i64 0, .slice none 0 0, .int .i64 0]) (bytes:=40) (by kernel_rfl) (by kernel_rfl) rfl (by decide) (by decide)
structure MsOk (D:Db) (ms:List Rs):Prop where
 d:ms.map Rs.d=D
 asc:∀m∈ms,m.l.Pairwise λ a b=> a.id < b.id
def ms0 (td:List Td):List Rs:=td.map λ t=> ⟨t.n,none,0,1,[]⟩
theorem ms0_ok (td:List Td):MsOk (newD td) (ms0 td):=⟨by rw [ms0,newD,List.map_map];rfl,λ m hm=> by
 obtain ⟨t, -,rfl⟩:=List.mem_map.1 hm;exact List.Pairwise.nil⟩
theorem RNew40_calls (td:List Td) (v:Value) (htl:td.length<=1000) (w0 w:World) (fp0:List Nat) (R:List Asn) (hv:Rd w0 fp0 R λ w=> SchX w td v) (hS:St w0 fp0 R w):
 Calls Tryz.prog 44 #[v] w λ e w'=> ∃a c,e=.returned (.slice a td.length c)/\St w0 fp0 (rowA 44 3 (.slice a td.length c) td.length ((ms0 td).flatMap Rs.c)::R) w':=by
 obtain ⟨va,vc,rfl⟩:=(hv.here hS).sl.shape;have HV:=Lib.hid hv;obtain ⟨N,hN⟩:∃N,td.length=N:=⟨_,rfl⟩
 have HN:=Lib.hid hN;have hN63:N<=1000:=by omega
 have H0:Hid (St w0 fp0 (rowA 44 3 (.slice none 0 0) 0 ((ms0 (td.take 0)).flatMap Rs.c)::R) w):=hS.nilR 44 3;rw [hN] at HV ⊢;clear hv hN hS htl;go_enter Tryz.func44,Tryz.ntmps44;go_upto_region 3 with (fail)
 go_loopg [3,4] N (λ g z3 z wr=> ∃k:Nat,z=.int .i64 k/\g+k=N/\Hid (St w0 fp0 (rowA 44 3 z3 k ((ms0 (td.take k)).flatMap Rs.c)::R) wr))
 case atStart=> exact ⟨0,rfl,rfl,H0⟩
 case round=>
  clear H0;obtain ⟨k,rfl,hgk,Hi⟩:=hrel;obtain ⟨_,hrow⟩:=Hi.out.has 0 rfl;obtain ⟨za,zc,rfl, -⟩:=row_shape hrow;clear hrow;by_cases hk:k < N
  · have hkl:k < td.length:=by rw [HN.out];exact hk
    have hkn:(k:Int) < N:=by omega
    have hlw:=HV.out.at (M:=[_]) Hi.out;obtain ⟨b,o,c',e1,hpl, -,p1, -⟩:=hlw.cells k hkl;obtain ⟨rfl, -,rfl⟩:=Value.slice.inj e1;have hst:(ms0 (td.take (k+1))).flatMap Rs.c=(ms0 (td.take k)).flatMap Rs.c++[.int .i64 td[k].n, .slice none 0 0, .int .i64 1]:=by rw [List.take_add_one,List.getElem?_eq_getElem hkl,ms0,List.map_append,List.flatMap_append];rfl
    have HST:=Lib.hid hst;have Hgk:=Lib.hid hgk;clear e1 hlw hst hgk;generalize td[k].ca=ca at *;generalize td[k].cc=cc at *;generalize td[k].n=n at *;clear hkl;have HR:=Lib.hid (λ w'=> RNew_calls n w');unfold rsV at HR
    go_upto_region 4 with (first
     | (go_at_call 77;(with_reducible refine (HR.out _).mono ?_);rintro e w1 ⟨rfl,hb1⟩;have H1:=Lib.hid (Hi.out.mono hb1);clear hb1)
     | (at_builtin;refine wpList_appR rfl _ _ _ _ rfl rfl rfl appRS (H1.out.mono ((Below.refl _ _).alloc (Nat.le_refl _) _)) (src_litk (e':=44) (by kernel_rfl) _ 3 _ 1 _ _ _ #[.int .i64 n, .slice none 0 0, .int .i64 1] (heap_alloc_new _ _) rfl (by simp;exact ⟨rfl,rfl,rfl⟩)) (by omega) ?_;intro v3 w3 h3))
    have H2:Hid (St w0 fp0 (rowA 44 3 v3 (k+1) ((ms0 (td.take (k+1))).flatMap Rs.c)::R) w3):=by show St _ _ _ _;rw [HST.out];exact h3.out
    clear h3 H1 Hi p1 hpl;go_wp2;go_roundg (gk - 1)
    case rel=> exact ⟨k+1,by go_num,by have:=Hgk.out;omega,H2⟩
    case measure=> have:=Hgk.out;omega
  · obtain rfl:k=N:=by omega
    have HF:Hid (St w0 fp0 (rowA 44 3 (.slice za k zc) k ((ms0 td).flatMap Rs.c)::R) wr):=by have h:=Hi.out;rw [List.take_of_length_le (by rw [HN.out];exact Nat.le_refl _)] at h;exact h
    clear Hi hgk hk;go_wp2;go_ret;exact ⟨_,_,rfl,HF.out⟩
end
end Go.Proofs.YtpdlkdoogojboaaGreat
