/- Part 11 of the proof: M8, M9, M9r, Ma, Mb, Mc, Mdr, Md, Mg, Mh, Mir, Mi -/
import Derived.Test.YtpdlkdoogojboaaGreatH10
import Derived.Test.YtpdlkdoogojboaaGreatH05
/- The reference's New. -/
namespace Go.Proofs.YtpdlkdoogojboaaGreat
open Go Go.RowKit
theorem appRS:AppSrc Tryz.prog 28 28 44 3:=appSrc (z:=.agg #[.int .i64 0, .slice none 0 0, .int .i64 0]) (bytes:=40) (by kernel_rfl) (by kernel_rfl) rfl (by decide) (by decide)
/-- A version speaks of these tables. -/
structure MsOk (D:Db) (ms:List Rs):Prop where
 d:ms.map Rs.d=D
 asc:∀m∈ms,m.l.Pairwise fun a b=> a.id < b.id
def ms0 (td:List Td):List Rs:=td.map fun t=> ⟨t.n,none,0,1,[]⟩
theorem ms0_ok (td:List Td):MsOk (newD td) (ms0 td):=⟨by rw [ms0,newD,List.map_map];rfl,fun m hm=> by
 obtain ⟨t, -,rfl⟩:=List.mem_map.1 hm
 exact List.Pairwise.nil⟩
theorem ms0_x {td:List Td} {w:World} {v:Value} {f:List Nat} (h:(rowA 44 3 v (ms0 td).length ((ms0 td).flatMap Rs.c)).p w f):RefX w (ms0 td) v:=⟨SlX.of_row (X:=[]) h (flatMap_len rsc_len _) (by simp),fun m hm=> by
 obtain ⟨t, -,rfl⟩:=List.mem_map.1 hm
 exact ⟨SlX.nil _ _ _ _ _,by simp⟩⟩
set_option maxHeartbeats 4000000 in
set_option maxRecDepth 20000 in
theorem RNew40_calls (td:List Td) (v:Value) (htl:td.length≤1000) (w0 w:World) (fp0:List Nat) (R:List Asn) (hv:Rd w0 fp0 R fun w=> SchX w td v) (hS:St w0 fp0 R w):
 Calls Tryz.prog 44 #[v] w fun e w'=> ∃a c,e=.returned (.slice a td.length c)∧St w0 fp0 (rowA 44 3 (.slice a td.length c) td.length ((ms0 td).flatMap Rs.c)::R) w':=by
 obtain ⟨va,vc,rfl⟩:=(hv.here hS).sl.shape
 have HV:=Lib.hid hv
 obtain ⟨N,hN⟩:∃N,td.length=N:=⟨_,rfl⟩
 have HN:=Lib.hid hN
 have hN63:N≤1000:=by omega
 have H0:RowKit.Hid (St w0 fp0 (rowA 44 3 (.slice none 0 0) 0 ((ms0 (td.take 0)).flatMap Rs.c)::R) w):=hS.nilR 44 3
 rw [hN] at HV ⊢
 clear hv hN hS htl
 go_enter Tryz.func44,Tryz.ntmps44
 go_upto_region 3 with (fail)
 go_loopg [3,4] N (fun g z3 z wr=> ∃k:Nat,z=.int .i64 k∧g+k=N∧RowKit.Hid (St w0 fp0 (rowA 44 3 z3 k ((ms0 (td.take k)).flatMap Rs.c)::R) wr))
 case atStart=> exact ⟨0,rfl,rfl,H0⟩
 case round=>
  clear H0
  obtain ⟨k,rfl,hgk,Hi⟩:=hrel
  obtain ⟨_,hrow⟩:=Hi.out.has 0 rfl
  obtain ⟨za,zc,rfl, -⟩:=row_shape hrow
  clear hrow
  by_cases hk:k < N
  · have hkl:k < td.length:=by rw [HN.out];exact hk
    have hkn:(k:Int) < N:=by omega
    have hlw:=HV.out.at (M:=[_]) Hi.out
    obtain ⟨b,o,c',e1,hpl, -,p1, -⟩:=hlw.cells k hkl
    obtain ⟨rfl, -,rfl⟩:=Value.slice.inj e1
    have hst:(ms0 (td.take (k+1))).flatMap Rs.c=(ms0 (td.take k)).flatMap Rs.c++[.int .i64 td[k].n, .slice none 0 0, .int .i64 1]:=by
     rw [List.take_add_one,List.getElem?_eq_getElem hkl,ms0,List.map_append,List.flatMap_append]
     rfl
    have HST:=Lib.hid hst
    have Hgk:=Lib.hid hgk
    clear e1 hlw hst hgk
    generalize td[k].ca=ca at *
    generalize td[k].cc=cc at *
    generalize td[k].n=n at *
    clear hkl
    have HR:=Lib.hid (fun w'=> RNew_calls n w')
    unfold rsV at HR
    go_upto_region 4 with (first
     | (go_at_call 77;(with_reducible refine (HR.out _).mono ?_);rintro e w1 ⟨rfl,hb1⟩;have H1:=Lib.hid (Hi.out.mono hb1);clear hb1)
     | (at_builtin;refine wpList_appR rfl _ _ _ _ rfl rfl rfl appRS (H1.out.mono ((Below.refl _ _).alloc (Nat.le_refl _) _)) (src_litk (e':=44) (by kernel_rfl) _ 3 _ 1 _ _ _ #[.int .i64 n, .slice none 0 0, .int .i64 1] (heap_alloc_new _ _) rfl (by simp;exact ⟨rfl,rfl,rfl⟩)) (by omega) ?_;intro v3 w3 h3))
    have H2:RowKit.Hid (St w0 fp0 (rowA 44 3 v3 (k+1) ((ms0 (td.take (k+1))).flatMap Rs.c)::R) w3):=by
     show St _ _ _ _
     rw [HST.out]
     exact h3.out
    clear h3 H1 Hi p1 hpl
    go_wp2
    go_roundg (gk - 1)
    case rel=> exact ⟨k+1,by go_num,by have:=Hgk.out;omega,H2⟩
    case measure=> have:=Hgk.out;omega
  · obtain rfl:k=N:=by omega
    have HF:RowKit.Hid (St w0 fp0 (rowA 44 3 (.slice za k zc) k ((ms0 td).flatMap Rs.c)::R) wr):=by
     have h:=Hi.out
     rw [List.take_of_length_le (by rw [HN.out];exact Nat.le_refl _)] at h
     exact h
    clear Hi hgk hk
    go_wp2
    go_ret
    exact ⟨_,_,rfl,HF.out⟩
/- The reference's Apply. -/
theorem set3 {α:Type} (g:α→List Value) (hg:∀y,(g y).length=3):∀(l:List α) (k:Nat) (y:α) (a b c:Value),k < l.length→g y=[a,b,c]→put3 (l.flatMap g) k a b c=(l.set k y).flatMap g
 | [],k,y,a,b,c,h,_=> by simp at h
 | x::l,0,y,a,b,c,_,e=> by
  have h:=hg x
  match hx:g x,h with
  | [x0,x1,x2],_=>
   unfold put3
   simp only [List.flatMap_cons,hx,List.set_cons_zero,e]
   rfl
 | x::l,k+1,y,a,b,c,h,e=> by
  have ih:=set3 g hg l k y a b c (by simpa using h) e
  have h:=hg x
  match hx:g x,h with
  | [x0,x1,x2],_=>
   unfold put3 at ih ⊢
   simp only [List.flatMap_cons,hx,List.set_cons_succ,List.cons_append,List.nil_append]
   rw [←ih,show (k+1) * 3=k * 3+1+1+1 by omega]
   rfl
theorem refx_put {w0:World} {fp0:List Nat} {R:List Asn} {ms:List Rs} {mv:Value} (hm:Rd w0 fp0 R fun w=> RefX w ms mv) (k:Nat) (m:Rs) (a:Option Addr) (c:Nat) (hrow:∀x∈m.l,Rd w0 fp0 R fun w=> ValsAt w x.r x.v):
 Rd w0 fp0 ([rowA 44 3 (.slice a ms.length c) ms.length ((ms.set k m).flatMap Rs.c),riA m.lv m.l]++R) fun w=> RefX w (ms.set k m) (.slice a ms.length c):=by
 intro M w hs
 have h1:SlX [] w 3 ms.length ((ms.set k m).flatMap Rs.c) (.slice a ms.length c):=(Rd.of_piece (R:=[_,_]++R) 0 rfl fun w f h=> SlX.of_row (X:=[]) h (by rw [flatMap_len rsc_len,List.length_set]) (by simp)) M w hs
 have h2:=(Rd.of_piece (R:=[_,_]++R) 1 rfl fun w f h=> riA_sl h) M w hs
 have h3:=(hm.app [_,_]) M w hs
 refine ⟨by rw [List.length_set];exact h1,fun y hy=> ?_⟩
 rcases List.mem_or_eq_of_mem_set hy with hy | rfl
 · exact h3.ri y hy
 · exact ⟨h2,fun x hx=> ((hrow x hx).app [_,_]) M w hs⟩
/-- What the reference's Apply gives. -/
def RaPost (w0:World) (fp0:List Nat) (L R:List Asn) (D:Db) (ch:Int) (e:Ending) (w:World):Prop:=∃(ms:List Rs) (a:Option Addr) (c:Nat) (P:List Asn),e=.returned (.tuple #[.slice a ms.length c, .int .i64 ch])∧MsOk D ms∧Rd w0 fp0 (P++R) (fun w=> RefX w ms (.slice a ms.length c))∧St w0 fp0 (L++(P++R)) w
theorem MsOk.at {D:Db} {ms:List Rs} (h:MsOk D ms) (k:Nat) (hk:k < ms.length):D[k]? =some (ms[k].cols,riL ms[k].l,ms[k].next):=by
 rw [←h.d,List.getElem?_map,List.getElem?_eq_getElem hk]
 rfl
theorem MsOk.len {D:Db} {ms:List Rs} (h:MsOk D ms):ms.length=D.length:=by rw [←h.d,List.length_map]
theorem MsOk.put {D:Db} {ms:List Rs} (h:MsOk D ms) (k:Nat) (m:Rs) (ha:m.l.Pairwise fun a b=> a.id < b.id):MsOk (D.set k m.d) (ms.set k m):=⟨by rw [List.map_set,h.d],fun y hy=> by
 rcases List.mem_or_eq_of_mem_set hy with hy | rfl
 · exact h.asc y hy
 · exact ha⟩
theorem St.emptyRS {w0 w:World} {fp0:List Nat} {L:List Asn} (h:St w0 fp0 L w):St w0 fp0 (rowA 44 3 (.slice (some ⟨w.heap.size,0,none⟩) 0 0) 0 []::L) (w.alloc (.cells #[] 44)):=
 h.addF (row_empty (size:=3) ⟨heap_alloc_new w _,rfl⟩) ((Below.refl _ _).alloc (Nat.le_refl _) _) (fun k hk=> by rw [List.mem_singleton.1 hk];exact Nat.le_refl _)
theorem ms_one (ms:List Rs):∀u∈ms.flatMap Rs.c,u.oneCell'=true:=by
 intro u hu
 obtain ⟨m, -,hm⟩:=List.mem_flatMap.1 hu
 unfold Rs.c Rs.lv at hm
 simp only [List.mem_cons,List.not_mem_nil,or_false] at hm
 rcases hm with rfl | rfl | rfl <;> rfl
/-- Where both stores end. -/
theorem ra_fin {w0 w:World} {fp0:List Nat} {L R:List Asn} {A:Asn} {og n oc k cols:Nat} {nx:Int} {V:Value→Value} {v mv:Value} {l2:List Ri} {ms:List Rs} {D D2:Db} (h:St w0 fp0 ([A,got2 og n oc k cols nx (ms.flatMap Rs.c) V v l2]++(L++R)) w) (hm:Rd w0 fp0 R fun w=> RefX w ms mv) (hn:ms.length=n) (hk:k < n)
 (hset:∀m:Rs,(m.l.Pairwise fun a b=> a.id < b.id)→MsOk (D.set k m.d) (ms.set k m)) (hasc:l2.Pairwise fun a b=> a.id < b.id) (hrow:∀x∈l2,Rd w0 fp0 R fun w=> ValsAt w x.r x.v) (hD:D2=D.set k (cols,riL l2,nx)):RaPost w0 fp0 L R D2 0 (.returned (.tuple #[.slice (some ⟨og,0,none⟩) n oc, .int .i64 0])) w:=by
 have h1:=(h.perm (List.Perm.swap _ _ _:([A,got2 og n oc k cols nx (ms.flatMap Rs.c) V v l2]++(L++R)).Perm (got2 og n oc k cols nx (ms.flatMap Rs.c) V v l2::A::(L++R))))
 obtain ⟨lv,h2⟩:=St.exE h1
 have h3:=St.star.1 h2
 have h4:=(St.pure.1 h3).2
 obtain ⟨_,hr⟩:=h4.has 1 rfl
 obtain ⟨a,c,rfl⟩:=(riA_sl hr).shape
 subst hn
 rw [set3 Rs.c rsc_len ms k ⟨cols,a,c,nx,l2⟩ (.int .i64 cols) (.slice a l2.length c) (.int .i64 nx) hk rfl] at h4
 refine ⟨ms.set k ⟨cols,a,c,nx,l2⟩,some ⟨og,0,none⟩,oc,[rowA 44 3 (.slice (some ⟨og,0,none⟩) ms.length oc) ms.length ((ms.set k ⟨cols,a,c,nx,l2⟩).flatMap Rs.c),riA (.slice a l2.length c) l2],by rw [List.length_set],?_,?_,?_⟩
 · rw [hD]
   exact hset ⟨cols,a,c,nx,l2⟩ hasc
 · rw [List.length_set]
   exact refx_put hm k ⟨cols,a,c,nx,l2⟩ (some ⟨og,0,none⟩) oc hrow
 · have h5:St w0 fp0 (outR og ms.length oc ((ms.set k ⟨cols,a,c,nx,l2⟩).flatMap Rs.c)::riA (.slice a l2.length c) l2::A::(L++R)) w:=h4
   have h6:St w0 fp0 (A::outR og ms.length oc ((ms.set k ⟨cols,a,c,nx,l2⟩).flatMap Rs.c)::riA (.slice a l2.length c) l2::(L++R)) w:=St_re (L:=[_,_,_]) h5 [2,0,1] [] (by kernel_rfl)
   refine h6.drop.perm ?_
   unfold outR
   classical
   refine List.perm_iff_count.2 fun x=> ?_
   simp only [List.count_append,List.count_cons,List.cons_append,List.nil_append]
   omega
/- The reference's Apply: its first region, way by way. -/
set_option maxRecDepth 100000
theorem Rg.Ob.lssB (G:Rg) (i:Nat) (p q:Int) (r:Bool) (h:decide (p < q)=r) {ty t:TypeId} {x y:Operand} (hop:(opAt G.ops i).op=.binOp .lss ty x y t:=by rfl) (hx:∀a,G.env i a x=.int .i64 p:=by intro _;exact kr (by kernel_rfl)) (hy:∀a,G.env i a y=.int .i64 q:=by intro _;exact kr (by kernel_rfl)) (hv:∀g,G.valD i g=.bool r:=by intro _;exact kr (by kernel_rfl))
 (hq:(G.quiet i G.pcs.length && G.okV i)=true:=by exact kr (by kernel_rfl)) (hw:∀a,wantE G.ops (opAt G.ops i) (G.env i a)=some true:=by intro _;exact kr (by kernel_rfl)):G.Ob i:=Rg.Ob.read G i hq hw fun L a w _ _=> by
 simp [execOp,hop,hx,hy,go_sem,hv,←h]
theorem Rg.Ob.gtrB (G:Rg) (i:Nat) (p q:Int) (r:Bool) (h:decide (q < p)=r) {ty t:TypeId} {x y:Operand} (hop:(opAt G.ops i).op=.binOp .gtr ty x y t:=by rfl) (hx:∀a,G.env i a x=.int .i64 p:=by intro _;exact kr (by kernel_rfl)) (hy:∀a,G.env i a y=.int .i64 q:=by intro _;exact kr (by kernel_rfl)) (hv:∀g,G.valD i g=.bool r:=by intro _;exact kr (by kernel_rfl))
 (hq:(G.quiet i G.pcs.length && G.okV i)=true:=by exact kr (by kernel_rfl)) (hw:∀a,wantE G.ops (opAt G.ops i) (G.env i a)=some true:=by intro _;exact kr (by kernel_rfl)):G.Ob i:=Rg.Ob.read G i hq hw fun L a w _ _=> by
 simp [execOp,hop,hx,hy,go_sem,hv,←h]
theorem Rg.Ob.geqB (G:Rg) (i:Nat) (p q:Int) (r:Bool) (h:decide (q≤p)=r) {ty t:TypeId} {x y:Operand} (hop:(opAt G.ops i).op=.binOp .geq ty x y t:=by rfl) (hx:∀a,G.env i a x=.int .i64 p:=by intro _;exact kr (by kernel_rfl)) (hy:∀a,G.env i a y=.int .i64 q:=by intro _;exact kr (by kernel_rfl)) (hv:∀g,G.valD i g=.bool r:=by intro _;exact kr (by kernel_rfl))
 (hq:(G.quiet i G.pcs.length && G.okV i)=true:=by exact kr (by kernel_rfl)) (hw:∀a,wantE G.ops (opAt G.ops i) (G.env i a)=some true:=by intro _;exact kr (by kernel_rfl)):G.Ob i:=Rg.Ob.read G i hq hw fun L a w _ _=> by
 simp [execOp,hop,hx,hy,go_sem,hv,←h]
theorem Rg.Ob.eqlB (G:Rg) (i:Nat) (p q:Int) (r:Bool) (h:decide (p=q)=r) {ty t:TypeId} {x y:Operand} (hop:(opAt G.ops i).op=.binOp .eql ty x y t:=by rfl) (hx:∀a,G.env i a x=.int .i64 p:=by intro _;exact kr (by kernel_rfl)) (hy:∀a,G.env i a y=.int .i64 q:=by intro _;exact kr (by kernel_rfl)) (hv:∀g,G.valD i g=.bool r:=by intro _;exact kr (by kernel_rfl))
 (hq:(G.quiet i G.pcs.length && G.okV i)=true:=by exact kr (by kernel_rfl)) (hw:∀a,wantE G.ops (opAt G.ops i) (G.env i a)=some true:=by intro _;exact kr (by kernel_rfl)):G.Ob i:=Rg.Ob.read G i hq hw fun L a w _ _=> by
 have e:decide (p=q)=(p==q):=by by_cases h:p=q <;> simp [h]
 simp [execOp,hop,hx,hy,go_sem,hv,←h,e]
noncomputable def gRo1 (cb n on nn oc nc mc:Nat) (tb id:Int) (oa na ma:Option Addr):=rgx Tryz.prog Tryz.f16 1 132 [9,10,11,12,13,14,15,16,17,18,19,20,21,22,23,24,25,26,27,28,29,30,31,32,33,34,35,36,37,38,39,40,41,42,43,44,45,46,47,48,49,50,51,52,53,54,55,56,57,58] [(3,pV cb 0),(0, .slice ma n mc)] (Vq 0 9 [Kp cb 0,Kv (.int .i64 tb),Kv (.bool true),Kv (.bool true),Kv undef,Kv undef,Kv undef,Kv undef,Kv undef,Kv (.bool true),Kv (.bool true),Kv undef,Kv undef,Kv undef,Kv (.bool true),Kv (.bool true),Kv undef,Kv undef,Kv undef,Kv (.bool true),Kv (.bool true),Kv undef,Kv undef,Kv undef,Kv undef,Kv undef,Kv undef,Kv undef,Kv undef,Kv undef,Kv undef,Kv (.bool true),Kv (.bool true),Kv undef,Kv undef,Kv undef,Kv undef,Kv undef,Kv undef,Kv undef,Kv undef,Kv undef,Kv undef,Kv undef,Kv undef,Kv undef,Kv undef,Kv undef,Kv undef,Kv (.bool true)]) [Bk cb (35) [.int .i64 tb, .int .i64 id, .slice oa on oc, .slice na nn nc]]
theorem rRo1 (cb n on nn oc nc mc:Nat) (tb id:Int) (oa na ma:Option Addr) (w0:World) (fp0:List Nat) (R:List Asn) (h2:decide (tb < 0)=true) {w:World} {c:Code} {a:Act} {Q:Exit→Act→World→Prop} (c1:isReg c=true) (c2:cops c=opsR Tryz.f16 1) (c3:a.tmps.size=132) (_c4:a.defers=a.defers) (i3:a.eval (.tmp 3)=.pointer (some ⟨cb,0,none⟩)) (i0:a.eval (.tmp 0)=.slice ma n mc)
 (hS:St w0 fp0 ([blkA cb (35) #[.int .i64 tb, .int .i64 id, .slice oa on oc, .slice na nn nc]]++R) w)
 (hQ:∀(w1:World),St w0 fp0 ([blkA cb (35) #[.int .i64 tb, .int .i64 id, .slice oa on oc, .slice na nn nc]]++R) w1→Q .normal (putL a [(9, .pointer (some ⟨cb,0,none⟩)),(10, .int .i64 tb),(11, .bool true),(12, .bool true),(13,undef),(14,undef),(15,undef),(16,undef),(17,undef),(18, .bool true),(19, .bool true),(20,undef),(21,undef),(22,undef),(23, .bool true),(24, .bool true),(25,undef),(26,undef),(27,undef),(28, .bool true),(29, .bool true),(30,undef),(31,undef),(32,undef),(33,undef),(34,undef),(35,undef),(36,undef),(37,undef),(38,undef),(39,undef),(40, .bool true),(41, .bool true),(42,undef),(43,undef),(44,undef),(45,undef),(46,undef),(47,undef),(48,undef),(49,undef),(50,undef),(51,undef),(52,undef),(53,undef),(54,undef),(55,undef),(56,undef),(57,undef),(58, .bool true)]) w1):c.wp Tryz.prog Q a w:=by
 have ok:(gRo1 cb n on nn oc nc mc tb id oa na ma w0 fp0 R).Ok 50:=Rg.ok _ 50 [1,2,4,5,6,7,8,11,12,13,16,17,18,21,22,23,24,25,26,27,28,29,30,33,34,35,36,37,38,39,40,41,42,43,44,45,46,47,48] ⟨.load _ 1 0 0, .lssB _ 2 (tb) (0) true h2, .skip _ 4, .skip _ 5, .skip _ 6, .skip _ 7, .skip _ 8, .skip _ 11, .skip _ 12, .skip _ 13, .skip _ 16, .skip _ 17, .skip _ 18, .skip _ 21, .skip _ 22, .skip _ 23, .skip _ 24, .skip _ 25, .skip _ 26, .skip _ 27, .skip _ 28, .skip _ 29, .skip _ 30, .skip _ 33, .skip _ 34, .skip _ 35, .skip _ 36, .skip _ 37, .skip _ 38, .skip _ 39, .skip _ 40, .skip _ 41, .skip _ 42, .skip _ 43, .skip _ 44, .skip _ 45, .skip _ 46, .skip _ 47, .skip _ 48,trivial⟩
 refine wp_regD ok (by kernel_rfl) ⟨c1,c2⟩ ⟨c3,fun p hp=> ?_⟩ hS fun A1 w1 N1 H1=> ?_
 · simp only [gRo1,rgx,List.map_nil,List.append_nil,List.mem_cons,List.not_mem_nil,or_false] at hp
   rcases hp with rfl | rfl
   · exact i3
   · exact i0
 have e9:=N1.val 0 rfl
 have e10:=N1.val 1 rfl
 have e11:=N1.val 2 rfl
 have e12:=N1.val 3 rfl
 have e13:=N1.val 4 rfl
 have e14:=N1.val 5 rfl
 have e15:=N1.val 6 rfl
 have e16:=N1.val 7 rfl
 have e17:=N1.val 8 rfl
 have e18:=N1.val 9 rfl
 have e19:=N1.val 10 rfl
 have e20:=N1.val 11 rfl
 have e21:=N1.val 12 rfl
 have e22:=N1.val 13 rfl
 have e23:=N1.val 14 rfl
 have e24:=N1.val 15 rfl
 have e25:=N1.val 16 rfl
 have e26:=N1.val 17 rfl
 have e27:=N1.val 18 rfl
 have e28:=N1.val 19 rfl
 have e29:=N1.val 20 rfl
 have e30:=N1.val 21 rfl
 have e31:=N1.val 22 rfl
 have e32:=N1.val 23 rfl
 have e33:=N1.val 24 rfl
 have e34:=N1.val 25 rfl
 have e35:=N1.val 26 rfl
 have e36:=N1.val 27 rfl
 have e37:=N1.val 28 rfl
 have e38:=N1.val 29 rfl
 have e39:=N1.val 30 rfl
 have e40:=N1.val 31 rfl
 have e41:=N1.val 32 rfl
 have e42:=N1.val 33 rfl
 have e43:=N1.val 34 rfl
 have e44:=N1.val 35 rfl
 have e45:=N1.val 36 rfl
 have e46:=N1.val 37 rfl
 have e47:=N1.val 38 rfl
 have e48:=N1.val 39 rfl
 have e49:=N1.val 40 rfl
 have e50:=N1.val 41 rfl
 have e51:=N1.val 42 rfl
 have e52:=N1.val 43 rfl
 have e53:=N1.val 44 rfl
 have e54:=N1.val 45 rfl
 have e55:=N1.val 46 rfl
 have e56:=N1.val 47 rfl
 have e57:=N1.val 48 rfl
 have e58:=N1.val 49 rfl
 have h:=hQ  w1  H1
 rw [frame_eq N1.frame (cons_eq e9 (cons_eq e10 (cons_eq e11 (cons_eq e12 (cons_eq e13 (cons_eq e14 (cons_eq e15 (cons_eq e16 (cons_eq e17 (cons_eq e18 (cons_eq e19 (cons_eq e20 (cons_eq e21 (cons_eq e22 (cons_eq e23 (cons_eq e24 (cons_eq e25 (cons_eq e26 (cons_eq e27 (cons_eq e28 (cons_eq e29 (cons_eq e30 (cons_eq e31 (cons_eq e32 (cons_eq e33 (cons_eq e34 (cons_eq e35 (cons_eq e36 (cons_eq e37 (cons_eq e38 (cons_eq e39 (cons_eq e40 (cons_eq e41 (cons_eq e42 (cons_eq e43 (cons_eq e44 (cons_eq e45 (cons_eq e46 (cons_eq e47 (cons_eq e48 (cons_eq e49 (cons_eq e50 (cons_eq e51 (cons_eq e52 (cons_eq e53 (cons_eq e54 (cons_eq e55 (cons_eq e56 (cons_eq e57 (cons_eq e58 rfl))))))))))))))))))))))))))))))))))))))))))))))))))]
 exact h
noncomputable def gRo2 (cb n on nn oc nc mc:Nat) (tb id:Int) (oa na ma:Option Addr):=rgx Tryz.prog Tryz.f16 1 132 [9,10,11,12,13,14,15,16,17,18,19,20,21,22,23,24,25,26,27,28,29,30,31,32,33,34,35,36,37,38,39,40,41,42,43,44,45,46,47,48,49,50,51,52,53,54,55,56,57,58] [(3,pV cb 0),(0, .slice ma n mc)] (Vq 0 9 [Kp cb 0,Kv (.int .i64 tb),Kv (.bool false),Kv (.bool false),Kp cb 0,Kv (.int .i64 tb),Kv (.slice ma n mc),Kv (.int .i64 (n:Nat)),Kv (.bool true),Kv (.bool true),Kv (.bool true),Kv undef,Kv undef,Kv undef,Kv (.bool true),Kv (.bool true),Kv undef,Kv undef,Kv undef,Kv (.bool true),Kv (.bool true),Kv undef,Kv undef,Kv undef,Kv undef,Kv undef,Kv undef,Kv undef,Kv undef,Kv undef,Kv undef,Kv (.bool true),Kv (.bool true),Kv undef,Kv undef,Kv undef,Kv undef,Kv undef,Kv undef,Kv undef,Kv undef,Kv undef,Kv undef,Kv undef,Kv undef,Kv undef,Kv undef,Kv undef,Kv undef,Kv (.bool true)]) [Bk cb (35) [.int .i64 tb, .int .i64 id, .slice oa on oc, .slice na nn nc]]
theorem rRo2 (cb n on nn oc nc mc:Nat) (tb id:Int) (oa na ma:Option Addr) (w0:World) (fp0:List Nat) (R:List Asn) (h2:decide (tb < 0)=false) (h8:decide (((n:Nat):Int)≤tb)=true) {w:World} {c:Code} {a:Act} {Q:Exit→Act→World→Prop} (c1:isReg c=true) (c2:cops c=opsR Tryz.f16 1) (c3:a.tmps.size=132) (_c4:a.defers=a.defers) (i3:a.eval (.tmp 3)=.pointer (some ⟨cb,0,none⟩)) (i0:a.eval (.tmp 0)=.slice ma n mc)
 (hS:St w0 fp0 ([blkA cb (35) #[.int .i64 tb, .int .i64 id, .slice oa on oc, .slice na nn nc]]++R) w)
 (hQ:∀(w1:World),St w0 fp0 ([blkA cb (35) #[.int .i64 tb, .int .i64 id, .slice oa on oc, .slice na nn nc]]++R) w1→Q .normal (putL a [(9, .pointer (some ⟨cb,0,none⟩)),(10, .int .i64 tb),(11, .bool false),(12, .bool false),(13, .pointer (some ⟨cb,0,none⟩)),(14, .int .i64 tb),(15, .slice ma n mc),(16, .int .i64 (n:Nat)),(17, .bool true),(18, .bool true),(19, .bool true),(20,undef),(21,undef),(22,undef),(23, .bool true),(24, .bool true),(25,undef),(26,undef),(27,undef),(28, .bool true),(29, .bool true),(30,undef),(31,undef),(32,undef),(33,undef),(34,undef),(35,undef),(36,undef),(37,undef),(38,undef),(39,undef),(40, .bool true),(41, .bool true),(42,undef),(43,undef),(44,undef),(45,undef),(46,undef),(47,undef),(48,undef),(49,undef),(50,undef),(51,undef),(52,undef),(53,undef),(54,undef),(55,undef),(56,undef),(57,undef),(58, .bool true)]) w1):c.wp Tryz.prog Q a w:=by
 have ok:(gRo2 cb n on nn oc nc mc tb id oa na ma w0 fp0 R).Ok 50:=Rg.ok _ 50 [1,2,5,8,11,12,13,16,17,18,21,22,23,24,25,26,27,28,29,30,33,34,35,36,37,38,39,40,41,42,43,44,45,46,47,48] ⟨.load _ 1 0 0, .lssB _ 2 (tb) (0) false h2, .load _ 5 0 0, .geqB _ 8 (tb) (((n:Nat):Int)) true h8, .skip _ 11, .skip _ 12, .skip _ 13, .skip _ 16, .skip _ 17, .skip _ 18, .skip _ 21, .skip _ 22, .skip _ 23, .skip _ 24, .skip _ 25, .skip _ 26, .skip _ 27, .skip _ 28, .skip _ 29, .skip _ 30, .skip _ 33, .skip _ 34, .skip _ 35, .skip _ 36, .skip _ 37, .skip _ 38, .skip _ 39, .skip _ 40, .skip _ 41, .skip _ 42, .skip _ 43, .skip _ 44, .skip _ 45, .skip _ 46, .skip _ 47, .skip _ 48,trivial⟩
 refine wp_regD ok (by kernel_rfl) ⟨c1,c2⟩ ⟨c3,fun p hp=> ?_⟩ hS fun A1 w1 N1 H1=> ?_
 · simp only [gRo2,rgx,List.map_nil,List.append_nil,List.mem_cons,List.not_mem_nil,or_false] at hp
   rcases hp with rfl | rfl
   · exact i3
   · exact i0
 have e9:=N1.val 0 rfl
 have e10:=N1.val 1 rfl
 have e11:=N1.val 2 rfl
 have e12:=N1.val 3 rfl
 have e13:=N1.val 4 rfl
 have e14:=N1.val 5 rfl
 have e15:=N1.val 6 rfl
 have e16:=N1.val 7 rfl
 have e17:=N1.val 8 rfl
 have e18:=N1.val 9 rfl
 have e19:=N1.val 10 rfl
 have e20:=N1.val 11 rfl
 have e21:=N1.val 12 rfl
 have e22:=N1.val 13 rfl
 have e23:=N1.val 14 rfl
 have e24:=N1.val 15 rfl
 have e25:=N1.val 16 rfl
 have e26:=N1.val 17 rfl
 have e27:=N1.val 18 rfl
 have e28:=N1.val 19 rfl
 have e29:=N1.val 20 rfl
 have e30:=N1.val 21 rfl
 have e31:=N1.val 22 rfl
 have e32:=N1.val 23 rfl
 have e33:=N1.val 24 rfl
 have e34:=N1.val 25 rfl
 have e35:=N1.val 26 rfl
 have e36:=N1.val 27 rfl
 have e37:=N1.val 28 rfl
 have e38:=N1.val 29 rfl
 have e39:=N1.val 30 rfl
 have e40:=N1.val 31 rfl
 have e41:=N1.val 32 rfl
 have e42:=N1.val 33 rfl
 have e43:=N1.val 34 rfl
 have e44:=N1.val 35 rfl
 have e45:=N1.val 36 rfl
 have e46:=N1.val 37 rfl
 have e47:=N1.val 38 rfl
 have e48:=N1.val 39 rfl
 have e49:=N1.val 40 rfl
 have e50:=N1.val 41 rfl
 have e51:=N1.val 42 rfl
 have e52:=N1.val 43 rfl
 have e53:=N1.val 44 rfl
 have e54:=N1.val 45 rfl
 have e55:=N1.val 46 rfl
 have e56:=N1.val 47 rfl
 have e57:=N1.val 48 rfl
 have e58:=N1.val 49 rfl
 have h:=hQ  w1  H1
 rw [frame_eq N1.frame (cons_eq e9 (cons_eq e10 (cons_eq e11 (cons_eq e12 (cons_eq e13 (cons_eq e14 (cons_eq e15 (cons_eq e16 (cons_eq e17 (cons_eq e18 (cons_eq e19 (cons_eq e20 (cons_eq e21 (cons_eq e22 (cons_eq e23 (cons_eq e24 (cons_eq e25 (cons_eq e26 (cons_eq e27 (cons_eq e28 (cons_eq e29 (cons_eq e30 (cons_eq e31 (cons_eq e32 (cons_eq e33 (cons_eq e34 (cons_eq e35 (cons_eq e36 (cons_eq e37 (cons_eq e38 (cons_eq e39 (cons_eq e40 (cons_eq e41 (cons_eq e42 (cons_eq e43 (cons_eq e44 (cons_eq e45 (cons_eq e46 (cons_eq e47 (cons_eq e48 (cons_eq e49 (cons_eq e50 (cons_eq e51 (cons_eq e52 (cons_eq e53 (cons_eq e54 (cons_eq e55 (cons_eq e56 (cons_eq e57 (cons_eq e58 rfl))))))))))))))))))))))))))))))))))))))))))))))))))]
 exact h
noncomputable def gRoA (cb n on nn oc nc mc:Nat) (tb id:Int) (oa na ma:Option Addr):=rgx Tryz.prog Tryz.f16 1 132 [9,10,11,12,13,14,15,16,17,18,19,20,21,22,23,24,25,26,27,28,29,30,31,32,33,34,35,36,37,38,39,40,41,42,43,44,45,46,47,48,49,50,51,52,53,54,55,56,57,58] [(3,pV cb 0),(0, .slice ma n mc)] (Vq 0 9 [Kp cb 0,Kv (.int .i64 tb),Kv (.bool false),Kv (.bool false),Kp cb 0,Kv (.int .i64 tb),Kv (.slice ma n mc),Kv (.int .i64 (n:Nat)),Kv (.bool false),Kv (.bool false),Kv (.bool false),Kp cb 1,Kv (.int .i64 id),Kv (.bool true),Kv (.bool true),Kv (.bool true),Kv undef,Kv undef,Kv undef,Kv (.bool true),Kv (.bool true),Kv undef,Kv undef,Kv undef,Kv undef,Kv undef,Kv undef,Kv undef,Kv undef,Kv undef,Kv undef,Kv (.bool true),Kv (.bool true),Kv undef,Kv undef,Kv undef,Kv undef,Kv undef,Kv undef,Kv undef,Kv undef,Kv undef,Kv undef,Kv undef,Kv undef,Kv undef,Kv undef,Kv undef,Kv undef,Kv (.bool true)]) [Bk cb (35) [.int .i64 tb, .int .i64 id, .slice oa on oc, .slice na nn nc]]
theorem rRoA (cb n on nn oc nc mc:Nat) (tb id:Int) (oa na ma:Option Addr) (w0:World) (fp0:List Nat) (R:List Asn) (h2:decide (tb < 0)=false) (h8:decide (((n:Nat):Int)≤tb)=false) (h13:decide (id < 1)=true) {w:World} {c:Code} {a:Act} {Q:Exit→Act→World→Prop} (c1:isReg c=true) (c2:cops c=opsR Tryz.f16 1) (c3:a.tmps.size=132) (_c4:a.defers=a.defers) (i3:a.eval (.tmp 3)=.pointer (some ⟨cb,0,none⟩)) (i0:a.eval (.tmp 0)=.slice ma n mc)
 (hS:St w0 fp0 ([blkA cb (35) #[.int .i64 tb, .int .i64 id, .slice oa on oc, .slice na nn nc]]++R) w)
 (hQ:∀(w1:World),St w0 fp0 ([blkA cb (35) #[.int .i64 tb, .int .i64 id, .slice oa on oc, .slice na nn nc]]++R) w1→Q .normal (putL a [(9, .pointer (some ⟨cb,0,none⟩)),(10, .int .i64 tb),(11, .bool false),(12, .bool false),(13, .pointer (some ⟨cb,0,none⟩)),(14, .int .i64 tb),(15, .slice ma n mc),(16, .int .i64 (n:Nat)),(17, .bool false),(18, .bool false),(19, .bool false),(20, .pointer (some ⟨cb,1,none⟩)),(21, .int .i64 id),(22, .bool true),(23, .bool true),(24, .bool true),(25,undef),(26,undef),(27,undef),(28, .bool true),(29, .bool true),(30,undef),(31,undef),(32,undef),(33,undef),(34,undef),(35,undef),(36,undef),(37,undef),(38,undef),(39,undef),(40, .bool true),(41, .bool true),(42,undef),(43,undef),(44,undef),(45,undef),(46,undef),(47,undef),(48,undef),(49,undef),(50,undef),(51,undef),(52,undef),(53,undef),(54,undef),(55,undef),(56,undef),(57,undef),(58, .bool true)]) w1):c.wp Tryz.prog Q a w:=by
 have ok:(gRoA cb n on nn oc nc mc tb id oa na ma w0 fp0 R).Ok 50:=Rg.ok _ 50 [1,2,5,8,12,13,16,17,18,21,22,23,24,25,26,27,28,29,30,33,34,35,36,37,38,39,40,41,42,43,44,45,46,47,48] ⟨.load _ 1 0 0, .lssB _ 2 (tb) (0) false h2, .load _ 5 0 0, .geqB _ 8 (tb) (((n:Nat):Int)) false h8, .load _ 12 0 1, .lssB _ 13 (id) (1) true h13, .skip _ 16, .skip _ 17, .skip _ 18, .skip _ 21, .skip _ 22, .skip _ 23, .skip _ 24, .skip _ 25, .skip _ 26, .skip _ 27, .skip _ 28, .skip _ 29, .skip _ 30, .skip _ 33, .skip _ 34, .skip _ 35, .skip _ 36, .skip _ 37, .skip _ 38, .skip _ 39, .skip _ 40, .skip _ 41, .skip _ 42, .skip _ 43, .skip _ 44, .skip _ 45, .skip _ 46, .skip _ 47, .skip _ 48,trivial⟩
 refine wp_regD ok (by kernel_rfl) ⟨c1,c2⟩ ⟨c3,fun p hp=> ?_⟩ hS fun A1 w1 N1 H1=> ?_
 · simp only [gRoA,rgx,List.map_nil,List.append_nil,List.mem_cons,List.not_mem_nil,or_false] at hp
   rcases hp with rfl | rfl
   · exact i3
   · exact i0
 have e9:=N1.val 0 rfl
 have e10:=N1.val 1 rfl
 have e11:=N1.val 2 rfl
 have e12:=N1.val 3 rfl
 have e13:=N1.val 4 rfl
 have e14:=N1.val 5 rfl
 have e15:=N1.val 6 rfl
 have e16:=N1.val 7 rfl
 have e17:=N1.val 8 rfl
 have e18:=N1.val 9 rfl
 have e19:=N1.val 10 rfl
 have e20:=N1.val 11 rfl
 have e21:=N1.val 12 rfl
 have e22:=N1.val 13 rfl
 have e23:=N1.val 14 rfl
 have e24:=N1.val 15 rfl
 have e25:=N1.val 16 rfl
 have e26:=N1.val 17 rfl
 have e27:=N1.val 18 rfl
 have e28:=N1.val 19 rfl
 have e29:=N1.val 20 rfl
 have e30:=N1.val 21 rfl
 have e31:=N1.val 22 rfl
 have e32:=N1.val 23 rfl
 have e33:=N1.val 24 rfl
 have e34:=N1.val 25 rfl
 have e35:=N1.val 26 rfl
 have e36:=N1.val 27 rfl
 have e37:=N1.val 28 rfl
 have e38:=N1.val 29 rfl
 have e39:=N1.val 30 rfl
 have e40:=N1.val 31 rfl
 have e41:=N1.val 32 rfl
 have e42:=N1.val 33 rfl
 have e43:=N1.val 34 rfl
 have e44:=N1.val 35 rfl
 have e45:=N1.val 36 rfl
 have e46:=N1.val 37 rfl
 have e47:=N1.val 38 rfl
 have e48:=N1.val 39 rfl
 have e49:=N1.val 40 rfl
 have e50:=N1.val 41 rfl
 have e51:=N1.val 42 rfl
 have e52:=N1.val 43 rfl
 have e53:=N1.val 44 rfl
 have e54:=N1.val 45 rfl
 have e55:=N1.val 46 rfl
 have e56:=N1.val 47 rfl
 have e57:=N1.val 48 rfl
 have e58:=N1.val 49 rfl
 have h:=hQ  w1  H1
 rw [frame_eq N1.frame (cons_eq e9 (cons_eq e10 (cons_eq e11 (cons_eq e12 (cons_eq e13 (cons_eq e14 (cons_eq e15 (cons_eq e16 (cons_eq e17 (cons_eq e18 (cons_eq e19 (cons_eq e20 (cons_eq e21 (cons_eq e22 (cons_eq e23 (cons_eq e24 (cons_eq e25 (cons_eq e26 (cons_eq e27 (cons_eq e28 (cons_eq e29 (cons_eq e30 (cons_eq e31 (cons_eq e32 (cons_eq e33 (cons_eq e34 (cons_eq e35 (cons_eq e36 (cons_eq e37 (cons_eq e38 (cons_eq e39 (cons_eq e40 (cons_eq e41 (cons_eq e42 (cons_eq e43 (cons_eq e44 (cons_eq e45 (cons_eq e46 (cons_eq e47 (cons_eq e48 (cons_eq e49 (cons_eq e50 (cons_eq e51 (cons_eq e52 (cons_eq e53 (cons_eq e54 (cons_eq e55 (cons_eq e56 (cons_eq e57 (cons_eq e58 rfl))))))))))))))))))))))))))))))))))))))))))))))))))]
 exact h
noncomputable def gRoB (cb n on nn oc nc mc:Nat) (tb id:Int) (oa na ma:Option Addr):=rgx Tryz.prog Tryz.f16 1 132 [9,10,11,12,13,14,15,16,17,18,19,20,21,22,23,24,25,26,27,28,29,30,31,32,33,34,35,36,37,38,39,40,41,42,43,44,45,46,47,48,49,50,51,52,53,54,55,56,57,58] [(3,pV cb 0),(0, .slice ma n mc)] (Vq 0 9 [Kp cb 0,Kv (.int .i64 tb),Kv (.bool false),Kv (.bool false),Kp cb 0,Kv (.int .i64 tb),Kv (.slice ma n mc),Kv (.int .i64 (n:Nat)),Kv (.bool false),Kv (.bool false),Kv (.bool false),Kp cb 1,Kv (.int .i64 id),Kv (.bool false),Kv (.bool false),Kv (.bool false),Kp cb 1,Kv (.int .i64 id),Kv (.bool true),Kv (.bool true),Kv (.bool true),Kv undef,Kv undef,Kv undef,Kv undef,Kv undef,Kv undef,Kv undef,Kv undef,Kv undef,Kv undef,Kv (.bool true),Kv (.bool true),Kv undef,Kv undef,Kv undef,Kv undef,Kv undef,Kv undef,Kv undef,Kv undef,Kv undef,Kv undef,Kv undef,Kv undef,Kv undef,Kv undef,Kv undef,Kv undef,Kv (.bool true)]) [Bk cb (35) [.int .i64 tb, .int .i64 id, .slice oa on oc, .slice na nn nc]]
theorem rRoB (cb n on nn oc nc mc:Nat) (tb id:Int) (oa na ma:Option Addr) (w0:World) (fp0:List Nat) (R:List Asn) (h2:decide (tb < 0)=false) (h8:decide (((n:Nat):Int)≤tb)=false) (h13:decide (id < 1)=false) (h18:decide (4611686018427387904 < id)=true) {w:World} {c:Code} {a:Act} {Q:Exit→Act→World→Prop} (c1:isReg c=true) (c2:cops c=opsR Tryz.f16 1) (c3:a.tmps.size=132) (_c4:a.defers=a.defers) (i3:a.eval (.tmp 3)=.pointer (some ⟨cb,0,none⟩)) (i0:a.eval (.tmp 0)=.slice ma n mc)
 (hS:St w0 fp0 ([blkA cb (35) #[.int .i64 tb, .int .i64 id, .slice oa on oc, .slice na nn nc]]++R) w)
 (hQ:∀(w1:World),St w0 fp0 ([blkA cb (35) #[.int .i64 tb, .int .i64 id, .slice oa on oc, .slice na nn nc]]++R) w1→Q .normal (putL a [(9, .pointer (some ⟨cb,0,none⟩)),(10, .int .i64 tb),(11, .bool false),(12, .bool false),(13, .pointer (some ⟨cb,0,none⟩)),(14, .int .i64 tb),(15, .slice ma n mc),(16, .int .i64 (n:Nat)),(17, .bool false),(18, .bool false),(19, .bool false),(20, .pointer (some ⟨cb,1,none⟩)),(21, .int .i64 id),(22, .bool false),(23, .bool false),(24, .bool false),(25, .pointer (some ⟨cb,1,none⟩)),(26, .int .i64 id),(27, .bool true),(28, .bool true),(29, .bool true),(30,undef),(31,undef),(32,undef),(33,undef),(34,undef),(35,undef),(36,undef),(37,undef),(38,undef),(39,undef),(40, .bool true),(41, .bool true),(42,undef),(43,undef),(44,undef),(45,undef),(46,undef),(47,undef),(48,undef),(49,undef),(50,undef),(51,undef),(52,undef),(53,undef),(54,undef),(55,undef),(56,undef),(57,undef),(58, .bool true)]) w1):c.wp Tryz.prog Q a w:=by
 have ok:(gRoB cb n on nn oc nc mc tb id oa na ma w0 fp0 R).Ok 50:=Rg.ok _ 50 [1,2,5,8,12,13,17,18,21,22,23,24,25,26,27,28,29,30,33,34,35,36,37,38,39,40,41,42,43,44,45,46,47,48] ⟨.load _ 1 0 0, .lssB _ 2 (tb) (0) false h2, .load _ 5 0 0, .geqB _ 8 (tb) (((n:Nat):Int)) false h8, .load _ 12 0 1, .lssB _ 13 (id) (1) false h13, .load _ 17 0 1, .gtrB _ 18 (id) (4611686018427387904) true h18, .skip _ 21, .skip _ 22, .skip _ 23, .skip _ 24, .skip _ 25, .skip _ 26, .skip _ 27, .skip _ 28, .skip _ 29, .skip _ 30, .skip _ 33, .skip _ 34, .skip _ 35, .skip _ 36, .skip _ 37, .skip _ 38, .skip _ 39, .skip _ 40, .skip _ 41, .skip _ 42, .skip _ 43, .skip _ 44, .skip _ 45, .skip _ 46, .skip _ 47, .skip _ 48,trivial⟩
 refine wp_regD ok (by kernel_rfl) ⟨c1,c2⟩ ⟨c3,fun p hp=> ?_⟩ hS fun A1 w1 N1 H1=> ?_
 · simp only [gRoB,rgx,List.map_nil,List.append_nil,List.mem_cons,List.not_mem_nil,or_false] at hp
   rcases hp with rfl | rfl
   · exact i3
   · exact i0
 have e9:=N1.val 0 rfl
 have e10:=N1.val 1 rfl
 have e11:=N1.val 2 rfl
 have e12:=N1.val 3 rfl
 have e13:=N1.val 4 rfl
 have e14:=N1.val 5 rfl
 have e15:=N1.val 6 rfl
 have e16:=N1.val 7 rfl
 have e17:=N1.val 8 rfl
 have e18:=N1.val 9 rfl
 have e19:=N1.val 10 rfl
 have e20:=N1.val 11 rfl
 have e21:=N1.val 12 rfl
 have e22:=N1.val 13 rfl
 have e23:=N1.val 14 rfl
 have e24:=N1.val 15 rfl
 have e25:=N1.val 16 rfl
 have e26:=N1.val 17 rfl
 have e27:=N1.val 18 rfl
 have e28:=N1.val 19 rfl
 have e29:=N1.val 20 rfl
 have e30:=N1.val 21 rfl
 have e31:=N1.val 22 rfl
 have e32:=N1.val 23 rfl
 have e33:=N1.val 24 rfl
 have e34:=N1.val 25 rfl
 have e35:=N1.val 26 rfl
 have e36:=N1.val 27 rfl
 have e37:=N1.val 28 rfl
 have e38:=N1.val 29 rfl
 have e39:=N1.val 30 rfl
 have e40:=N1.val 31 rfl
 have e41:=N1.val 32 rfl
 have e42:=N1.val 33 rfl
 have e43:=N1.val 34 rfl
 have e44:=N1.val 35 rfl
 have e45:=N1.val 36 rfl
 have e46:=N1.val 37 rfl
 have e47:=N1.val 38 rfl
 have e48:=N1.val 39 rfl
 have e49:=N1.val 40 rfl
 have e50:=N1.val 41 rfl
 have e51:=N1.val 42 rfl
 have e52:=N1.val 43 rfl
 have e53:=N1.val 44 rfl
 have e54:=N1.val 45 rfl
 have e55:=N1.val 46 rfl
 have e56:=N1.val 47 rfl
 have e57:=N1.val 48 rfl
 have e58:=N1.val 49 rfl
 have h:=hQ  w1  H1
 rw [frame_eq N1.frame (cons_eq e9 (cons_eq e10 (cons_eq e11 (cons_eq e12 (cons_eq e13 (cons_eq e14 (cons_eq e15 (cons_eq e16 (cons_eq e17 (cons_eq e18 (cons_eq e19 (cons_eq e20 (cons_eq e21 (cons_eq e22 (cons_eq e23 (cons_eq e24 (cons_eq e25 (cons_eq e26 (cons_eq e27 (cons_eq e28 (cons_eq e29 (cons_eq e30 (cons_eq e31 (cons_eq e32 (cons_eq e33 (cons_eq e34 (cons_eq e35 (cons_eq e36 (cons_eq e37 (cons_eq e38 (cons_eq e39 (cons_eq e40 (cons_eq e41 (cons_eq e42 (cons_eq e43 (cons_eq e44 (cons_eq e45 (cons_eq e46 (cons_eq e47 (cons_eq e48 (cons_eq e49 (cons_eq e50 (cons_eq e51 (cons_eq e52 (cons_eq e53 (cons_eq e54 (cons_eq e55 (cons_eq e56 (cons_eq e57 (cons_eq e58 rfl))))))))))))))))))))))))))))))))))))))))))))))))))]
 exact h
noncomputable def gRoC (cb n on nn oc nc mc:Nat) (tb id:Int) (oa na ma:Option Addr):=rgx Tryz.prog Tryz.f16 1 132 [9,10,11,12,13,14,15,16,17,18,19,20,21,22,23,24,25,26,27,28,29,30,31,32,33,34,35,36,37,38,39,40,41,42,43,44,45,46,47,48,49,50,51,52,53,54,55,56,57,58] [(3,pV cb 0),(0, .slice ma n mc)] (Vq 0 9 [Kp cb 0,Kv (.int .i64 tb),Kv (.bool false),Kv (.bool false),Kp cb 0,Kv (.int .i64 tb),Kv (.slice ma n mc),Kv (.int .i64 (n:Nat)),Kv (.bool false),Kv (.bool false),Kv (.bool false),Kp cb 1,Kv (.int .i64 id),Kv (.bool false),Kv (.bool false),Kv (.bool false),Kp cb 1,Kv (.int .i64 id),Kv (.bool false),Kv (.bool false),Kv (.bool false),Kp cb 2,Kv (.slice oa on oc),Kv (.int .i64 (on:Nat)),Kv (.bool true),Kv (.bool true),Kp cb 3,Kv (.slice na nn nc),Kv (.int .i64 (nn:Nat)),Kv (.bool true),Kv (.bool true),Kv (.bool true),Kv (.bool true),Kv undef,Kv undef,Kv undef,Kv undef,Kv undef,Kv undef,Kv undef,Kv undef,Kv undef,Kv undef,Kv undef,Kv undef,Kv undef,Kv undef,Kv undef,Kv undef,Kv (.bool true)]) [Bk cb (35) [.int .i64 tb, .int .i64 id, .slice oa on oc, .slice na nn nc]]
theorem rRoC (cb n on nn oc nc mc:Nat) (tb id:Int) (oa na ma:Option Addr) (w0:World) (fp0:List Nat) (R:List Asn) (h2:decide (tb < 0)=false) (h8:decide (((n:Nat):Int)≤tb)=false) (h13:decide (id < 1)=false) (h18:decide (4611686018427387904 < id)=false) (h24:decide (((on:Nat):Int)=0)=true) (h29:decide (((nn:Nat):Int)=0)=true) {w:World} {c:Code} {a:Act} {Q:Exit→Act→World→Prop} (c1:isReg c=true) (c2:cops c=opsR Tryz.f16 1) (c3:a.tmps.size=132) (_c4:a.defers=a.defers) (i3:a.eval (.tmp 3)=.pointer (some ⟨cb,0,none⟩)) (i0:a.eval (.tmp 0)=.slice ma n mc)
 (hS:St w0 fp0 ([blkA cb (35) #[.int .i64 tb, .int .i64 id, .slice oa on oc, .slice na nn nc]]++R) w)
 (hQ:∀(w1:World),St w0 fp0 ([blkA cb (35) #[.int .i64 tb, .int .i64 id, .slice oa on oc, .slice na nn nc]]++R) w1→Q .normal (putL a [(9, .pointer (some ⟨cb,0,none⟩)),(10, .int .i64 tb),(11, .bool false),(12, .bool false),(13, .pointer (some ⟨cb,0,none⟩)),(14, .int .i64 tb),(15, .slice ma n mc),(16, .int .i64 (n:Nat)),(17, .bool false),(18, .bool false),(19, .bool false),(20, .pointer (some ⟨cb,1,none⟩)),(21, .int .i64 id),(22, .bool false),(23, .bool false),(24, .bool false),(25, .pointer (some ⟨cb,1,none⟩)),(26, .int .i64 id),(27, .bool false),(28, .bool false),(29, .bool false),(30, .pointer (some ⟨cb,2,none⟩)),(31, .slice oa on oc),(32, .int .i64 (on:Nat)),(33, .bool true),(34, .bool true),(35, .pointer (some ⟨cb,3,none⟩)),(36, .slice na nn nc),(37, .int .i64 (nn:Nat)),(38, .bool true),(39, .bool true),(40, .bool true),(41, .bool true),(42,undef),(43,undef),(44,undef),(45,undef),(46,undef),(47,undef),(48,undef),(49,undef),(50,undef),(51,undef),(52,undef),(53,undef),(54,undef),(55,undef),(56,undef),(57,undef),(58, .bool true)]) w1):c.wp Tryz.prog Q a w:=by
 have ok:(gRoC cb n on nn oc nc mc tb id oa na ma w0 fp0 R).Ok 50:=Rg.ok _ 50 [1,2,5,8,12,13,17,18,22,24,27,29,33,34,35,36,37,38,39,40,41,42,43,44,45,46,47,48] ⟨.load _ 1 0 0, .lssB _ 2 (tb) (0) false h2, .load _ 5 0 0, .geqB _ 8 (tb) (((n:Nat):Int)) false h8, .load _ 12 0 1, .lssB _ 13 (id) (1) false h13, .load _ 17 0 1, .gtrB _ 18 (id) (4611686018427387904) false h18, .load _ 22 0 2, .eqlB _ 24 (((on:Nat):Int)) (0) true h24, .load _ 27 0 3, .eqlB _ 29 (((nn:Nat):Int)) (0) true h29, .skip _ 33, .skip _ 34, .skip _ 35, .skip _ 36, .skip _ 37, .skip _ 38, .skip _ 39, .skip _ 40, .skip _ 41, .skip _ 42, .skip _ 43, .skip _ 44, .skip _ 45, .skip _ 46, .skip _ 47, .skip _ 48,trivial⟩
 refine wp_regD ok (by kernel_rfl) ⟨c1,c2⟩ ⟨c3,fun p hp=> ?_⟩ hS fun A1 w1 N1 H1=> ?_
 · simp only [gRoC,rgx,List.map_nil,List.append_nil,List.mem_cons,List.not_mem_nil,or_false] at hp
   rcases hp with rfl | rfl
   · exact i3
   · exact i0
 have e9:=N1.val 0 rfl
 have e10:=N1.val 1 rfl
 have e11:=N1.val 2 rfl
 have e12:=N1.val 3 rfl
 have e13:=N1.val 4 rfl
 have e14:=N1.val 5 rfl
 have e15:=N1.val 6 rfl
 have e16:=N1.val 7 rfl
 have e17:=N1.val 8 rfl
 have e18:=N1.val 9 rfl
 have e19:=N1.val 10 rfl
 have e20:=N1.val 11 rfl
 have e21:=N1.val 12 rfl
 have e22:=N1.val 13 rfl
 have e23:=N1.val 14 rfl
 have e24:=N1.val 15 rfl
 have e25:=N1.val 16 rfl
 have e26:=N1.val 17 rfl
 have e27:=N1.val 18 rfl
 have e28:=N1.val 19 rfl
 have e29:=N1.val 20 rfl
 have e30:=N1.val 21 rfl
 have e31:=N1.val 22 rfl
 have e32:=N1.val 23 rfl
 have e33:=N1.val 24 rfl
 have e34:=N1.val 25 rfl
 have e35:=N1.val 26 rfl
 have e36:=N1.val 27 rfl
 have e37:=N1.val 28 rfl
 have e38:=N1.val 29 rfl
 have e39:=N1.val 30 rfl
 have e40:=N1.val 31 rfl
 have e41:=N1.val 32 rfl
 have e42:=N1.val 33 rfl
 have e43:=N1.val 34 rfl
 have e44:=N1.val 35 rfl
 have e45:=N1.val 36 rfl
 have e46:=N1.val 37 rfl
 have e47:=N1.val 38 rfl
 have e48:=N1.val 39 rfl
 have e49:=N1.val 40 rfl
 have e50:=N1.val 41 rfl
 have e51:=N1.val 42 rfl
 have e52:=N1.val 43 rfl
 have e53:=N1.val 44 rfl
 have e54:=N1.val 45 rfl
 have e55:=N1.val 46 rfl
 have e56:=N1.val 47 rfl
 have e57:=N1.val 48 rfl
 have e58:=N1.val 49 rfl
 have h:=hQ  w1  H1
 rw [frame_eq N1.frame (cons_eq e9 (cons_eq e10 (cons_eq e11 (cons_eq e12 (cons_eq e13 (cons_eq e14 (cons_eq e15 (cons_eq e16 (cons_eq e17 (cons_eq e18 (cons_eq e19 (cons_eq e20 (cons_eq e21 (cons_eq e22 (cons_eq e23 (cons_eq e24 (cons_eq e25 (cons_eq e26 (cons_eq e27 (cons_eq e28 (cons_eq e29 (cons_eq e30 (cons_eq e31 (cons_eq e32 (cons_eq e33 (cons_eq e34 (cons_eq e35 (cons_eq e36 (cons_eq e37 (cons_eq e38 (cons_eq e39 (cons_eq e40 (cons_eq e41 (cons_eq e42 (cons_eq e43 (cons_eq e44 (cons_eq e45 (cons_eq e46 (cons_eq e47 (cons_eq e48 (cons_eq e49 (cons_eq e50 (cons_eq e51 (cons_eq e52 (cons_eq e53 (cons_eq e54 (cons_eq e55 (cons_eq e56 (cons_eq e57 (cons_eq e58 rfl))))))))))))))))))))))))))))))))))))))))))))))))))]
 exact h
noncomputable def gRoD (cb n on nn oc nc mb mo mc k cols:Nat) (id:Int) (oa na:Option Addr) (q:Bool):=rgx Tryz.prog Tryz.f16 1 132 [9,10,11,12,13,14,15,16,17,18,19,20,21,22,23,24,25,26,27,28,29,30,31,32,33,34,35,36,37,38,39,40,41,42,43,44,45,46,47,48,49,50,51,52,53,54,55,56,57,58] [(3,pV cb 0),(0, .slice (some ⟨mb,mo,none⟩) n mc)] (Vq 0 9 [Kp cb 0,Kv (.int .i64 k),Kv (.bool false),Kv (.bool false),Kp cb 0,Kv (.int .i64 k),Kv (.slice (some ⟨mb,mo,none⟩) n mc),Kv (.int .i64 (n:Nat)),Kv (.bool false),Kv (.bool false),Kv (.bool false),Kp cb 1,Kv (.int .i64 id),Kv (.bool false),Kv (.bool false),Kv (.bool false),Kp cb 1,Kv (.int .i64 id),Kv (.bool false),Kv (.bool false),Kv (.bool false),Kp cb 2,Kv (.slice oa on oc),Kv (.int .i64 (on:Nat)),Kv (.bool true),Kv (.bool true),Kp cb 3,Kv (.slice na nn nc),Kv (.int .i64 (nn:Nat)),Kv (.bool false),Kv (.bool false),Kv (.bool false),Kv (.bool false),Kp cb 3,Kv (.slice na nn nc),Kv (.int .i64 (nn:Nat)),Kv (.bool true),Kv (.bool true),Kv (.slice (some ⟨mb,mo,none⟩) n mc),Kp cb 0,Kv (.int .i64 k),Kp mb (mo+k * 3),Kp mb (mo+k * 3),Kv (.int .i64 (cols:Nat)),Kp cb 3,Kv (.slice na nn nc),Kv (.bool q),Kv (.bool (!q)),Kv (.bool (!q)),Kv (.bool (!q))]) [Bk cb (35) [.int .i64 k, .int .i64 id, .slice oa on oc, .slice na nn nc]]
theorem rRoD (cb n on nn oc nc mb mo mc k cols:Nat) (id:Int) (oa na:Option Addr) (q:Bool) (w0:World) (fp0:List Nat) (R:List Asn) (h2:decide (((k:Nat):Int) < 0)=false) (h8:decide (((n:Nat):Int)≤((k:Nat):Int))=false) (h13:decide (id < 1)=false) (h18:decide (4611686018427387904 < id)=false) (h24:decide (((on:Nat):Int)=0)=true) (h29:decide (((nn:Nat):Int)=0)=false) (h36:decide (0 < ((nn:Nat):Int))=true) (hk:k < n) (hcol:∀L w,St w0 fp0 (L++R) w→w.cell? ⟨mb,mo+k * 3,none⟩=some (.int .i64 cols)) (hsto:∀L w,St w0 fp0 (L++R) w→Calls Tryz.prog 45 #[.int .i64 cols, .slice na nn nc] w fun e w'=> e=.returned (.bool q)∧Below w.heap.size w w') {w:World} {c:Code} {a:Act} {Q:Exit→Act→World→Prop} (c1:isReg c=true) (c2:cops c=opsR Tryz.f16 1) (c3:a.tmps.size=132) (_c4:a.defers=a.defers) (i3:a.eval (.tmp 3)=.pointer (some ⟨cb,0,none⟩)) (i0:a.eval (.tmp 0)=.slice (some ⟨mb,mo,none⟩) n mc)
 (hS:St w0 fp0 ([blkA cb (35) #[.int .i64 k, .int .i64 id, .slice oa on oc, .slice na nn nc]]++R) w)
 (hQ:∀(w1:World),St w0 fp0 ([blkA cb (35) #[.int .i64 k, .int .i64 id, .slice oa on oc, .slice na nn nc]]++R) w1→Q .normal (putL a [(9, .pointer (some ⟨cb,0,none⟩)),(10, .int .i64 k),(11, .bool false),(12, .bool false),(13, .pointer (some ⟨cb,0,none⟩)),(14, .int .i64 k),(15, .slice (some ⟨mb,mo,none⟩) n mc),(16, .int .i64 (n:Nat)),(17, .bool false),(18, .bool false),(19, .bool false),(20, .pointer (some ⟨cb,1,none⟩)),(21, .int .i64 id),(22, .bool false),(23, .bool false),(24, .bool false),(25, .pointer (some ⟨cb,1,none⟩)),(26, .int .i64 id),(27, .bool false),(28, .bool false),(29, .bool false),(30, .pointer (some ⟨cb,2,none⟩)),(31, .slice oa on oc),(32, .int .i64 (on:Nat)),(33, .bool true),(34, .bool true),(35, .pointer (some ⟨cb,3,none⟩)),(36, .slice na nn nc),(37, .int .i64 (nn:Nat)),(38, .bool false),(39, .bool false),(40, .bool false),(41, .bool false),(42, .pointer (some ⟨cb,3,none⟩)),(43, .slice na nn nc),(44, .int .i64 (nn:Nat)),(45, .bool true),(46, .bool true),(47, .slice (some ⟨mb,mo,none⟩) n mc),(48, .pointer (some ⟨cb,0,none⟩)),(49, .int .i64 k),(50, .pointer (some ⟨mb,mo+k * 3,none⟩)),(51, .pointer (some ⟨mb,mo+k * 3,none⟩)),(52, .int .i64 (cols:Nat)),(53, .pointer (some ⟨cb,3,none⟩)),(54, .slice na nn nc),(55, .bool q),(56, .bool (!q)),(57, .bool (!q)),(58, .bool (!q))]) w1):c.wp Tryz.prog Q a w:=by
 have ok:(gRoD cb n on nn oc nc mb mo mc k cols id oa na q w0 fp0 R).Ok 50:=Rg.ok _ 50 [1,2,5,8,12,13,17,18,22,24,27,29,34,36,40,41,43,45,46] ⟨.load _ 1 0 0, .lssB _ 2 ((k:Nat):Int) (0) false h2, .load _ 5 0 0, .geqB _ 8 ((k:Nat):Int) (((n:Nat):Int)) false h8, .load _ 12 0 1, .lssB _ 13 (id) (1) false h13, .load _ 17 0 1, .gtrB _ 18 (id) (4611686018427387904) false h18, .load _ 22 0 2, .eqlB _ 24 (((on:Nat):Int)) (0) true h24, .load _ 27 0 3, .eqlB _ 29 (((nn:Nat):Int)) (0) false h29, .load _ 34 0 3, .gtrB _ 36 (((nn:Nat):Int)) (0) true h36, .load _ 40 0 0, .indexO _ 41 mb mo n mc k 3 hk, .loadR1 _ 43 (.int .i64 (cols:Nat)) hcol, .load _ 45 0 3, .askR _ 46 hsto,trivial⟩
 refine wp_regD ok (by kernel_rfl) ⟨c1,c2⟩ ⟨c3,fun p hp=> ?_⟩ hS fun A1 w1 N1 H1=> ?_
 · simp only [gRoD,rgx,List.map_nil,List.append_nil,List.mem_cons,List.not_mem_nil,or_false] at hp
   rcases hp with rfl | rfl
   · exact i3
   · exact i0
 have e9:=N1.val 0 rfl
 have e10:=N1.val 1 rfl
 have e11:=N1.val 2 rfl
 have e12:=N1.val 3 rfl
 have e13:=N1.val 4 rfl
 have e14:=N1.val 5 rfl
 have e15:=N1.val 6 rfl
 have e16:=N1.val 7 rfl
 have e17:=N1.val 8 rfl
 have e18:=N1.val 9 rfl
 have e19:=N1.val 10 rfl
 have e20:=N1.val 11 rfl
 have e21:=N1.val 12 rfl
 have e22:=N1.val 13 rfl
 have e23:=N1.val 14 rfl
 have e24:=N1.val 15 rfl
 have e25:=N1.val 16 rfl
 have e26:=N1.val 17 rfl
 have e27:=N1.val 18 rfl
 have e28:=N1.val 19 rfl
 have e29:=N1.val 20 rfl
 have e30:=N1.val 21 rfl
 have e31:=N1.val 22 rfl
 have e32:=N1.val 23 rfl
 have e33:=N1.val 24 rfl
 have e34:=N1.val 25 rfl
 have e35:=N1.val 26 rfl
 have e36:=N1.val 27 rfl
 have e37:=N1.val 28 rfl
 have e38:=N1.val 29 rfl
 have e39:=N1.val 30 rfl
 have e40:=N1.val 31 rfl
 have e41:=N1.val 32 rfl
 have e42:=N1.val 33 rfl
 have e43:=N1.val 34 rfl
 have e44:=N1.val 35 rfl
 have e45:=N1.val 36 rfl
 have e46:=N1.val 37 rfl
 have e47:=N1.val 38 rfl
 have e48:=N1.val 39 rfl
 have e49:=N1.val 40 rfl
 have e50:=N1.val 41 rfl
 have e51:=N1.val 42 rfl
 have e52:=N1.val 43 rfl
 have e53:=N1.val 44 rfl
 have e54:=N1.val 45 rfl
 have e55:=N1.val 46 rfl
 have e56:=N1.val 47 rfl
 have e57:=N1.val 48 rfl
 have e58:=N1.val 49 rfl
 have h:=hQ  w1  H1
 rw [frame_eq N1.frame (cons_eq e9 (cons_eq e10 (cons_eq e11 (cons_eq e12 (cons_eq e13 (cons_eq e14 (cons_eq e15 (cons_eq e16 (cons_eq e17 (cons_eq e18 (cons_eq e19 (cons_eq e20 (cons_eq e21 (cons_eq e22 (cons_eq e23 (cons_eq e24 (cons_eq e25 (cons_eq e26 (cons_eq e27 (cons_eq e28 (cons_eq e29 (cons_eq e30 (cons_eq e31 (cons_eq e32 (cons_eq e33 (cons_eq e34 (cons_eq e35 (cons_eq e36 (cons_eq e37 (cons_eq e38 (cons_eq e39 (cons_eq e40 (cons_eq e41 (cons_eq e42 (cons_eq e43 (cons_eq e44 (cons_eq e45 (cons_eq e46 (cons_eq e47 (cons_eq e48 (cons_eq e49 (cons_eq e50 (cons_eq e51 (cons_eq e52 (cons_eq e53 (cons_eq e54 (cons_eq e55 (cons_eq e56 (cons_eq e57 (cons_eq e58 rfl))))))))))))))))))))))))))))))))))))))))))))))))))]
 exact h
noncomputable def gRoE (cb n on nn oc nc mc:Nat) (tb id:Int) (oa na ma:Option Addr):=rgx Tryz.prog Tryz.f16 1 132 [9,10,11,12,13,14,15,16,17,18,19,20,21,22,23,24,25,26,27,28,29,30,31,32,33,34,35,36,37,38,39,40,41,42,43,44,45,46,47,48,49,50,51,52,53,54,55,56,57,58] [(3,pV cb 0),(0, .slice ma n mc)] (Vq 0 9 [Kp cb 0,Kv (.int .i64 tb),Kv (.bool false),Kv (.bool false),Kp cb 0,Kv (.int .i64 tb),Kv (.slice ma n mc),Kv (.int .i64 (n:Nat)),Kv (.bool false),Kv (.bool false),Kv (.bool false),Kp cb 1,Kv (.int .i64 id),Kv (.bool false),Kv (.bool false),Kv (.bool false),Kp cb 1,Kv (.int .i64 id),Kv (.bool false),Kv (.bool false),Kv (.bool false),Kp cb 2,Kv (.slice oa on oc),Kv (.int .i64 (on:Nat)),Kv (.bool false),Kv (.bool false),Kv undef,Kv undef,Kv undef,Kv undef,Kv (.bool false),Kv (.bool false),Kv (.bool false),Kp cb 3,Kv (.slice na nn nc),Kv (.int .i64 (nn:Nat)),Kv (.bool false),Kv (.bool false),Kv undef,Kv undef,Kv undef,Kv undef,Kv undef,Kv undef,Kv undef,Kv undef,Kv undef,Kv undef,Kv (.bool false),Kv (.bool false)]) [Bk cb (35) [.int .i64 tb, .int .i64 id, .slice oa on oc, .slice na nn nc]]
theorem rRoE (cb n on nn oc nc mc:Nat) (tb id:Int) (oa na ma:Option Addr) (w0:World) (fp0:List Nat) (R:List Asn) (h2:decide (tb < 0)=false) (h8:decide (((n:Nat):Int)≤tb)=false) (h13:decide (id < 1)=false) (h18:decide (4611686018427387904 < id)=false) (h24:decide (((on:Nat):Int)=0)=false) (h36:decide (0 < ((nn:Nat):Int))=false) {w:World} {c:Code} {a:Act} {Q:Exit→Act→World→Prop} (c1:isReg c=true) (c2:cops c=opsR Tryz.f16 1) (c3:a.tmps.size=132) (_c4:a.defers=a.defers) (i3:a.eval (.tmp 3)=.pointer (some ⟨cb,0,none⟩)) (i0:a.eval (.tmp 0)=.slice ma n mc)
 (hS:St w0 fp0 ([blkA cb (35) #[.int .i64 tb, .int .i64 id, .slice oa on oc, .slice na nn nc]]++R) w)
 (hQ:∀(w1:World),St w0 fp0 ([blkA cb (35) #[.int .i64 tb, .int .i64 id, .slice oa on oc, .slice na nn nc]]++R) w1→Q .normal (putL a [(9, .pointer (some ⟨cb,0,none⟩)),(10, .int .i64 tb),(11, .bool false),(12, .bool false),(13, .pointer (some ⟨cb,0,none⟩)),(14, .int .i64 tb),(15, .slice ma n mc),(16, .int .i64 (n:Nat)),(17, .bool false),(18, .bool false),(19, .bool false),(20, .pointer (some ⟨cb,1,none⟩)),(21, .int .i64 id),(22, .bool false),(23, .bool false),(24, .bool false),(25, .pointer (some ⟨cb,1,none⟩)),(26, .int .i64 id),(27, .bool false),(28, .bool false),(29, .bool false),(30, .pointer (some ⟨cb,2,none⟩)),(31, .slice oa on oc),(32, .int .i64 (on:Nat)),(33, .bool false),(34, .bool false),(35,undef),(36,undef),(37,undef),(38,undef),(39, .bool false),(40, .bool false),(41, .bool false),(42, .pointer (some ⟨cb,3,none⟩)),(43, .slice na nn nc),(44, .int .i64 (nn:Nat)),(45, .bool false),(46, .bool false),(47,undef),(48,undef),(49,undef),(50,undef),(51,undef),(52,undef),(53,undef),(54,undef),(55,undef),(56,undef),(57, .bool false),(58, .bool false)]) w1):c.wp Tryz.prog Q a w:=by
 have ok:(gRoE cb n on nn oc nc mc tb id oa na ma w0 fp0 R).Ok 50:=Rg.ok _ 50 [1,2,5,8,12,13,17,18,22,24,26,27,28,29,34,36,38,39,40,41,42,43,44,45,46,47] ⟨.load _ 1 0 0, .lssB _ 2 (tb) (0) false h2, .load _ 5 0 0, .geqB _ 8 (tb) (((n:Nat):Int)) false h8, .load _ 12 0 1, .lssB _ 13 (id) (1) false h13, .load _ 17 0 1, .gtrB _ 18 (id) (4611686018427387904) false h18, .load _ 22 0 2, .eqlB _ 24 (((on:Nat):Int)) (0) false h24, .skip _ 26, .skip _ 27, .skip _ 28, .skip _ 29, .load _ 34 0 3, .gtrB _ 36 (((nn:Nat):Int)) (0) false h36, .skip _ 38, .skip _ 39, .skip _ 40, .skip _ 41, .skip _ 42, .skip _ 43, .skip _ 44, .skip _ 45, .skip _ 46, .skip _ 47,trivial⟩
 refine wp_regD ok (by kernel_rfl) ⟨c1,c2⟩ ⟨c3,fun p hp=> ?_⟩ hS fun A1 w1 N1 H1=> ?_
 · simp only [gRoE,rgx,List.map_nil,List.append_nil,List.mem_cons,List.not_mem_nil,or_false] at hp
   rcases hp with rfl | rfl
   · exact i3
   · exact i0
 have e9:=N1.val 0 rfl
 have e10:=N1.val 1 rfl
 have e11:=N1.val 2 rfl
 have e12:=N1.val 3 rfl
 have e13:=N1.val 4 rfl
 have e14:=N1.val 5 rfl
 have e15:=N1.val 6 rfl
 have e16:=N1.val 7 rfl
 have e17:=N1.val 8 rfl
 have e18:=N1.val 9 rfl
 have e19:=N1.val 10 rfl
 have e20:=N1.val 11 rfl
 have e21:=N1.val 12 rfl
 have e22:=N1.val 13 rfl
 have e23:=N1.val 14 rfl
 have e24:=N1.val 15 rfl
 have e25:=N1.val 16 rfl
 have e26:=N1.val 17 rfl
 have e27:=N1.val 18 rfl
 have e28:=N1.val 19 rfl
 have e29:=N1.val 20 rfl
 have e30:=N1.val 21 rfl
 have e31:=N1.val 22 rfl
 have e32:=N1.val 23 rfl
 have e33:=N1.val 24 rfl
 have e34:=N1.val 25 rfl
 have e35:=N1.val 26 rfl
 have e36:=N1.val 27 rfl
 have e37:=N1.val 28 rfl
 have e38:=N1.val 29 rfl
 have e39:=N1.val 30 rfl
 have e40:=N1.val 31 rfl
 have e41:=N1.val 32 rfl
 have e42:=N1.val 33 rfl
 have e43:=N1.val 34 rfl
 have e44:=N1.val 35 rfl
 have e45:=N1.val 36 rfl
 have e46:=N1.val 37 rfl
 have e47:=N1.val 38 rfl
 have e48:=N1.val 39 rfl
 have e49:=N1.val 40 rfl
 have e50:=N1.val 41 rfl
 have e51:=N1.val 42 rfl
 have e52:=N1.val 43 rfl
 have e53:=N1.val 44 rfl
 have e54:=N1.val 45 rfl
 have e55:=N1.val 46 rfl
 have e56:=N1.val 47 rfl
 have e57:=N1.val 48 rfl
 have e58:=N1.val 49 rfl
 have h:=hQ  w1  H1
 rw [frame_eq N1.frame (cons_eq e9 (cons_eq e10 (cons_eq e11 (cons_eq e12 (cons_eq e13 (cons_eq e14 (cons_eq e15 (cons_eq e16 (cons_eq e17 (cons_eq e18 (cons_eq e19 (cons_eq e20 (cons_eq e21 (cons_eq e22 (cons_eq e23 (cons_eq e24 (cons_eq e25 (cons_eq e26 (cons_eq e27 (cons_eq e28 (cons_eq e29 (cons_eq e30 (cons_eq e31 (cons_eq e32 (cons_eq e33 (cons_eq e34 (cons_eq e35 (cons_eq e36 (cons_eq e37 (cons_eq e38 (cons_eq e39 (cons_eq e40 (cons_eq e41 (cons_eq e42 (cons_eq e43 (cons_eq e44 (cons_eq e45 (cons_eq e46 (cons_eq e47 (cons_eq e48 (cons_eq e49 (cons_eq e50 (cons_eq e51 (cons_eq e52 (cons_eq e53 (cons_eq e54 (cons_eq e55 (cons_eq e56 (cons_eq e57 (cons_eq e58 rfl))))))))))))))))))))))))))))))))))))))))))))))))))]
 exact h
noncomputable def gRoF (cb n on nn oc nc mb mo mc k cols:Nat) (id:Int) (oa na:Option Addr) (q:Bool):=rgx Tryz.prog Tryz.f16 1 132 [9,10,11,12,13,14,15,16,17,18,19,20,21,22,23,24,25,26,27,28,29,30,31,32,33,34,35,36,37,38,39,40,41,42,43,44,45,46,47,48,49,50,51,52,53,54,55,56,57,58] [(3,pV cb 0),(0, .slice (some ⟨mb,mo,none⟩) n mc)] (Vq 0 9 [Kp cb 0,Kv (.int .i64 k),Kv (.bool false),Kv (.bool false),Kp cb 0,Kv (.int .i64 k),Kv (.slice (some ⟨mb,mo,none⟩) n mc),Kv (.int .i64 (n:Nat)),Kv (.bool false),Kv (.bool false),Kv (.bool false),Kp cb 1,Kv (.int .i64 id),Kv (.bool false),Kv (.bool false),Kv (.bool false),Kp cb 1,Kv (.int .i64 id),Kv (.bool false),Kv (.bool false),Kv (.bool false),Kp cb 2,Kv (.slice oa on oc),Kv (.int .i64 (on:Nat)),Kv (.bool false),Kv (.bool false),Kv undef,Kv undef,Kv undef,Kv undef,Kv (.bool false),Kv (.bool false),Kv (.bool false),Kp cb 3,Kv (.slice na nn nc),Kv (.int .i64 (nn:Nat)),Kv (.bool true),Kv (.bool true),Kv (.slice (some ⟨mb,mo,none⟩) n mc),Kp cb 0,Kv (.int .i64 k),Kp mb (mo+k * 3),Kp mb (mo+k * 3),Kv (.int .i64 (cols:Nat)),Kp cb 3,Kv (.slice na nn nc),Kv (.bool q),Kv (.bool (!q)),Kv (.bool (!q)),Kv (.bool (!q))]) [Bk cb (35) [.int .i64 k, .int .i64 id, .slice oa on oc, .slice na nn nc]]
theorem rRoF (cb n on nn oc nc mb mo mc k cols:Nat) (id:Int) (oa na:Option Addr) (q:Bool) (w0:World) (fp0:List Nat) (R:List Asn) (h2:decide (((k:Nat):Int) < 0)=false) (h8:decide (((n:Nat):Int)≤((k:Nat):Int))=false) (h13:decide (id < 1)=false) (h18:decide (4611686018427387904 < id)=false) (h24:decide (((on:Nat):Int)=0)=false) (h36:decide (0 < ((nn:Nat):Int))=true) (hk:k < n) (hcol:∀L w,St w0 fp0 (L++R) w→w.cell? ⟨mb,mo+k * 3,none⟩=some (.int .i64 cols)) (hsto:∀L w,St w0 fp0 (L++R) w→Calls Tryz.prog 45 #[.int .i64 cols, .slice na nn nc] w fun e w'=> e=.returned (.bool q)∧Below w.heap.size w w') {w:World} {c:Code} {a:Act} {Q:Exit→Act→World→Prop} (c1:isReg c=true) (c2:cops c=opsR Tryz.f16 1) (c3:a.tmps.size=132) (_c4:a.defers=a.defers) (i3:a.eval (.tmp 3)=.pointer (some ⟨cb,0,none⟩)) (i0:a.eval (.tmp 0)=.slice (some ⟨mb,mo,none⟩) n mc)
 (hS:St w0 fp0 ([blkA cb (35) #[.int .i64 k, .int .i64 id, .slice oa on oc, .slice na nn nc]]++R) w)
 (hQ:∀(w1:World),St w0 fp0 ([blkA cb (35) #[.int .i64 k, .int .i64 id, .slice oa on oc, .slice na nn nc]]++R) w1→Q .normal (putL a [(9, .pointer (some ⟨cb,0,none⟩)),(10, .int .i64 k),(11, .bool false),(12, .bool false),(13, .pointer (some ⟨cb,0,none⟩)),(14, .int .i64 k),(15, .slice (some ⟨mb,mo,none⟩) n mc),(16, .int .i64 (n:Nat)),(17, .bool false),(18, .bool false),(19, .bool false),(20, .pointer (some ⟨cb,1,none⟩)),(21, .int .i64 id),(22, .bool false),(23, .bool false),(24, .bool false),(25, .pointer (some ⟨cb,1,none⟩)),(26, .int .i64 id),(27, .bool false),(28, .bool false),(29, .bool false),(30, .pointer (some ⟨cb,2,none⟩)),(31, .slice oa on oc),(32, .int .i64 (on:Nat)),(33, .bool false),(34, .bool false),(35,undef),(36,undef),(37,undef),(38,undef),(39, .bool false),(40, .bool false),(41, .bool false),(42, .pointer (some ⟨cb,3,none⟩)),(43, .slice na nn nc),(44, .int .i64 (nn:Nat)),(45, .bool true),(46, .bool true),(47, .slice (some ⟨mb,mo,none⟩) n mc),(48, .pointer (some ⟨cb,0,none⟩)),(49, .int .i64 k),(50, .pointer (some ⟨mb,mo+k * 3,none⟩)),(51, .pointer (some ⟨mb,mo+k * 3,none⟩)),(52, .int .i64 (cols:Nat)),(53, .pointer (some ⟨cb,3,none⟩)),(54, .slice na nn nc),(55, .bool q),(56, .bool (!q)),(57, .bool (!q)),(58, .bool (!q))]) w1):c.wp Tryz.prog Q a w:=by
 have ok:(gRoF cb n on nn oc nc mb mo mc k cols id oa na q w0 fp0 R).Ok 50:=Rg.ok _ 50 [1,2,5,8,12,13,17,18,22,24,26,27,28,29,34,36,40,41,43,45,46] ⟨.load _ 1 0 0, .lssB _ 2 ((k:Nat):Int) (0) false h2, .load _ 5 0 0, .geqB _ 8 ((k:Nat):Int) (((n:Nat):Int)) false h8, .load _ 12 0 1, .lssB _ 13 (id) (1) false h13, .load _ 17 0 1, .gtrB _ 18 (id) (4611686018427387904) false h18, .load _ 22 0 2, .eqlB _ 24 (((on:Nat):Int)) (0) false h24, .skip _ 26, .skip _ 27, .skip _ 28, .skip _ 29, .load _ 34 0 3, .gtrB _ 36 (((nn:Nat):Int)) (0) true h36, .load _ 40 0 0, .indexO _ 41 mb mo n mc k 3 hk, .loadR1 _ 43 (.int .i64 (cols:Nat)) hcol, .load _ 45 0 3, .askR _ 46 hsto,trivial⟩
 refine wp_regD ok (by kernel_rfl) ⟨c1,c2⟩ ⟨c3,fun p hp=> ?_⟩ hS fun A1 w1 N1 H1=> ?_
 · simp only [gRoF,rgx,List.map_nil,List.append_nil,List.mem_cons,List.not_mem_nil,or_false] at hp
   rcases hp with rfl | rfl
   · exact i3
   · exact i0
 have e9:=N1.val 0 rfl
 have e10:=N1.val 1 rfl
 have e11:=N1.val 2 rfl
 have e12:=N1.val 3 rfl
 have e13:=N1.val 4 rfl
 have e14:=N1.val 5 rfl
 have e15:=N1.val 6 rfl
 have e16:=N1.val 7 rfl
 have e17:=N1.val 8 rfl
 have e18:=N1.val 9 rfl
 have e19:=N1.val 10 rfl
 have e20:=N1.val 11 rfl
 have e21:=N1.val 12 rfl
 have e22:=N1.val 13 rfl
 have e23:=N1.val 14 rfl
 have e24:=N1.val 15 rfl
 have e25:=N1.val 16 rfl
 have e26:=N1.val 17 rfl
 have e27:=N1.val 18 rfl
 have e28:=N1.val 19 rfl
 have e29:=N1.val 20 rfl
 have e30:=N1.val 21 rfl
 have e31:=N1.val 22 rfl
 have e32:=N1.val 23 rfl
 have e33:=N1.val 24 rfl
 have e34:=N1.val 25 rfl
 have e35:=N1.val 26 rfl
 have e36:=N1.val 27 rfl
 have e37:=N1.val 28 rfl
 have e38:=N1.val 29 rfl
 have e39:=N1.val 30 rfl
 have e40:=N1.val 31 rfl
 have e41:=N1.val 32 rfl
 have e42:=N1.val 33 rfl
 have e43:=N1.val 34 rfl
 have e44:=N1.val 35 rfl
 have e45:=N1.val 36 rfl
 have e46:=N1.val 37 rfl
 have e47:=N1.val 38 rfl
 have e48:=N1.val 39 rfl
 have e49:=N1.val 40 rfl
 have e50:=N1.val 41 rfl
 have e51:=N1.val 42 rfl
 have e52:=N1.val 43 rfl
 have e53:=N1.val 44 rfl
 have e54:=N1.val 45 rfl
 have e55:=N1.val 46 rfl
 have e56:=N1.val 47 rfl
 have e57:=N1.val 48 rfl
 have e58:=N1.val 49 rfl
 have h:=hQ  w1  H1
 rw [frame_eq N1.frame (cons_eq e9 (cons_eq e10 (cons_eq e11 (cons_eq e12 (cons_eq e13 (cons_eq e14 (cons_eq e15 (cons_eq e16 (cons_eq e17 (cons_eq e18 (cons_eq e19 (cons_eq e20 (cons_eq e21 (cons_eq e22 (cons_eq e23 (cons_eq e24 (cons_eq e25 (cons_eq e26 (cons_eq e27 (cons_eq e28 (cons_eq e29 (cons_eq e30 (cons_eq e31 (cons_eq e32 (cons_eq e33 (cons_eq e34 (cons_eq e35 (cons_eq e36 (cons_eq e37 (cons_eq e38 (cons_eq e39 (cons_eq e40 (cons_eq e41 (cons_eq e42 (cons_eq e43 (cons_eq e44 (cons_eq e45 (cons_eq e46 (cons_eq e47 (cons_eq e48 (cons_eq e49 (cons_eq e50 (cons_eq e51 (cons_eq e52 (cons_eq e53 (cons_eq e54 (cons_eq e55 (cons_eq e56 (cons_eq e57 (cons_eq e58 rfl))))))))))))))))))))))))))))))))))))))))))))))))))]
 exact h
end Go.Proofs.YtpdlkdoogojboaaGreat
/- The reference's Apply: its walk. -/
namespace Go.Proofs.YtpdlkdoogojboaaGreat
open Go Go.RowKit
set_option maxHeartbeats 16000000 in
set_option maxRecDepth 40000 in
theorem RApply_calls (ms:List Rs) (mv:Value) (D:Db) (hms:MsOk D ms) (c:Chg) (hok:c.Ok) (hlen:∀t∈D,t.2.1.length < 1000000) (hml:ms.length≤1000) (w0 w:World) (fp0:List Nat) (L R:List Asn) (hm:Rd w0 fp0 R fun w=> RefX w ms mv) (hc:Rd w0 fp0 R fun w=> c.X w) (hS:St w0 fp0 (L++R) w):
 Calls Tryz.prog 16 #[mv,c.v] w fun e w'=> RaPost w0 fp0 L R (appD D c) (chkD D c) e w':=by
 have hmx:=hm.at hS
 obtain ⟨ma,mc,rfl⟩:=hmx.sl.shape
 have HMS:=Lib.hid hms
 have HC:=Lib.hid hc
 have HM:=Lib.hid hm
 have HOK:=Lib.hid hok
 have HLEN:=Lib.hid hlen
 have HMR:=Lib.hid (fun (w':World) (hs:St w0 fp0 (L++R) w')=> hm.at hs)
 obtain ⟨ch,hch⟩:∃ch,chkD D c=ch:=⟨_,rfl⟩
 obtain ⟨D2,hD2⟩:∃D2,appD D c=D2:=⟨_,rfl⟩
 have HCH:=Lib.hid hch
 have HD2:=Lib.hid hD2
 have HEND:RowKit.Hid (ch≠0→∀w',St w0 fp0 (L++R) w'→RaPost w0 fp0 L R D2 ch (.returned (.tuple #[.slice ma ms.length mc, .int .i64 ch])) w'):=fun h w' hs=> ⟨ms,ma,mc,[],rfl,by rw [←hD2,appD_no (by rw [hch];exact h)];exact hms,hm,hs⟩
 have HS0:=Lib.hid (hS.newblk 35 #[.int .i64 c.tb, .int .i64 c.id,c.ov,c.nv])
 rw [hch,hD2]
 clear hS hmx hms hc hm hok hlen hch hD2
 obtain ⟨tb,id,oa,oc,na,nc,old,new⟩:=c
 unfold Chg.v Chg.ov Chg.nv at *
 simp only at *
 obtain ⟨on,hon⟩:∃on,old.length=on:=⟨_,rfl⟩
 obtain ⟨nn,hnn⟩:∃nn,new.length=nn:=⟨_,rfl⟩
 obtain ⟨n,hn⟩:∃n,ms.length=n:=⟨_,rfl⟩
 have HON:=Lib.hid hon
 have HNN:=Lib.hid hnn
 have HN:=Lib.hid hn
 rw [hon,hnn] at HS0
 rw [hon,hnn]
 rw [hn] at HEND HM HMR ⊢
 rw [hn] at hml
 clear hon hnn hn
 go_enter Tryz.func16,Tryz.ntmps16
 go_upto_region 1 with (fail)
 generalize hW:w.alloc _=W at *
 clear hW
 obtain ⟨cb,hcb⟩:∃cb,w.heap.size=cb:=⟨_,rfl⟩
 rw [hcb] at HS0 ⊢
 clear hcb
 obtain ⟨c0,c1,c2,c3,cl⟩:=cells4 HS0.out 0 rfl
 have hSR:St w0 fp0 ([blkA cb (35) #[.int .i64 tb, .int .i64 id, .slice oa on oc, .slice na nn nc]]++(L++R)) W:=HS0.out
 clear c0 c1 c2 c3 cl
 by_cases ht:0≤tb∧tb < n
 · obtain ⟨k,rfl⟩:∃k:Nat,tb=k:=⟨tb.toNat,by omega⟩
   have hk:k < n:=by omega
   have hkm:k < ms.length:=by rw [HN.out];exact hk
   have hmx:=HMR.out _ HS0.out.drop
   obtain ⟨mb,mo,mc',e1,mbl,p0,p1,p2⟩:=hmx.cells k hkm
   obtain ⟨rfl, -,rfl⟩:=Value.slice.inj e1
   have hat:=HMS.out.at k hkm
   have hmem:=List.getElem_mem hkm
   have hset:=fun (m:Rs) ha=> HMS.out.put k m ha
   have hasc:=HMS.out.asc _ hmem
   have HCR:RowKit.Hid (∀M w,St w0 fp0 (M++(L++R)) w→w.cell? ⟨mb,mo+k * 3,none⟩=some (.int .i64 ms[k].cols)∧w.cell? ⟨mb,mo+k * 3+1,none⟩=some ms[k].lv∧w.cell? ⟨mb,mo+k * 3+2,none⟩=some (.int .i64 ms[k].next)∧RiX w ms[k].l ms[k].lv):=fun M w h=> by
    have hx:=(HM.out.app L) M w h
    obtain ⟨b',o',c',e1, -,q0,q1,q2⟩:=hx.cells k hkm
    obtain ⟨e1, -, -⟩:=Value.slice.inj e1
    injection e1 with e1
    injection e1 with e1 e2
    subst e1 e2
    exact ⟨q0,q1,q2,hx.ri _ hmem⟩
   have HRX:RowKit.Hid (∀x∈ms[k].l,Rd w0 fp0 R fun w=> ValsAt w x.r x.v):=fun x hx=> HM.out.imp fun w h=> (h.ri _ hmem).row x hx
   have HCH2:RowKit.Hid (chkT ms[k].cols (riL ms[k].l) id old new=ch):=by
    show _=_
    rw [←HCH.out,chkD,rowD_in hat]
   have HLL:RowKit.Hid (ms[k].l.length < 1000000):=by
    have:=HLEN.out _ (List.mem_of_getElem? hat)
    rw [riL_len] at this
    exact this
   have HD3:RowKit.Hid (ch=0→D2=D.set k (ms[k].cols,appT ms[k].cols id new (riL ms[k].l),appN ms[k].cols id new ms[k].next)):=fun h=> by
    rw [←HD2.out,appD,rowD_in hat]
    simp only
    rw [if_pos (by rw [HCH2.out,h]),Int.toNat_natCast]
   have HST:=Lib.hid (And.intro hasc hset)
   clear e1 hat hmem hset hasc hmx
   generalize ms[k]=m at *
   obtain ⟨cols,la,lc,next,l⟩:=m
   unfold Rs.lv at p1 HCR
   simp only at p0 p1 p2 HCR HRX HCH2 HLL HD3 HST
   have HRS:RowKit.Hid (∀M w,St w0 fp0 (M++(L++R)) w→Calls Tryz.prog 45 #[.int .i64 cols, .slice na nn nc] w fun e w'=> e=.returned (.bool (storB cols new))∧Below w.heap.size w w'):=fun M w h=> by
    have hx:=((HC.out.app L) M w h).new
    unfold Chg.nv at hx
    simp only at hx
    rw [HNN.out] at hx
    exact RStorable_calls cols new _ w hx
   obtain ⟨iv,hiv⟩:∃iv,invB cols id old new=iv:=⟨_,rfl⟩
   have HIV:=Lib.hid hiv
   obtain ⟨st,hst⟩:∃st,storB cols new=st:=⟨_,rfl⟩
   have HSB:=Lib.hid hst
   rw [hst] at HRS
   have HO:RowKit.Hid (on=0↔old=[]):=by show _↔_;rw [←HON.out];exact List.length_eq_zero_iff
   have HNE:RowKit.Hid (nn=0↔new=[]):=by show _↔_;rw [←HNN.out];exact List.length_eq_zero_iff
   have t2:decide (((k:Nat):Int) < 0)=false:=by simp
   have t8:decide (((n:Nat):Int)≤((k:Nat):Int))=false:=by simp;omega
   clear hiv hst p0 p1 p2 mbl
   go_cut [58] (fun z wx=> z=.bool iv∧RowKit.Hid (St w0 fp0 (blkA cb 35 #[.int .i64 k, .int .i64 id, .slice oa on oc, .slice na nn nc]::(L++R)) wx))
   case first=>
    by_cases h1:id < 1
    · have HE:RowKit.Hid (iv=true):=by
       show _=_
       rw [←HIV.out]
       exact decide_eq_true (.inl (by omega))
      obtain rfl:=HE.out
      refine rRoA (w0:=w0) (fp0:=fp0) (R:=L++R) cb n on nn oc nc mc k id oa na (some ⟨mb,mo,none⟩) t2 t8 (decide_eq_true h1) rfl (by kernel_rfl) rfl rfl rfl rfl hSR ?_
      intro w1 g1
      try clear h3
      try clear h4
      try clear hn
      have G1:=Lib.hid g1
      clear g1
      simp only [putL,List.foldl,Act.put,List.setIfInBounds_toArray,List.set_cons_succ,List.set_cons_zero]
      go_wp2
      go_meet
      exact ⟨rfl,G1.out⟩
    · have f13:decide (id < 1)=false:=decide_eq_false h1
      by_cases h2:4611686018427387904 < id
      · have HE:RowKit.Hid (iv=true):=by
         show _=_
         rw [←HIV.out]
         exact decide_eq_true (.inl (by omega))
        obtain rfl:=HE.out
        refine rRoB (w0:=w0) (fp0:=fp0) (R:=L++R) cb n on nn oc nc mc k id oa na (some ⟨mb,mo,none⟩) t2 t8 f13 (decide_eq_true h2) rfl (by kernel_rfl) rfl rfl rfl rfl hSR ?_
        intro w1 g1
        try clear h3
        try clear h4
        try clear hn
        have G1:=Lib.hid g1
        clear g1
        simp only [putL,List.foldl,Act.put,List.setIfInBounds_toArray,List.set_cons_succ,List.set_cons_zero]
        go_wp2
        go_meet
        exact ⟨rfl,G1.out⟩
      · have f18:decide (4611686018427387904 < id)=false:=decide_eq_false h2
        have HR:RowKit.Hid (1≤id∧id≤4611686018427387904):=by show _∧_;omega
        by_cases h4:nn=0
        · have hn:=HNE.out.1 h4
          by_cases h3:on=0
          · have HE:RowKit.Hid (iv=true):=by
             show _=_
             rw [←HIV.out]
             exact decide_eq_true (.inr (.inl ⟨HO.out.1 h3,hn⟩))
            obtain rfl:=HE.out
            refine rRoC (w0:=w0) (fp0:=fp0) (R:=L++R) cb n on nn oc nc mc k id oa na (some ⟨mb,mo,none⟩) t2 t8 f13 f18 (decide_eq_true (by omega)) (decide_eq_true (by omega)) rfl (by kernel_rfl) rfl rfl rfl rfl hSR ?_
            intro w1 g1
            try clear h3
            try clear h4
            try clear hn
            have G1:=Lib.hid g1
            clear g1
            simp only [putL,List.foldl,Act.put,List.setIfInBounds_toArray,List.set_cons_succ,List.set_cons_zero]
            go_wp2
            go_meet
            exact ⟨rfl,G1.out⟩
          · have HE:RowKit.Hid (iv=false):=by
             show _=_
             rw [←HIV.out]
             refine decide_eq_false fun h=> ?_
             rcases h with h | h | h
             · exact h HR.out
             · exact h3 (HO.out.2 h.1)
             · exact h.1 hn
            obtain rfl:=HE.out
            refine rRoE (w0:=w0) (fp0:=fp0) (R:=L++R) cb n on nn oc nc mc k id oa na (some ⟨mb,mo,none⟩) t2 t8 f13 f18 (decide_eq_false (by omega)) (decide_eq_false (by omega)) rfl (by kernel_rfl) rfl rfl rfl rfl hSR ?_
            intro w1 g1
            try clear h3
            try clear h4
            try clear hn
            have G1:=Lib.hid g1
            clear g1
            simp only [putL,List.foldl,Act.put,List.setIfInBounds_toArray,List.set_cons_succ,List.set_cons_zero]
            go_wp2
            go_meet
            exact ⟨rfl,G1.out⟩
        · have HE:RowKit.Hid (iv=!st):=by
           show _=_
           rw [←HIV.out]
           cases st with
           | true=>
            refine decide_eq_false fun h=> ?_
            rcases h with h | h | h
            · exact h HR.out
            · exact h4 (HNE.out.2 h.2)
            · rw [HSB.out] at h;cases h.2
           | false=> exact decide_eq_true (.inr (.inr ⟨fun e=> h4 (HNE.out.2 e),HSB.out⟩))
          obtain rfl:=HE.out
          have hcol:∀M w,St w0 fp0 (M++(L++R)) w→w.cell? ⟨mb,mo+k * 3,none⟩=some (.int .i64 cols):=fun M w h=> (HCR.out M w h).1
          by_cases h3:on=0
          · refine rRoD (w0:=w0) (fp0:=fp0) (R:=L++R) cb n on nn oc nc mb mo mc k cols id oa na st t2 t8 f13 f18 (decide_eq_true (by omega)) (decide_eq_false (by omega)) (decide_eq_true (by omega)) hk hcol HRS.out rfl (by kernel_rfl) rfl rfl rfl rfl hSR ?_
            intro w1 g1
            try clear h3
            try clear h4
            try clear hn
            have G1:=Lib.hid g1
            clear g1
            simp only [putL,List.foldl,Act.put,List.setIfInBounds_toArray,List.set_cons_succ,List.set_cons_zero]
            go_wp2
            go_meet
            exact ⟨rfl,G1.out⟩
          · refine rRoF (w0:=w0) (fp0:=fp0) (R:=L++R) cb n on nn oc nc mb mo mc k cols id oa na st t2 t8 f13 f18 (decide_eq_false (by omega)) (decide_eq_true (by omega)) hk hcol HRS.out rfl (by kernel_rfl) rfl rfl rfl rfl hSR ?_
            intro w1 g1
            try clear h3
            try clear h4
            try clear hn
            have G1:=Lib.hid g1
            clear g1
            simp only [putL,List.foldl,Act.put,List.setIfInBounds_toArray,List.set_cons_succ,List.set_cons_zero]
            go_wp2
            go_meet
            exact ⟨rfl,G1.out⟩
   obtain ⟨rfl,Hs⟩:=hcut
   clear hSR HS0 HRS t2 t8 HSB
   cases iv with
   | true=>
    have HF:RowKit.Hid (ch=1):=by show _=_;rw [←HCH2.out,chkT_inv HIV.out]
    go_wp2
    refine bodyPost_ret (v:=.tuple #[.slice (some ⟨mb,mo,none⟩) n mc, .int .i64 1]) (by simp [results,Tryz.results16,go_sem]) rfl ?_
    have:=HEND.out (by rw [HF.out];decide) _ (St.drop Hs.out)
    rw [HF.out] at this ⊢
    exact this
   | false=>
    go_upto_region 3 with (fail)
    obtain ⟨gq,hgq⟩:∃gq,(findRi l id).isSome=gq:=⟨_,rfl⟩
    obtain ⟨gv,hgv⟩:∃gv,riGet (findRi l id)=gv:=⟨_,rfl⟩
    have HGV:RowKit.Hid (Rd w0 fp0 R fun w=> ValsAt w ((getL (riL l) id).getD []) gv):=by
     show Rd _ _ _ _
     rw [←hgv]
     exact riGet_at id HRX.out
    have HGQ:RowKit.Hid ((getL (riL l) id).isSome=gq):=by
     show _=_
     rw [findRi_get,Option.isSome_map]
     exact hgq
    have hget:∀M w,St w0 fp0 (M++(L++R)) w→Calls Tryz.prog 46 #[.agg #[.int .i64 cols, .slice la l.length lc, .int .i64 next], .int .i64 id] w fun e w'=> e=.returned (.tuple #[gv, .bool gq])∧Below w.heap.size w w':=fun M w h=> by
     have:=RGet_calls cols (.slice la l.length lc) next id l w (HCR.out M w h).2.2.2.sl
     rw [hgv,hgq] at this
     exact this
    have hms:∀M w,St w0 fp0 (M++(L++R)) w→∀j u,[Value.int .i64 cols, .slice la l.length lc, .int .i64 next][j]? =some u→w.cell? ⟨mb,mo+k * 3+j,none⟩=some u:=fun M w h j u hj=> by
     obtain ⟨q0,q1,q2, -⟩:=HCR.out M w h
     match j,hj with
     | 0,hj=> cases hj;exact q0
     | 1,hj=> cases hj;exact q1
     | 2,hj=> cases hj;exact q2
     | j+3,hj=> simp at hj
    have HMSS:=Lib.hid hms
    have hgn:∃a m c,gv=.slice a m c:=by
     have h:=(HGV.out.at (M:=_::L) Hs.out).1.shape
     obtain ⟨a,c,e⟩:=h
     exact ⟨a,_,c,e⟩
    obtain ⟨ga,gm,gc,rfl⟩:=hgn
    refine rRq3 (w0:=w0) (fp0:=fp0) (R:=L++R) cb n mb mo mc k cols (.slice la l.length lc) next id (.slice oa on oc) (.slice na nn nc) (.slice ga gm gc) gq hk hms hget rfl (by kernel_rfl) rfl rfl rfl rfl Hs.out ?_
    intro w1 h1
    have H1:RowKit.Hid (St w0 fp0 (blkA cb 35 #[.int .i64 k, .int .i64 id, .slice oa on oc, .slice na nn nc]::(L++R)) w1):=h1
    clear h1 Hs hgq hgv hms hget
    simp only [putL,List.foldl,Act.put,List.setIfInBounds_toArray,List.set_cons_succ,List.set_cons_zero]
    obtain ⟨c0,c1,c2,c3,cl⟩:=cells4 H1.out 0 rfl
    have hov:=((HC.out.at (M:=_::L) H1.out).old)
    unfold Chg.ov at hov
    simp only at hov
    rw [HON.out] at hov
    have HSM:=Lib.hid (rsame_calls _ old _ (.slice oa on oc) w1 (HGV.out.at (M:=_::L) H1.out) hov)
    obtain ⟨sq,hsq⟩:∃sq,decide ((getL (riL l) id).getD []=old)=sq:=⟨_,rfl⟩
    have HSQ:=Lib.hid hsq
    rw [hsq] at HSM
    clear hsq hov
    go_upto_region 4 with (fail)
    have HCI:=Lib.hid (chkT_old (L:=riL l) HIV.out)
    have HCN:=Lib.hid (chkT_new (L:=riL l) HIV.out)
    rw [HCH2.out] at HCI HCN
    obtain ⟨t5,ht5⟩:∃t5,(decide (on=0) && gq)=t5:=⟨_,rfl⟩
    obtain ⟨t4,ht4⟩:∃t4,(!decide (on=0) && (!gq || !sq))=t4:=⟨_,rfl⟩
    have HT5:=Lib.hid ht5
    have HT4:=Lib.hid ht4
    clear ht4 ht5
    go_cut [77] (fun z wx=> z=.bool t5∧wx=w1)
    case first=>
     by_cases h0:on=0
     · have HE:RowKit.Hid (t5=gq):=by show _=_;rw [←HT5.out,decide_eq_true h0,Bool.true_and]
       obtain rfl:=HE.out
       clear HE
       subst h0
       go_wp2
       go_meet
       exact ⟨rfl,rfl⟩
     · have h0':((on:Int)==0)=false:=by simp;omega
       have HE:RowKit.Hid (t5=false):=by show _=_;rw [←HT5.out,decide_eq_false h0,Bool.false_and]
       obtain rfl:=HE.out
       clear h0 HE
       go_wp2
       go_meet
       exact ⟨rfl,rfl⟩
    obtain ⟨rfl,rfl⟩:=hcut
    cases t5 with
    | true=>
     have HF:RowKit.Hid (ch=5):=by
      have h:=Bool.and_eq_true_iff.1 HT5.out
      show _=_
      rw [HCI.out (HO.out.1 (of_decide_eq_true h.1)),HGQ.out,h.2]
      rfl
     go_wp2
     refine bodyPost_ret (v:=.tuple #[.slice (some ⟨mb,mo,none⟩) n mc, .int .i64 5]) (by simp [results,Tryz.results16,go_sem]) rfl ?_
     have:=HEND.out (by rw [HF.out];decide) _ (St.drop H1.out)
     rw [HF.out] at this ⊢
     exact this
    | false=>
     go_upto_region 6 with (fail)
     go_cut [93] (fun z wx=> z=.bool t4∧RowKit.Hid (St w0 fp0 (blkA cb 35 #[.int .i64 k, .int .i64 id, .slice oa on oc, .slice na nn nc]::(L++R)) wx))
     case first=>
      by_cases h0:on=0
      · have HE:RowKit.Hid (t4=false):=by show _=_;rw [←HT4.out,decide_eq_true h0];rfl
        obtain rfl:=HE.out
        clear HE
        subst h0
        go_wp2
        go_meet
        exact ⟨rfl,H1.out⟩
      · have h0':0 < on:=by omega
        have HE:RowKit.Hid (t4=(!gq || !sq)):=by show _=_;rw [←HT4.out,decide_eq_false h0];rfl
        clear h0
        cases gq with
        | false=>
         obtain rfl:=HE.out
         clear HE
         go_wp2
         go_meet
         exact ⟨rfl,H1.out⟩
        | true=>
         obtain rfl:=HE.out
         clear HE
         go_wp2_with fail
         (with_reducible refine HSM.out.mono ?_)
         rintro e w2 ⟨rfl,hb2⟩
         have H2:=Lib.hid (H1.out.mono hb2)
         clear HSM hb2
         go_wp2
         go_meet
         exact ⟨by simp,H2.out⟩
     obtain ⟨rfl,Hs⟩:=hcut
     clear HSM H1 c0 c1 c2 c3 cl
     cases t4 with
     | true=>
      have HF:RowKit.Hid (ch=4):=by
       have h:=Bool.and_eq_true_iff.1 HT4.out
       have h0:¬ on=0:=fun e=> by rw [decide_eq_true e] at h;cases h.1
       show _=_
       rw [HCN.out fun e=> h0 (HO.out.2 e),if_neg]
       intro e
       rcases Bool.or_eq_true_iff.1 h.2 with h2 | h2
       · have:=HGQ.out
         rw [e] at this
         rw [←this] at h2
         cases h2
       · have e1:=HSQ.out
         rw [e] at e1
         rw [←e1] at h2
         simp at h2
      go_wp2
      refine bodyPost_ret (v:=.tuple #[.slice (some ⟨mb,mo,none⟩) n mc, .int .i64 4]) (by simp [results,Tryz.results16,go_sem]) rfl ?_
      have:=HEND.out (by rw [HF.out];decide) _ (St.drop Hs.out)
      rw [HF.out] at this ⊢
      exact this
     | false=>
      have HF:RowKit.Hid (ch=0):=by
       show _=_
       by_cases h0:on=0
       · have h:=HT5.out
         rw [decide_eq_true h0,Bool.true_and] at h
         rw [HCI.out (HO.out.1 h0),HGQ.out,h]
         rfl
       · have h:=HT4.out
         rw [decide_eq_false h0,Bool.not_false,Bool.true_and,Bool.or_eq_false_iff] at h
         rw [HCN.out fun e=> h0 (HO.out.2 e),if_pos]
         have e1:=of_decide_eq_true (HSQ.out.trans (by simpa using h.2))
         cases e:getL (riL l) id with
         | none=> have:=HGQ.out;rw [e] at this;rw [←this] at h;simp at h
         | some r=> rw [e] at e1;exact congrArg some e1
      clear HSQ HCI HCN HEND HT4 HT5
      go_upto_region 8 with (fail)
      have HD4:=HD3.out HF.out
      have HCK:RowKit.Hid (chkT cols (riL l) id old new=0):=HCH2.out.trans HF.out
      have HD4:=Lib.hid HD4
      have HFE:=Lib.hid HF.out
      have HNV:RowKit.Hid (Rd w0 fp0 R fun w=> ValsAt w new (.slice na nn nc)):=HC.out.imp fun w h=> by
       have:=h.new
       unfold Chg.nv at this
       simp only at this
       rw [HNN.out] at this
       exact this
      obtain ⟨wq,hwq⟩:∃wq,wq=St w0 fp0:=⟨_,rfl⟩
      clear hwq wq HF HD3 HCH2
      have HE8:=fun w=> St.emptyRS (w:=w) (w0:=w0) (fp0:=fp0) (L:=blkA cb 35 #[.int .i64 k, .int .i64 id, .slice oa on oc, .slice na nn nc]::(L++R))
      have HE8:=Lib.hid (HE8 _ Hs.out)
      have HSRC:=Lib.hid (((HM.out.at (M:=_::_::L) HE8.out).sl).src (P:=Tryz.prog) (tx:=28) (e':=44) (by kernel_rfl) (by decide) (ms_one ms))
      rw [HN.out] at HSRC
      go_upto_region 9 with (first
       | (at_builtin;refine wpList_appR rfl _ _ _ _ rfl rfl rfl appRS HE8.out HSRC.out (by omega) ?_;intro v8 w8 h8))
      rw [Nat.zero_add,List.nil_append] at h8
      obtain ⟨_,hrow⟩:=h8.out.has 0 rfl
      obtain ⟨oga,ogc,rfl, -, -,hog⟩:=row_shape hrow
      obtain ⟨og,rfl, -⟩:=hog 0 (by omega)
      have H8:RowKit.Hid (St w0 fp0 ([blkA cb 35 #[.int .i64 k, .int .i64 id, .slice oa on oc, .slice na nn nc],outR og n ogc (ms.flatMap Rs.c)]++(L++R)) w8):=h8.out.perm (List.Perm.swap _ _ _)
      have hxl:(ms.flatMap Rs.c).length=n * 3:=by rw [flatMap_len rsc_len,HN.out]
      obtain ⟨c0,c1,c2,c3,cl⟩:=cells4 H8.out 0 rfl
      clear hrow h8 hog HE8 HSRC Hs
      by_cases hn:nn=0
      · have hne:=HNE.out.1 hn
        have HFIN:RowKit.Hid (D2=D.set k (cols,riL (delR id l),next)):=by
         show _=_
         rw [HD4.out,appT,if_pos hne,appN,if_pos hne,riL_delR]
        have hn0:((nn:Int)==0)=true:=by simp [hn]
        clear hn hne
        go_upto_region 10 with (fail)
        refine rRq10 (w0:=w0) (fp0:=fp0) (R:=L++R) cb og n ogc mb mo mc k cols (.slice la l.length lc) next next id (.slice oa on oc) (.slice na nn nc) (ms.flatMap Rs.c) (delR id l) hk hxl HMSS.out ?_ rfl (by kernel_rfl) rfl rfl rfl rfl rfl H8.out ?_
        · intro w' h'
          have h:=RDelete_callsZ emp cols (.slice la l.length lc) next id l (by have:=HLL.out;omega) w0 w' fp0 _ (fun M w h=> (HCR.out (M++[emp,blkA cb 35 #[.int .i64 k, .int .i64 id, .slice oa on oc, .slice na nn nc],outR og n ogc (ms.flatMap Rs.c)]) w (by rw [List.append_assoc];exact h)).2.2.2.sl) (St.emp.2 h')
          refine h.mono ?_
          rintro e w2 ⟨lv2,rfl,h2⟩
          exact ⟨lv2,rfl,(h2.perm (List.Perm.swap _ _ _)).drop⟩
        · intro u112 w9 h9
          have H9:=Lib.hid (ra_fin h9 HM.out HN.out hk HST.out.2 (HST.out.1.sublist List.filter_sublist) (fun x hx=> HRX.out x (List.mem_filter.1 hx).1) HFIN.out)
          clear h9 H8 c0 c1 c2 c3 cl hxl
          simp only [putL,List.foldl,Act.put,List.setIfInBounds_toArray,List.set_cons_succ,List.set_cons_zero]
          go_wp2
          refine bodyPost_ret (v:=.tuple #[.slice (some ⟨og,0,none⟩) n ogc, .int .i64 0]) (by simp [results,Tryz.results16,go_sem]) rfl ?_
          rw [HFE.out]
          exact H9.out
      · have hne:new≠[]:=fun e=> hn (HNE.out.2 e)
        obtain ⟨k1,k2,k3, -⟩:=chkT_ok HCK.out
        have hpo:putOk cols id new=true:=by
         unfold putOk
         rw [decide_eq_true k1,k3 hne]
         rfl
        have HPO:=Lib.hid hpo
        have HFIN:RowKit.Hid (D2=D.set k (cols,riL (putR id ⟨id,na,nn,nc,new⟩ l),putN cols id new next)):=by
         show _=_
         have e1:=riL_putR id (⟨id,na,nn,nc,new⟩:Ri) rfl l
         simp only at e1
         rw [HD4.out,appT,if_neg hne,appN,if_neg hne,e1,putLL,hpo]
         rfl
        have hn0:((nn:Int)==0)=false:=by simp;omega
        clear hn hne k1 k2 k3 hpo
        go_upto_region 11 with (fail)
        refine rRq11 (w0:=w0) (fp0:=fp0) (R:=L++R) cb og n ogc mb mo mc k cols (.slice la l.length lc) next (putN cols id new next) id (.slice oa on oc) (.slice na nn nc) (ms.flatMap Rs.c) (putR id ⟨id,na,nn,nc,new⟩ l) hk hxl HMSS.out ?_ rfl (by kernel_rfl) rfl rfl rfl rfl rfl H8.out ?_
        · intro w' h'
          have h:=RPut_callsZ emp cols (.slice la l.length lc) next ⟨id,na,nn,nc,new⟩ l HST.out.1 (by have:=HLL.out;omega) w0 w' fp0 _ ((HNV.out.app L).app [_,_]) (fun M w h=> (HCR.out (M++[emp,blkA cb 35 #[.int .i64 k, .int .i64 id, .slice oa on oc, .slice na nn nc],outR og n ogc (ms.flatMap Rs.c)]) w (by rw [List.append_assoc];exact h)).2.2.2.sl) (St.emp.2 h')
          refine h.mono ?_
          rintro e w2 ⟨lv2,rfl,hp⟩
          refine ⟨lv2,?_,?_⟩
          · simp only [HPO.out]
            rfl
          · rcases hp with ⟨-,h2⟩ | ⟨h2, -⟩
            · exact (h2.perm (List.Perm.swap _ _ _)).drop
            · simp only [HPO.out] at h2
              cases h2
        · intro u114 u127 u128 w9 _ _ _ h9
          have H9:=Lib.hid (ra_fin h9 HM.out HN.out hk HST.out.2 (asc_putR (x:=⟨id,na,nn,nc,new⟩) (k:=id) rfl HST.out.1) (fun x hx=> by
           rcases List.mem_append.1 hx with h | h
           · exact HRX.out x (List.mem_filter.1 h).1
           · rcases List.mem_cons.1 h with rfl | h
             · exact (show Rd w0 fp0 R fun w=> ValsAt w (Ri.r ⟨id,na,nn,nc,new⟩) (Ri.v ⟨id,na,nn,nc,new⟩) from HNV.out)
             · exact HRX.out x (List.mem_filter.1 h).1) HFIN.out)
          clear h9 H8 c0 c1 c2 c3 cl hxl
          simp only [putL,List.foldl,Act.put,List.setIfInBounds_toArray,List.set_cons_succ,List.set_cons_zero]
          go_wp2
          refine bodyPost_ret (v:=.tuple #[.slice (some ⟨og,0,none⟩) n ogc, .int .i64 0]) (by simp [results,Tryz.results16,go_sem]) rfl ?_
          rw [HFE.out]
          exact H9.out
 · have HF:RowKit.Hid (ch=1):=by
    show _=_
    rw [←HCH.out,chkD,rowD_out (by rw [←HMS.out.len,HN.out];exact ht)]
   have HE:=HEND.out (by rw [HF.out];decide)
   have HE:=Lib.hid HE
   by_cases h0:tb < 0
   · refine rRo1 (w0:=w0) (fp0:=fp0) (R:=L++R) cb n on nn oc nc mc tb id oa na ma (decide_eq_true h0) rfl (by kernel_rfl) rfl rfl rfl rfl hSR ?_
     intro w1 h1
     have H1:=Lib.hid h1
     clear h1
     simp only [putL,List.foldl,Act.put,List.setIfInBounds_toArray,List.set_cons_succ,List.set_cons_zero]
     go_wp2
     refine bodyPost_ret (v:=.tuple #[.slice ma n mc, .int .i64 1]) (by simp [results,Tryz.results16,go_sem]) rfl ?_
     have:=HE.out _ (St.drop H1.out)
     rw [HF.out] at this ⊢
     exact this
   · refine rRo2 (w0:=w0) (fp0:=fp0) (R:=L++R) cb n on nn oc nc mc tb id oa na ma (decide_eq_false h0) (decide_eq_true (by omega)) rfl (by kernel_rfl) rfl rfl rfl rfl hSR ?_
     intro w1 h1
     have H1:=Lib.hid h1
     clear h1
     simp only [putL,List.foldl,Act.put,List.setIfInBounds_toArray,List.set_cons_succ,List.set_cons_zero]
     go_wp2
     refine bodyPost_ret (v:=.tuple #[.slice ma n mc, .int .i64 1]) (by simp [results,Tryz.results16,go_sem]) rfl ?_
     have:=HE.out _ (St.drop H1.out)
     rw [HF.out] at this ⊢
     exact this
/- The reference's Inverse; short, Small. -/
/-- A verdict that vouches for P. -/
def QPost (P:Prop) (w:World) (e:Ending) (w':World):Prop:=∃q,e=.returned (.bool q)∧(q=true→P)∧w=w'
def shortP (r:Rw):Prop:=r.length≤10∧∀v∈r,v.text.size≤40
set_option maxHeartbeats 4000000 in
theorem short_calls (r:Rw) (v:Value) (w:World) (hv:ValsAt w r v):Calls Tryz.prog 43 #[v] w fun e w'=> QPost (shortP r) w e w':=by
 obtain ⟨a,n,c,rfl,hn,hm⟩:=hv.shape
 unfold maxLen at hm
 have HV:=Lib.hid hv
 have HN:=Lib.hid hn
 have H0:RowKit.Hid (∀x∈r.take 0,x.text.size≤40):=by show ∀x∈r.take 0,_;simp
 clear hv hn
 go_enter Tryz.func43,Tryz.ntmps43
 go_upto_region 2 with (fail)
 go_loopg [3] n (fun g z wr=> ∃k:Nat,z=.int .i64 k∧g+k=n∧wr=w∧RowKit.Hid (∀x∈r.take k,x.text.size≤40))
 case atStart=> exact ⟨0,rfl,rfl,rfl,H0⟩
 case round=>
  clear H0
  obtain ⟨k,rfl,hgk,rfl,Hi⟩:=hrel
  by_cases hk:k < n
  · have hkl:k < r.length:=by rw [←HN.out];exact hk
    have hkn:(k:Int) < n:=by omega
    obtain ⟨b,o,rfl⟩:=HV.out.has k hk
    obtain ⟨c0,c1,c2⟩:=HV.out.cell k hkl
    have hbl:=World.block_lt_of_cell? _ _ c0
    have hst:∀x∈r.take (k+1),x∈r.take k∨x=r[k]:=fun x hx=> by
     rw [List.take_add_one,List.getElem?_eq_getElem hkl] at hx
     rcases List.mem_append.1 hx with h | h
     · exact .inl h
     · exact .inr (by simpa using h)
    have HST:=Lib.hid hst
    have Hgk:=Lib.hid hgk
    clear hst hgk
    generalize r[k]=x at *
    clear hkl
    by_cases h40:(40:Int) < x.text.size
    · go_wp2
      go_ret
      exact ⟨false,rfl,(fun h=> nomatch h),rfl⟩
    · have Hn:RowKit.Hid (∀y∈r.take (k+1),y.text.size≤40):=fun y hy=> by
       rcases HST.out y hy with h | rfl
       · exact Hi.out y h
       · omega
      clear Hi HST
      go_wp2
      go_roundg (gk - 1)
      case rel=> exact ⟨k+1,by go_num,by have:=Hgk.out;omega,rfl,Hn⟩
      case measure=> have:=Hgk.out;omega
  · obtain rfl:k=n:=by omega
    have HF:RowKit.Hid (decide ((k:Int)≤10)=true→shortP r):=fun h=> by
     have h1:=of_decide_eq_true h
     have h2:=Hi.out
     rw [List.take_of_length_le (by rw [←HN.out];exact Nat.le_refl _)] at h2
     exact ⟨by rw [←HN.out];omega,h2⟩
    clear Hi hgk hk
    by_cases h10:(k:Int)≤10
    · have HG:=HF.out (decide_eq_true h10)
      have HG:=Lib.hid HG
      go_wp2
      go_ret
      exact ⟨true,by simp,fun _=> HG.out,rfl⟩
    · go_wp2
      go_ret
      exact ⟨false,by simp,(fun h=> nomatch h),rfl⟩
/- Small. -/
structure TdP (t:Td):Prop where
 n:t.n≤10
 k:t.K.length≤5
 f:t.F.length≤5
 kl:∀c∈t.K,c.length≤10
 fl:∀c∈t.F,c.length≤10
structure SmallP (td:List Td) (l:List Chg):Prop where
 tds:∀t∈td,TdP t
 ls:∀c∈l,shortP c.old∧shortP c.new
 tn:td.length≤4
 ln:l.length≤40
theorem TdP.sm {t:Td} (h:TdP t):t.Sm:=⟨by have:=h.n;omega,by have:=h.k;omega,by have:=h.f;omega,fun c hc=> by have:=h.kl c hc;omega,fun c hc=> by have:=h.fl c hc;omega⟩
theorem take_snoc {α:Type} {P:α→Prop} {l:List α} {k:Nat} (hk:k < l.length) (h:∀x∈l.take k,P x) (h2:P l[k]):∀x∈l.take (k+1),P x:=by
 intro x hx
 rw [List.take_add_one,List.getElem?_eq_getElem hk] at hx
 rcases List.mem_append.1 hx with hx | hx
 · exact h x hx
 · have:x=l[k]:=by simpa using hx
   rw [this];exact h2
set_option maxHeartbeats 8000000 in
set_option maxRecDepth 20000 in
theorem Small_calls (td:List Td) (l:List Chg) (sv lv:Value) (w:World) (hs:SchX w td sv) (hl:ChsX w l lv):Calls Tryz.prog 13 #[sv,lv] w fun e w'=> QPost (SmallP td l) w e w':=by
 obtain ⟨sa,sc,rfl⟩:=hs.sl.shape
 obtain ⟨la,lc,rfl⟩:=hl.sl.shape
 obtain ⟨n,hn⟩:∃n,td.length=n:=⟨_,rfl⟩
 obtain ⟨m,hm⟩:∃m,l.length=m:=⟨_,rfl⟩
 have hn63:n≤9223372036854775807:=by have:=hs.sl.1;unfold maxLen at this;omega
 have hm63:m≤9223372036854775807:=by have:=hl.sl.1;unfold maxLen at this;omega
 have HS:=Lib.hid hs
 have HL:=Lib.hid hl
 have HN:=Lib.hid hn
 have HM:=Lib.hid hm
 have H0:RowKit.Hid (∀t∈td.take 0,TdP t):=by show ∀t∈td.take 0,_;simp
 rw [hn] at HS ⊢
 rw [hm] at HL ⊢
 clear hs hl hn hm
 go_enter Tryz.func13,Tryz.ntmps13
 go_upto_region 2 with (fail)
 go_loopg [5] n (fun g z wr=> ∃i:Nat,z=.int .i64 i∧g+i=n∧wr=w∧RowKit.Hid (∀t∈td.take i,TdP t))
 case atStart=> exact ⟨0,rfl,rfl,rfl,H0⟩
 case round=>
  clear H0
  obtain ⟨i,rfl,hgi,rfl,Hi⟩:=hrel
  by_cases hi:i < n
  · have hil:i < td.length:=by rw [HN.out];exact hi
    have hin:(i:Int) < n:=by omega
    obtain ⟨b,o,c,e1,hbl, -,p1,p2,p3, -⟩:=HS.out.cells i hil
    obtain ⟨rfl, -,rfl⟩:=Value.slice.inj e1
    have hx:=HS.out.td _ (List.getElem_mem hil)
    have HST:=Lib.hid (fun h=> take_snoc (P:=TdP) hil Hi.out h)
    have Hgi:=Lib.hid hgi
    clear e1 hgi Hi
    generalize td[i]=t at *
    clear hil
    obtain ⟨nm,ca,tn,cc,kv,fv,xa,xn,xc,cvs,kvs,fvs,K,F⟩:=t
    obtain ⟨ka,kc,hkv⟩:=hx.keys.1.shape
    obtain ⟨fa,fc,hfv⟩:=hx.fors.1.shape
    simp only at p1 p2 p3 hkv hfv
    subst hkv hfv
    obtain ⟨kn,hkn⟩:∃kn,K.length=kn:=⟨_,rfl⟩
    obtain ⟨fn,hfn⟩:∃fn,F.length=fn:=⟨_,rfl⟩
    have HK:=Lib.hid hx.keys
    have HF:=Lib.hid hx.fors
    have HKN:=Lib.hid hkn
    have HFN:=Lib.hid hfn
    simp only at HK HF
    rw [hkn] at p2 HK
    rw [hfn] at p3 HF
    have tc:tn≤9223372036854775807:=by have:=hx.cols.1;unfold maxLen at this;simp only at this;omega
    have kcl:kn≤9223372036854775807:=by have:=hx.keys.1.1;unfold maxLen at this;simp only at this;omega
    have fcl:fn≤9223372036854775807:=by have:=hx.fors.1.1;unfold maxLen at this;simp only at this;omega
    clear hx hkn hfn
    by_cases h1:(10:Int) < tn
    · go_wp2
      go_ret
      exact ⟨false,rfl,(fun h=> nomatch h),rfl⟩
    by_cases h2:(5:Int) < kn
    · go_wp2
      go_ret
      exact ⟨false,rfl,(fun h=> nomatch h),rfl⟩
    by_cases h3:(5:Int) < fn
    · go_wp2
      go_ret
      exact ⟨false,rfl,(fun h=> nomatch h),rfl⟩
    obtain ⟨gk0,rfl⟩:∃x,x=gk:=⟨_,rfl⟩
    have HK0:RowKit.Hid (∀c∈K.take 0,c.length≤10):=by show ∀c∈K.take 0,_;simp
    go_upto_region 7 with (fail)
    go_loopg [6] kn (fun g z wr2=> ∃k:Nat,z=.int .i64 k∧g+k=kn∧wr2=wr∧RowKit.Hid (∀c∈K.take k,c.length≤10))
    case atStart=> exact ⟨0,rfl,rfl,rfl,HK0⟩
    case round=>
     clear HK0
     obtain ⟨k,rfl,hgk,rfl,Hk⟩:=hrel
     by_cases hk:k < kn
     · have hkl:k < K.length:=by rw [HKN.out];exact hk
       have hkk:(k:Int) < kn:=by omega
       obtain ⟨u,hu,hx⟩:=HK.out.2 k hkl
       obtain ⟨b',o',c',e1,q1⟩:=HK.out.1.some hu
       obtain ⟨rfl, -,rfl⟩:=Value.slice.inj e1
       obtain ⟨ua,un,uc,rfl,hun,hum⟩:=hx.shape
       unfold maxLen at hum
       have hql:=World.block_lt_of_cell? _ _ q1
       have Hst:=Lib.hid (fun h=> take_snoc (P:=fun c:List Int=> c.length≤10) hkl Hk.out h)
       have Hgk:=Lib.hid hgk
       have Hun:=Lib.hid hun
       clear hu hx e1 hgk Hk hun
       generalize K[k]=cl at *
       clear hkl
       by_cases h4:(10:Int) < un
       · go_wp2
         go_ret
         exact ⟨false,rfl,(fun h=> nomatch h),rfl⟩
       · have Hn:=Lib.hid (Hst.out (by have:=Hun.out;omega))
         clear Hst
         go_wp2
         go_roundg (gk - 1)
         case rel=> exact ⟨k+1,by go_num,by have:=Hgk.out;omega,rfl,Hn⟩
         case measure=> have:=Hgk.out;omega
     · obtain rfl:k=kn:=by omega
       have HKA:RowKit.Hid (∀c∈K,c.length≤10):=by
        have h:=Hk.out
        rw [List.take_of_length_le (by rw [HKN.out];exact Nat.le_refl _)] at h
        exact h
       have HF0:RowKit.Hid (∀c∈F.take 0,c.length≤10):=by show ∀c∈F.take 0,_;simp
       clear Hk hgk hk
       go_upto_region 12 with (fail)
       go_loopg [7] fn (fun g z wr2=> ∃j:Nat,z=.int .i64 j∧g+j=fn∧wr2=wr∧RowKit.Hid (∀c∈F.take j,c.length≤10))
       case atStart=> exact ⟨0,rfl,rfl,rfl,HF0⟩
       case round=>
        clear HF0
        obtain ⟨j,rfl,hgj,rfl,Hj⟩:=hrel
        by_cases hj:j < fn
        · have hjl:j < F.length:=by rw [HFN.out];exact hj
          have hjj:(j:Int) < fn:=by omega
          obtain ⟨u,a1,b1,hu, -, -,hx⟩:=HF.out.2 j hjl
          obtain ⟨b',o',c',e1,q1⟩:=HF.out.1.some hu
          obtain ⟨rfl, -,rfl⟩:=Value.slice.inj e1
          obtain ⟨ua,un,uc,rfl,hun,hum⟩:=hx.shape
          unfold maxLen at hum
          have hql:=World.block_lt_of_cell? _ _ q1
          have Hst:=Lib.hid (fun h=> take_snoc (P:=fun c:List Int=> c.length≤10) hjl Hj.out h)
          have Hgj:=Lib.hid hgj
          have Hun:=Lib.hid hun
          clear hu hx e1 hgj Hj hun
          generalize F[j]=cl at *
          clear hjl
          by_cases h4:(10:Int) < un
          · go_wp2
            go_ret
            exact ⟨false,rfl,(fun h=> nomatch h),rfl⟩
          · have Hn:=Lib.hid (Hst.out (by have:=Hun.out;omega))
            clear Hst
            go_wp2
            go_roundg (gk - 1)
            case rel=> exact ⟨j+1,by go_num,by have:=Hgj.out;omega,rfl,Hn⟩
            case measure=> have:=Hgj.out;omega
        · obtain rfl:j=fn:=by omega
          have HN2:RowKit.Hid (∀t∈td.take (i+1),TdP t):=HST.out ⟨by show tn≤10;omega,by show K.length≤5;rw [HKN.out];omega,by show F.length≤5;rw [HFN.out];omega,HKA.out,by
           have h:=Hj.out
           rw [List.take_of_length_le (by rw [HFN.out];exact Nat.le_refl _)] at h
           exact h⟩
          clear Hj hgj hj HST HKA
          go_wp2
          go_roundg (gk0 - 1)
          case rel=> exact ⟨i+1,by go_num,by have:=Hgi.out;omega,rfl,HN2⟩
          case measure=> have:=Hgi.out;omega
  · obtain rfl:i=n:=by omega
    have HTD:RowKit.Hid (∀t∈td,TdP t):=by
     have h:=Hi.out
     rw [List.take_of_length_le (by rw [HN.out];exact Nat.le_refl _)] at h
     exact h
    have HC0:RowKit.Hid (∀c∈l.take 0,shortP c.old∧shortP c.new):=by show ∀c∈l.take 0,_;simp
    clear Hi hgi hi
    go_upto_region 17 with (fail)
    go_loopg [8] m (fun g z wr2=> ∃j:Nat,z=.int .i64 j∧g+j=m∧wr2=wr∧RowKit.Hid (∀c∈l.take j,shortP c.old∧shortP c.new))
    case atStart=> exact ⟨0,rfl,rfl,rfl,HC0⟩
    case round=>
     clear HC0
     obtain ⟨j,rfl,hgj,rfl,Hj⟩:=hrel
     by_cases hj:j < m
     · have hjl:j < l.length:=by rw [HM.out];exact hj
       have hjj:(j:Int) < m:=by omega
       obtain ⟨b,o,c,e1,hbl, -, -,p2,p3⟩:=HL.out.cells j hjl
       obtain ⟨rfl, -,rfl⟩:=Value.slice.inj e1
       have hx:=HL.out.ch _ (List.getElem_mem hjl)
       have Hst:=Lib.hid (fun h=> take_snoc (P:=fun c:Chg=> shortP c.old∧shortP c.new) hjl Hj.out h)
       have Hgj:=Lib.hid hgj
       clear e1 hgj Hj
       generalize l[j]=ch at *
       clear hjl
       have HSO:=Lib.hid (short_calls ch.old ch.ov _ hx.old)
       have HSN:=Lib.hid (short_calls ch.new ch.nv _ hx.new)
       unfold Chg.ov at p2 HSO
       unfold Chg.nv at p3 HSN
       clear hx
       go_wp2_with fail
       (with_reducible refine HSO.out.mono ?_)
       rintro e w1 ⟨q1,rfl,hq1,rfl⟩
       have HQ1:=Lib.hid hq1
       clear hq1 HSO
       cases q1 with
       | false=>
        go_wp2
        go_ret
        exact ⟨false,rfl,(fun h=> nomatch h),rfl⟩
       | true=>
        go_wp2_with fail
        (with_reducible refine HSN.out.mono ?_)
        rintro e w1 ⟨q2,rfl,hq2,rfl⟩
        have HQ2:=Lib.hid hq2
        clear hq2 HSN
        cases q2 with
        | false=>
         go_wp2
         go_ret
         exact ⟨false,rfl,(fun h=> nomatch h),rfl⟩
        | true=>
         have Hn:=Lib.hid (Hst.out ⟨by have:=HQ1.out;simpa using this,by have:=HQ2.out;simpa using this⟩)
         clear Hst
         go_wp2
         go_roundg (gk - 1)
         case rel=> exact ⟨j+1,by go_num,by have:=Hgj.out;omega,rfl,Hn⟩
         case measure=> have:=Hgj.out;omega
     · obtain rfl:j=m:=by omega
       have HCD:RowKit.Hid (∀c∈l,shortP c.old∧shortP c.new):=by
        have h:=Hj.out
        rw [List.take_of_length_le (by rw [HM.out];exact Nat.le_refl _)] at h
        exact h
       clear Hj hgj hj
       by_cases h4:(i:Int)≤4
       · by_cases h5:(j:Int)≤40
         · go_wp2
           go_ret
           exact ⟨true,by simp,fun _=> ⟨HTD.out,HCD.out,by rw [HN.out];omega,by rw [HM.out];omega⟩,rfl⟩
         · go_wp2
           go_ret
           exact ⟨false,by simp,(fun h=> nomatch h),rfl⟩
       · go_wp2
         go_ret
         exact ⟨false,by simp,(fun h=> nomatch h),rfl⟩
/- rows; same: its drawn region. -/
set_option maxRecDepth 100000
theorem Rg.Ob.neqS (G:Rg) (i:Nat) (k:IntKind) (p:Int) {ty r:TypeId} {x y:Operand} (hop:(opAt G.ops i).op=.binOp .neq ty x y r:=by rfl) (hx:∀a,G.env i a x=.int k p:=by intro _;exact kr (by kernel_rfl)) (hy:∀a,G.env i a y=.int k p:=by intro _;exact kr (by kernel_rfl)) (hv:∀g,G.valD i g=.bool false:=by intro _;exact kr (by kernel_rfl))
 (hq:(G.quiet i G.pcs.length && G.okV i)=true:=by exact kr (by kernel_rfl)) (hw:∀a,wantE G.ops (opAt G.ops i) (G.env i a)=some true:=by intro _;exact kr (by kernel_rfl)):G.Ob i:=Rg.Ob.read G i hq hw fun L a w _ _=> by
 simp [execOp,hop,hx,hy,go_sem,hv]
noncomputable def gSma4 (b n mb mo mc k:Nat) (lv pv:Value) (next:Int) (A:Asn):=rgx Tryz.prog Tryz.f15 4 43 [11,12,13,14,15,16,17,18,19,20,21,22,23,24,25,26,27,28,29,30,31] [(5, .int .i64 (k:Nat)),(0,pV b 0),(1, .slice (some ⟨mb,mo,none⟩) n mc)] (Vq 0 11 [Kp b 0,Kv (.int .i64 (k:Nat)),Kv (.slice (some ⟨mb,mo,none⟩) n mc),Kv (.int .i64 (k:Nat)),Kp mb (mo+k * 3),Kp mb (mo+k * 3+1),Kv lv,Kv (.bool true),Kv (.bool false),Kv (.bool false),Kp b 0,Kv (.int .i64 (k:Nat)),Kv pv,Kv (.int .i64 next),Kv (.slice (some ⟨mb,mo,none⟩) n mc),Kv (.int .i64 (k:Nat)),Kp mb (mo+k * 3),Kp mb (mo+k * 3+2),Kv (.int .i64 next),Kv (.bool false),Kv (.bool false)]) [.all (A)]
theorem rSma4 (b n mb mo mc k:Nat) (lv pv:Value) (next:Int) (A:Asn) (w0:World) (fp0:List Nat) (R:List Asn) (hk:k < n) (hlv:∀L w,St w0 fp0 (L++R) w→w.cell? ⟨mb,mo+k * 3+1,none⟩=some lv) (hnx:∀L w,St w0 fp0 (L++R) w→w.cell? ⟨mb,mo+k * 3+2,none⟩=some (.int .i64 next)) (hrows:∀w,St w0 fp0 ([A]++R) w→Calls Tryz.prog 20 #[.pointer (some ⟨b,0,none⟩), .int .i64 (k:Nat),lv] w fun e w2=> e=.returned (.bool true)∧St w0 fp0 ([A]++R) w2) (htab:∀w f,A.p w f→Calls Tryz.prog 21 #[.pointer (some ⟨b,0,none⟩), .int .i64 (k:Nat)] w fun e w'=> e=.returned pv∧Below w.heap.size w w') (hnext:∀w f,A.p w f→Calls Tryz.prog 41 #[pv] w fun e w'=> e=.returned (.int .i64 next)∧Below w.heap.size w w') {w:World} {c:Code} {a:Act} {Q:Exit→Act→World→Prop} (c1:isReg c=true) (c2:cops c=opsR Tryz.f15 4) (c3:a.tmps.size=43) (_c4:a.defers=a.defers) (i5:a.eval (.tmp 5)=.int .i64 (k:Nat)) (i0:a.eval (.tmp 0)=.pointer (some ⟨b,0,none⟩)) (i1:a.eval (.tmp 1)=.slice (some ⟨mb,mo,none⟩) n mc)
 (hS:St w0 fp0 ([A]++R) w)
 (hQ:∀(w1:World),St w0 fp0 ([A]++R) w1→Q .normal (putL a [(11, .pointer (some ⟨b,0,none⟩)),(12, .int .i64 (k:Nat)),(13, .slice (some ⟨mb,mo,none⟩) n mc),(14, .int .i64 (k:Nat)),(15, .pointer (some ⟨mb,mo+k * 3,none⟩)),(16, .pointer (some ⟨mb,mo+k * 3+1,none⟩)),(17,lv),(18, .bool true),(19, .bool false),(20, .bool false),(21, .pointer (some ⟨b,0,none⟩)),(22, .int .i64 (k:Nat)),(23,pv),(24, .int .i64 next),(25, .slice (some ⟨mb,mo,none⟩) n mc),(26, .int .i64 (k:Nat)),(27, .pointer (some ⟨mb,mo+k * 3,none⟩)),(28, .pointer (some ⟨mb,mo+k * 3+2,none⟩)),(29, .int .i64 next),(30, .bool false),(31, .bool false)]) w1):c.wp Tryz.prog Q a w:=by
 have ok:(gSma4 b n mb mo mc k lv pv next A w0 fp0 R).Ok 21:=Rg.ok _ 21 [4,6,7,12,13,16,18,19] ⟨.indexO _ 4 mb mo n mc k 3 hk, .loadR1 _ 6 lv hlv,(.callG _ 7 (f:=20) (args:=fun _=> #[.pointer (some ⟨b,0,none⟩), .int .i64 (k:Nat),lv]) (fun _=> [A]) (fun _ _=> [A]) (fun g w h=> (hrows w h).mono fun e w2 ⟨e1,h2⟩=> ⟨_,e1,kr (by kernel_rfl),h2⟩)), .ask1 _ 12 0 (f:=21) (args:=#[.pointer (some ⟨b,0,none⟩), .int .i64 (k:Nat)]) (v:=pv) htab, .ask1 _ 13 0 (f:=41) (args:=#[pv]) (v:=.int .i64 next) hnext, .indexO _ 16 mb mo n mc k 3 hk, .loadR1 _ 18 (.int .i64 next) hnx, .neqS _ 19 .i64 next,trivial⟩
 refine wp_regD ok (by kernel_rfl) ⟨c1,c2⟩ ⟨c3,fun p hp=> ?_⟩ hS fun A1 w1 N1 H1=> ?_
 · simp only [gSma4,rgx,List.map_nil,List.append_nil,List.mem_cons,List.not_mem_nil,or_false] at hp
   rcases hp with rfl | rfl | rfl
   · exact i5
   · exact i0
   · exact i1
 have e11:=N1.val 0 rfl
 have e12:=N1.val 1 rfl
 have e13:=N1.val 2 rfl
 have e14:=N1.val 3 rfl
 have e15:=N1.val 4 rfl
 have e16:=N1.val 5 rfl
 have e17:=N1.val 6 rfl
 have e18:=N1.val 7 rfl
 have e19:=N1.val 8 rfl
 have e20:=N1.val 9 rfl
 have e21:=N1.val 10 rfl
 have e22:=N1.val 11 rfl
 have e23:=N1.val 12 rfl
 have e24:=N1.val 13 rfl
 have e25:=N1.val 14 rfl
 have e26:=N1.val 15 rfl
 have e27:=N1.val 16 rfl
 have e28:=N1.val 17 rfl
 have e29:=N1.val 18 rfl
 have e30:=N1.val 19 rfl
 have e31:=N1.val 20 rfl
 have h:=hQ  w1  H1
 rw [frame_eq N1.frame (cons_eq e11 (cons_eq e12 (cons_eq e13 (cons_eq e14 (cons_eq e15 (cons_eq e16 (cons_eq e17 (cons_eq e18 (cons_eq e19 (cons_eq e20 (cons_eq e21 (cons_eq e22 (cons_eq e23 (cons_eq e24 (cons_eq e25 (cons_eq e26 (cons_eq e27 (cons_eq e28 (cons_eq e29 (cons_eq e30 (cons_eq e31 rfl)))))))))))))))))))))]
 exact h
end Go.Proofs.YtpdlkdoogojboaaGreat
/- rows, same. -/
namespace Go.Proofs.YtpdlkdoogojboaaGreat
open Go Go.RowKit
theorem tbA_mk (S cols:Nat) (I:List (List Int)) (L:LL) (next:Int):tbA ⟨S,cols,I,L,next⟩=storeA S cols I L next:=rfl
theorem getL_at {L:LL} (ha:AscI L) (k:Nat) (hk:k < L.length):getL L L[k].1=some L[k].2:=by
 have e:L=L.take k++L[k]::L.drop (k+1):=by rw [←List.drop_eq_getElem_cons hk,List.take_append_drop]
 have h:∀a∈L.take k,a.1 < L[k].1:=by
  intro a hm
  obtain ⟨i,hi,rfl⟩:=List.mem_iff_getElem.1 hm
  rw [List.getElem_take]
  rw [List.length_take] at hi
  exact (List.pairwise_iff_getElem.1 ha) i k (by omega) hk (by omega)
 obtain ⟨x,hx⟩:∃x,L[k]=x:=⟨_,rfl⟩
 rw [hx] at e h ⊢
 rw [e]
 exact getL_split1 h rfl
set_option maxHeartbeats 8000000 in
set_option maxRecDepth 20000 in
theorem rows_calls (b:Nat) (q:StQ) (D:Db) (hq:q.Ok D) (i:Nat) (hi:i < q.ts.length) (l:List Ri) (lv:Value) (hl:riL l=q.ts[i].L) (hlen:l.length < 1000000) (w0 w:World) (fp0:List Nat) (R:List Asn) (hx:Rd w0 fp0 R fun w=> RiX w l lv) (hS:St w0 fp0 (dbP b q++(q.ts.map tbA++R)) w):
 Calls Tryz.prog 20 #[.pointer (some ⟨b,0,none⟩), .int .i64 i,lv] w fun e w'=> e=.returned (.bool true)∧St w0 fp0 (dbP b q++(q.ts.map tbA++R)) w':=by
 have hdb:=db_get hS
 have HT:=Lib.hid (table_in b i _ q.tv (ptrV q.ts[i].S) w hdb.2.1 hdb.2.2.2.2 (by rw [List.getElem?_map,List.getElem?_eq_getElem hi];rfl))
 have hid:i < q.td.length:=by rw [hq.dlen,←hq.tlen];exact hi
 have hcl:q.ts[i].cols≤1000000:=by
  have:=(hq.sm _ (List.getElem_mem hid)).n
  rw [hq.tdn i hi hid] at this
  omega
 have HS0:=Lib.hid (hS.pickT i hi)
 have HEND:RowKit.Hid (∀w,St w0 fp0 (tbA q.ts[i]::(dbP b q++((q.ts.eraseIdx i).map tbA++R))) w→St w0 fp0 (dbP b q++(q.ts.map tbA++R)) w):=fun w h=> St.unpickT hi h
 generalize q.ts[i]=T at *
 obtain ⟨S,cols,I,L,next⟩:=T
 simp only [tbA_mk] at hl hcl HS0 HEND HT
 obtain ⟨R1,hR1⟩:∃R1,dbP b q++((q.ts.eraseIdx i).map tbA++R)=R1:=⟨_,rfl⟩
 have HX:RowKit.Hid (Rd w0 fp0 R1 fun w=> RiX w l lv):=by
  show Rd _ _ _ _
  rw [←hR1,←List.append_assoc]
  exact hx.app _
 rw [hR1] at HS0
 obtain ⟨E,hE⟩:∃E:World→Prop,(fun w=> St w0 fp0 (dbP b q++(q.ts.map tbA++R)) w)=E:=⟨_,rfl⟩
 have HEND2:RowKit.Hid (∀w,St w0 fp0 (storeA S cols I L next::R1) w→E w):=fun w h=> by
  rw [←hE]
  refine HEND.out w ?_
  rw [hR1]
  exact h
 have hgoal:∀(e:Ending) (w':World),(e=.returned (.bool true)∧E w')→(e=.returned (.bool true)∧St w0 fp0 (dbP b q++(q.ts.map tbA++R)) w'):=fun e w' h=> by
  rw [←hE] at h
  exact h
 refine Calls.mono ?_ hgoal
 clear hgoal HEND hE hS hdb hx hq hid hR1
 obtain ⟨n,hn⟩:∃n,l.length=n:=⟨_,rfl⟩
 have hL:L.length=n:=by rw [←hl,riL_len,hn]
 obtain ⟨a,c,rfl⟩:=(HX.out.at (M:=[_]) HS0.out).sl.shape
 have HN:=Lib.hid hn
 have hasc:AscI L:=by
  obtain ⟨_,h⟩:=HS0.out.has 0 rfl
  exact (storeA_ok h).1
 have HG:RowKit.Hid (∀k (hk:k < l.length),getL L l[k].id=some l[k].r):=fun k hk=> by
  have hk2:k < L.length:=by rw [←hl,riL_len];exact hk
  have h:=getL_at hasc k hk2
  have e:L[k]=(l[k].id,l[k].r):=by simp only [←hl];exact List.getElem_map _
  rw [e] at h
  exact h
 have HLn:RowKit.Hid (Calls Tryz.prog 53 #[ptrV S] w fun e w'=> e=.returned (.int .i64 n)∧w=w'):=by
  obtain ⟨_,h⟩:=HS0.out.has 0 rfl
  have:=SLen_calls h
  rw [hL] at this
  exact this
 rw [hn] at HX hlen ⊢
 unfold ptrV at HT HLn
 clear hn hasc hL hl
 go_enter Tryz.func20,Tryz.ntmps20
 go_wp2_with fail
 (with_reducible refine HT.out.mono ?_)
 rintro e w1 ⟨rfl,rfl⟩
 clear HT
 go_wp2_with fail
 (with_reducible refine HLn.out.mono ?_)
 rintro e w1 ⟨rfl,rfl⟩
 clear HLn
 go_upto_region 5 with (fail)
 go_loopg [26] n (fun g z wr=> ∃k:Nat,z=.int .i64 k∧g+k=n∧RowKit.Hid (St w0 fp0 (storeA S cols I L next::R1) wr))
 case atStart=> exact ⟨0,rfl,rfl,HS0⟩
 case round=>
  clear HS0
  obtain ⟨k,rfl,hgk,Hs⟩:=hrel
  by_cases hk:k < n
  · have hkl:k < l.length:=by rw [HN.out];exact hk
    have hkn:(k:Int) < n:=by omega
    have hxr:=HX.out.at (M:=[_]) Hs.out
    obtain ⟨b',o,c',e1,q0,q1⟩:=ri_cells (by rw [HN.out];have:=hxr.sl;rw [HN.out] at this;exact this) k hkl
    rw [HN.out] at e1
    obtain ⟨rfl, -,rfl⟩:=Value.slice.inj e1
    have hgl:=HG.out k hkl
    have HROW:RowKit.Hid (∀M w,St w0 fp0 (M++R1) w→ValsAt w l[k].r l[k].v):=fun M w h=> ((HX.out M w h).row _ (List.getElem_mem hkl))
    have hql:=World.block_lt_of_cell? _ _ q0
    have Hgk:=Lib.hid hgk
    have HGL:=Lib.hid hgl
    clear e1 hxr hgk hgl
    generalize l[k]=x at *
    clear hkl
    obtain ⟨xid,xa,xn,xc,xr⟩:=x
    unfold Ri.v at q1 HROW
    simp only at q0 q1 HROW HGL
    have HS1:=Lib.hid (Hs.out.newblk 109 #[.int .i64 xid, .slice xa xn xc])
    go_upto_region 7 with (fail)
    generalize hW:wr.alloc _=W at *
    clear hW q0 q1 hql Hs
    obtain ⟨xb,hxb⟩:∃xb,wr.heap.size=xb:=⟨_,rfl⟩
    rw [hxb] at HS1 ⊢
    clear hxb
    obtain ⟨_,hb⟩:=HS1.out.has 0 rfl
    have c0:=(blk_get hb).1 0
    have c1:=(blk_get hb).1 1
    have cl:=(blk_get hb).2.2
    simp only [List.getElem?_toArray,List.getElem?_cons_zero,List.getElem?_cons_succ] at c0 c1
    have HGT:=Lib.hid (SGet_calls S cols I L next xid w0 W fp0 _ hcl (HS1.out.perm (List.Perm.swap _ _ _)))
    rw [HGL.out] at HGT
    unfold ptrV at HGT
    simp only [Option.isSome_some,Option.getD_some] at HGT
    clear hb
    go_wp2_with fail
    (with_reducible refine HGT.out.mono ?_)
    rintro e w2 ⟨gv,rfl,h2⟩
    clear HGT c0 c1 cl
    obtain ⟨_,hrow⟩:=h2.has 0 rfl
    obtain ⟨ga,gc,rfl, -⟩:=row_shape hrow
    obtain ⟨_,hst⟩:=h2.has 1 rfl
    have htx:=get_txt hst xid
    rw [HGL.out] at htx
    have hg:ValsAt w2 xr (.slice ga xr.length gc):=⟨SlX.of_row (X:=[]) hrow (length_flat _) (by simp),htx⟩
    have HSM:=Lib.hid (rsame_calls xr xr _ (.slice xa xn xc) w2 hg (HROW.out [_,_,_] w2 h2))
    rw [decide_eq_true rfl] at HSM
    have H2:=Lib.hid h2
    obtain ⟨_,hb⟩:=h2.has 2 rfl
    have c0:=(blk_get hb).1 0
    have c1:=(blk_get hb).1 1
    have cl:=(blk_get hb).2.2
    simp only [List.getElem?_toArray,List.getElem?_cons_zero,List.getElem?_cons_succ] at c0 c1
    obtain ⟨gn,hgn⟩:∃gn,xr.length=gn:=⟨_,rfl⟩
    rw [hgn] at HSM ⊢
    clear hb h2 hrow hst htx hg hgn HS1
    go_wp2_with fail
    (with_reducible refine HSM.out.mono ?_)
    rintro e w3 ⟨rfl,hb3⟩
    have H3:=Lib.hid (((H2.out.mono hb3).drop.perm (List.Perm.swap _ _ _)).drop)
    clear HSM H2 hb3 c0 c1 cl
    go_wp2
    go_roundg (gk - 1)
    case rel=> exact ⟨k+1,by go_num,by have:=Hgk.out;omega,H3⟩
    case measure=> have:=Hgk.out;omega
  · obtain rfl:k=n:=by omega
    have HF:=Lib.hid (HEND2.out _ Hs.out)
    clear Hs hgk hk
    go_wp2
    go_ret
    exact ⟨rfl,HF.out⟩
/- same. -/
set_option maxHeartbeats 8000000 in
set_option maxRecDepth 20000 in
theorem same_calls (b:Nat) (D:Db) (ms:List Rs) (mv:Value) (hms:MsOk D ms) (hlen:∀t∈D,t.2.1.length < 1000000) (w0 w:World) (fp0:List Nat) (R:List Asn) (hx:Rd w0 fp0 R fun w=> RefX w ms mv) (hS:St w0 fp0 (stA b D::R) w):
 Calls Tryz.prog 15 #[.pointer (some ⟨b,0,none⟩),mv] w fun e w'=> e=.returned (.bool true)∧St w0 fp0 (stA b D::R) w':=by
 obtain ⟨q,hq,hs⟩:=hS.openD
 obtain ⟨ma,mc,rfl⟩:=(hx.at (M:=[_]) hS).sl.shape
 obtain ⟨A,hA⟩:∃A,starA (dbP b q++q.ts.map tbA)=A:=⟨_,rfl⟩
 have HOP:RowKit.Hid (∀w,St w0 fp0 (A::R) w↔St w0 fp0 (dbP b q++(q.ts.map tbA++R)) w):=fun w=> by
  rw [←hA,St.star,List.append_assoc]
 have HAP:RowKit.Hid (∀w f,A.p w f→∃R',St w [] (dbP b q++R') w∨Star w (dbP b q++q.ts.map tbA) f):=fun w f h=> ⟨[], .inr (by rw [←hA] at h;exact h)⟩
 have HS0:=Lib.hid ((HOP.out w).2 hs)
 have HEND:RowKit.Hid (∀w,St w0 fp0 (A::R) w→St w0 fp0 (stA b D::R) w):=fun w h=> St.shutD hq ((HOP.out w).1 h)
 have HTB:RowKit.Hid (∀w f,A.p w f→w.cell? ⟨b,1,none⟩=some q.tv∧SlX [] w 1 (q.ts.map fun t=> ptrV t.S).length (q.ts.map fun t=> ptrV t.S) q.tv):=fun w f h=> by
  rw [←hA] at h
  have h1:Star w (dbP b q++q.ts.map tbA) f:=h
  obtain ⟨f0,h2, -⟩:=Star.get 0 rfl h1
  obtain ⟨f1,h3, -⟩:=Star.get 2 rfl h1
  exact ⟨(blk_get h2).1 1,SlX.of_sl h3 (by simp)⟩
 have HNX:RowKit.Hid (∀w f,A.p w f→∀i (hi:i < q.ts.length),∃g,(tbA q.ts[i]).p w g):=fun w f h i hi=> by
  rw [←hA] at h
  have h1:Star w (dbP b q++q.ts.map tbA) f:=h
  obtain ⟨g,h2, -⟩:=Star.get (3+i) (A:=tbA q.ts[i]) (by
   show (dbP b q++q.ts.map tbA)[3+i]? =_
   rw [List.getElem?_append_right (by show 3≤3+i;omega)]
   show (q.ts.map tbA)[3+i - 3]? =_
   rw [show 3+i - 3=i by omega,List.getElem?_map,List.getElem?_eq_getElem hi]
   rfl) h1
  exact ⟨g,h2⟩
 have hqn:q.ts.length=ms.length:=by rw [hq.tlen,hms.len]
 have HQN:=Lib.hid hqn
 have HQ:=Lib.hid hq
 have HMS:=Lib.hid hms
 have HX:=Lib.hid hx
 have HLEN:=Lib.hid hlen
 obtain ⟨n,hn⟩:∃n,ms.length=n:=⟨_,rfl⟩
 have HN:=Lib.hid hn
 have hn63:n≤9223372036854775807:=by have:=(hx.at (M:=[_]) hS).sl.1;unfold maxLen at this;omega
 rw [hn] at HX HQN ⊢
 clear hS hs hA hq hms hx hlen hqn hn HAP
 go_enter Tryz.func15,Tryz.ntmps15
 go_upto_region 2 with (fail)
 go_loopg [8] n (fun g z wr=> ∃k:Nat,z=.int .i64 k∧g+k=n∧RowKit.Hid (St w0 fp0 (A::R) wr))
 case atStart=> exact ⟨0,rfl,rfl,HS0⟩
 case round=>
  clear HS0
  obtain ⟨k,rfl,hgk,Hs⟩:=hrel
  by_cases hk:k < n
  · have hkm:k < ms.length:=by rw [HN.out];exact hk
    have hkt:k < q.ts.length:=by rw [HQN.out];exact hk
    have hkn:(k:Int) < n:=by omega
    have hxr:=HX.out.at (M:=[_]) Hs.out
    obtain ⟨mb,mo,mc',e1,mbl,p0,p1,p2⟩:=hxr.cells k hkm
    rw [HN.out] at e1
    obtain ⟨rfl, -,rfl⟩:=Value.slice.inj e1
    have hat:(ms[k].cols,riL ms[k].l,ms[k].next)=(q.ts[k].cols,q.ts[k].L,q.ts[k].next):=by
     have h1:=HMS.out.at k hkm
     have h2:=HQ.out.at k hkt
     rw [h1] at h2
     exact Option.some.inj h2
    injection hat with e1 e2
    injection e2 with e2 e3
    have hcell:∀M w,St w0 fp0 (M++R) w→w.cell? ⟨mb,mo+k * 3+1,none⟩=some ms[k].lv∧w.cell? ⟨mb,mo+k * 3+2,none⟩=some (.int .i64 ms[k].next):=fun M w h=> by
     obtain ⟨b',o',c',e1, -,q0,q1,q2⟩:=(HX.out M w h).cells k hkm
     rw [HN.out] at e1
     obtain ⟨e1, -, -⟩:=Value.slice.inj e1
     injection e1 with e1
     injection e1 with e1 e2
     subst e1 e2
     exact ⟨q1,q2⟩
    have hll:ms[k].l.length < 1000000:=by
     have:=HLEN.out _ (List.mem_of_getElem? (HMS.out.at k hkm))
     rw [riL_len] at this
     exact this
    have Hgk:=Lib.hid hgk
    go_upto_region 4 with (fail)
    refine rSma4 (w0:=w0) (fp0:=fp0) (R:=R) b n mb mo mc k ms[k].lv (ptrV q.ts[k].S) ms[k].next A hk (fun M w h=> (hcell M w h).1) (fun M w h=> (hcell M w h).2) ?_ ?_ ?_ rfl (by kernel_rfl) rfl rfl rfl rfl rfl Hs.out ?_
    · intro w' h'
      refine (rows_calls b q D HQ.out k hkt ms[k].l ms[k].lv e2 hll w0 w' fp0 R (HX.out.imp fun w h=> h.ri _ (List.getElem_mem hkm)) ((HOP.out _).1 h')).mono ?_
      rintro e w2 ⟨rfl,h2⟩
      exact ⟨rfl,(HOP.out _).2 h2⟩
    · intro w' f h'
      obtain ⟨h1,h2⟩:=HTB.out w' f h'
      refine (table_in b k _ q.tv (ptrV q.ts[k].S) w' h1 h2 (by rw [List.getElem?_map,List.getElem?_eq_getElem hkt];rfl)).mono ?_
      rintro e w2 ⟨rfl,rfl⟩
      exact ⟨rfl,Below.refl _ _⟩
    · intro w' f h'
      obtain ⟨g,h1⟩:=HNX.out w' f h' k hkt
      refine (Next_calls h1).mono ?_
      rintro e w2 ⟨rfl,rfl⟩
      exact ⟨by rw [e3],Below.refl _ _⟩
    intro w1 h1
    have H1:RowKit.Hid (St w0 fp0 (A::R) w1):=h1
    clear h1 hcell hll e2 e3 e1 hxr p0 p1 p2 mbl hgk
    simp only [putL,List.foldl,Act.put,List.setIfInBounds_toArray,List.set_cons_succ,List.set_cons_zero]
    go_wp2
    go_roundg (gk - 1)
    case rel=> exact ⟨k+1,by go_num,by have:=Hgk.out;omega,H1⟩
    case measure=> have:=Hgk.out;omega
  · obtain rfl:k=n:=by omega
    obtain ⟨f,hf⟩:=Hs.out.has 0 rfl
    obtain ⟨h1, -⟩:=HTB.out _ f hf
    unfold StQ.tv at h1
    have HT1:=Lib.hid (table_out b _ q.tc q.ta (-1) wr h1 (by omega))
    have HT2:=Lib.hid (table_out b _ q.tc q.ta k wr h1 (by rw [HQN.out];omega))
    have HF:=Lib.hid (HEND.out _ Hs.out)
    clear h1 hf Hs hgk hk
    go_wp2_with fail
    (with_reducible refine HT1.out.mono ?_)
    rintro e w1 ⟨rfl,rfl⟩
    clear HT1
    go_wp2_with fail
    (with_reducible refine HT2.out.mono ?_)
    rintro e w1 ⟨rfl,rfl⟩
    clear HT2
    go_wp2
    go_ret
    exact ⟨rfl,HF.out⟩
/- run. -/
theorem appD_length (D:Db) (c:Chg):(appD D c).length=D.length:=by
 unfold appD
 cases rowD D c.tb with
 | none=> rfl
 | some t=>
  simp only
  split
  · rw [List.length_set]
  · rfl
theorem appT_len (cols:Nat) (id:Int) (new:Rw) (L:LL):(appT cols id new L).length≤L.length+1:=by
 unfold appT
 split
 · have:(delL id L).length≤L.length:=List.length_filter_le _ _
   omega
 · unfold putLL
   split
   · exact putL_len _ _ _
   · omega
theorem appD_max {D:Db} {c:Chg} {N:Nat} (h:∀t∈D,t.2.1.length≤N):∀t∈appD D c,t.2.1.length≤N+1:=by
 intro t ht
 unfold appD at ht
 cases e:rowD D c.tb with
 | none=>
  rw [e] at ht
  have:=h t ht
  omega
 | some u=>
  rw [e] at ht
  simp only at ht
  split at ht
  · rcases List.mem_or_eq_of_mem_set ht with ht | rfl
    · have:=h t ht
      omega
    · have h1:=appT_len u.1 c.id c.new u.2.1
      have hu:u∈D:=by
       unfold rowD at e
       split at e
       · exact List.mem_of_getElem? e
       · cases e
      have:=h u hu
      simp only
      omega
  · have:=h t ht
    omega
/-- The tables behind changes. -/
def runD (D:Db) (l:List Chg):Db:=l.foldl appD D
theorem runD_snoc (D:Db) (l:List Chg) (k:Nat) (hk:k < l.length):runD D (l.take (k+1))=appD (runD D (l.take k)) l[k]:=by
 unfold runD
 rw [List.take_add_one,List.getElem?_eq_getElem hk,List.foldl_append]
 rfl
theorem runD_length (D:Db) (l:List Chg):(runD D l).length=D.length:=by
 unfold runD
 induction l generalizing D with
 | nil=> rfl
 | cons c l ih=> rw [List.foldl_cons,ih,appD_length]
theorem runD_max {D:Db} {N:Nat} (h:∀t∈D,t.2.1.length≤N) (l:List Chg):∀t∈runD D l,t.2.1.length≤N+l.length:=by
 unfold runD
 induction l generalizing D N with
 | nil=> exact h
 | cons c l ih=>
  intro t ht
  have:=ih (appD_max h) t ht
  rw [List.length_cons]
  omega
theorem newD_max (td:List Td):∀t∈newD td,t.2.1.length≤0:=by
 intro t ht
 obtain ⟨u, -,rfl⟩:=List.mem_map.1 ht
 exact Nat.le_refl _
/-- A store and a version that agree. -/
def Both (w0:World) (fp0:List Nat) (R:List Asn) (b:Nat) (D:Db) (mv:Value) (w:World):Prop:=∃(ms:List Rs) (a:Option Addr) (c:Nat) (P:List Asn),mv=.slice a ms.length c∧MsOk D ms∧Rd w0 fp0 (P++R) (fun w=> RefX w ms mv)∧St w0 fp0 (stA b D::(P++R)) w
/-- What run gives. -/
def RunPost (w0:World) (fp0:List Nat) (R:List Asn) (D:Db) (e:Ending) (w:World):Prop:=∃b mv,e=.returned (.tuple #[.pointer (some ⟨b,0,none⟩),mv, .bool true])∧Both w0 fp0 R b D mv w
set_option maxHeartbeats 8000000 in
set_option maxRecDepth 20000 in
theorem run_calls (td:List Td) (sv:Value) (l:List Chg) (lv:Value) (hsm:∀t∈td,t.Sm) (htl:td.length≤1000) (hll:l.length≤100000) (hok:∀c∈l,c.Ok) (w0 w:World) (fp0:List Nat) (R:List Asn) (hs:Rd w0 fp0 R fun w=> SchX w td sv) (hl:Rd w0 fp0 R fun w=> ChsX w l lv) (hS:St w0 fp0 R w):
 Calls Tryz.prog 14 #[sv,lv] w fun e w'=> RunPost w0 fp0 R (runD (newD td) l) e w':=by
 obtain ⟨sa,sc,rfl⟩:=(hs.here hS).sl.shape
 obtain ⟨la,lc,rfl⟩:=(hl.here hS).sl.shape
 have HNW:=Lib.hid (StNew_calls td _ hsm htl w0 w fp0 R hs hS)
 have HRN:RowKit.Hid (∀b w',St w0 fp0 (stA b (newD td)::R) w'→_):=fun b w' h=> RNew40_calls td _ htl w0 w' fp0 _ (hs.cons (stA b (newD td))) h
 have HL:=Lib.hid hl
 have HOK:=Lib.hid hok
 obtain ⟨m,hm⟩:∃m,l.length=m:=⟨_,rfl⟩
 obtain ⟨n,hn⟩:∃n,td.length=n:=⟨_,rfl⟩
 have HM:=Lib.hid hm
 have HN:=Lib.hid hn
 rw [hm] at HL hll ⊢
 rw [hn] at HNW HRN htl ⊢
 clear hs hl hS hsm hok hm hn
 go_enter Tryz.func14,Tryz.ntmps14
 go_wp2_with fail
 (with_reducible refine HNW.out.mono ?_)
 rintro e w1 ⟨b,rfl,h1⟩
 have HR1:=Lib.hid (HRN.out b w1 h1)
 clear HNW HRN h1
 go_wp2_with fail
 (with_reducible refine HR1.out.mono ?_)
 rintro e w2 ⟨ra,rc,rfl,h2⟩
 clear HR1
 have HI:RowKit.Hid (Both w0 fp0 R b (runD (newD td) (l.take 0)) (.slice ra n rc) w2):=by
  have hn0:(ms0 td).length=n:=by rw [ms0,List.length_map,HN.out]
  refine ⟨ms0 td,ra,rc,[rowA 44 3 (.slice ra n rc) n ((ms0 td).flatMap Rs.c)],by rw [hn0],ms0_ok td,Rd.of_piece 0 rfl fun w f h=> ?_,h2.perm (List.Perm.swap _ _ _)⟩
  exact ms0_x (by rw [hn0];exact h)
 clear h2
 go_upto_region 4 with (fail)
 go_loopg [8,9,22] m (fun g z8 z9 z wr=> ∃k:Nat,z=.int .i64 k∧z9=.bool true∧g+k=m∧RowKit.Hid (Both w0 fp0 R b (runD (newD td) (l.take k)) z8 wr))
 case atStart=> exact ⟨0,rfl,rfl,rfl,HI⟩
 case round=>
  clear HI
  obtain ⟨k,rfl,rfl,hgk,Hi⟩:=hrel
  obtain ⟨ms,a,c,P,rfl,hms,hrx,hs⟩:=Hi.out
  by_cases hk:k < m
  · have hkl:k < l.length:=by rw [HM.out];exact hk
    have hkn:(k:Int) < m:=by omega
    have hlx:=HL.out.at (M:=_::P) hs
    obtain ⟨b',o,c',e1,hbl,p0,p1,p2,p3⟩:=hlx.cells k hkl
    rw [HM.out] at e1
    obtain ⟨rfl, -,rfl⟩:=Value.slice.inj e1
    have hD:=runD_snoc (newD td) l k hkl
    have hcx:Rd w0 fp0 R fun w=> l[k].X w:=HL.out.imp fun w h=> h.ch _ (List.getElem_mem hkl)
    have hco:=HOK.out _ (List.getElem_mem hkl)
    have hmax:∀t∈runD (newD td) (l.take k),t.2.1.length < 1000000:=fun t ht=> by
     have:=runD_max (newD_max td) (l.take k) t ht
     rw [List.length_take] at this
     omega
    have hmn:ms.length≤1000:=by rw [hms.len,runD_length,newD,List.length_map,HN.out];exact htl
    have HX:=Lib.hid (And.intro hms (And.intro hrx hD))
    have HC:=Lib.hid hcx
    have HCO:=Lib.hid hco
    have HMAX:=Lib.hid hmax
    have Hgk:=Lib.hid hgk
    clear e1 hlx hD hcx hco hmax hgk Hi hms hrx
    generalize l[k]=ch at *
    clear hkl
    obtain ⟨mn,hmn0⟩:∃mn,ms.length=mn:=⟨_,rfl⟩
    have hs1:=hs.newblk 35 #[.int .i64 ch.tb, .int .i64 ch.id,ch.ov,ch.nv]
    have HRA:RowKit.Hid (∀L w,St w0 fp0 (L++(P++R)) w→Calls Tryz.prog 16 #[.slice a mn c,ch.v] w fun e w'=> RaPost w0 fp0 L (P++R) (appD (runD (newD td) (l.take k)) ch) (chkD (runD (newD td) (l.take k)) ch) e w'):=fun L w h=> by
     rw [←hmn0]
     exact RApply_calls ms _ _ HX.out.1 ch HCO.out HMAX.out hmn w0 w fp0 L (P++R) HX.out.2.1 (HC.out.app P) h
    have HAP:RowKit.Hid (∀(Q:List Asn) w,St w0 fp0 (stA b (runD (newD td) (l.take k))::(Q++R)) w→Calls Tryz.prog 19 #[.pointer (some ⟨b,0,none⟩),ch.v] w fun e w'=> e=.returned (.int .i64 (chkD (runD (newD td) (l.take k)) ch))∧St w0 fp0 (stA b (appD (runD (newD td) (l.take k)) ch)::(Q++R)) w'):=fun Q w h=> Apply_calls b _ ch HCO.out HMAX.out w0 w fp0 (Q++R) (HC.out.app Q) h
    have HD:=Lib.hid HX.out.2.2
    have HS1:=Lib.hid hs1
    rw [hmn0]
    generalize runD (newD td) (l.take k)=Dk at *
    generalize chkD Dk ch=er at *
    generalize appD Dk ch=D2 at *
    clear hs hs1 HX HC HCO HMAX hmn hmn0
    unfold Chg.v at HRA HAP
    unfold Chg.ov Chg.nv at *
    go_upto_region 7 with (fail)
    generalize hW:wr.alloc _=W at *
    clear hW p0 p1 p2 p3 hbl
    obtain ⟨cb,hcb⟩:∃cb,wr.heap.size=cb:=⟨_,rfl⟩
    rw [hcb] at HS1 ⊢
    clear hcb
    obtain ⟨c0,c1,c2,c3,cl⟩:=cells4 HS1.out 0 rfl
    have HR:=Lib.hid (HRA.out [_,_] W HS1.out)
    clear HRA
    go_wp2_with fail
    (with_reducible refine HR.out.mono ?_)
    rintro e w3 ⟨ms2,a2,cc2,P2,rfl,hm2,hr2,h3⟩
    clear HR HS1 c0 c1 c2 c3 cl
    obtain ⟨c0,c1,c2,c3,cl⟩:=cells4 h3 0 rfl
    have h4:St w0 fp0 (stA b Dk::((P2++P++[blkA cb 35 #[.int .i64 ch.tb, .int .i64 ch.id, .slice ch.oa ch.old.length ch.oc, .slice ch.na ch.new.length ch.nc]])++R)) w3:=by
     refine h3.perm ?_
     classical
     refine List.perm_iff_count.2 fun x=> ?_
     simp only [List.count_append,List.count_cons,List.count_nil,List.cons_append,List.nil_append]
     omega
    have HA:=Lib.hid (HAP.out _ w3 h4)
    have HM2:=Lib.hid (And.intro hm2 hr2)
    obtain ⟨mn2,hmn2⟩:∃mn2,ms2.length=mn2:=⟨_,rfl⟩
    have HMN2:=Lib.hid hmn2
    rw [hmn2]
    clear HAP h3 h4 hm2 hr2 hmn2
    go_wp2_with fail
    (with_reducible refine HA.out.mono ?_)
    rintro e w4 ⟨rfl,h5⟩
    have HI2:RowKit.Hid (Both w0 fp0 R b (runD (newD td) (l.take (k+1))) (.slice a2 mn2 cc2) w4):=by
     refine ⟨ms2,a2,cc2,P2++P,by rw [HMN2.out],by rw [HD.out];exact HM2.out.1,?_,?_⟩
     · have:=HM2.out.2
       rw [HMN2.out] at this
       rw [List.append_assoc]
       exact this
     · rw [HD.out]
       have h6:St w0 fp0 (blkA cb 35 #[.int .i64 ch.tb, .int .i64 ch.id, .slice ch.oa ch.old.length ch.oc, .slice ch.na ch.new.length ch.nc]::(stA b D2::((P2++P)++R))) w4:=by
        refine h5.perm ?_
        classical
        refine List.perm_iff_count.2 fun x=> ?_
        simp only [List.count_append,List.count_cons,List.count_nil]
        omega
       exact h6.drop
    clear HA HM2 HMN2 h5 c0 c1 c2 c3 cl HD
    go_wp2
    go_roundg (gk - 1)
    case rel=> exact ⟨k+1,by go_num,by go_num,by have:=Hgk.out;omega,HI2⟩
    case measure=> have:=Hgk.out;omega
  · obtain rfl:k=m:=by omega
    have HF:RowKit.Hid (Both w0 fp0 R b (runD (newD td) l) (.slice a ms.length c) wr):=by
     have h:=Hi.out
     rw [List.take_of_length_le (by rw [HM.out];exact Nat.le_refl _)] at h
     exact h
    clear Hi hgk hk hms hrx hs
    generalize ms.length=mn at *
    go_wp2
    refine bodyPost_ret (v:=.tuple #[.pointer (some ⟨b,0,none⟩), .slice a mn c, .bool true]) (by simp [results,Tryz.results14,go_sem]) rfl ?_
    exact ⟨b,_,rfl,HF.out⟩
/- The writer's number: its region. -/
set_option maxRecDepth 100000
/-- A writer. -/
def wrA (b:Nat) (xs:List UInt8):Asn:=exA fun v=> starA [blkA b 116 #[v],slA 5 v (xs.map u8C)]
noncomputable def gWn0 (b:Nat) (n:Int) (v:Value) (xs:List UInt8):=rgx Tryz.prog Tryz.f55 0 14 [4,5,6,7,8,9,10,11,12,13] [(0,pV b 0),(1, .int .i64 n)] (Vq 0 4 [Kp b 0,Kp b 0,Kp b 0,Kp b 0,Kv v,Kv (.int .i64 n),Kv (.string (textOf (numL n))),Vf.slice,Kp b 0,Kp b 0]) [.blk b (116) [⟨v,[(10, .s 11)]⟩], .gen [7] [11] fun L g=> match L 7 with | true=> slA 5 (g 11) (xs.map u8C++(bytes (textOf (numL n))).map u8C) | false=> slA 5 (v) (xs.map u8C)]
theorem rWn0 (b:Nat) (n:Int) (v:Value) (xs:List UInt8) (w0:World) (fp0:List Nat) (R:List Asn) (hl:xs.length+8 < 1099511627776) (hnum:∀L w,St w0 fp0 (L++R) w→Calls Tryz.prog 86 #[.int .i64 n] w fun e w'=> e=.returned (.string (textOf (numL n)))∧Below w.heap.size w w') {w:World} {c:Code} {a:Act} {Q:Exit→Act→World→Prop} (c1:isReg c=true) (c2:cops c=opsR Tryz.f55 0) (c3:a.tmps.size=14) (_c4:a.defers=a.defers) (i0:a.eval (.tmp 0)=.pointer (some ⟨b,0,none⟩)) (i1:a.eval (.tmp 1)=.int .i64 n)
 (hS:St w0 fp0 ([blkA b (116) #[v],slA 5 (v) (xs.map u8C)]++R) w)
 (hQ:∀(u11:Value) (w1:World),(∃a n c,u11=.slice a n c)→St w0 fp0 ([blkA b (116) #[u11],slA 5 (u11) (xs.map u8C++(bytes (textOf (numL n))).map u8C)]++R) w1→Q .normal (putL a [(4, .pointer (some ⟨b,0,none⟩)),(5, .pointer (some ⟨b,0,none⟩)),(6, .pointer (some ⟨b,0,none⟩)),(7, .pointer (some ⟨b,0,none⟩)),(8,v),(9, .int .i64 n),(10, .string (textOf (numL n))),(11,u11),(12, .pointer (some ⟨b,0,none⟩)),(13, .pointer (some ⟨b,0,none⟩))]) w1):c.wp Tryz.prog Q a w:=by
 have ok:(gWn0 b n v xs w0 fp0 R).Ok 11:=Rg.ok _ 11 [4,6,7,10] ⟨.load _ 4 0 0, .askR _ 6 hnum, .appG _ 7 (fun _=> [blkA b 116 #[v],slA 5 (v) (xs.map u8C)]) (fun _ u=> [blkA b 116 #[v],slA 5 (u) (xs.map u8C++(bytes (textOf (numL n))).map u8C)]) (fun ty g w h=> (by obtain ⟨u,w2,h1,h2⟩:=appT1 appBT (by kernel_rfl) ty (textOf (numL n)) (by rw [num_size,List.length_map];omega) (h.perm (List.Perm.swap _ _ _));obtain ⟨_,hr⟩:=h2.has 0 rfl;obtain ⟨a,m,c,rfl⟩:=sl_shape hr;exact ⟨_,w2,h1,kr (by kernel_rfl),h2.perm (List.Perm.swap _ _ _)⟩)), .store _ 10 0 0,trivial⟩
 refine wp_regD ok (by kernel_rfl) ⟨c1,c2⟩ ⟨c3,fun p hp=> ?_⟩ hS fun A1 w1 N1 H1=> ?_
 · simp only [gWn0,rgx,List.map_nil,List.append_nil,List.mem_cons,List.not_mem_nil,or_false] at hp
   rcases hp with rfl | rfl
   · exact i0
   · exact i1
 have e4:=N1.val 0 rfl
 have e5:=N1.val 1 rfl
 have e6:=N1.val 2 rfl
 have e7:=N1.val 3 rfl
 have e8:=N1.val 4 rfl
 have e9:=N1.val 5 rfl
 have e10:=N1.val 6 rfl
 have e11:=N1.val 7 rfl
 have e12:=N1.val 8 rfl
 have e13:=N1.val 9 rfl
 have h:=hQ (slots A1 11) w1 ⟨_,_,_,e11⟩ H1
 rw [frame_eq N1.frame (cons_eq e4 (cons_eq e5 (cons_eq e6 (cons_eq e7 (cons_eq e8 (cons_eq e9 (cons_eq e10 (cons_eq rfl (cons_eq e12 (cons_eq e13 rfl))))))))))]
 exact h
end Go.Proofs.YtpdlkdoogojboaaGreat
/- The writer's number; the reference's Number. -/
namespace Go.Proofs.YtpdlkdoogojboaaGreat
open Go Go.RowKit
theorem St.wr {w0 w:World} {fp0:List Nat} {R:List Asn} {b:Nat} {xs:List UInt8}:St w0 fp0 (wrA b xs::R) w↔∃v,St w0 fp0 (blkA b 116 #[v]::slA 5 v (xs.map u8C)::R) w:=by
 constructor
 · intro h
   obtain ⟨v,h1⟩:=St.exE h
   exact ⟨v,St.star.1 h1⟩
 · rintro ⟨v,h⟩
   have h1:St w0 fp0 (starA [blkA b 116 #[v],slA 5 v (xs.map u8C)]::R) w:=St.star.2 h
   exact St.exI (F:=fun v=> starA [blkA b 116 #[v],slA 5 v (xs.map u8C)]) v h1
set_option maxHeartbeats 4000000 in
theorem wNumber_calls (b:Nat) (xs:List UInt8) (n:Int) (hn:I64 n) (hl:xs.length+8 < 1099511627776) (w0 w:World) (fp0:List Nat) (R:List Asn) (hS:St w0 fp0 (wrA b xs::R) w):
 Calls Tryz.prog 55 #[.pointer (some ⟨b,0,none⟩), .int .i64 n] w fun e w'=> e=.returned (.tuple #[])∧St w0 fp0 (wrA b (xs++numL n)::R) w':=by
 obtain ⟨v,h⟩:=St.wr.1 hS
 have HS:=Lib.hid h
 have HN:=Lib.hid hn
 have HL:=Lib.hid hl
 clear hS h hn hl
 go_enter Tryz.func55,Tryz.ntmps55
 go_upto_region 0 with (fail)
 refine rWn0 (w0:=w0) (fp0:=fp0) (R:=R) b n v xs HL.out (fun L w h=> number_calls n HN.out w) rfl (by kernel_rfl) rfl rfl rfl rfl HS.out ?_
 intro u11 w1 ⟨a,m,c,e11⟩ h1
 subst e11
 have HF:RowKit.Hid (St w0 fp0 (wrA b (xs++numL n)::R) w1):=by
  refine St.wr.2 ⟨.slice a m c,?_⟩
  rw [List.map_append]
  have h2:St w0 fp0 (blkA b 116 #[.slice a m c]::slA 5 (.slice a m c) (xs.map u8C++(bytes (textOf (numL n))).map u8C)::R) w1:=h1
  rw [bytes_textOf] at h2
  exact h2
 clear h1
 simp only [putL,List.foldl,Act.put,List.setIfInBounds_toArray,List.set_cons_succ,List.set_cons_zero]
 go_end0
 exact ⟨rfl,HF.out⟩
end Go.Proofs.YtpdlkdoogojboaaGreat
