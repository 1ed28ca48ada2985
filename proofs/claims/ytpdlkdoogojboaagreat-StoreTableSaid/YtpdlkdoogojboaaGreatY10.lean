/- Part 10 of the proof: Mp, Mt, Mr, Mv -/
import Derived.Test.YtpdlkdoogojboaaGreatY09
/- append bounded by bytes; StoreUndo's drawn region. -/
namespace Go.Proofs.YtpdlkdoogojboaaGreat
open Go Go.RowKit
set_option maxRecDepth 100000
/-- append to a row of a type of elements, bounded by the bytes that are asked for. -/
def AppB (P:Program) (t tx e:TypeId) (size bytes:Nat):Prop:=∀(ty:TypeId) (w:World) (v:Value) (n:Nat) (xs:List Value) (f:List Nat) (x:Value) (m:Nat) (news:List Value),(rowA e size v n xs).p w f→Go.Src P size tx x m news w→(n+m) * bytes≤140737488355328→
 ∃v' w' f',(Builtin.append_ #[t,tx] ty #[v,x]).run P w=.ok v' w'∧(rowA e size v' (n+m) (xs++news)).p w' f'∧Tr w w' f f'
theorem appB_of {P:Program} {t tx e:TypeId} {size bytes:Nat} {z:Value} (hi:(P.info? e).map (fun i=> (i.zero,i.size,i.bytes))=some (some z,size,bytes)) (ht:P.underlying t=some (.slice e)) (hz:z.cells.size=size) (h0:0 < size) (hb:0 < bytes):AppB P t tx e size bytes:=by
 intro ty w v n xs f x m news h1 h2 h3
 cases hi':P.info? e with
 | none=> rw [hi'] at hi;cases hi
 | some i0=>
  rw [hi'] at hi
  simp only [Option.map_some,Option.some.injEq,Prod.mk.injEq] at hi
  obtain ⟨iz0,iz1,iz2⟩:=hi
  exact row_append_src w t tx ty e i0 z size bytes ht hi' iz0 iz1 iz2 hz h0 h1 h2 (by
   have:n+m≤(n+m) * bytes:=Nat.le_mul_of_pos_right _ hb
   unfold maxLen
   omega) h3
theorem appCH:AppB Tryz.prog 24 24 35 4 64:=appB_of (z:=.agg #[.int .i64 0, .int .i64 0, .slice none 0 0, .slice none 0 0]) (by kernel_rfl) (by kernel_rfl) rfl (by decide) (by decide)
theorem St.appB {Pr:Program} {w0 w:World} {fp0:List Nat} {L:List Asn} {t tx e:TypeId} {size bytes:Nat} (hC:AppB Pr t tx e size bytes) (ty:TypeId) {v x:Value} {n m:Nat} {xs news:List Value} (hS:St w0 fp0 (rowA e size v n xs::L) w) (hs:Go.Src Pr size tx x m news w) (hl:(n+m) * bytes≤140737488355328):
 ∃v' w',(Builtin.append_ #[t,tx] ty #[v,x]).run Pr w=.ok v' w'∧St w0 fp0 (rowA e size v' (n+m) (xs++news)::L) w':=by
 obtain ⟨f,h1,h2⟩:=hS.get 0 rfl
 obtain ⟨v',w',f',h3,h4,h5⟩:=hC ty w v n xs f x m news h1 hs hl
 exact ⟨v',w',h3,h2 _ _ _ h4 h5⟩
theorem chs_one (l:List Chg):∀u∈l.flatMap Chg.c,u.oneCell'=true:=by
 intro u hu
 obtain ⟨m, -,hm⟩:=List.mem_flatMap.1 hu
 unfold Chg.c Chg.ov Chg.nv at hm
 simp only [List.mem_cons,List.not_mem_nil,or_false] at hm
 rcases hm with rfl | rfl | rfl | rfl <;> rfl
def bv:Value→Bool
 | .bool b=> b
 | _=> false
end Go.Proofs.YtpdlkdoogojboaaGreat
/- StoreTable's drawn region. -/
namespace Go.Proofs.YtpdlkdoogojboaaGreat
open Go Go.RowKit
set_option maxRecDepth 100000
noncomputable def gSt1 (n lc:Nat) (la:Option Addr) (sv:Value) (ra:Option Addr) (rn rc:Nat) (XS:List Value) (SP:Prop):=rgx Tryz.prog Tryz.f5 1 80 [15,16,17,18,19,20,21,22,23,24,25,26,27,28] [(0,sv),(1, .slice la n lc),(3, .slice ra rn rc)] (Vq 0 15 [Kv (.bool true),Kv (.bool false),Kv (.bool false),Kv sv]++Vq 5 20 [Kv (.slice la n lc)]++Vq 7 22 [Kv (.slice ra rn rc),Kv (.agg #[.int .i64 0, .int .i64 0, .slice none 0 0, .slice ra rn rc]),Vf.box,Vf.slice,Fv [26] fun g=> .bool (bv (g 26)),Fv [26] fun g=> .bool (!bv (g 26)),Fv [26] fun g=> .bool (!bv (g 26))]) [.gen [4,6,10] [19,21,25] fun L g=> match L 10 with | true=> rowA 35 4 (g 25) (n+1) (XS++[.int .i64 0, .int .i64 0, .slice none 0 0, .slice ra rn rc]) | false=> match L 6 with | true=> rowA 35 4 (g 21) n XS | false=> match L 4 with | true=> rowA 35 4 (g 19) 0 [] | false=> emp, .new 9 [24] fun g=> boxsA 35 (g 24) #[.int .i64 0, .int .i64 0, .slice none 0 0, .slice ra rn rc], .gen [11] [26] fun L g=> match L 11 with | true=> pureA (∃q2,g 26=.bool q2∧(q2=true→SP)) | false=> emp]
theorem rSt1 (n lc:Nat) (la:Option Addr) (sv:Value) (ra:Option Addr) (rn rc:Nat) (XS:List Value) (SP:Prop) (w0:World) (fp0:List Nat) (R:List Asn) (hl:(n+1) * 64≤140737488355328) (hx1:∀u∈([.int .i64 0, .int .i64 0, .slice none 0 0, .slice ra rn rc]:List Value),u.oneCell'=true) (haw:∀L w,St w0 fp0 (L++R) w→Calls Tryz.prog 12 #[] w fun e w'=> e=.returned (.bool true)∧Below w.heap.size w w') (hsrc:∀L w,St w0 fp0 (L++R) w→Go.Src Tryz.prog 4 24 (.slice la n lc) n XS w) (hsm:∀(ya:Option Addr) (yn yc:Nat) (B:Asn) (w:World),St w0 fp0 ([rowA 35 4 (.slice ya yn yc) (n+1) (XS++[.int .i64 0, .int .i64 0, .slice none 0 0, .slice ra rn rc]),B,emp]++R) w→Calls Tryz.prog 13 #[sv, .slice ya yn yc] w fun e w'=> QPost SP w e w') {w:World} {c:Code} {a:Act} {Q:Exit→Act→World→Prop} (c1:isReg c=true) (c2:cops c=opsR Tryz.f5 1) (c3:a.tmps.size=80) (_c4:a.defers=a.defers) (i0:a.eval (.tmp 0)=sv) (i1:a.eval (.tmp 1)=.slice la n lc) (i3:a.eval (.tmp 3)=.slice ra rn rc)
 (hS:St w0 fp0 ([emp,emp,emp]++R) w)
 (hQ:∀(u19 u21 u24 u25 u26 u27 u28:Value) (w1:World),(∃b,u24=.slice (some ⟨b,0,none⟩) 1 1)→(∃a n c,u25=.slice a n c)→u26=.bool (bv (u26))→u27=.bool (!bv (u26))→u28=.bool (!bv (u26))→St w0 fp0 ([rowA 35 4 (u25) (n+1) (XS++[.int .i64 0, .int .i64 0, .slice none 0 0, .slice ra rn rc]),boxsA 35 (u24) #[.int .i64 0, .int .i64 0, .slice none 0 0, .slice ra rn rc],pureA (∃q2,u26=.bool q2∧(q2=true→SP))]++R) w1→Q .normal (putL a [(15, .bool true),(16, .bool false),(17, .bool false),(18,sv),(19,u19),(20, .slice la n lc),(21,u21),(22, .slice ra rn rc),(23, .agg #[.int .i64 0, .int .i64 0, .slice none 0 0, .slice ra rn rc]),(24,u24),(25,u25),(26,u26),(27,u27),(28,u28)]) w1):c.wp Tryz.prog Q a w:=by
 have ok:(gSt1 n lc la sv ra rn rc XS SP w0 fp0 R).Ok 14:=Rg.ok _ 14 [0,4,6,9,10,11] ⟨.askR _ 0 haw, .run1 _ 4 0 (fun _=> emp) (fun _ v=> rowA 35 4 (v) 0 []) (fun L a w fp _ hp=> ⟨.slice (some ⟨w.heap.size,0,none⟩) 0 0,w.alloc (.cells #[] 35),[w.heap.size],kr (by kernel_rfl),rfl,row_empty (size:=4) ⟨heap_alloc_new w _,rfl⟩,trNew hp _⟩), .run1 _ 6 0 (fun g=> rowA 35 4 (g 19) 0 []) (fun _ v=> rowA 35 4 (v) n XS) (fun L a w fp hS hp=> (by obtain ⟨v,w2,f2,h1,h2,h3⟩:=appCH (opAt (opsR Tryz.f5 1) 6).type w (slots a 19) 0 [] fp (.slice la n lc) n XS hp (hsrc _ w hS) (by omega);rw [Nat.zero_add,List.nil_append] at h2;exact ⟨v,w2,f2,exec_app rfl (kr (by kernel_rfl)) (kr (by kernel_rfl)) h1,rfl,h2,h3⟩)), .boxs _ 9 1, .appG _ 10 (fun g=> [rowA 35 4 (g 21) n XS,boxsA 35 (g 24) #[.int .i64 0, .int .i64 0, .slice none 0 0, .slice ra rn rc],emp]) (fun g v=> [rowA 35 4 (v) (n+1) (XS++[.int .i64 0, .int .i64 0, .slice none 0 0, .slice ra rn rc]),boxsA 35 (g 24) #[.int .i64 0, .int .i64 0, .slice none 0 0, .slice ra rn rc],emp]) (fun ty g w h=> (by obtain ⟨fb,hfb⟩:=h.has 1 rfl;obtain ⟨v,w2,h1,h2⟩:=St.appB appCH ty (h) (boxs_src (tx:=24) (e':=35) (by kernel_rfl) hfb rfl hx1) (by omega);obtain ⟨_,hr⟩:=h2.has 0 rfl;obtain ⟨a,c,rfl, -⟩:=row_shape hr;exact ⟨_,w2,h1,kr (by kernel_rfl),h2⟩)), .callG _ 11 (f:=13) (args:=fun g=> #[sv, .slice (sa (g 25)) (sn (g 25)) (sc (g 25))]) (fun g=> [rowA 35 4 (g 25) (n+1) (XS++[.int .i64 0, .int .i64 0, .slice none 0 0, .slice ra rn rc]),boxsA 35 (g 24) #[.int .i64 0, .int .i64 0, .slice none 0 0, .slice ra rn rc],emp]) (fun g v=> [rowA 35 4 (g 25) (n+1) (XS++[.int .i64 0, .int .i64 0, .slice none 0 0, .slice ra rn rc]),boxsA 35 (g 24) #[.int .i64 0, .int .i64 0, .slice none 0 0, .slice ra rn rc],pureA (∃q2,v=.bool q2∧(q2=true→SP))]) (fun g w h=> (by obtain ⟨_,hr⟩:=h.has 0 rfl;obtain ⟨ya,yc,e, -⟩:=row_shape hr;have h0:=h;rw [e] at h0;have h1:=hsm ya (n+1) yc (boxsA 35 (g 24) #[.int .i64 0, .int .i64 0, .slice none 0 0, .slice ra rn rc]) w h0;have e2:Value.slice (sa (g 25)) (sn (g 25)) (sc (g 25))=Value.slice ya (n+1) yc:=(by rw [e];rfl);rw [e2];refine h1.mono ?_;rintro e w2 ⟨q,e1,h2,rfl⟩;refine ⟨.bool q,e1,kr (by kernel_rfl),?_⟩;have h4:St w0 fp0 (pureA (∃q2,(.bool q:Value)=.bool q2∧(q2=true→SP))::[rowA 35 4 (g 25) (n+1) (XS++[.int .i64 0, .int .i64 0, .slice none 0 0, .slice ra rn rc]),boxsA 35 (g 24) #[.int .i64 0, .int .i64 0, .slice none 0 0, .slice ra rn rc]]++R) w:=St.pure.2 ⟨⟨q,rfl,h2⟩,St.emp.1 (St_re (L:=[_,_,_]) h [2,0,1] [] (by kernel_rfl))⟩;exact St_re (L:=[_,_,_]) h4 [1,2,0] [] (by kernel_rfl))),trivial⟩
 refine wp_regD ok (by kernel_rfl) ⟨c1,c2⟩ ⟨c3,fun p hp=> ?_⟩ hS fun A1 w1 N1 H1=> ?_
 · simp only [gSt1,rgx,List.map_nil,List.append_nil,List.mem_cons,List.not_mem_nil,or_false] at hp
   rcases hp with rfl | rfl | rfl
   · exact i0
   · exact i1
   · exact i3
 have e15:=N1.val 0 rfl
 have e16:=N1.val 1 rfl
 have e17:=N1.val 2 rfl
 have e18:=N1.val 3 rfl
 have e20:=N1.val 4 rfl
 have e22:=N1.val 5 rfl
 have e23:=N1.val 6 rfl
 have e24:=N1.val 7 rfl
 have e25:=N1.val 8 rfl
 have e26:=N1.val 9 rfl
 have e27:=N1.val 10 rfl
 have e28:=N1.val 11 rfl
 have h:=hQ (slots A1 19) (slots A1 21) (slots A1 24) (slots A1 25) (slots A1 26) (slots A1 27) (slots A1 28) w1 ⟨_,e24⟩ ⟨_,_,_,e25⟩ e26 e27 e28 H1
 rw [frame_eq N1.frame (cons_eq e15 (cons_eq e16 (cons_eq e17 (cons_eq e18 (cons_eq rfl (cons_eq e20 (cons_eq rfl (cons_eq e22 (cons_eq e23 (cons_eq rfl (cons_eq rfl (cons_eq rfl (cons_eq rfl (cons_eq rfl rfl))))))))))))))]
 exact h
noncomputable def gSt13 (nb og n oc k cols yn yc:Nat) (ya:Option Addr) (nx:Int) (XS:List Value):=rgx Tryz.prog Tryz.f5 13 80 [66,67,68,69] [(10, .slice (some ⟨og,0,none⟩) n oc),(2, .int .i64 k),(13,pV nb 0)] (Vq 0 66 [Kv (.slice (some ⟨og,0,none⟩) n oc),Kv (.int .i64 k),Kv (.agg #[.int .i64 (cols:Nat), .slice ya yn yc, .int .i64 nx]),Kp og (0+k * 3)]) [Bk nb (44) [.int .i64 (cols:Nat), .slice ya yn yc, .int .i64 nx], .gen [4] [] fun L _g=> match L 4 with | true=> outR og n oc (put3 XS k (.int .i64 (cols:Nat)) (.slice ya yn yc) (.int .i64 nx)) | false=> outR og n oc XS]
theorem rSt13 (nb og n oc k cols yn yc:Nat) (ya:Option Addr) (nx:Int) (XS:List Value) (w0:World) (fp0:List Nat) (R:List Asn) (hk:k < n) (hl:XS.length=n * 3) {w:World} {c:Code} {a:Act} {Q:Exit→Act→World→Prop} (c1:isReg c=true) (c2:cops c=opsR Tryz.f5 13) (c3:a.tmps.size=80) (_c4:a.defers=a.defers) (i10:a.eval (.tmp 10)=.slice (some ⟨og,0,none⟩) n oc) (i2:a.eval (.tmp 2)=.int .i64 k) (i13:a.eval (.tmp 13)=.pointer (some ⟨nb,0,none⟩))
 (hS:St w0 fp0 ([blkA nb (44) #[.int .i64 (cols:Nat), .slice ya yn yc, .int .i64 nx],outR og n oc XS]++R) w)
 (hQ:∀(w1:World),St w0 fp0 ([blkA nb (44) #[.int .i64 (cols:Nat), .slice ya yn yc, .int .i64 nx],outR og n oc (put3 XS k (.int .i64 (cols:Nat)) (.slice ya yn yc) (.int .i64 nx))]++R) w1→Q .normal (putL a [(66, .slice (some ⟨og,0,none⟩) n oc),(67, .int .i64 k),(68, .agg #[.int .i64 (cols:Nat), .slice ya yn yc, .int .i64 nx]),(69, .pointer (some ⟨og,0+k * 3,none⟩))]) w1):c.wp Tryz.prog Q a w:=by
 have ok:(gSt13 nb og n oc k cols yn yc ya nx XS w0 fp0 R).Ok 5:=Rg.ok _ 5 [2,3,4] ⟨.run1 _ 2 0 (fun _=> blkA nb 44 #[.int .i64 (cols:Nat), .slice ya yn yc, .int .i64 nx]) (fun _ _=> blkA nb 44 #[.int .i64 (cols:Nat), .slice ya yn yc, .int .i64 nx]) (fun L a w fp _ hp=> (by obtain ⟨h1, -, -⟩:=blk_get hp;exact ⟨.agg #[.int .i64 (cols:Nat), .slice ya yn yc, .int .i64 nx],w,fp,exec_loads (cs:=[.int .i64 (cols:Nat), .slice ya yn yc, .int .i64 nx]) (off:=0) rfl (kr (by kernel_rfl)) (kr (by kernel_rfl)) (kr (by kernel_rfl)) (fun j u hj=> (by rw [Nat.zero_add,h1 j];simpa using hj)),kr (by kernel_rfl),hp,Tr.refl _ _⟩)), .indexO _ 3 og 0 n oc k 3 hk, .skip1 _ 4 1 (fun _=> outR og n oc XS) (fun _=> outR og n oc (put3 XS k (.int .i64 (cols:Nat)) (.slice ya yn yc) (.int .i64 nx))) (fun L a w fp _ hp=> (by obtain ⟨w2,f2,h1,h2,h3⟩:=storeRow3 (P:=Tryz.prog) (ty:=44) (v0:=.int .i64 (cols:Nat)) (v1:=.slice ya yn yc) (v2:=.int .i64 nx) hp hl hk (kr (by kernel_rfl)) rfl rfl rfl;exact ⟨w2,f2,exec_store rfl (kr (by kernel_rfl)) (kr (by kernel_rfl)) h1,h2,h3⟩)),trivial⟩
 refine wp_regD ok (by kernel_rfl) ⟨c1,c2⟩ ⟨c3,fun p hp=> ?_⟩ hS fun A1 w1 N1 H1=> ?_
 · simp only [gSt13,rgx,List.map_nil,List.append_nil,List.mem_cons,List.not_mem_nil,or_false] at hp
   rcases hp with rfl | rfl | rfl
   · exact i10
   · exact i2
   · exact i13
 have e66:=N1.val 0 rfl
 have e67:=N1.val 1 rfl
 have e68:=N1.val 2 rfl
 have e69:=N1.val 3 rfl
 have h:=hQ  w1  H1
 rw [frame_eq N1.frame (cons_eq e66 (cons_eq e67 (cons_eq e68 (cons_eq e69 rfl))))]
 exact h
end Go.Proofs.YtpdlkdoogojboaaGreat
/- StoreUndo. -/
namespace Go.Proofs.YtpdlkdoogojboaaGreat
open Go Go.RowKit
/-- A version that is read. -/
def Ver (w0:World) (fp0:List Nat) (R:List Asn) (D:Db) (mv:Value):Prop:=∃(ms:List Rs) (a:Option Addr) (c:Nat),mv=.slice a ms.length c∧MsOk D ms∧Rd w0 fp0 R fun w=> RefX w ms mv
theorem same_ver {w0 w:World} {fp0:List Nat} {R:List Asn} {b:Nat} {D:Db} {mv:Value} (h:Ver w0 fp0 R D mv) (hl:∀t∈D,t.2.1.length < 1000000) (hS:St w0 fp0 (stA b D::R) w):Calls Tryz.prog 15 #[.pointer (some ⟨b,0,none⟩),mv] w fun e w'=> e=.returned (.bool true)∧St w0 fp0 (stA b D::R) w':=by
 obtain ⟨ms,a,c,rfl,hm,hr⟩:=h
 exact same_calls b D ms _ hm hl w0 w fp0 R hr hS
/- StoreTable. -/
/-- The reference's table behind an Insert. -/
def InsP (W:World) (A:Asn) (M:List Asn) (cols:Nat) (next:Int) (r:Rw) (l:List Ri) (lv2:Value) (w:World):Prop:=∃(l2:List Ri) (P:List Asn) (ya:Option Addr) (yc:Nat),lv2=.slice ya l2.length yc∧riL l2=putLL cols next r (riL l)∧(l2.Pairwise fun a b=> a.id < b.id)∧St W [] (A::(P++M)) w∧(∀L w,St W [] (L++(P++M)) w→RiX w l2 lv2)
theorem ins_post {W w:World} {A:Asn} {M:List Asn} {cols:Nat} {lv lv2:Value} {x:Ri} {l:List Ri} (hasc:l.Pairwise fun a b=> a.id < b.id) (hx:Rd W [] M fun w=> RiX w l lv) (hv:Rd W [] M fun w=> ValsAt w x.r x.v) (h:PutPostZ emp W [] (A::M) (putOk cols x.id x.r) lv lv2 x l w):InsP W A M cols x.id x.r l lv2 w:=by
 rcases h with ⟨hq,h⟩ | ⟨hq,rfl,h⟩
 · have h1:St W [] (riA lv2 (putR x.id x l)::A::M) w:=St.emp.1 (h.perm (List.Perm.swap _ _ _))
   obtain ⟨_,hr⟩:=h1.has 0 rfl
   obtain ⟨ya,yc,e⟩:=(riA_sl hr).shape
   refine ⟨putR x.id x l,[riA lv2 (putR x.id x l)],ya,yc,e,?_,asc_putR rfl hasc,h1.perm (List.Perm.swap _ _ _),?_⟩
   · rw [riL_putR x.id x rfl,putLL,hq]
     rfl
   · intro L w h
     refine ⟨?_,fun y hy=> ?_⟩
     · obtain ⟨_,hr⟩:=h.has L.length (by rw [List.getElem?_append_right (Nat.le_refl _),Nat.sub_self];rfl)
       exact riA_sl hr
     · have h2:St W [] ((L++[riA lv2 (putR x.id x l)])++M) w:=by rw [List.append_assoc];exact h
       rcases List.mem_append.1 hy with hy | hy
       · exact (hx.at h2).row y (List.mem_filter.1 hy).1
       · rcases List.mem_cons.1 hy with rfl | hy
         · exact hv.at h2
         · exact (hx.at h2).row y (List.mem_filter.1 hy).1
 · have h1:=(hx.at (M:=[_,_]) h).sl.shape
   obtain ⟨ya,yc,e⟩:=h1
   refine ⟨l,[],ya,yc,e,?_,hasc,St.emp.1 h,fun L w h=> hx.at h⟩
   rw [putLL,hq]
   rfl
theorem refx_put2 {W:World} {R:List Asn} {ms:List Rs} {mv:Value} (hm:Rd W [] R fun w=> RefX w ms mv) (k:Nat) (m:Rs) (a:Option Addr) (c:Nat) (hx:Rd W [] R fun w=> RiX w m.l m.lv):
 Rd W [] (rowA 44 3 (.slice a ms.length c) ms.length ((ms.set k m).flatMap Rs.c)::R) fun w=> RefX w (ms.set k m) (.slice a ms.length c):=by
 intro L w hs
 have h1:SlX [] w 3 ms.length ((ms.set k m).flatMap Rs.c) (.slice a ms.length c):=by
  obtain ⟨_,hr⟩:=hs.has L.length (by rw [List.getElem?_append_right (Nat.le_refl _),Nat.sub_self];rfl)
  exact SlX.of_row (X:=[]) hr (by rw [flatMap_len rsc_len,List.length_set]) (by simp)
 refine ⟨by rw [List.length_set];exact h1,fun y hy=> ?_⟩
 have h2:St W [] ((L++[rowA 44 3 (.slice a ms.length c) ms.length ((ms.set k m).flatMap Rs.c)])++R) w:=by rw [List.append_assoc];exact hs
 rcases List.mem_or_eq_of_mem_set hy with hy | rfl
 · exact (hm.at h2).ri y hy
 · exact hx.at h2
set_option maxHeartbeats 16000000 in
set_option maxRecDepth 40000 in
theorem table_calls (td:List Td) (sv:Value) (l:List Chg) (lv:Value) (tb:Int) (r:Rw) (rv:Value) (W:World) (hs:SchX W td sv) (hl:ChsX W l lv) (hr:ValsAt W r rv) (hok:∀c∈l,c.Ok) (htb:I64 tb) (hri:∀v∈r,I64 v.int) (hb:(l.length+1) * 64≤140737488355328):Calls Tryz.prog 5 #[sv,lv, .int .i64 tb,rv] W fun e W'=> e=.returned (.bool true)∧Below W.heap.size W W':=by
 obtain ⟨sa,sc,rfl⟩:=hs.sl.shape
 obtain ⟨la,lc,rfl⟩:=hl.sl.shape
 obtain ⟨ra,rn,rc,rfl,hrn, -⟩:=hr.shape
 subst hrn
 have hS:St W [] [] W:=St.start (L:=[]) (fp:=[]) rfl
 have HSX:RowKit.Hid (∀R,Rd W [] R fun w=> SchX w td (.slice sa td.length sc)):=fun R=> rd_below fun w h=> hs.mono h
 have HLX:RowKit.Hid (∀R,Rd W [] R fun w=> ChsX w l (.slice la l.length lc)):=fun R=> rd_below fun w h=> hl.mono h
 have HRX:RowKit.Hid (∀R,Rd W [] R fun w=> ValsAt w r (.slice ra r.length rc)):=fun R=> rd_below fun w h=> hr.mono h
 have HOK:=Lib.hid hok
 have HRI:=Lib.hid hri
 have HAW:=Lib.hid (fun w'=> awake40_calls w')
 obtain ⟨n,hn⟩:∃n,l.length=n:=⟨_,rfl⟩
 obtain ⟨tn,htn⟩:∃tn,td.length=tn:=⟨_,rfl⟩
 obtain ⟨rn,hrn⟩:∃rn,r.length=rn:=⟨_,rfl⟩
 have HN:=Lib.hid hn
 have HTN:=Lib.hid htn
 have HRN:=Lib.hid hrn
 have HS0:=Lib.hid hS
 unfold I64 at htb
 rw [hn,htn,hrn]
 rw [hn] at HLX hb
 rw [htn] at HSX
 rw [hrn] at HRX
 clear hs hl hr hS hok hri hn htn hrn
 go_enter Tryz.func5,Tryz.ntmps5
 go_upto_region 1 with (fail)
 refine rSt1 n lc la (.slice sa tn sc) ra rn rc (l.flatMap Chg.c) (SmallP td (l++[⟨0,0,none,0,ra,rc,[],r⟩])) W [] [] hb (by simp [Value.oneCell']) (fun _ w _=> awake40_calls w) ?_ ?_ rfl (by kernel_rfl) rfl rfl rfl rfl rfl ?_ ?_
 · intro L w h
   have h1:=((HLX.out []).at h).sl
   rw [HN.out] at h1
   exact h1.src (e':=35) (by kernel_rfl) (by decide) (chs_one l)
 · intro ya yn yc B w h
   have h1:=(HSX.out []).at h
   have h2:=(HLX.out []).at h
   have h3:=(HRX.out []).at h
   have hln:(l++[(⟨0,0,none,0,ra,rc,[],r⟩:Chg)]).length=n+1:=by rw [List.length_append,HN.out];rfl
   have h4:ChsX w (l++[⟨0,0,none,0,ra,rc,[],r⟩]) (.slice ya yn yc):=by
    obtain ⟨f,hf⟩:=h.has 0 rfl
    refine ⟨?_,fun x hx=> ?_⟩
    · rw [hln,List.flatMap_append]
      refine SlX.of_row (X:=[]) (t:=35) (f:=f) ?_ (by rw [List.length_append,flatMap_len chc_len l,flatMap_len chc_len [_],HN.out];show n * 4+1 * 4=_;omega) (by simp)
      rw [←HRN.out] at hf
      exact hf
    · rcases List.mem_append.1 hx with hx | hx
      · exact h2.ch x hx
      · rw [List.mem_singleton.1 hx]
        refine ⟨ValsX.nil _ _ _ _,?_⟩
        rw [←HRN.out] at h3
        exact h3
   exact Small_calls td (l++[⟨0,0,none,0,ra,rc,[],r⟩]) _ _ w h1 h4
 · exact St.emp.2 (St.emp.2 (St.emp.2 HS0.out))
 intro u19 u21 u24 u25 u26 u27 u28 w1 e24 e25 e26 e27 e28 h1
 obtain ⟨⟨q,rfl,hq⟩,h2⟩:=St.pure.1 (St_re (L:=[_,_,_]) h1 [2,0,1] [] (by kernel_rfl))
 obtain ⟨sb,rfl⟩:=e24
 obtain ⟨ya,yn,yc,rfl⟩:=e25
 have H2:RowKit.Hid (St W [] [] w1):=St.drop (St.drop h2)
 have HQ:=Lib.hid hq
 simp only [bv] at e27 e28
 subst e27 e28
 clear e26 h1 h2 hq HS0 hb
 simp only [putL,List.foldl,Act.put,List.setIfInBounds_toArray,List.set_cons_succ,List.set_cons_zero]
 cases q with
 | false=>
  have HB2:=Lib.hid H2.out.below0
  clear H2 HQ
  go_wp2_with fail
  (with_reducible refine (HAW.out _).mono ?_)
  rintro e w3 ⟨rfl,hb3⟩
  have HB3:=Lib.hid (HB2.out.trans (hb3.mono HB2.out.size))
  clear hb3 HB2
  go_wp2
  go_ret
  exact ⟨rfl,HB3.out⟩
 | true=>
  have hp:SmallP td (l++[⟨0,0,none,0,ra,rc,[],r⟩]):=HQ.out rfl
  have hln:(l++[(⟨0,0,none,0,ra,rc,[],r⟩:Chg)]).length=n+1:=by rw [List.length_append,HN.out];rfl
  have hlen:n+1≤40:=by rw [←hln];exact hp.ln
  have hrun:=run_calls td _ l _ (fun t ht=> (hp.tds t ht).sm) (by have:=hp.tn;omega) (by have:=HN.out;omega) HOK.out W w1 [] _ (HSX.out _) (HLX.out _) H2.out
  obtain ⟨D,hD⟩:∃D,runD (newD td) l=D:=⟨_,rfl⟩
  have hDl:∀t∈D,t.2.1.length≤40:=fun t ht=> by
   have:=runD_max (newD_max td) l t (hD ▸ ht)
   rw [HN.out] at this
   omega
  have hDn:D.length≤4:=by rw [←hD,runD_length,newD,List.length_map];exact hp.tn
  rw [hD] at hrun
  have HRUN:=Lib.hid hrun
  have HDL:=Lib.hid hDl
  clear hrun hp hln hlen hD hDl HQ H2 HSX HLX HOK HN HTN
  go_wp2_with fail
  (with_reducible refine HRUN.out.mono ?_)
  rintro e w2 ⟨b,mv,rfl,h2⟩
  obtain ⟨ms,ma,mc,M,rfl,hm,hrx,h3⟩:=h2
  clear HRUN
  rw [List.append_nil] at hrx h3
  obtain ⟨dn,hdn⟩:∃dn,ms.length=dn:=⟨_,rfl⟩
  have hdD:D.length=dn:=by rw [←hm.len,hdn]
  rw [hdD] at hDn
  obtain ⟨Q,hQ,hs⟩:=h3.openD
  have hdb:=db_get hs
  have hqn:Q.ts.length=dn:=by rw [hQ.tlen,hdD]
  have HMR:=Lib.hid (And.intro hm hrx)
  have HDN:=Lib.hid hdn
  have HDD:=Lib.hid hdD
  have HQ:=Lib.hid hQ
  have HQN:=Lib.hid hqn
  have HS2:=Lib.hid hs
  rw [hdn]
  by_cases ht:0≤tb∧tb < dn
  · obtain ⟨k,rfl⟩:∃k:Nat,tb=k:=⟨tb.toNat,by omega⟩
    have hk:k < dn:=by omega
    have hkm:k < ms.length:=by rw [HDN.out];exact hk
    have hkq:k < Q.ts.length:=by rw [hqn];exact hk
    have hkd:k < Q.td.length:=by rw [hQ.dlen,hdD];exact hk
    have HT:=Lib.hid (table_in b k _ Q.tv (ptrV Q.ts[k].S) w2 hdb.2.1 hdb.2.2.2.2 (by rw [List.getElem?_map,List.getElem?_eq_getElem hkq];rfl))
    have hat:=hm.at k hkm
    have hat2:=hQ.at k hkq
    rw [hat] at hat2
    have hat3:=Option.some.inj hat2
    have e1:ms[k].cols=Q.ts[k].cols:=congrArg (·.1) hat3
    have e2:riL ms[k].l=Q.ts[k].L:=congrArg (·.2.1) hat3
    have e3:ms[k].next=Q.ts[k].next:=congrArg (·.2.2) hat3
    have hcl:Q.ts[k].cols≤1000000:=by
     have:=(hQ.sm _ (List.getElem_mem hkd)).n
     rw [hQ.tdn k hkq hkd] at this
     omega
    have hll:Q.ts[k].L.length≤40:=by
     have:=HDL.out _ (List.mem_of_getElem? (hQ.at k hkq))
     exact this
    obtain ⟨D2,hD2⟩:∃D2,D.set k (Q.ts[k].cols,putLL Q.ts[k].cols Q.ts[k].next r Q.ts[k].L,putN Q.ts[k].cols Q.ts[k].next r Q.ts[k].next)=D2:=⟨_,rfl⟩
    obtain ⟨A,hA⟩:∃A,starA (dbP b Q++Q.ts.map tbA)=A:=⟨_,rfl⟩
    have HOP:RowKit.Hid (∀(M:List Asn) w,St W [] (A::M) w↔St W [] (dbP b Q++(Q.ts.map tbA++M)) w):=fun M w=> by
     rw [←hA,St.star,List.append_assoc]
    have HSI:RowKit.Hid (∀(M:List Asn) w,St W [] (A::M) w→Calls Tryz.prog 23 #[ptrV Q.ts[k].S, .slice ra rn rc] w fun e w'=> e=.returned (.int .i64 (insV Q.ts[k].cols r Q.ts[k].next))∧St W [] (stA b D2::M) w'):=fun M w h=> by
     have h1:=((HOP.out M w).1 h).pickT k hkq
     refine (SInsert_calls Q.ts[k].S Q.ts[k].cols Q.ts[k].I Q.ts[k].L Q.ts[k].next r _ HRI.out hcl (by omega) W w [] _ (HRX.out _) h1).mono ?_
     rintro e w' ⟨rfl,h2⟩
     refine ⟨rfl,?_⟩
     have h4:=St.placeT (t:={ Q.ts[k] with L:=putLL Q.ts[k].cols Q.ts[k].next r Q.ts[k].L,next:=putN Q.ts[k].cols Q.ts[k].next r Q.ts[k].next }) hkq h2
     have hok2:=hQ.put k hkq (putLL Q.ts[k].cols Q.ts[k].next r Q.ts[k].L) (putN Q.ts[k].cols Q.ts[k].next r Q.ts[k].next)
     rw [←dbP_put b Q k hkq] at h4
     rw [←hD2]
     exact St.shutD (b:=b) hok2 h4
    have HRI2:RowKit.Hid (∀w,St W [] (A::M) w→Calls Tryz.prog 22 #[rsV ms[k].cols ms[k].lv ms[k].next, .slice ra rn rc] w fun e w'=> ∃lv2,e=.returned (.tuple #[rsV ms[k].cols lv2 (putN ms[k].cols ms[k].next r ms[k].next), .int .i64 (insV ms[k].cols r ms[k].next)])∧InsP W A M ms[k].cols ms[k].next r ms[k].l lv2 w'):=fun w h=> by
     have hrl:Rd W [] M fun w=> RiX w ms[k].l ms[k].lv:=hrx.imp fun w h=> h.ri _ (List.getElem_mem hkm)
     have hra:=hm.asc _ (List.getElem_mem hkm)
     refine (RInsert_callsZ emp ms[k].cols ms[k].lv ⟨ms[k].next,ra,rn,rc,r⟩ ms[k].l hra (by have:=congrArg List.length e2;rw [riL_len] at this;omega) W w [] _ (HRX.out _) (fun L w h=> ((hrl.app [emp,A]).at h).sl) (St.emp.2 h)).mono ?_
     rintro e w' ⟨lv2,rfl,hp⟩
     exact ⟨lv2,rfl,ins_post (x:=⟨ms[k].next,ra,rn,rc,r⟩) hra hrl (HRX.out _) hp⟩
    have HVER:RowKit.Hid (∀(l2:List Ri) (P:List Asn) (ya:Option Addr) (yc:Nat) (og:Option Addr) (oc:Nat),riL l2=putLL ms[k].cols ms[k].next r (riL ms[k].l)→(l2.Pairwise fun a b=> a.id < b.id)→(∀L w,St W [] (L++(P++M)) w→RiX w l2 (.slice ya l2.length yc))→
     Ver W [] (rowA 44 3 (.slice og dn oc) dn (put3 (ms.flatMap Rs.c) k (.int .i64 ms[k].cols) (.slice ya l2.length yc) (.int .i64 (putN ms[k].cols ms[k].next r ms[k].next)))::(P++M)) D2 (.slice og dn oc)):=fun l2 P ya yc og oc h1 h2 h3=> by
     have h4:=refx_put2 (hrx.app P) k ⟨ms[k].cols,ya,yc,putN ms[k].cols ms[k].next r ms[k].next,l2⟩ og oc h3
     have h5:=hm.put k ⟨ms[k].cols,ya,yc,putN ms[k].cols ms[k].next r ms[k].next,l2⟩ h2
     rw [set3 Rs.c rsc_len ms k ⟨ms[k].cols,ya,yc,putN ms[k].cols ms[k].next r ms[k].next,l2⟩ (.int .i64 ms[k].cols) (.slice ya l2.length yc) (.int .i64 (putN ms[k].cols ms[k].next r ms[k].next)) hkm rfl]
     rw [HDN.out] at h4
     refine ⟨ms.set k ⟨ms[k].cols,ya,yc,putN ms[k].cols ms[k].next r ms[k].next,l2⟩,og,oc,by rw [List.length_set,HDN.out],?_,h4⟩
     rw [←hD2,←e1,←e3,←e2,←h1]
     exact h5
    have HL2:RowKit.Hid (∀t∈D2,t.2.1.length < 1000000):=fun t ht=> by
     rw [←hD2] at ht
     rcases List.mem_or_eq_of_mem_set ht with ht | rfl
     · have:=HDL.out t ht
       omega
     · simp only
       unfold putLL
       split
       · have:=putL_len Q.ts[k].next r Q.ts[k].L
         omega
       · omega
    have HA0:RowKit.Hid (St W [] (A::M) w2):=(HOP.out M w2).2 HS2.out
    have HCE:RowKit.Hid (∀L w,St W [] (L++M) w→RefX w ms (.slice ma dn mc)):=fun L w h=> by
     have h1:=hrx L w h
     rw [hdn] at h1
     exact h1
    obtain ⟨mb,mo,mc',e4,mbl,p0,p1,p2⟩:=(HCE.out [A] w2 HA0.out).cells k hkm
    rw [hdn] at e4
    obtain ⟨rfl, -,rfl⟩:=Value.slice.inj e4
    have hkn:(k:Int) < dn:=by omega
    have hnn:decide ((dn:Int)≤k)=false:=by simp;omega
    have HXL:RowKit.Hid ((ms.flatMap Rs.c).length=dn * 3):=by
     show _=_
     rw [flatMap_len rsc_len,HDN.out]
    have HSRC:RowKit.Hid (∀L w,St W [] (L++M) w→Go.Src Tryz.prog 3 28 (.slice (some ⟨mb,mo,none⟩) dn mc) dn (ms.flatMap Rs.c) w):=fun L w h=> by
     have h1:=((HCE.out L w h).sl).src (P:=Tryz.prog) (tx:=28) (e':=44) (by kernel_rfl) (by decide) (ms_one ms)
     rw [hdn] at h1
     exact h1
    rw [←e1,←e3] at HSI
    have HMC:=Lib.hid (HCE.out)
    clear hm hrx h3 hdn hdD hQ hs hdb hqn HMR HDD HQ HQN HS2 hat hat2 hat3 e1 e2 e3 hcl hll hD2 hA HOP HCE e4 ht hkd
    unfold Rs.lv at p1 HRI2
    unfold ptrV rsV at *
    obtain ⟨SB,hSB⟩:∃SB,Q.ts[k].S=SB:=⟨_,rfl⟩
    rw [hSB] at HT HSI
    clear hSB hkq
    obtain ⟨lvn,hlvn⟩:∃lvn,ms[k].l.length=lvn:=⟨_,rfl⟩
    rw [hlvn] at p1 HRI2
    have HLVN:=Lib.hid hlvn
    clear hlvn
    generalize ms[k]=m at *
    obtain ⟨cols,mla,mlc,next,ml⟩:=m
    simp only at *
    clear hkm
    go_wp2_with fail
    (with_reducible refine HT.out.mono ?_)
    rintro e w3 ⟨rfl,rfl⟩
    clear HT
    have HR2:=Lib.hid (HRI2.out _ HA0.out)
    clear HRI2
    go_wp2_with fail
    (with_reducible refine HR2.out.mono ?_)
    rintro e w4 ⟨lv2,rfl,l2,P,ya,yc,rfl,hl2,hasc,hs4,hri⟩
    obtain ⟨ln2,hln2⟩:∃ln2,l2.length=ln2:=⟨_,rfl⟩
    obtain ⟨nx,hnx⟩:∃nx,putN cols next r next=nx:=⟨_,rfl⟩
    obtain ⟨idv,hidv⟩:∃idv,insV cols r next=idv:=⟨_,rfl⟩
    obtain ⟨M1,hM1⟩:∃M1,P++M=M1:=⟨_,rfl⟩
    have HV2:RowKit.Hid (∀og oc,Ver W [] (outR og dn oc (put3 (ms.flatMap Rs.c) k (.int .i64 cols) (.slice ya ln2 yc) (.int .i64 nx))::M1) D2 (.slice (some ⟨og,0,none⟩) dn oc)):=fun og oc=> by
     have h:=HVER.out l2 P ya yc (some ⟨og,0,none⟩) oc hl2 hasc hri
     rw [hln2,hnx,hM1] at h
     exact h
    have HSR1:RowKit.Hid (∀L w,St W [] (L++M1) w→Go.Src Tryz.prog 3 28 (.slice (some ⟨mb,mo,none⟩) dn mc) dn (ms.flatMap Rs.c) w):=fun L w h=> HSRC.out (L++P) w (by rw [List.append_assoc,hM1];exact h)
    rw [hM1] at hs4
    rw [hidv] at HSI
    rw [hln2,hnx,hidv]
    have HS7:=Lib.hid (hs4.newblk 44 #[.int .i64 cols, .slice ya ln2 yc, .int .i64 nx])
    clear hs4 hl2 hasc hri HVER HR2 HSRC hln2 hnx hidv hM1 HMC HLVN p0 p1 p2 mbl HA0 HRI
    go_upto_region 12 with (fail)
    generalize hW:w4.alloc _=W6 at *
    obtain ⟨nb,hnb⟩:∃nb,w4.heap.size=nb:=⟨_,rfl⟩
    rw [hnb] at HS7 ⊢
    clear hW hnb
    have HE12:=Lib.hid (St.emptyRS HS7.out)
    have HSR2:=Lib.hid (HSR1.out [_,_,A] _ HE12.out)
    clear HS7 HSR1
    go_upto_region 13 with (first
     | (at_builtin;refine wpList_appR rfl _ _ _ _ rfl rfl rfl appRS HE12.out HSR2.out (by omega) ?_;intro v8 w8 h8))
    rw [Nat.zero_add,List.nil_append] at h8
    obtain ⟨_,hrow⟩:=h8.out.has 0 rfl
    obtain ⟨oga,ogc,rfl, -, -,hog⟩:=row_shape hrow
    obtain ⟨og,rfl, -⟩:=hog 0 (by omega)
    have H8:RowKit.Hid (St W [] ([blkA nb 44 #[.int .i64 cols, .slice ya ln2 yc, .int .i64 nx],outR og dn ogc (ms.flatMap Rs.c)]++(A::M1)) w8):=h8.out.perm (List.Perm.swap _ _ _)
    clear hrow h8 hog HE12 HSR2
    refine rSt13 (w0:=W) (fp0:=[]) (R:=A::M1) nb og dn ogc k cols ln2 yc ya nx (ms.flatMap Rs.c) hk HXL.out rfl (by kernel_rfl) rfl rfl rfl rfl rfl H8.out ?_
    intro w9 h9
    have HI:=Lib.hid (HSI.out (outR og dn ogc (put3 (ms.flatMap Rs.c) k (.int .i64 cols) (.slice ya ln2 yc) (.int .i64 nx))::M1) w9 (St_re (L:=[_,_,_]) h9 [0,2,1] [] (by kernel_rfl)).drop)
    have HV3:=Lib.hid (HV2.out og ogc)
    clear h9 H8 HSI HV2
    simp only [putL,List.foldl,Act.put,List.setIfInBounds_toArray,List.set_cons_succ,List.set_cons_zero]
    go_wp2_with fail
    (with_reducible refine HI.out.mono ?_)
    rintro e w10 ⟨rfl,h10⟩
    have HSM:=Lib.hid (same_ver HV3.out HL2.out h10)
    clear HI h10
    go_wp2_with fail
    (with_reducible refine HSM.out.mono ?_)
    rintro e w11 ⟨rfl,h11⟩
    have HF:=Lib.hid h11.below0
    clear HSM h11
    go_wp2
    go_ret
    exact ⟨rfl,HF.out⟩
  · have HT:=Lib.hid (table_out b _ Q.tc Q.ta tb w2 hdb.2.1 (by rw [hqn];exact ht))
    have HB2:=Lib.hid h3.below0
    clear hm hrx h3 hdn hdD hQ hs hdb hqn HMR HDN HDD HQ HQN HS2
    go_wp2_with fail
    (with_reducible refine HT.out.mono ?_)
    rintro e w3 ⟨rfl,rfl⟩
    clear HT
    by_cases h0:tb < 0
    · clear ht
      go_wp2
      go_ret
      exact ⟨rfl,HB2.out⟩
    · have h5:(dn:Int)≤tb:=by omega
      clear ht
      go_wp2
      go_ret
      exact ⟨rfl,HB2.out⟩
end Go.Proofs.YtpdlkdoogojboaaGreat
