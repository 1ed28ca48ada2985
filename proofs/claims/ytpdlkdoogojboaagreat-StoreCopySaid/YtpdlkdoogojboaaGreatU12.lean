/- Part 12 of the proof: Jj, Jk, Jn, Mk, Jo, Jr, Mlr, Ml, Mn, Js, Oh, Oi -/
import Derived.Test.YtpdlkdoogojboaaGreatU11
import Derived.Test.YtpdlkdoogojboaaGreatU06
import Derived.Test.YtpdlkdoogojboaaGreatU10
import Derived.Test.YtpdlkdoogojboaaGreatU09
import Derived.Test.YtpdlkdoogojboaaGreatU08
set_option maxHeartbeats 16000000
set_option maxRecDepth 100000
namespace Go.Proofs.YtpdlkdoogojboaaGreat
open Go Go.RowKit
noncomputable section
def RowP (w0:World) (fp0:List Nat) (R B:List Asn) (p:Nat) (t:TypeId) (o:Option (List UInt8)) (e:Ending) (w':World):Prop:=
 ∃rv r v o2,e=.returned rv/\St w0 fp0 (rdrA p t v o2::rowA 68 3 rv r.length (flat r)::R) w'/\RdrP w0 fp0 B v o2/\RowS2 o r o2/\RowV r/\∃a n c,rv=.slice a n c
theorem RowS2.of {o o1 o2:Option (List UInt8)} {n:Int} {x:List UInt8} {q:Option Rw} {r:Rw} (h1:NumS o n o1) (h2:TakeS o1 n x o2) (h3:DecP x q) (hq:q=some r\/q=none/\r=[]):RowS2 o r (if q.isSome then o2 else none):=by
 have hn:o2=none->(if q.isSome then o2 else none)=none:=by rintro rfl;split <;> rfl
 cases o with
 | none=>
  obtain rfl:o1=none:=h1;exact hn h2.2
 | some l=>
  rcases h1 with ⟨m,g1,rfl⟩ | ⟨rfl,g1⟩
  · rcases h2 with ⟨k,hk,hkm,rfl,rfl⟩ | ⟨hb,rfl,rfl⟩
    · rcases hq with rfl | ⟨rfl,rfl⟩
      · exact .inl ⟨_,RowG.of g1 hk hkm h3,rfl⟩
      · exact .inr ⟨rfl,λ r q=> RowG.not3 g1 hk h3 r q⟩
    · exact .inr ⟨hn rfl,λ r q=> RowG.not2 g1 hb r q⟩
  · have:l.length < 8:=by
     apply Classical.byContradiction;intro h;exact g1 _ _ (NumG.of (by omega))
    exact .inr ⟨hn h2.2,λ r q=> RowG.not1 this r q⟩
theorem RowV.of {l:List UInt8} {q:Option Rw} {r:Rw} (h:DecP l q) (hq:q=some r\/q=none/\r=[]):RowV r:=by
 rcases hq with rfl | ⟨rfl,rfl⟩
 · exact h.1
 · exact λ v hv=> nomatch hv
theorem TakeS.len {o o2:Option (List UInt8)} {n:Int} {x:List UInt8} (h:TakeS o n x o2) {N:Nat} (ho:∀l,o=some l->l.length < N) (h0:0 < N):x.length < N:=by
 cases o with
 | none=> rw [h.1];exact h0
 | some l=>
  rcases h with ⟨k, -,hk,rfl, -⟩ | ⟨-,rfl, -⟩
  · rw [List.length_take]
    have:=ho l rfl;omega
  · exact h0
theorem NumS.len {o o2:Option (List UInt8)} {n:Int} (h:NumS o n o2) {N:Nat} (ho:∀l,o=some l->l.length < N):∀l,o2=some l->l.length < N:=by
 rintro m rfl;cases o with
 | none=> cases h
 | some l=>
  rcases h with ⟨m',g,e⟩ | ⟨e, -⟩
  · obtain rfl:=Option.some.inj e
    have:=g.len;have:=ho l rfl;omega
  · cases e
theorem rdRow_calls (p:Nat) (v:Value) (o:Option (List UInt8)) (ho:∀l,o=some l->l.length < 1099511627776) (w0 w:World) (fp0:List Nat) (R B:List Asn) (hB:∃M,R=M++B) (hS:St w0 fp0 (rdrA p 126 v o::R) w) (hR:RdrP w0 fp0 B v o):
 Calls Tryz.prog 65 #[.pointer (some ⟨p,0,none⟩)] w λ e w'=> RowP w0 fp0 R B p 126 o e w':=by
 have HT:=Lib.hid (rdNumber_calls p v o w0 w fp0 R B hB hS hR);obtain ⟨M,hB⟩:=hB;have HO:=Lib.hid ho;clear hS hR ho;go_enter Tryz.func65,Tryz.ntmps65;go_wp2_with fail;(with_reducible refine HT.out.mono ?_);rintro e w1 ⟨n,v1,o1,rfl,hi,h1,h2,h3⟩;have HT2:=Lib.hid (take_callsP p v1 o1 n hi w0 w1 fp0 R B h1 h2);have H3:=Lib.hid h3;clear HT hi h1 h2 h3;go_wp2_with fail;(with_reducible refine HT2.out.mono ?_);rintro e w2 ⟨u,v2,o2,x,rfl,h1,h2,h3,h4,h5⟩;have h3:BytesX [] w2 x u:=by rw [hB] at h1;exact h3 (_::M) w2 h1
 have HD:=Lib.hid (decodeRow_calls x u (h4.len (H3.out.len HO.out) (by decide)) w2 h3);have H1:=Lib.hid h1;have H2:=Lib.hid h2;have H4:=Lib.hid h4;clear HT2 h1 h2 h3 h4 h5;go_wp2_with fail;(with_reducible refine HD.out.mono ?_);rintro e w3 ⟨q,rv,r,rfl,h1,h2,h3,ra,rn,rc,rfl⟩;clear HD;have hs:=(newB H1.out h1).perm (List.Perm.swap _ _ _);obtain ⟨_,hp⟩:=hs.has 0 rfl;have c1:=(blk_get hp).1 1;have cl:=(blk_get hp).2.2;simp only [List.getElem?_toArray,List.getElem?_cons_zero,List.getElem?_cons_succ] at c1;have f1:=(blk_get hp).2.1 1;have HR:=Lib.hid (RowS2.of H3.out H4.out h2 h3);have HV:=Lib.hid (RowV.of h2 h3);have HSET:=Lib.hid (λ i hi u=> St.setB hs i hi u);cases q with
 | none=>
  have HF:Hid (RowP w0 fp0 R B p 126 o (.returned (.slice ra rn rc)) (w3.setCell ⟨p,1,none⟩ (.bool true))):=⟨_,r,v2,none,rfl,HSET.out 1 (by simp) _,trivial,HR.out,HV.out,_,_,_,rfl⟩
  clear H1 H2 H3 H4 HR HV HSET hs h1 h2 h3 hp;cases o2 with
  | none=>
   have c1:w3.cell? ⟨p,1,none⟩=some (.bool true):=c1;go_wp2;go_ret;exact HF.out
  | some l=>
   have c1:w3.cell? ⟨p,1,none⟩=some (.bool false):=c1;go_wp2;go_ret;exact HF.out
 | some r'=>
  have HF:Hid (RowP w0 fp0 R B p 126 o (.returned (.slice ra rn rc)) (w3.setCell ⟨p,1,none⟩ (.bool o2.isNone))):=⟨_,r,v2,o2,rfl,HSET.out 1 (by simp) _,H2.out,HR.out,HV.out,_,_,_,rfl⟩
  clear H1 H2 H3 H4 HR HV HSET hs h1 h2 h3 hp;cases o2 with
  | none=>
   have c1:w3.cell? ⟨p,1,none⟩=some (.bool true):=c1;go_wp2;go_ret;exact HF.out
  | some l=>
   have c1:w3.cell? ⟨p,1,none⟩=some (.bool false):=c1;go_wp2;go_ret;exact HF.out
section
section
variable {P:Program}
end
end
def tdOne (h:Nat):Td:=⟨⟨#[116]⟩,some ⟨h,0,none⟩,1,1, .slice none 0 0, .slice none 0 0,none,0,0,[.string ⟨#[120]⟩, .int .i64 1, .int .i64 0, .int .i64 9, .int .i64 0, .bool false],[],[],[],[]⟩
def oneL (g h:Nat):List Asn:=[blkA g 89 #[.string ⟨#[116]⟩, .slice (some ⟨h,0,none⟩) 1 1, .slice none 0 0, .slice none 0 0, .slice none 0 0],blkA h 146 #[.string ⟨#[120]⟩, .int .i64 1, .int .i64 0, .int .i64 9, .int .i64 0, .bool false]]
theorem one_calls (w:World):Calls Tryz.prog 39 #[] w λ e w'=> ∃g h,e=.returned (.slice (some ⟨g,0,none⟩) 1 1)/\St w [] (oneL g h) w':=by
 have h1:=((St.start (w:=w) (L:=[]) (fp:=[]) rfl).newblk 146 #[.string ⟨#[120]⟩, .int .i64 1, .int .i64 0, .int .i64 9, .int .i64 0, .bool false]).newblk 89 #[.string ⟨#[116]⟩, .slice (some ⟨w.heap.size,0,none⟩) 1 1, .slice none 0 0, .slice none 0 0, .slice none 0 0];have HS:=Lib.hid h1;simp only [World.size_alloc] at HS;clear h1;go_enter Tryz.func39,Tryz.ntmps39;go_wp2;go_ret;exact ⟨_,_,rfl,HS.out⟩
theorem one_sch {w0:World} {fp0:List Nat} {R:List Asn} (g h i:Nat) (h1:R[i]? =some (blkA g 89 #[.string ⟨#[116]⟩, .slice (some ⟨h,0,none⟩) 1 1, .slice none 0 0, .slice none 0 0, .slice none 0 0])) (h2:R[i+1]? =some (blkA h 146 #[.string ⟨#[120]⟩, .int .i64 1, .int .i64 0, .int .i64 9, .int .i64 0, .bool false])):
 Rd w0 fp0 R λ w=> SchX w [tdOne h] (.slice (some ⟨g,0,none⟩) 1 1):=λ M w hs=> by
 have r1:=(Rd.of_piece i h1 λ w f hb=> SlX.of_blk (X:=[]) (size:=5) (n:=1) (c:=1) hb.1 (by simp) (by decide) rfl) M w hs;have r2:=(Rd.of_piece (i+1) h2 λ w f hb=> SlX.of_blk (X:=[]) (size:=6) (n:=1) (c:=1) hb.1 (by simp) (by decide) rfl) M w hs;exact ⟨r1,λ t ht=> by rw [List.mem_singleton.1 ht];exact ⟨r2,(by intro u hu;simp only [tdOne,List.mem_cons,List.not_mem_nil,or_false] at hu;rcases hu with rfl | rfl | rfl | rfl | rfl | rfl <;> rfl),⟨SlX.nil _ _ _ _ _,λ i hi=> absurd hi (by simp [tdOne])⟩,⟨SlX.nil _ _ _ _ _,λ i hi=> absurd hi (by simp [tdOne])⟩⟩⟩
theorem one_sm (h:Nat):∀t∈[tdOne h],t.Sm:=λ t ht=> by
 rw [List.mem_singleton.1 ht];exact ⟨by simp [tdOne],by simp [tdOne],by simp [tdOne],by simp [tdOne],by simp [tdOne]⟩
def numR (n:Int):Rw:=[⟨1,n,⟨#[]⟩⟩]
theorem num_calls (n:Int) (w:World):Calls Tryz.prog 40 #[.int .i64 n] w λ e w'=> ∃g,e=.returned (.slice (some ⟨g,0,none⟩) 1 1)/\St w [] [blkA g 68 #[.int .i64 1, .int .i64 n, .string ⟨#[]⟩]] w':=by
 have HS:=Lib.hid ((St.start (w:=w) (L:=[]) (fp:=[]) rfl).newblk 68 #[.int .i64 1, .int .i64 n, .string ⟨#[]⟩]);go_enter Tryz.func40,Tryz.ntmps40;go_wp2;go_ret;exact ⟨_,rfl,HS.out⟩
theorem num_vals {w:World} {n:Int} {g:Nat} {f:List Nat} (h:(blkA g 68 #[.int .i64 1, .int .i64 n, .string ⟨#[]⟩]).p w f):ValsAt w (numR n) (.slice (some ⟨g,0,none⟩) 1 1):=⟨SlX.of_blk (X:=[]) (size:=3) (n:=1) (c:=1) h.1 (by simp) (by decide) rfl,by
 intro x hx;rw [numR,List.mem_singleton] at hx;subst hx;exact Nat.zero_le _⟩
theorem enc0_calls (w:World):Calls Tryz.prog 24 #[.slice none 0 0] w λ e w'=> ∃a n c,e=.returned (.slice a n c)/\St w [] [slA 5 (.slice a n c) ((numL 0).map u8C)] w':=by
 have h1:St w [] (wrA w.heap.size []::[]) (w.alloc (.cells #[.slice none 0 0] 116)):=St.wr.2 ⟨_,(((St.start (w:=w) (L:=[]) (fp:=[]) rfl).newblk 116 #[.slice none 0 0]).nilA 5).perm (List.Perm.swap _ _ _)⟩;have HN:=Lib.hid (wNumber_calls w.heap.size [] 0 (by unfold I64;omega) (by simp) w _ [] _ h1);clear h1;go_enter Tryz.func24,Tryz.ntmps24;go_wp2_with fail;(with_reducible refine HN.out.mono ?_);rintro e w1 ⟨rfl,h2⟩;obtain ⟨v,h3⟩:=St.wr.1 h2;obtain ⟨_,hr⟩:=h3.has 1 rfl;obtain ⟨a,n,c,rfl⟩:=sl_shape hr;obtain ⟨_,hb⟩:=h3.has 0 rfl;have c0:=(blk_get hb).1 0;have cl:=(blk_get hb).2.2;simp only [List.getElem?_toArray,List.getElem?_cons_zero] at c0;have HF:Hid (St w [] [slA 5 (.slice a n c) ((numL 0).map u8C)] w1):=h3.drop;clear HN h2 h3 hr hb;go_upto_region 4 with (fail)
 go_loopg [14] 0 (λ g z wr=> z=.int .i64 0/\wr=w1)
 case atStart=> exact ⟨rfl,rfl⟩
 case round=>
  obtain ⟨rfl,rfl⟩:=hrel;go_wp2;go_ret;exact ⟨_,_,_,rfl,HF.out⟩
theorem RowV.txt {r:Rw} (h:RowV r):∀v∈r,v.text.size<=maxLen:=λ v hv=> by
 have h0:(ByteArray.empty).size=0:=rfl;rcases okV_cases (h v hv).1 with ⟨-, -,e⟩ | ⟨-,e⟩ | ⟨-, -, -,e⟩
 · rw [e,h0];exact Nat.zero_le _
 · rw [e,h0];exact Nat.zero_le _
 · unfold maxLen;omega
theorem conv1 {P:Program} {o:Oper} {env:Operand->Value} {w:World} {t u:TypeId} {x:Operand} {v r:Value} (hop:o.op=.convert t u x) (hx:env x=v) (hr:(convert t u v).run P w=.ok r w):(execOp env o).run P w=.ok (.value r) w:=by
 simp only [execOp,hop,hx,Sem.run_bind,hr,Result.andThen_ok,Sem.run_pure]
theorem Rg.Ob.eqlStr (G:Rg) (i:Nat) (s:ByteArray) {ty r:TypeId} {x y:Operand} (hop:(opAt G.ops i).op=.binOp .eql ty x y r:=by rfl) (hx:∀a,G.env i a x=.string s:=by intro _;exact kr (by kernel_rfl)) (hy:∀a,G.env i a y=.string s:=by intro _;exact kr (by kernel_rfl)) (hv:∀g,G.valD i g=.bool true:=by intro _;exact kr (by kernel_rfl))
 (hq:(G.quiet i G.pcs.length && G.okV i)=true:=by exact kr (by kernel_rfl)) (hw:∀a,wantE G.ops (opAt G.ops i) (G.env i a)=some true:=by intro _;exact kr (by kernel_rfl)):G.Ob i:=Rg.Ob.read G i hq hw λ L a w _ _=> by
 simp [execOp,hop,hx,hy,go_sem,hv]
def gAw5 (b cb:Nat) (x0 x1 x2 x3:Value) (e1 e2:Int) (A B C:Asn):=rgx Tryz.prog Tryz.f12 5 50 [13,14,15,16,17,18,3,4] [(1,pV b 0),(2,pV cb 0)] (Vq 0 13 [Kp b 0,Kv (.agg #[x0,x1,x2,x3]),Kv (.int .i64 e1),Kp b 0,Kv (.agg #[x0,x1,x2,x3]),Kv (.int .i64 e2)]++Vq 6 3 [Kv (.int .i64 e1),Kv (.int .i64 e2)]) [Bk cb (35) [x0,x1,x2,x3], .gen [2,5] [] λ L _g=> match L 5 with | true=> C | false=> match L 2 with | true=> B | false=> A]
theorem rAw5 (b cb:Nat) (x0 x1 x2 x3:Value) (e1 e2:Int) (A B C:Asn) (w0:World) (fp0:List Nat) (R:List Asn) (h1:∀w,St w0 fp0 ([blkA cb 35 #[x0,x1,x2,x3],A]++R) w->Calls Tryz.prog 19 #[.pointer (some ⟨b,0,none⟩), .agg #[x0,x1,x2,x3]] w λ e w2=> e=.returned (.int .i64 e1)/\St w0 fp0 ([blkA cb 35 #[x0,x1,x2,x3],B]++R) w2) (h2:∀w,St w0 fp0 ([blkA cb 35 #[x0,x1,x2,x3],B]++R) w->Calls Tryz.prog 19 #[.pointer (some ⟨b,0,none⟩), .agg #[x0,x1,x2,x3]] w λ e w2=> e=.returned (.int .i64 e2)/\St w0 fp0 ([blkA cb 35 #[x0,x1,x2,x3],C]++R) w2) {w:World} {c:Code} {a:Act} {Q:Exit->Act->World->Prop} (c1:isReg c=true) (c2:cops c=opsR Tryz.f12 5) (c3:a.tmps.size=50) (_c4:a.defers=a.defers) (i1:a.eval (.tmp 1)=.pointer (some ⟨b,0,none⟩)) (i2:a.eval (.tmp 2)=.pointer (some ⟨cb,0,none⟩))
 (hS:St w0 fp0 ([blkA cb (35) #[x0,x1,x2,x3],A]++R) w)
 (hQ:∀(w1:World),St w0 fp0 ([blkA cb (35) #[x0,x1,x2,x3],C]++R) w1->Q .normal (putL a [(13, .pointer (some ⟨b,0,none⟩)),(14, .agg #[x0,x1,x2,x3]),(15, .int .i64 e1),(16, .pointer (some ⟨b,0,none⟩)),(17, .agg #[x0,x1,x2,x3]),(18, .int .i64 e2),(3, .int .i64 e1),(4, .int .i64 e2)]) w1):c.wp Tryz.prog Q a w:=by
 have ok:(gAw5 b cb x0 x1 x2 x3 e1 e2 A B C w0 fp0 R).Ok 8:=Rg.ok _ 8 [1,2,4,5] ⟨.run1 _ 1 0 (λ _=> blkA cb 35 #[x0,x1,x2,x3]) (λ _ _=> blkA cb 35 #[x0,x1,x2,x3]) (λ L a w fp _ hp=> (by obtain ⟨h1, -, -⟩:=blk_get hp;exact ⟨.agg #[x0,x1,x2,x3],w,fp,exec_loads (cs:=[x0,x1,x2,x3]) (off:=0) rfl (kr (by kernel_rfl)) (kr (by kernel_rfl)) (kr (by kernel_rfl)) (λ j u hj=> (by rw [Nat.zero_add,h1 j];simpa using hj)),kr (by kernel_rfl),hp,Tr.refl _ _⟩)), .callG _ 2 (f:=19) (args:=λ _=> #[.pointer (some ⟨b,0,none⟩), .agg #[x0,x1,x2,x3]]) (λ _=> [blkA cb 35 #[x0,x1,x2,x3],A]) (λ _ _=> [blkA cb 35 #[x0,x1,x2,x3],B]) (λ g w h=> (h1 w h).mono λ e w2 ⟨e1,h2⟩=> ⟨_,e1,kr (by kernel_rfl),h2⟩), .run1 _ 4 0 (λ _=> blkA cb 35 #[x0,x1,x2,x3]) (λ _ _=> blkA cb 35 #[x0,x1,x2,x3]) (λ L a w fp _ hp=> (by obtain ⟨h1, -, -⟩:=blk_get hp;exact ⟨.agg #[x0,x1,x2,x3],w,fp,exec_loads (cs:=[x0,x1,x2,x3]) (off:=0) rfl (kr (by kernel_rfl)) (kr (by kernel_rfl)) (kr (by kernel_rfl)) (λ j u hj=> (by rw [Nat.zero_add,h1 j];simpa using hj)),kr (by kernel_rfl),hp,Tr.refl _ _⟩)), .callG _ 5 (f:=19) (args:=λ _=> #[.pointer (some ⟨b,0,none⟩), .agg #[x0,x1,x2,x3]]) (λ _=> [blkA cb 35 #[x0,x1,x2,x3],B]) (λ _ _=> [blkA cb 35 #[x0,x1,x2,x3],C]) (λ g w h=> (h2 w h).mono λ e w2 ⟨e1,h2⟩=> ⟨_,e1,kr (by kernel_rfl),h2⟩),trivial⟩;refine wp_regD ok (by kernel_rfl) ⟨c1,c2⟩ ⟨c3,λ p hp=> ?_⟩ hS λ A1 w1 N1 H1=> ?_
 · simp only [gAw5,rgx,List.map_nil,List.append_nil,List.mem_cons,List.not_mem_nil,or_false] at hp
   rcases hp with rfl | rfl
   · exact i1
   · exact i2
 exact N1.fin [] (hQ w1 H1) (by kernel_rfl)
def gAw8 (S:Nat) (A:Asn):=rgx Tryz.prog Tryz.f12 8 50 [25,26,27,28,29,30,31,32,33,34,35,36,37,38,39,40,41,42,43,44,45,46,47,48,49,0] [(3, .int .i64 0),(4, .int .i64 5),(5, .int .i64 4),(6,pV S 0)] (Vq 0 25 [Kv (.int .i64 0),Kv (.bool true),Kv (.bool true),Kv (.int .i64 5),Kv (.bool true),Kv (.bool true),Kv (.bool true),Kv (.int .i64 4),Kv (.bool true),Kv (.bool true),Kv (.bool true),Kp S 0,Kv (.bool true),Kv (.bool true),Kv (.bool true),Kp S 0,Kv (.int .i64 4),Kv (.bool true),Kv (.bool true),Kv (.bool true),Vf.slice,Kv (.string (textOf (numL 0))),Kv (.string (textOf (numL 0))),Kv (.bool true),Kv (.bool true)]++Vq 25 0 [Kv (.bool true)]) [.all (A), .new 20 [45] λ g=> slA 5 (g 45) ((numL 0).map u8C)]
theorem rAw8 (S:Nat) (A:Asn) (w0:World) (fp0:List Nat) (R:List Asn) (hnext:∀w f,A.p w f->Calls Tryz.prog 41 #[.pointer (some ⟨S,0,none⟩)] w λ e w'=> e=.returned (.int .i64 4)/\Below w.heap.size w w') (henc:∀(L:List Asn) (w:World),St w0 fp0 (L++R) w->Calls Tryz.prog 24 #[.slice none 0 0] w λ e w2=> ∃v f,e=.returned v/\(slA 5 (v) ((numL 0).map u8C)).p w2 f/\Below w.heap.size w w2/\∀k∈f,w.heap.size<=k) (hrn:∀(L:List Asn) (w:World),St w0 fp0 (L++R) w->Calls Tryz.prog 42 #[.int .i64 0] w λ e w'=> e=.returned (.string (textOf (numL 0)))/\Below w.heap.size w w') {w:World} {c:Code} {a:Act} {Q:Exit->Act->World->Prop} (c1:isReg c=true) (c2:cops c=opsR Tryz.f12 8) (c3:a.tmps.size=50) (_c4:a.defers=a.defers) (i3:a.eval (.tmp 3)=.int .i64 0) (i4:a.eval (.tmp 4)=.int .i64 5) (i5:a.eval (.tmp 5)=.int .i64 4) (i6:a.eval (.tmp 6)=.pointer (some ⟨S,0,none⟩))
 (hS:St w0 fp0 ([A,emp]++R) w)
 (hQ:∀(u45:Value) (w1:World),(∃a n c,u45=.slice a n c)->St w0 fp0 ([A,slA 5 (u45) ((numL 0).map u8C)]++R) w1->Q .normal (putL a [(25, .int .i64 0),(26, .bool true),(27, .bool true),(28, .int .i64 5),(29, .bool true),(30, .bool true),(31, .bool true),(32, .int .i64 4),(33, .bool true),(34, .bool true),(35, .bool true),(36, .pointer (some ⟨S,0,none⟩)),(37, .bool true),(38, .bool true),(39, .bool true),(40, .pointer (some ⟨S,0,none⟩)),(41, .int .i64 4),(42, .bool true),(43, .bool true),(44, .bool true),(45,u45),(46, .string (textOf (numL 0))),(47, .string (textOf (numL 0))),(48, .bool true),(49, .bool true),(0, .bool true)]) w1):c.wp Tryz.prog Q a w:=by
 have ok:(gAw8 S A w0 fp0 R).Ok 26:=Rg.ok _ 26 [1,4,8,16,17,20,21,22,23] ⟨.eqlS _ 1 .i64 0, .eqlS _ 4 .i64 5, .eqlS _ 8 .i64 4, .ask1 _ 16 0 (f:=41) (args:=#[.pointer (some ⟨S,0,none⟩)]) (v:=.int .i64 4) hnext, .eqlS _ 17 .i64 4, .callNew _ 20 1 (λ v=> slA 5 (v) ((numL 0).map u8C)) (λ _ _ _ h=> sl_shape h) henc, .run1 _ 21 1 (λ g=> slA 5 (g 45) ((numL 0).map u8C)) (λ g _=> slA 5 (g 45) ((numL 0).map u8C)) (λ L a w fp _ hp=> ⟨.string (textOf (numL 0)),w,fp,conv1 (v:=.slice (sa (slots a 45)) (sn (slots a 45)) (sc (slots a 45))) rfl (kr (by kernel_rfl)) (run_back (slSelf hp)),kr (by kernel_rfl),hp,Tr.refl _ _⟩), .askR _ 22 hrn, .eqlStr _ 23 (textOf (numL 0)),trivial⟩;refine wp_regD ok (by kernel_rfl) ⟨c1,c2⟩ ⟨c3,λ p hp=> ?_⟩ hS λ A1 w1 N1 H1=> ?_
 · simp only [gAw8,rgx,List.map_nil,List.append_nil,List.mem_cons,List.not_mem_nil,or_false] at hp
   rcases hp with rfl | rfl | rfl | rfl
   · exact i3
   · exact i4
   · exact i5
   · exact i6
 exact N1.fin [45] (hQ (slots A1 45) w1 ⟨_,_,_,(N1.val 20 rfl)⟩ H1) (by kernel_rfl)
def chA (g:Nat):Chg:=⟨0,3,none,0,some ⟨g,0,none⟩,1,[],numR 5⟩
def chB (g:Nat):Chg:=⟨0,3,some ⟨g,0,none⟩,1,none,0,numR 6,[]⟩
def D1:Db:=[(1,[(3,numR 5)],4)]
theorem awA (h g:Nat):chkD (newD [tdOne h]) (chA g)=0/\appD (newD [tdOne h]) (chA g)=D1:=⟨by kernel_rfl,by kernel_rfl⟩
theorem awB (g:Nat):chkD D1 (chA g)=5/\appD D1 (chA g)=D1:=⟨by kernel_rfl,by kernel_rfl⟩
theorem awC (g:Nat):chkD D1 (chB g)=4/\appD D1 (chB g)=D1:=⟨by kernel_rfl,by kernel_rfl⟩
theorem numR_ok (n:Int) (h:I64 n):∀v∈numR n,I64 v.int:=by
 intro v hv;rw [numR,List.mem_singleton] at hv;subst hv;exact h
theorem chA_ok (g:Nat):(chA g).Ok:=⟨by unfold I64 chA;simp,by unfold I64 chA;simp,by simp [chA],numR_ok 5 (by unfold I64;omega)⟩
theorem chB_ok (g:Nat):(chB g).Ok:=⟨by unfold I64 chB;simp,by unfold I64 chB;simp,numR_ok 6 (by unfold I64;omega),by simp [chB]⟩
theorem D1_len:∀t∈D1,t.2.1.length < 1000000:=by
 intro t ht;rw [D1,List.mem_singleton] at ht;subst ht;show 1 < 1000000;omega
theorem D0_len (h:Nat):∀t∈newD [tdOne h],t.2.1.length < 1000000:=λ t ht=> by
 have:=newD_max _ t ht;omega
theorem awake40_calls (w:World):Calls Tryz.prog 12 #[] w λ e w'=> e=.returned (.bool true)/\Below w.heap.size w w':=by
 have HO:=Lib.hid (one_calls w);go_enter Tryz.func12,Tryz.ntmps12;go_wp2_with fail;(with_reducible refine HO.out.mono ?_);rintro e w1 ⟨og,oh,rfl,h1⟩;have HN:=Lib.hid (StNew_calls [tdOne oh] _ (one_sm oh) (by simp) w w1 [] (oneL og oh) (one_sch og oh 0 rfl rfl) h1);clear HO h1;go_wp2_with fail;(with_reducible refine HN.out.mono ?_);rintro e w2 ⟨b,rfl,h2⟩;have H2:=Lib.hid h2;have HNU:=Lib.hid (num_calls 5 w2);clear HN h2;go_wp2_with fail;(with_reducible refine HNU.out.mono ?_);rintro e w3 ⟨ng,rfl,h3⟩;have h4:=newB H2.out h3;have h5:=h4.newblk 35 #[.int .i64 0, .int .i64 3, .slice none 0 0, .slice (some ⟨ng,0,none⟩) 1 1];have H5:=Lib.hid h5;clear HNU H2 h3 h4 h5;go_upto_region 5 with (fail)
 generalize hW:w3.alloc _=W at *;clear hW;obtain ⟨cb,hcb⟩:∃cb,w3.heap.size=cb:=⟨_,rfl⟩
 rw [hcb] at H5 ⊢;clear hcb;obtain ⟨R1,hR1⟩:∃R1,blkA ng 68 #[.int .i64 1, .int .i64 5, .string ⟨#[]⟩]::oneL og oh=R1:=⟨_,rfl⟩
 have HS5:Hid (St w [] ([blkA cb 35 #[.int .i64 0, .int .i64 3, .slice none 0 0, .slice (some ⟨ng,0,none⟩) 1 1],stA b (newD [tdOne oh])]++R1) W):=by rw [<-hR1];exact St_re (L:=[_,_,_]) H5.out [0,2,1] [] (by kernel_rfl)
 have hcx:∀A,Rd w [] ([A]++R1) λ w=> (chA ng).X w:=λ A M w' hs=> by rw [<-hR1] at hs;exact ⟨ValsX.nil _ _ _ _,(Rd.of_piece (R:=[A]++(blkA ng 68 #[.int .i64 1, .int .i64 5, .string ⟨#[]⟩]::oneL og oh)) 1 rfl λ w f h=> num_vals h) M w' hs⟩
 refine rAw5 (w0:=w) (fp0:=[]) (R:=R1) b cb (.int .i64 0) (.int .i64 3) (.slice none 0 0) (.slice (some ⟨ng,0,none⟩) 1 1) 0 5 (stA b (newD [tdOne oh])) (stA b D1) (stA b D1) ?_ ?_ rfl (by kernel_rfl) rfl rfl rfl rfl HS5.out ?_
 · intro w' h'
   have h:=Apply_calls b _ (chA ng) (chA_ok ng) (D0_len oh) w w' [] _ (hcx _) (h'.perm (List.Perm.swap _ _ _));rw [(awA oh ng).1,(awA oh ng).2] at h;refine h.mono ?_;rintro e w4 ⟨rfl,h4⟩;exact ⟨rfl,h4.perm (List.Perm.swap _ _ _)⟩
 · intro w' h'
   have h:=Apply_calls b _ (chA ng) (chA_ok ng) D1_len w w' [] _ (hcx _) (h'.perm (List.Perm.swap _ _ _));rw [(awB ng).1,(awB ng).2] at h;refine h.mono ?_;rintro e w4 ⟨rfl,h4⟩;exact ⟨rfl,h4.perm (List.Perm.swap _ _ _)⟩
 intro w4 h4;have H4:Hid (St w [] (stA b D1::R1) w4):=St.drop h4;clear h4 H5 HS5 hcx hR1;simp only [putL,List.foldl,Act.put,List.setIfInBounds_toArray,List.set_cons_succ,List.set_cons_zero];have HNU:=Lib.hid (num_calls 6 w4);go_wp2_with fail;(with_reducible refine HNU.out.mono ?_);rintro e w5 ⟨nh,rfl,h5⟩;have h6:=newB H4.out h5;have h7:St w [] (stA b D1::blkA nh 68 #[.int .i64 1, .int .i64 6, .string ⟨#[]⟩]::R1) w5:=h6.perm (List.Perm.swap _ _ _);have HA:=Lib.hid (Apply_calls b D1 (chB nh) (chB_ok nh) D1_len w w5 [] _ (λ M w' hs=> ⟨(Rd.of_piece (R:=blkA nh 68 #[.int .i64 1, .int .i64 6, .string ⟨#[]⟩]::R1) 0 rfl λ w f h=> num_vals h) M w' hs,ValsX.nil _ _ _ _⟩) h7);rw [(awC nh).1,(awC nh).2] at HA;unfold chB Chg.v Chg.ov Chg.nv numR at HA;simp only [List.length_cons,List.length_nil,Nat.zero_add] at HA;clear HNU H4 h5 h6 h7;go_wp2_with fail;(with_reducible refine HA.out.mono ?_);rintro e w6 ⟨rfl,h6⟩;obtain ⟨q,hq,hs⟩:=h6.openD;have hq1:q.ts.length=1:=hq.tlen;obtain ⟨T,hT⟩:∃T,q.ts=[T]:=by
  match e:q.ts,hq1 with
  | [T],_=> exact ⟨T,rfl⟩
 have hd:=hq.d;rw [hT] at hd;have hnx:T.next=4:=by have h1:=List.cons.inj hd;have h2:=h1.1;unfold Tb.d at h2;injection h2 with _ h2;injection h2
 have hdb:=db_get hs;have HT:=Lib.hid (table_in b 0 _ q.tv (ptrV T.S) w6 hdb.2.1 hdb.2.2.2.2 (by rw [hT];rfl));obtain ⟨R2,hR2⟩:∃R2,dbP b q++(blkA nh 68 #[.int .i64 1, .int .i64 6, .string ⟨#[]⟩]::R1)=R2:=⟨_,rfl⟩
 have HS6:Hid (St w [] ([tbA T,emp]++R2) w6):=by
  rw [hT] at hs;rw [<-hR2];have h:=St.emp.2 hs;refine h.perm ?_
  classical refine List.perm_iff_count.2 λ a=> ?_;simp only [List.map_cons,List.map_nil,List.cons_append,List.nil_append,List.count_append,List.count_cons];omega
 have HNX:=Lib.hid hnx;obtain ⟨S,cols,I,LL0,next⟩:=T;simp only at HNX HT;clear HA h6 hq hs hq1 hT hd hnx hdb hR2;unfold ptrV at HT;rw [show ((0:Nat):Int)=0 from rfl] at HT;go_wp2_with fail;(with_reducible refine HT.out.mono ?_);rintro e w7 ⟨rfl,rfl⟩;clear HT;go_upto_region 8 with (fail)
 refine rAw8 (w0:=w) (fp0:=[]) (R:=R2) S (tbA ⟨S,cols,I,LL0,next⟩) ?_ ?_ ?_ rfl (by kernel_rfl) rfl rfl rfl rfl rfl rfl HS6.out ?_
 · intro w' f h'
   refine (Next_calls h').mono ?_;rintro e w8 ⟨rfl,rfl⟩;exact ⟨by rw [HNX.out],Below.refl _ _⟩
 · intro M w' _
   refine (enc0_calls w').mono ?_;rintro e w8 ⟨a,n,c,rfl,h8⟩;obtain ⟨f,h1,h2,h3⟩:=piece_of h8;exact ⟨_,f,rfl,h1,h2,h3⟩
 · intro M w' _
   exact RNumber_calls 0 (by unfold I64;omega) w'
 intro u45 w8 ⟨ya,yn,yc,e45⟩ h8;subst e45;have HF:=Lib.hid (St.below0 h8);clear h8 HS6;simp only [putL,List.foldl,Act.put,List.setIfInBounds_toArray,List.set_cons_succ,List.set_cons_zero];go_wp2;go_ret;exact ⟨rfl,HF.out⟩
theorem rd_below {w0:World} {R:List Asn} {Q:World->Prop} (h:∀w,Below w0.heap.size w0 w->Q w):Rd w0 [] R Q:=Rd.of_tr λ w _fp ht=> h w (ht.below (Nat.le_refl _) λ _k hk=> nomatch hk)
section
section
variable {b l m:List UInt8} {c:Nat} {next cnt last id:Int} {L:LL} {r:Rw} {o3 o4:Option (List UInt8)}
theorem TMid.no (h:TMid b c next cnt L last l) (hc:0 < cnt) (h1:NumS (some l) id o3) (h2:RowS2 o3 r o4) (hx:o4=none\/id<=last\/next<=id\/storB c r=false):NoTab b c:=by
 refine h.bad hc λ id' r' m1 m2 g1 g2 g3 g4 g5=> ?_;rcases h1 with ⟨m1',f1,rfl⟩ | ⟨rfl,f1⟩
 · obtain ⟨rfl,rfl⟩:=g1.uniq f1
   rcases h2 with ⟨m2',f2,rfl⟩ | ⟨rfl,f2⟩
   · obtain ⟨rfl,rfl⟩:=g2.uniq f2
     rcases hx with hx | hx | hx | hx
     · cases hx
     · omega
     · omega
     · unfold storB at hx
       rw [decide_eq_true g5.1,Bool.true_and] at hx;have:r'.all okV=true:=List.all_eq_true.2 λ v hv=> (g5.2 v hv).1;rw [this] at hx;cases hx
   · exact f2 _ _ g2
 · exact f1 _ _ g1
theorem TMid.yes (h:TMid b c next cnt L last l) (hc:0 < cnt) (h1:NumS (some l) id o3) (h2:RowS2 o3 r (some m)) (hl:last < id) (hn:id < next) (hs:storB c r=true):TMid b c next (cnt - 1) (L++[(id,r)]) id m:=by
 rcases h1 with ⟨m1',f1,rfl⟩ | ⟨rfl,f1⟩
 · rcases h2 with ⟨m2',f2,e⟩ | ⟨e,f2⟩
   · obtain rfl:=Option.some.inj e
     refine h.step hc f1 f2 hl hn ⟨?_,f2.1⟩;unfold storB at hs;exact of_decide_eq_true (Bool.and_eq_true_iff.1 hs).1
   · cases e
 · cases h2
theorem TMid.put (h:TMid b c next cnt L last l) (hl:last < id) (hn:id < next) (hs:storB c r=true):putOk c id r=true/\putLL c id r L=L++[(id,r)]/\putN c id r (last+1)=id+1:=by
 have h0:=h.lt;have h1:=h.hi;have hp:putOk c id r=true:=by unfold putOk;rw [hs,decide_eq_true (by omega)];rfl
 refine ⟨hp,?_,?_⟩
 · unfold putLL
   rw [if_pos hp];have e1:=putL_split (A:=L) (B:=[]) (k:=id) (λ a ha=> by have:=h.q a ha;omega) (by simp) r;rw [List.append_nil] at e1;exact e1
 · unfold putN
   rw [if_pos hp];omega
end
def TInv (c:Nat) (o0:Option (List UInt8)) (next cnt:Int) (L:LL) (last:Int):Option (List UInt8)->Prop
 | some l=> ∃b,o0=some b/\TMid b c next cnt L last l
 | none=> ∀b,o0=some b->NoTab b c
theorem TabS.bad {c:Nat} {o:Option (List UInt8)} {t:Nat×LL×Int} (h:∀b,o=some b->NoTab b c):TabS c o t none:=by
 cases o with
 | none=> rfl
 | some b=> exact .inr ⟨rfl,h b rfl⟩
theorem TInv.start {c:Nat} {o0 o1 o2:Option (List UInt8)} {next cnt:Int} (h1:NumS o0 next o1) (h2:NumS o1 cnt o2) (hr:1<=next/\next<=4611686018427387905/\0<=cnt):TInv c o0 next cnt [] 0 o2:=by
 cases o2 with
 | none=>
  rintro b rfl;rcases h1 with ⟨m1,f1,rfl⟩ | ⟨rfl,f1⟩
  · rcases h2 with ⟨m2,f2,e⟩ | ⟨e,f2⟩
    · cases e
    · exact NoTab.num2 f1 f2
  · exact NoTab.num1 f1
 | some l=>
  cases o0 with
  | none=>
   obtain rfl:o1=none:=h1;cases h2
  | some b=>
   rcases h1 with ⟨m1,f1,rfl⟩ | ⟨rfl,f1⟩
   · rcases h2 with ⟨m2,f2,e⟩ | ⟨e,f2⟩
     · obtain rfl:=Option.some.inj e
       exact ⟨b,rfl,TMid.start f1 f2 hr.1 hr.2.1 hr.2.2⟩
     · cases e
   · cases h2
theorem TInv.range {c:Nat} {o0 o1 o2:Option (List UInt8)} {next cnt:Int} (h1:NumS o0 next o1) (h2:NumS o1 cnt o2) (hr:¬ (1<=next/\next<=4611686018427387905/\0<=cnt)):∀b,o0=some b->NoTab b c:=by
 rintro b rfl;rcases h1 with ⟨m1,f1,rfl⟩ | ⟨rfl,f1⟩
 · rcases h2 with ⟨m2,f2,rfl⟩ | ⟨rfl,f2⟩
   · exact NoTab.range f1 f2 hr
   · exact NoTab.num2 f1 f2
 · exact NoTab.num1 f1
theorem TInv.ends {c:Nat} {o0:Option (List UInt8)} {next cnt last:Int} {L:LL} {l:List UInt8} (h:TInv c o0 next cnt L last (some l)) (hc:¬ 0 < cnt):TabS c o0 (c,L,next) (some l):=by
 obtain ⟨b,rfl,h⟩:=h;have:cnt=0:=by have:=h.n;omega
 subst this;exact .inl ⟨l,h.done,rfl⟩
def RdTabP (w0:World) (fp0:List Nat) (F B:List Asn) (p:Nat) (t:TypeId) (S c:Nat) (I:List (List Int)) (o:Option (List UInt8)) (e:Ending) (w':World):Prop:=
 ∃L next v o2,e=.returned (.tuple #[])/\St w0 fp0 (rdrA p t v o2::storeA S c I L next::F) w'/\RdrP w0 fp0 B v o2/\TabS c o (c,L,next) o2
end
theorem rdTable_calls (p b k:Nat) (q:StQ) (D:Db) (hq:q.Ok D) (hk:k < q.ts.length) (v:Value) (o:Option (List UInt8)) (ho:∀l,o=some l->l.length < 100000000) (w0 w:World) (fp0:List Nat) (R B:List Asn) (hB:∃M,R=M++B)
 (hS:St w0 fp0 (rdrA p 126 v o::storeA q.ts[k].S q.ts[k].cols q.ts[k].I [] 1::(dbP b q++((q.ts.eraseIdx k).map tbA++R))) w) (hR:RdrP w0 fp0 B v o):
 Calls Tryz.prog 73 #[.pointer (some ⟨p,0,none⟩), .pointer (some ⟨b,0,none⟩), .int .i64 k] w λ e w'=> RdTabP w0 fp0 (dbP b q++((q.ts.eraseIdx k).map tbA++R)) B p 126 q.ts[k].S q.ts[k].cols q.ts[k].I o e w':=by
 have hkd:k < q.td.length:=by rw [hq.dlen,<-hq.tlen];exact hk
 have htd:=hq.tdn k hk hkd;have hcl:q.ts[k].cols<=1000000:=by have:=(hq.sm _ (List.getElem_mem hkd)).n;rw [htd] at this;omega
 obtain ⟨d0,d1,dl,dsc,dsl⟩:=db_get hS.drop.drop;obtain ⟨b',o',tc,etv,p0⟩:=dsl.some (j:=k) (u:=ptrV q.ts[k].S) (by rw [List.getElem?_map,List.getElem?_eq_getElem hk];rfl);rw [etv,List.length_map] at d1;have pl:=World.block_lt_of_cell? w _ p0;have hk':(k:Int) < q.ts.length:=by omega
 have hkz:(0:Int)<=k:=by omega
 have HADV:Hid (∀(L:LL) (nx next:Int) (v:Value) (o:Option (List UInt8)),nx<=next->next<=4611686018427387905->L.length < 1000000000->∀w',St w0 fp0 (rdrA p 126 v o::storeA q.ts[k].S q.ts[k].cols q.ts[k].I L nx::(dbP b q++((q.ts.eraseIdx k).map tbA++R))) w'->Calls Tryz.prog 107 #[.pointer (some ⟨b,0,none⟩), .int .i64 k, .int .i64 next] w' λ e w2=> e=.returned (.bool true)/\St w0 fp0 (rdrA p 126 v o::storeA q.ts[k].S q.ts[k].cols q.ts[k].I L next::(dbP b q++((q.ts.eraseIdx k).map tbA++R))) w2):=λ L nx next v o h1 h2 h3 w' hs=> by
  have hp:∀(X Y:Asn),(X::Y::(dbP b q++((q.ts.eraseIdx k).map tbA++R))).Perm (Y::(dbP b q++((q.ts.eraseIdx k).map tbA++(X::R)))):=λ X Y=> by classical refine List.perm_iff_count.2 λ a=> ?_;simp only [List.count_append,List.count_cons];omega
  exact (advance_calls b k q D hq hk L nx next h1 h2 h3 w0 w' fp0 (rdrA p 126 v o::R) (hs.perm (hp _ _))).mono λ e w2 ⟨e1,h⟩=> ⟨e1,h.perm (hp _ _).symm⟩
 have HSTO:Hid (∀(M:List Asn) (w':World),St w0 fp0 (M++(dbP b q++((q.ts.eraseIdx k).map tbA++R))) w'->∀(r:Rw) (v:Value),ValsAt w' r v->Calls Tryz.prog 81 #[.pointer (some ⟨b,0,none⟩), .int .i64 k,v] w' λ e w2=> e=.returned (.bool (storB q.ts[k].cols r))/\Below w'.heap.size w' w2):=λ M w' hs r v hv=> by have hd:=db_get hs.dropAll;have h:=storable40_calls b k q.td q.sv hkd r v w' hd.1 hd.2.2.2.1 hv;rw [htd] at h;exact h
 have HB:Hid (∃M,storeA q.ts[k].S q.ts[k].cols q.ts[k].I [] 1::(dbP b q++((q.ts.eraseIdx k).map tbA++R))=M++B):=by obtain ⟨M,rfl⟩:=hB;exact ⟨storeA q.ts[k].S q.ts[k].cols q.ts[k].I [] 1::(dbP b q++((q.ts.eraseIdx k).map tbA++M)),by simp⟩
 have HBF:Hid (∃M,(dbP b q++((q.ts.eraseIdx k).map tbA++R))=M++B):=by obtain ⟨M,rfl⟩:=hB;exact ⟨(dbP b q++((q.ts.eraseIdx k).map tbA++M)),by simp⟩
 have HN1:=Lib.hid (rdNumber_calls p v o w0 w fp0 _ B HB.out hS hR);have HCL:=Lib.hid hcl;have HO:=Lib.hid ho;clear hS hR hq hcl htd dsc dsl etv ho d0;unfold ptrV at *;generalize q.ts[k]=T at *;generalize dbP b q++((q.ts.eraseIdx k).map tbA++R)=F at *;clear hk hkd hB;generalize q.ts.length=n at *;go_enter Tryz.func73,Tryz.ntmps73;go_upto_region 1 with (fail)
 go_wp2_with fail;(with_reducible refine HN1.out.mono ?_);rintro e w1 ⟨next,v1,o1,rfl,hnx,h1,h2,h3⟩;have HN2:=Lib.hid (rdNumber_calls p v1 o1 w0 w1 fp0 _ B HB.out h1 h2);have HNX:=Lib.hid hnx;have HS1:=Lib.hid h3;clear HN1 hnx h1 h2 h3 d1 p0 dl pl;go_wp2_with fail;(with_reducible refine HN2.out.mono ?_);rintro e w2 ⟨cnt,v2,o2,rfl,hcn,h1,h2,h3⟩;have HS2:=Lib.hid h3;have H1:=Lib.hid h1;have H2:=Lib.hid h2;obtain ⟨_,hp⟩:=h1.has 0 rfl;have c1:=(blk_get hp).1 1;have cl:=(blk_get hp).2.2;have f1:=(blk_get hp).2.1 1;simp only [List.getElem?_toArray,List.getElem?_cons_zero,List.getElem?_cons_succ] at c1;have HSET:=Lib.hid (λ i hi u=> St.setB h1 i hi u);clear HN2 h1 h2 h3 hp;go_upto_region 2 with (fail)
 obtain ⟨iv,hiv⟩:∃iv:Bool,(decide (1<=next/\next<=4611686018427387905/\0<=cnt))=iv:=⟨_,rfl⟩
 have HIV:=Lib.hid hiv;clear hiv;go_cut [32] (λ z wx=> z=.bool (!iv)/\wx=w2)
 case first=>
  by_cases h1:next < 1
  · have HE:Hid (iv=false):=by
     show _=_;rw [<-HIV.out];exact decide_eq_false (by omega)
    obtain rfl:=HE.out;clear HE;go_wp2;go_meet;exact ⟨rfl,rfl⟩
  · by_cases h2:4611686018427387905 < next
    · have HE:Hid (iv=false):=by
       show _=_;rw [<-HIV.out];exact decide_eq_false (by omega)
      obtain rfl:=HE.out;clear HE;go_wp2;go_meet;exact ⟨rfl,rfl⟩
    · have HE:Hid (iv=!decide (cnt < 0)):=by
       show _=_;rw [<-HIV.out];by_cases h3:cnt < 0
       · rw [decide_eq_true h3,decide_eq_false (by omega)];rfl
       · rw [decide_eq_false h3,decide_eq_true (by omega)];rfl
      obtain rfl:=HE.out;clear HE;go_wp2;go_meet;exact ⟨by simp,rfl⟩
 obtain ⟨rfl,ew⟩:=hcut;obtain rfl:=ew.symm;clear ew;cases iv with
 | false=>
  have HF:Hid (RdTabP w0 fp0 F B p 126 T.S T.cols T.I o (.returned (.tuple #[])) (w2.setCell ⟨p,1,none⟩ (.bool true))):=⟨[],1,v2,none,rfl,HSET.out 1 (by simp) _,trivial,TabS.bad (TInv.range HS1.out HS2.out (of_decide_eq_false HIV.out))⟩
  obtain ⟨_,hp⟩:=(HSET.out 1 (by simp) (.bool true)).has 0 rfl;have c2:=(blk_get hp).1 1;have cl2:=(blk_get hp).2.2;simp only [List.getElem?_toArray,List.getElem?_cons_zero,List.getElem?_cons_succ,List.setIfInBounds_toArray,List.set_cons_succ,List.set_cons_zero] at c2;clear hp HSET H1 H2 HS1 HS2 HSTO HADV;go_upto_region 5 with (fail)
  generalize w2.setCell _ _=W at *;clear c1 cl f1;go_loopg [8,9] 0 (λ g z8 z9 wr=> z8=.int .i64 cnt/\wr=W)
  case atStart=> exact ⟨rfl,rfl⟩
  case round=>
   obtain ⟨rfl,rfl⟩:=hrel;by_cases hc:0 < cnt
   · go_wp2
     go_end0;exact HF.out
   · go_wp2
     go_end0;exact HF.out
 | true=>
  have HI0:Hid (TInv T.cols o next cnt [] 0 o2):=TInv.start HS1.out HS2.out (of_decide_eq_true HIV.out);clear HSET HIV HS1 HS2 HB c1 cl f1;go_upto_region 5 with (fail)
  go_loopg [8,9] cnt.toNat (λ g z8 z9 wr=> ∃(cn last:Int) (L:LL) (v:Value) (o2:Option (List UInt8)),z8=.int .i64 cn/\z9=.int .i64 last/\I64 cn/\g=cn.toNat/\Hid (TInv T.cols o next cn L last o2)/\Hid (St w0 fp0 (rdrA p 126 v o2::storeA T.S T.cols T.I L (last+1)::F) wr)/\Hid (RdrP w0 fp0 B v o2))
  case atStart=> exact ⟨cnt,0,[],v2,o2,rfl,rfl,hcn,rfl,HI0,H1,H2⟩
  case round=>
   clear H1 H2 HI0 hcn;obtain ⟨cn,last,L,v,o2,rfl,rfl,hcn,hg,Hi,Hs,Hr⟩:=hrel;have HG:=Lib.hid hg;have HCN:=Lib.hid hcn;obtain ⟨_,hp⟩:=Hs.out.has 0 rfl;have c1:=(blk_get hp).1 1;have cl:=(blk_get hp).2.2;simp only [List.getElem?_toArray,List.getElem?_cons_zero,List.getElem?_cons_succ] at c1;clear hp hg;cases o2 with
   | none=>
    have c1:wr.cell? ⟨p,1,none⟩=some (.bool true):=c1;have HF:Hid (RdTabP w0 fp0 F B p 126 T.S T.cols T.I o (.returned (.tuple #[])) wr):=⟨L,last+1,v,none,rfl,Hs.out,trivial,TabS.bad Hi.out⟩
    clear HCN hcn HADV HSTO;by_cases hc:0 < cn
    · go_wp2
      go_end0;exact HF.out
    · go_wp2
      go_end0;exact HF.out
   | some l=>
    have c1:wr.cell? ⟨p,1,none⟩=some (.bool false):=c1;obtain ⟨b0,rfl,hm⟩:=Hi.out;have HM:=Lib.hid hm;have HLL:Hid (L.length < 1000000000/\l.length < 1000000000):=by have:=hm.lens;have:=HO.out b0 rfl;show _/\_;omega
    have HNL:Hid (last+1<=next/\next<=4611686018427387905):=⟨by have:=hm.lt;omega,hm.hi⟩
    by_cases hc:0 < cn
    · have HBL:Hid (∃M,storeA T.S T.cols T.I L (last+1)::F=M++B):=by
       obtain ⟨M,e⟩:=HBF.out;exact ⟨storeA T.S T.cols T.I L (last+1)::M,by rw [e];rfl⟩
      have HT1:=Lib.hid (rdNumber_calls p v (some l) w0 wr fp0 _ B HBL.out Hs.out Hr.out);have hw1:wrap64 (cn - 1)=cn - 1:=by obtain ⟨a1,a2⟩:=hcn;unfold wrap64;omega
      have HC:=Lib.hid hc;clear hm hcn;go_wp2_with fail;(with_reducible refine HT1.out.mono ?_);rintro e w3 ⟨id,v3,o3,rfl,hid,h1,h2,h3⟩;have hO3:∀x,o3=some x->x.length < 1099511627776:=NumS.len h3 (λ x hx=> by obtain rfl:=Option.some.inj hx;have:=HLL.out.2;omega);have HT2:=Lib.hid (rdRow_calls p v3 o3 hO3 w0 w3 fp0 _ B HBL.out h1 h2);have HID:=Lib.hid hid;have HS3:=Lib.hid h3;clear HT1 h1 h2 h3 c1 cl hid hO3;go_wp2_with fail;(with_reducible refine HT2.out.mono ?_);rintro e w4 ⟨rv,r,v4,o4,rfl,h1,h2,h3,hrv,ra,rn,rc,rfl⟩;have HRV:=Lib.hid hrv;have HS4:=Lib.hid h3;have HR4:=Lib.hid h2;have H4:=Lib.hid h1;obtain ⟨_,hp⟩:=h1.has 0 rfl;have c1:=(blk_get hp).1 1;have cl:=(blk_get hp).2.2;have f1:=(blk_get hp).2.1 1;simp only [List.getElem?_toArray,List.getElem?_cons_zero,List.getElem?_cons_succ] at c1;have HFB:Hid ((o4=none\/id<=last\/next<=id\/storB T.cols r=false)->∀w',St w0 fp0 (rdrA p 126 v4 o4::rowA 68 3 (.slice ra rn rc) r.length (flat r)::storeA T.S T.cols T.I L (last+1)::F) w'->RdTabP w0 fp0 F B p 126 T.S T.cols T.I (some b0) (.returned (.tuple #[])) (w'.setCell ⟨p,1,none⟩ (.bool true))):=λ hx w' hs=>
       ⟨L,last+1,v4,none,rfl,((St.setB hs 1 (by simp) (.bool true)).perm (List.Perm.swap _ _ _)).drop,trivial,TabS.bad λ b hb=> by obtain rfl:=Option.some.inj hb;exact HM.out.no HC.out HS3.out HS4.out hx⟩
      clear h1 h2 h3 hrv hp HT2;cases o4 with
      | none=>
       have c1:w4.cell? ⟨p,1,none⟩=some (.bool true):=c1;have HF:=Lib.hid (HFB.out (.inl rfl) w4 H4.out);clear HFB HSTO HADV;go_wp2;go_end0;exact HF.out
      | some m=>
       have c1:w4.cell? ⟨p,1,none⟩=some (.bool false):=c1;by_cases hl:id<=last
       · have HF:=Lib.hid (HFB.out (.inr (.inl hl)) w4 H4.out)
         clear HFB HSTO HADV;go_wp2;go_end0;exact HF.out
       · by_cases hn:next<=id
         · have HF:=Lib.hid (HFB.out (.inr (.inr (.inl hn))) w4 H4.out)
           clear HFB HSTO HADV;go_wp2;go_end0;exact HF.out
         · have hv:ValsAt w4 r (.slice ra rn rc):=by
            obtain ⟨_,hrw⟩:=H4.out.has 1 rfl;exact ⟨SlX.of_row (X:=[]) hrw (length_flat _) (by simp),HRV.out.txt⟩
           have HT:=Lib.hid (HSTO.out [_,_,_] w4 H4.out r _ hv);obtain ⟨sb,hsb⟩:∃sb,storB T.cols r=sb:=⟨_,rfl⟩
           have HSB:=Lib.hid hsb;rw [hsb] at HT;clear hv hsb HSTO;cases sb with
           | false=>
            go_wp2_with fail;(with_reducible refine HT.out.mono ?_);rintro e w5 ⟨rfl,hb5⟩;have h5:=H4.out.mono hb5;obtain ⟨_,hp⟩:=h5.has 0 rfl;have c1:=(blk_get hp).1 1;have cl:=(blk_get hp).2.2;have f1:=(blk_get hp).2.1 1;simp only [List.getElem?_toArray,List.getElem?_cons_zero,List.getElem?_cons_succ] at c1;have HF:=Lib.hid (HFB.out (.inr (.inr (.inr HSB.out))) w5 h5);clear HFB HADV HT hb5 h5 hp;go_wp2;go_end0;exact HF.out
           | true=>
            clear HFB;go_wp2_with fail;(with_reducible refine HT.out.mono ?_);rintro e w5 ⟨rfl,hb5⟩;have h5:=H4.out.mono hb5;have hl':last < id:=by omega
            have hn':id < next:=by omega
            obtain ⟨e1,e2,e3⟩:=HM.out.put hl' hn' HSB.out;have hpm:=h5.perm (L':=storeA T.S T.cols T.I L (last+1)::rowA 68 3 (.slice ra rn rc) r.length (flat r)::rdrA p 126 v4 (some m)::F) (by classical refine List.perm_iff_count.2 λ a=> ?_;simp only [List.count_cons];omega);have hsp:=SPut_calls T.S T.cols T.I L (last+1) id r (.slice ra rn rc) HID.out (λ v hv=> (HRV.out v hv).2) HCL.out (by have:=HLL.out.1;omega) w0 w5 fp0 _ (Rd.of_piece 0 rfl λ w f hb=> ⟨SlX.of_row (X:=[]) hb (length_flat _) (by simp),HRV.out.txt⟩) hpm;rw [e1,e2,e3] at hsp;unfold errV ptrV at hsp;have HP:=Lib.hid hsp;have HMN:=Lib.hid (HM.out.yes HC.out HS3.out HS4.out hl' hn' HSB.out);clear hsp hpm e1 e2 e3 h5 hb5 HT c1 cl f1;go_wp2_with fail;(with_reducible refine HP.out.mono ?_);rintro e w6 ⟨rfl,h6⟩;have H6:Hid (St w0 fp0 (rdrA p 126 v4 (some m)::storeA T.S T.cols T.I (L++[(id,r)]) (id+1)::F) w6):=((h6.perm (List.Perm.swap _ _ _)).drop.perm (List.Perm.swap _ _ _))
            clear h6 HP HADV;go_wp2;go_roundg (cn - 1).toNat
            case rel=> exact ⟨cn - 1,id,L++[(id,r)],v4,some m,by go_num,rfl,by have:=HCN.out;have:=HC.out;unfold I64 at *;omega,rfl,⟨b0,rfl,HMN.out⟩,H6,HR4⟩
            case measure=> have:=HG.out;have:=HC.out;omega
    · have HF:Hid (∀w',St w0 fp0 (rdrA p 126 v (some l)::storeA T.S T.cols T.I L next::F) w'->RdTabP w0 fp0 F B p 126 T.S T.cols T.I (some b0) (.returned (.tuple #[])) w'):=λ w' hs=> ⟨L,next,v,some l,rfl,hs,Hr.out,TInv.ends ⟨b0,rfl,hm⟩ hc⟩
      have HA:=Lib.hid (HADV.out L (last+1) next v (some l) HNL.out.1 HNL.out.2 HLL.out.1 wr Hs.out);clear hm hcn HADV HSTO;go_wp2_with fail;(with_reducible refine HA.out.mono ?_);rintro e w3 ⟨rfl,h3⟩;have HFF:=Lib.hid (HF.out _ h3);clear HA HF h3 c1 cl;go_wp2;go_end0;exact HFF.out
end
end Go.Proofs.YtpdlkdoogojboaaGreat
