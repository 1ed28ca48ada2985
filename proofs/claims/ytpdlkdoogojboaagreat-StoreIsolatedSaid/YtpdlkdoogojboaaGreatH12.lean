/- Part 12 of the proof: Mj, Mk, Mlr, Ml, Mn, Mp, Mr, Wh, Wj, Wk -/
import Derived.Test.YtpdlkdoogojboaaGreatH11
import Derived.Test.YtpdlkdoogojboaaGreatH10
import Derived.Test.YtpdlkdoogojboaaGreatH08
/- The reference's Number. -/
namespace Go.Proofs.YtpdlkdoogojboaaGreat
open Go Go.RowKit
/-- The last k of the eight bytes. -/
def numT (n:Int) (k:Nat):List UInt8:=(List.range 8).map fun j=> if 8 - k≤j then numB n j else 0
theorem numT_next (n:Int) (k:Nat) (hk:k < 8):(numT n k).set (7 - k) (numB n (7 - k))=numT n (k+1):=by
 match k,hk with
 | 0,_=> rfl
 | 1,_=> rfl
 | 2,_=> rfl
 | 3,_=> rfl
 | 4,_=> rfl
 | 5,_=> rfl
 | 6,_=> rfl
 | 7,_=> rfl
theorem numB_of (n:Int) (k:Nat) (hk:k < 8):(numB n (7 - k)).toNat=uN n / 256 ^ k % 256:=by
 have h:uN n / 2 ^ (56 - 8 * (7 - k)) % 256 < 256:=Nat.mod_lt _ (by decide)
 rw [numB,UInt8.toNat_ofNat_of_lt' h,show 56 - 8 * (7 - k)=8 * k by omega,Nat.pow_mul]
set_option maxHeartbeats 4000000 in
set_option maxRecDepth 20000 in
theorem rnumber05_calls (n:Int) (hn:I64 n) (w:World):Calls Tryz.prog 76 #[.int .i64 n] w fun e w'=> ∃c,e=.returned (.slice (some ⟨c,0,none⟩) 8 8)∧St w [] [slA 5 (.slice (some ⟨c,0,none⟩) 8 8) ((numL n).map u8C)] w':=by
 have HX:=Lib.hid (xor_num hn)
 have HU:=Lib.hid (uN_lt hn)
 have HB8:=Lib.hid (fun k hk=> numB_of n k hk)
 clear hn
 go_enter Tryz.func76,Tryz.ntmps76
 have hx:=HX.out
 have hmk:∀w,Sem.run Tryz.prog (Instr.makeSlice 52 (.int .i64 8) (.int .i64 8)) w=.ok (.slice (some ⟨w.heap.size,0,none⟩) 8 8) (w.alloc (.cells #[.int .u8 0, .int .u8 0, .int .u8 0, .int .u8 0, .int .u8 0, .int .u8 0, .int .u8 0, .int .u8 0] 5)):=fun w=> by kernel_rfl
 go_upto_region 4 with (fail)
 have HS0:RowKit.Hid (St w [] (slA 5 (.slice (some ⟨w.heap.size,0,none⟩) 8 8) ((numT n 0).map u8C)::[]) (w.alloc (.cells #[.int .u8 0, .int .u8 0, .int .u8 0, .int .u8 0, .int .u8 0, .int .u8 0, .int .u8 0, .int .u8 0] 5))):=by
  refine St.addF (f:=[w.heap.size]) (St.start (w:=w) (L:=[]) (fp:=[]) rfl) ?_ ((Below.refl _ _).alloc (Nat.le_refl _) _) (fun k hk=> by rw [List.mem_singleton.1 hk];exact Nat.le_refl _)
  have h:=World.ownsRow_lit (base:=0) (e:=5) (size:=1) w #[.int .u8 0, .int .u8 0, .int .u8 0, .int .u8 0, .int .u8 0, .int .u8 0, .int .u8 0, .int .u8 0] 8 (Nat.zero_le _) (by decide) rfl
  exact ⟨h,rfl⟩
 clear hx hmk HX
 obtain ⟨u,hu⟩:∃u,uN n=u:=⟨_,rfl⟩
 have h0:(u:Int)=((u / 256 ^ 0:Nat):Int):=by simp
 rw [hu] at HU HB8 ⊢
 generalize hW:w.alloc _=W at *
 clear hW hu
 obtain ⟨g,hg⟩:∃g,w.heap.size=g:=⟨_,rfl⟩
 rw [hg] at HS0 ⊢
 clear hg
 rw [h0]
 clear h0
 go_loopg [3,5] 8 (fun gm z3 z5 wr=> ∃k:Nat,z5=.int .i64 (7 - (k:Int))∧z3=.int .u64 ((u / 256 ^ k:Nat):Int)∧gm+k=8∧RowKit.Hid (St w [] (slA 5 (.slice (some ⟨g,0,none⟩) 8 8) ((numT n k).map u8C)::[]) wr))
 case atStart=> exact ⟨0,rfl,rfl,rfl,HS0⟩
 case round=>
  clear HS0
  obtain ⟨k,rfl,rfl,hgk,Hs⟩:=hrel
  by_cases hk:k < 8
  · have hk':(0:Int)≤7 - (k:Int):=by omega
    obtain ⟨j,hj⟩:∃j:Nat,7 - k=j:=⟨_,rfl⟩
    have hji:(7 - (k:Int))=(j:Int):=by omega
    have hj8:j < 8:=by omega
    obtain ⟨_,hrow⟩:=Hs.out.has 0 rfl
    obtain ⟨hc,hf,hl⟩:=row_at (i:=j) (u:=u8C ((numT n k)[j]'(by simp [numT];omega))) (show (rowA 5 1 (.slice (some ⟨g,0,none⟩) 8 8) 8 ((numT n k).map u8C)).p wr _ from hrow) (by simp [numT]) (by rw [List.getElem?_map,List.getElem?_eq_getElem];rfl)
    have Hgk:=Lib.hid hgk
    have HJ:=Lib.hid hj
    rw [hji]
    have hm:(u / 256 ^ k % 256:Nat) < 256:=Nat.mod_lt _ (by decide)
    have hkb:(((u / 256 ^ k % 256:Nat):Int))=((numB n j).toNat:Int):=by rw [←hj,HB8.out k hk]
    have hq:(((u / 256 ^ k:Nat):Int)) / 256=((u / 256 ^ (k+1):Nat):Int):=by
     rw [Nat.pow_succ,←Nat.div_div_eq_div_mul]
     rfl
    have hq2:(((u / 256 ^ k:Nat):Int)) % 256=((numB n j).toNat:Int):=by rw [←hkb];rfl
    have HQ:=Lib.hid hq
    have HQ2:=Lib.hid hq2
    have hv:u / 256 ^ k < 18446744073709551616:=Nat.lt_of_le_of_lt (Nat.div_le_self _ _) HU.out
    generalize u / 256 ^ k=v at *
    clear hgk hj hji hrow hm hkb hq hq2
    have HN:RowKit.Hid (St w [] (slA 5 (.slice (some ⟨g,0,none⟩) 8 8) ((numT n (k+1)).map u8C)::[]) (wr.setCell ⟨g,j,none⟩ (.int .u8 ((v:Int) % 256)))):=by
     show St _ _ _ _
     rw [HQ2.out,←numT_next n k hk,List.map_set]
     have h:=Hs.out
     have h2:St w [] (rowA 5 1 (.slice (some ⟨g,0,none⟩) 8 8) ((numT n k).map u8C).length ((numT n k).map u8C)::[]) wr:=h
     have e8:((numT n k).map u8C).length=8:=by simp [numT]
     rw [e8] at h2
     have h3:=h2.setR j (u8C (numB n j))
     have h4:St w [] (rowA 5 1 (.slice (some ⟨g,0,none⟩) 8 8) (((numT n k).map u8C).set j (u8C (numB n j))).length (((numT n k).map u8C).set j (u8C (numB n j)))::[]) (wr.setCell ⟨g,j,none⟩ (u8C (numB n j))):=by
      rw [List.length_set,e8]
      exact h3
     rw [HJ.out]
     exact h4
    clear Hs
    go_wp2
    go_roundg (gk - 1)
    case rel=> exact ⟨k+1,by have:=HJ.out;congr 1;omega,by rw [HQ.out],by have:=Hgk.out;omega,HN⟩
    case measure=> have:=Hgk.out;omega
  · obtain rfl:k=8:=by omega
    have HF:RowKit.Hid (St w [] [slA 5 (.slice (some ⟨g,0,none⟩) 8 8) ((numL n).map u8C)] wr):=Hs.out
    have hneg:(7 - ((8:Nat):Int))= -1:=by omega
    rw [hneg]
    clear Hs hgk hk
    go_wp2
    go_ret
    exact ⟨g,rfl,HF.out⟩
theorem RNumber_calls (n:Int) (hn:I64 n) (w:World):Calls Tryz.prog 42 #[.int .i64 n] w fun e w'=> e=.returned (.string (textOf (numL n)))∧Below w.heap.size w w':=by
 have HC:=Lib.hid (rnumber05_calls n hn w)
 clear hn
 go_enter Tryz.func42,Tryz.ntmps42
 go_wp2_with fail
 (with_reducible refine HC.out.mono ?_)
 rintro e w1 ⟨c,rfl,h1⟩
 have hcv:(convert 52 9 (.slice (some ⟨c,0,none⟩) 8 8)).run Tryz.prog w1=.ok (.string (textOf (numL n))) w1:=by
  obtain ⟨_,hr⟩:=h1.has 0 rfl
  exact run_back hr
 have HB:=Lib.hid h1.below0
 clear HC h1
 go_wp2
 go_ret
 exact ⟨rfl,HB.out⟩
/- one, num; EncodeChanges of no changes. -/
def tdOne (h:Nat):Td:=⟨⟨#[116]⟩,some ⟨h,0,none⟩,1,1, .slice none 0 0, .slice none 0 0,none,0,0,[.string ⟨#[120]⟩, .int .i64 1, .int .i64 0, .int .i64 9, .int .i64 0, .bool false],[],[],[],[]⟩
def oneL (g h:Nat):List Asn:=[blkA g 89 #[.string ⟨#[116]⟩, .slice (some ⟨h,0,none⟩) 1 1, .slice none 0 0, .slice none 0 0, .slice none 0 0],blkA h 146 #[.string ⟨#[120]⟩, .int .i64 1, .int .i64 0, .int .i64 9, .int .i64 0, .bool false]]
theorem one_calls (w:World):Calls Tryz.prog 39 #[] w fun e w'=> ∃g h,e=.returned (.slice (some ⟨g,0,none⟩) 1 1)∧St w [] (oneL g h) w':=by
 have h1:=((St.start (w:=w) (L:=[]) (fp:=[]) rfl).newblk 146 #[.string ⟨#[120]⟩, .int .i64 1, .int .i64 0, .int .i64 9, .int .i64 0, .bool false]).newblk 89 #[.string ⟨#[116]⟩, .slice (some ⟨w.heap.size,0,none⟩) 1 1, .slice none 0 0, .slice none 0 0, .slice none 0 0]
 have HS:=Lib.hid h1
 simp only [World.size_alloc] at HS
 clear h1
 go_enter Tryz.func39,Tryz.ntmps39
 go_wp2
 go_ret
 exact ⟨_,_,rfl,HS.out⟩
theorem one_sch {w0:World} {fp0:List Nat} {R:List Asn} (g h i:Nat) (h1:R[i]? =some (blkA g 89 #[.string ⟨#[116]⟩, .slice (some ⟨h,0,none⟩) 1 1, .slice none 0 0, .slice none 0 0, .slice none 0 0])) (h2:R[i+1]? =some (blkA h 146 #[.string ⟨#[120]⟩, .int .i64 1, .int .i64 0, .int .i64 9, .int .i64 0, .bool false])):
 Rd w0 fp0 R fun w=> SchX w [tdOne h] (.slice (some ⟨g,0,none⟩) 1 1):=fun M w hs=> by
 have r1:=(Rd.of_piece i h1 fun w f hb=> SlX.of_blk (X:=[]) (size:=5) (n:=1) (c:=1) hb.1 (by simp) (by decide) rfl) M w hs
 have r2:=(Rd.of_piece (i+1) h2 fun w f hb=> SlX.of_blk (X:=[]) (size:=6) (n:=1) (c:=1) hb.1 (by simp) (by decide) rfl) M w hs
 exact ⟨r1,fun t ht=> by
  rw [List.mem_singleton.1 ht]
  exact ⟨r2,(by intro u hu;simp only [tdOne,List.mem_cons,List.not_mem_nil,or_false] at hu;rcases hu with rfl | rfl | rfl | rfl | rfl | rfl <;> rfl),⟨SlX.nil _ _ _ _ _,fun i hi=> absurd hi (by simp [tdOne])⟩,⟨SlX.nil _ _ _ _ _,fun i hi=> absurd hi (by simp [tdOne])⟩⟩⟩
theorem one_sm (h:Nat):∀t∈[tdOne h],t.Sm:=fun t ht=> by
 rw [List.mem_singleton.1 ht]
 exact ⟨by simp [tdOne],by simp [tdOne],by simp [tdOne],by simp [tdOne],by simp [tdOne]⟩
def numR (n:Int):Rw:=[⟨1,n,⟨#[]⟩⟩]
theorem num_calls (n:Int) (w:World):Calls Tryz.prog 40 #[.int .i64 n] w fun e w'=> ∃g,e=.returned (.slice (some ⟨g,0,none⟩) 1 1)∧St w [] [blkA g 68 #[.int .i64 1, .int .i64 n, .string ⟨#[]⟩]] w':=by
 have HS:=Lib.hid ((St.start (w:=w) (L:=[]) (fp:=[]) rfl).newblk 68 #[.int .i64 1, .int .i64 n, .string ⟨#[]⟩])
 go_enter Tryz.func40,Tryz.ntmps40
 go_wp2
 go_ret
 exact ⟨_,rfl,HS.out⟩
theorem num_vals {w:World} {n:Int} {g:Nat} {f:List Nat} (h:(blkA g 68 #[.int .i64 1, .int .i64 n, .string ⟨#[]⟩]).p w f):ValsAt w (numR n) (.slice (some ⟨g,0,none⟩) 1 1):=⟨SlX.of_blk (X:=[]) (size:=3) (n:=1) (c:=1) h.1 (by simp) (by decide) rfl,by
 intro x hx
 rw [numR,List.mem_singleton] at hx
 subst hx
 exact Nat.zero_le _⟩
set_option maxHeartbeats 4000000 in
theorem enc0_calls (w:World):Calls Tryz.prog 24 #[.slice none 0 0] w fun e w'=> ∃a n c,e=.returned (.slice a n c)∧St w [] [slA 5 (.slice a n c) ((numL 0).map u8C)] w':=by
 have h1:St w [] (wrA w.heap.size []::[]) (w.alloc (.cells #[.slice none 0 0] 116)):=St.wr.2 ⟨_,(((St.start (w:=w) (L:=[]) (fp:=[]) rfl).newblk 116 #[.slice none 0 0]).nilA 5).perm (List.Perm.swap _ _ _)⟩
 have HN:=Lib.hid (wNumber_calls w.heap.size [] 0 (by unfold I64;omega) (by simp) w _ [] _ h1)
 clear h1
 go_enter Tryz.func24,Tryz.ntmps24
 go_wp2_with fail
 (with_reducible refine HN.out.mono ?_)
 rintro e w1 ⟨rfl,h2⟩
 obtain ⟨v,h3⟩:=St.wr.1 h2
 obtain ⟨_,hr⟩:=h3.has 1 rfl
 obtain ⟨a,n,c,rfl⟩:=sl_shape hr
 obtain ⟨_,hb⟩:=h3.has 0 rfl
 have c0:=(blk_get hb).1 0
 have cl:=(blk_get hb).2.2
 simp only [List.getElem?_toArray,List.getElem?_cons_zero] at c0
 have HF:RowKit.Hid (St w [] [slA 5 (.slice a n c) ((numL 0).map u8C)] w1):=h3.drop
 clear HN h2 h3 hr hb
 go_upto_region 4 with (fail)
 go_loopg [14] 0 (fun g z wr=> z=.int .i64 0∧wr=w1)
 case atStart=> exact ⟨rfl,rfl⟩
 case round=>
  obtain ⟨rfl,rfl⟩:=hrel
  go_wp2
  go_ret
  exact ⟨_,_,_,rfl,HF.out⟩
/- awake: its drawn regions. -/
set_option maxRecDepth 100000
theorem conv1 {P:Program} {o:Oper} {env:Operand→Value} {w:World} {t u:TypeId} {x:Operand} {v r:Value} (hop:o.op=.convert t u x) (hx:env x=v) (hr:(convert t u v).run P w=.ok r w):(execOp env o).run P w=.ok (.value r) w:=by
 simp only [execOp,hop,hx,Sem.run_bind,hr,Result.andThen_ok,Sem.run_pure]
/-- Strings that are equal. -/
theorem Rg.Ob.eqlStr (G:Rg) (i:Nat) (s:ByteArray) {ty r:TypeId} {x y:Operand} (hop:(opAt G.ops i).op=.binOp .eql ty x y r:=by rfl) (hx:∀a,G.env i a x=.string s:=by intro _;exact kr (by kernel_rfl)) (hy:∀a,G.env i a y=.string s:=by intro _;exact kr (by kernel_rfl)) (hv:∀g,G.valD i g=.bool true:=by intro _;exact kr (by kernel_rfl))
 (hq:(G.quiet i G.pcs.length && G.okV i)=true:=by exact kr (by kernel_rfl)) (hw:∀a,wantE G.ops (opAt G.ops i) (G.env i a)=some true:=by intro _;exact kr (by kernel_rfl)):G.Ob i:=Rg.Ob.read G i hq hw fun L a w _ _=> by
 simp [execOp,hop,hx,hy,go_sem,hv]
noncomputable def gAw5 (b cb:Nat) (x0 x1 x2 x3:Value) (e1 e2:Int) (A B C:Asn):=rgx Tryz.prog Tryz.f12 5 50 [13,14,15,16,17,18,3,4] [(1,pV b 0),(2,pV cb 0)] (Vq 0 13 [Kp b 0,Kv (.agg #[x0,x1,x2,x3]),Kv (.int .i64 e1),Kp b 0,Kv (.agg #[x0,x1,x2,x3]),Kv (.int .i64 e2)]++Vq 6 3 [Kv (.int .i64 e1),Kv (.int .i64 e2)]) [Bk cb (35) [x0,x1,x2,x3], .gen [2,5] [] fun L _g=> match L 5 with | true=> C | false=> match L 2 with | true=> B | false=> A]
theorem rAw5 (b cb:Nat) (x0 x1 x2 x3:Value) (e1 e2:Int) (A B C:Asn) (w0:World) (fp0:List Nat) (R:List Asn) (h1:∀w,St w0 fp0 ([blkA cb 35 #[x0,x1,x2,x3],A]++R) w→Calls Tryz.prog 19 #[.pointer (some ⟨b,0,none⟩), .agg #[x0,x1,x2,x3]] w fun e w2=> e=.returned (.int .i64 e1)∧St w0 fp0 ([blkA cb 35 #[x0,x1,x2,x3],B]++R) w2) (h2:∀w,St w0 fp0 ([blkA cb 35 #[x0,x1,x2,x3],B]++R) w→Calls Tryz.prog 19 #[.pointer (some ⟨b,0,none⟩), .agg #[x0,x1,x2,x3]] w fun e w2=> e=.returned (.int .i64 e2)∧St w0 fp0 ([blkA cb 35 #[x0,x1,x2,x3],C]++R) w2) {w:World} {c:Code} {a:Act} {Q:Exit→Act→World→Prop} (c1:isReg c=true) (c2:cops c=opsR Tryz.f12 5) (c3:a.tmps.size=50) (_c4:a.defers=a.defers) (i1:a.eval (.tmp 1)=.pointer (some ⟨b,0,none⟩)) (i2:a.eval (.tmp 2)=.pointer (some ⟨cb,0,none⟩))
 (hS:St w0 fp0 ([blkA cb (35) #[x0,x1,x2,x3],A]++R) w)
 (hQ:∀(w1:World),St w0 fp0 ([blkA cb (35) #[x0,x1,x2,x3],C]++R) w1→Q .normal (putL a [(13, .pointer (some ⟨b,0,none⟩)),(14, .agg #[x0,x1,x2,x3]),(15, .int .i64 e1),(16, .pointer (some ⟨b,0,none⟩)),(17, .agg #[x0,x1,x2,x3]),(18, .int .i64 e2),(3, .int .i64 e1),(4, .int .i64 e2)]) w1):c.wp Tryz.prog Q a w:=by
 have ok:(gAw5 b cb x0 x1 x2 x3 e1 e2 A B C w0 fp0 R).Ok 8:=Rg.ok _ 8 [1,2,4,5] ⟨.run1 _ 1 0 (fun _=> blkA cb 35 #[x0,x1,x2,x3]) (fun _ _=> blkA cb 35 #[x0,x1,x2,x3]) (fun L a w fp _ hp=> (by obtain ⟨h1, -, -⟩:=blk_get hp;exact ⟨.agg #[x0,x1,x2,x3],w,fp,exec_loads (cs:=[x0,x1,x2,x3]) (off:=0) rfl (kr (by kernel_rfl)) (kr (by kernel_rfl)) (kr (by kernel_rfl)) (fun j u hj=> (by rw [Nat.zero_add,h1 j];simpa using hj)),kr (by kernel_rfl),hp,Tr.refl _ _⟩)), .callG _ 2 (f:=19) (args:=fun _=> #[.pointer (some ⟨b,0,none⟩), .agg #[x0,x1,x2,x3]]) (fun _=> [blkA cb 35 #[x0,x1,x2,x3],A]) (fun _ _=> [blkA cb 35 #[x0,x1,x2,x3],B]) (fun g w h=> (h1 w h).mono fun e w2 ⟨e1,h2⟩=> ⟨_,e1,kr (by kernel_rfl),h2⟩), .run1 _ 4 0 (fun _=> blkA cb 35 #[x0,x1,x2,x3]) (fun _ _=> blkA cb 35 #[x0,x1,x2,x3]) (fun L a w fp _ hp=> (by obtain ⟨h1, -, -⟩:=blk_get hp;exact ⟨.agg #[x0,x1,x2,x3],w,fp,exec_loads (cs:=[x0,x1,x2,x3]) (off:=0) rfl (kr (by kernel_rfl)) (kr (by kernel_rfl)) (kr (by kernel_rfl)) (fun j u hj=> (by rw [Nat.zero_add,h1 j];simpa using hj)),kr (by kernel_rfl),hp,Tr.refl _ _⟩)), .callG _ 5 (f:=19) (args:=fun _=> #[.pointer (some ⟨b,0,none⟩), .agg #[x0,x1,x2,x3]]) (fun _=> [blkA cb 35 #[x0,x1,x2,x3],B]) (fun _ _=> [blkA cb 35 #[x0,x1,x2,x3],C]) (fun g w h=> (h2 w h).mono fun e w2 ⟨e1,h2⟩=> ⟨_,e1,kr (by kernel_rfl),h2⟩),trivial⟩
 refine wp_regD ok (by kernel_rfl) ⟨c1,c2⟩ ⟨c3,fun p hp=> ?_⟩ hS fun A1 w1 N1 H1=> ?_
 · simp only [gAw5,rgx,List.map_nil,List.append_nil,List.mem_cons,List.not_mem_nil,or_false] at hp
   rcases hp with rfl | rfl
   · exact i1
   · exact i2
 have e13:=N1.val 0 rfl
 have e14:=N1.val 1 rfl
 have e15:=N1.val 2 rfl
 have e16:=N1.val 3 rfl
 have e17:=N1.val 4 rfl
 have e18:=N1.val 5 rfl
 have e3:=N1.val 6 rfl
 have e4:=N1.val 7 rfl
 have h:=hQ  w1  H1
 rw [frame_eq N1.frame (cons_eq e13 (cons_eq e14 (cons_eq e15 (cons_eq e16 (cons_eq e17 (cons_eq e18 (cons_eq e3 (cons_eq e4 rfl))))))))]
 exact h
noncomputable def gAw8 (S:Nat) (A:Asn):=rgx Tryz.prog Tryz.f12 8 50 [25,26,27,28,29,30,31,32,33,34,35,36,37,38,39,40,41,42,43,44,45,46,47,48,49,0] [(3, .int .i64 0),(4, .int .i64 5),(5, .int .i64 4),(6,pV S 0)] (Vq 0 25 [Kv (.int .i64 0),Kv (.bool true),Kv (.bool true),Kv (.int .i64 5),Kv (.bool true),Kv (.bool true),Kv (.bool true),Kv (.int .i64 4),Kv (.bool true),Kv (.bool true),Kv (.bool true),Kp S 0,Kv (.bool true),Kv (.bool true),Kv (.bool true),Kp S 0,Kv (.int .i64 4),Kv (.bool true),Kv (.bool true),Kv (.bool true),Vf.slice,Kv (.string (textOf (numL 0))),Kv (.string (textOf (numL 0))),Kv (.bool true),Kv (.bool true)]++Vq 25 0 [Kv (.bool true)]) [.all (A), .new 20 [45] fun g=> slA 5 (g 45) ((numL 0).map u8C)]
theorem rAw8 (S:Nat) (A:Asn) (w0:World) (fp0:List Nat) (R:List Asn) (hnext:∀w f,A.p w f→Calls Tryz.prog 41 #[.pointer (some ⟨S,0,none⟩)] w fun e w'=> e=.returned (.int .i64 4)∧Below w.heap.size w w') (henc:∀(L:List Asn) (w:World),St w0 fp0 (L++R) w→Calls Tryz.prog 24 #[.slice none 0 0] w fun e w2=> ∃v f,e=.returned v∧(slA 5 (v) ((numL 0).map u8C)).p w2 f∧Below w.heap.size w w2∧∀k∈f,w.heap.size≤k) (hrn:∀(L:List Asn) (w:World),St w0 fp0 (L++R) w→Calls Tryz.prog 42 #[.int .i64 0] w fun e w'=> e=.returned (.string (textOf (numL 0)))∧Below w.heap.size w w') {w:World} {c:Code} {a:Act} {Q:Exit→Act→World→Prop} (c1:isReg c=true) (c2:cops c=opsR Tryz.f12 8) (c3:a.tmps.size=50) (_c4:a.defers=a.defers) (i3:a.eval (.tmp 3)=.int .i64 0) (i4:a.eval (.tmp 4)=.int .i64 5) (i5:a.eval (.tmp 5)=.int .i64 4) (i6:a.eval (.tmp 6)=.pointer (some ⟨S,0,none⟩))
 (hS:St w0 fp0 ([A,emp]++R) w)
 (hQ:∀(u45:Value) (w1:World),(∃a n c,u45=.slice a n c)→St w0 fp0 ([A,slA 5 (u45) ((numL 0).map u8C)]++R) w1→Q .normal (putL a [(25, .int .i64 0),(26, .bool true),(27, .bool true),(28, .int .i64 5),(29, .bool true),(30, .bool true),(31, .bool true),(32, .int .i64 4),(33, .bool true),(34, .bool true),(35, .bool true),(36, .pointer (some ⟨S,0,none⟩)),(37, .bool true),(38, .bool true),(39, .bool true),(40, .pointer (some ⟨S,0,none⟩)),(41, .int .i64 4),(42, .bool true),(43, .bool true),(44, .bool true),(45,u45),(46, .string (textOf (numL 0))),(47, .string (textOf (numL 0))),(48, .bool true),(49, .bool true),(0, .bool true)]) w1):c.wp Tryz.prog Q a w:=by
 have ok:(gAw8 S A w0 fp0 R).Ok 26:=Rg.ok _ 26 [1,4,8,16,17,20,21,22,23] ⟨.eqlS _ 1 .i64 0, .eqlS _ 4 .i64 5, .eqlS _ 8 .i64 4, .ask1 _ 16 0 (f:=41) (args:=#[.pointer (some ⟨S,0,none⟩)]) (v:=.int .i64 4) hnext, .eqlS _ 17 .i64 4, .callNew _ 20 1 (fun v=> slA 5 (v) ((numL 0).map u8C)) (fun _ _ _ h=> sl_shape h) henc, .run1 _ 21 1 (fun g=> slA 5 (g 45) ((numL 0).map u8C)) (fun g _=> slA 5 (g 45) ((numL 0).map u8C)) (fun L a w fp _ hp=> ⟨.string (textOf (numL 0)),w,fp,conv1 (v:=.slice (sa (slots a 45)) (sn (slots a 45)) (sc (slots a 45))) rfl (kr (by kernel_rfl)) (run_back (slSelf hp)),kr (by kernel_rfl),hp,Tr.refl _ _⟩), .askR _ 22 hrn, .eqlStr _ 23 (textOf (numL 0)),trivial⟩
 refine wp_regD ok (by kernel_rfl) ⟨c1,c2⟩ ⟨c3,fun p hp=> ?_⟩ hS fun A1 w1 N1 H1=> ?_
 · simp only [gAw8,rgx,List.map_nil,List.append_nil,List.mem_cons,List.not_mem_nil,or_false] at hp
   rcases hp with rfl | rfl | rfl | rfl
   · exact i3
   · exact i4
   · exact i5
   · exact i6
 have e25:=N1.val 0 rfl
 have e26:=N1.val 1 rfl
 have e27:=N1.val 2 rfl
 have e28:=N1.val 3 rfl
 have e29:=N1.val 4 rfl
 have e30:=N1.val 5 rfl
 have e31:=N1.val 6 rfl
 have e32:=N1.val 7 rfl
 have e33:=N1.val 8 rfl
 have e34:=N1.val 9 rfl
 have e35:=N1.val 10 rfl
 have e36:=N1.val 11 rfl
 have e37:=N1.val 12 rfl
 have e38:=N1.val 13 rfl
 have e39:=N1.val 14 rfl
 have e40:=N1.val 15 rfl
 have e41:=N1.val 16 rfl
 have e42:=N1.val 17 rfl
 have e43:=N1.val 18 rfl
 have e44:=N1.val 19 rfl
 have e45:=N1.val 20 rfl
 have e46:=N1.val 21 rfl
 have e47:=N1.val 22 rfl
 have e48:=N1.val 23 rfl
 have e49:=N1.val 24 rfl
 have e0:=N1.val 25 rfl
 have h:=hQ (slots A1 45) w1 ⟨_,_,_,e45⟩ H1
 rw [frame_eq N1.frame (cons_eq e25 (cons_eq e26 (cons_eq e27 (cons_eq e28 (cons_eq e29 (cons_eq e30 (cons_eq e31 (cons_eq e32 (cons_eq e33 (cons_eq e34 (cons_eq e35 (cons_eq e36 (cons_eq e37 (cons_eq e38 (cons_eq e39 (cons_eq e40 (cons_eq e41 (cons_eq e42 (cons_eq e43 (cons_eq e44 (cons_eq rfl (cons_eq e46 (cons_eq e47 (cons_eq e48 (cons_eq e49 (cons_eq e0 rfl))))))))))))))))))))))))))]
 exact h
end Go.Proofs.YtpdlkdoogojboaaGreat
/- awake. -/
namespace Go.Proofs.YtpdlkdoogojboaaGreat
open Go Go.RowKit
def chA (g:Nat):Chg:=⟨0,3,none,0,some ⟨g,0,none⟩,1,[],numR 5⟩
def chB (g:Nat):Chg:=⟨0,3,some ⟨g,0,none⟩,1,none,0,numR 6,[]⟩
def D1:Db:=[(1,[(3,numR 5)],4)]
theorem awA (h g:Nat):chkD (newD [tdOne h]) (chA g)=0∧appD (newD [tdOne h]) (chA g)=D1:=⟨by kernel_rfl,by kernel_rfl⟩
theorem awB (g:Nat):chkD D1 (chA g)=5∧appD D1 (chA g)=D1:=⟨by kernel_rfl,by kernel_rfl⟩
theorem awC (g:Nat):chkD D1 (chB g)=4∧appD D1 (chB g)=D1:=⟨by kernel_rfl,by kernel_rfl⟩
theorem numR_ok (n:Int) (h:I64 n):∀v∈numR n,I64 v.int:=by
 intro v hv
 rw [numR,List.mem_singleton] at hv
 subst hv
 exact h
theorem chA_ok (g:Nat):(chA g).Ok:=⟨by unfold I64 chA;simp,by unfold I64 chA;simp,by simp [chA],numR_ok 5 (by unfold I64;omega)⟩
theorem chB_ok (g:Nat):(chB g).Ok:=⟨by unfold I64 chB;simp,by unfold I64 chB;simp,numR_ok 6 (by unfold I64;omega),by simp [chB]⟩
theorem D1_len:∀t∈D1,t.2.1.length < 1000000:=by
 intro t ht
 rw [D1,List.mem_singleton] at ht
 subst ht
 show 1 < 1000000
 omega
theorem D0_len (h:Nat):∀t∈newD [tdOne h],t.2.1.length < 1000000:=fun t ht=> by
 have:=newD_max _ t ht
 omega
set_option maxHeartbeats 8000000 in
set_option maxRecDepth 20000 in
theorem awake40_calls (w:World):Calls Tryz.prog 12 #[] w fun e w'=> e=.returned (.bool true)∧Below w.heap.size w w':=by
 have HO:=Lib.hid (one_calls w)
 go_enter Tryz.func12,Tryz.ntmps12
 go_wp2_with fail
 (with_reducible refine HO.out.mono ?_)
 rintro e w1 ⟨og,oh,rfl,h1⟩
 have HN:=Lib.hid (StNew_calls [tdOne oh] _ (one_sm oh) (by simp) w w1 [] (oneL og oh) (one_sch og oh 0 rfl rfl) h1)
 clear HO h1
 go_wp2_with fail
 (with_reducible refine HN.out.mono ?_)
 rintro e w2 ⟨b,rfl,h2⟩
 have H2:=Lib.hid h2
 have HNU:=Lib.hid (num_calls 5 w2)
 clear HN h2
 go_wp2_with fail
 (with_reducible refine HNU.out.mono ?_)
 rintro e w3 ⟨ng,rfl,h3⟩
 have h4:=newB H2.out h3
 have h5:=h4.newblk 35 #[.int .i64 0, .int .i64 3, .slice none 0 0, .slice (some ⟨ng,0,none⟩) 1 1]
 have H5:=Lib.hid h5
 clear HNU H2 h3 h4 h5
 go_upto_region 5 with (fail)
 generalize hW:w3.alloc _=W at *
 clear hW
 obtain ⟨cb,hcb⟩:∃cb,w3.heap.size=cb:=⟨_,rfl⟩
 rw [hcb] at H5 ⊢
 clear hcb
 obtain ⟨R1,hR1⟩:∃R1,blkA ng 68 #[.int .i64 1, .int .i64 5, .string ⟨#[]⟩]::oneL og oh=R1:=⟨_,rfl⟩
 have HS5:RowKit.Hid (St w [] ([blkA cb 35 #[.int .i64 0, .int .i64 3, .slice none 0 0, .slice (some ⟨ng,0,none⟩) 1 1],stA b (newD [tdOne oh])]++R1) W):=by
  rw [←hR1]
  exact St_re (L:=[_,_,_]) H5.out [0,2,1] [] (by kernel_rfl)
 have hcx:∀A,Rd w [] ([A]++R1) fun w=> (chA ng).X w:=fun A M w' hs=> by
  rw [←hR1] at hs
  exact ⟨ValsX.nil _ _ _ _,(Rd.of_piece (R:=[A]++(blkA ng 68 #[.int .i64 1, .int .i64 5, .string ⟨#[]⟩]::oneL og oh)) 1 rfl fun w f h=> num_vals h) M w' hs⟩
 refine rAw5 (w0:=w) (fp0:=[]) (R:=R1) b cb (.int .i64 0) (.int .i64 3) (.slice none 0 0) (.slice (some ⟨ng,0,none⟩) 1 1) 0 5 (stA b (newD [tdOne oh])) (stA b D1) (stA b D1) ?_ ?_ rfl (by kernel_rfl) rfl rfl rfl rfl HS5.out ?_
 · intro w' h'
   have h:=Apply_calls b _ (chA ng) (chA_ok ng) (D0_len oh) w w' [] _ (hcx _) (h'.perm (List.Perm.swap _ _ _))
   rw [(awA oh ng).1,(awA oh ng).2] at h
   refine h.mono ?_
   rintro e w4 ⟨rfl,h4⟩
   exact ⟨rfl,h4.perm (List.Perm.swap _ _ _)⟩
 · intro w' h'
   have h:=Apply_calls b _ (chA ng) (chA_ok ng) D1_len w w' [] _ (hcx _) (h'.perm (List.Perm.swap _ _ _))
   rw [(awB ng).1,(awB ng).2] at h
   refine h.mono ?_
   rintro e w4 ⟨rfl,h4⟩
   exact ⟨rfl,h4.perm (List.Perm.swap _ _ _)⟩
 intro w4 h4
 have H4:RowKit.Hid (St w [] (stA b D1::R1) w4):=St.drop h4
 clear h4 H5 HS5 hcx hR1
 simp only [putL,List.foldl,Act.put,List.setIfInBounds_toArray,List.set_cons_succ,List.set_cons_zero]
 have HNU:=Lib.hid (num_calls 6 w4)
 go_wp2_with fail
 (with_reducible refine HNU.out.mono ?_)
 rintro e w5 ⟨nh,rfl,h5⟩
 have h6:=newB H4.out h5
 have h7:St w [] (stA b D1::blkA nh 68 #[.int .i64 1, .int .i64 6, .string ⟨#[]⟩]::R1) w5:=h6.perm (List.Perm.swap _ _ _)
 have HA:=Lib.hid (Apply_calls b D1 (chB nh) (chB_ok nh) D1_len w w5 [] _ (fun M w' hs=> ⟨(Rd.of_piece (R:=blkA nh 68 #[.int .i64 1, .int .i64 6, .string ⟨#[]⟩]::R1) 0 rfl fun w f h=> num_vals h) M w' hs,ValsX.nil _ _ _ _⟩) h7)
 rw [(awC nh).1,(awC nh).2] at HA
 unfold chB Chg.v Chg.ov Chg.nv numR at HA
 simp only [List.length_cons,List.length_nil,Nat.zero_add] at HA
 clear HNU H4 h5 h6 h7
 go_wp2_with fail
 (with_reducible refine HA.out.mono ?_)
 rintro e w6 ⟨rfl,h6⟩
 obtain ⟨q,hq,hs⟩:=h6.openD
 have hq1:q.ts.length=1:=hq.tlen
 obtain ⟨T,hT⟩:∃T,q.ts=[T]:=by
  match e:q.ts,hq1 with
  | [T],_=> exact ⟨T,rfl⟩
 have hd:=hq.d
 rw [hT] at hd
 have hnx:T.next=4:=by
  have h1:=List.cons.inj hd
  have h2:=h1.1
  unfold Tb.d at h2
  injection h2 with _ h2
  injection h2
 have hdb:=db_get hs
 have HT:=Lib.hid (table_in b 0 _ q.tv (ptrV T.S) w6 hdb.2.1 hdb.2.2.2.2 (by rw [hT];rfl))
 obtain ⟨R2,hR2⟩:∃R2,dbP b q++(blkA nh 68 #[.int .i64 1, .int .i64 6, .string ⟨#[]⟩]::R1)=R2:=⟨_,rfl⟩
 have HS6:RowKit.Hid (St w [] ([tbA T,emp]++R2) w6):=by
  rw [hT] at hs
  rw [←hR2]
  have h:=St.emp.2 hs
  refine h.perm ?_
  classical
  refine List.perm_iff_count.2 fun a=> ?_
  simp only [List.map_cons,List.map_nil,List.cons_append,List.nil_append,List.count_append,List.count_cons]
  omega
 have HNX:=Lib.hid hnx
 obtain ⟨S,cols,I,LL0,next⟩:=T
 simp only at HNX HT
 clear HA h6 hq hs hq1 hT hd hnx hdb hR2
 unfold ptrV at HT
 rw [show ((0:Nat):Int)=0 from rfl] at HT
 go_wp2_with fail
 (with_reducible refine HT.out.mono ?_)
 rintro e w7 ⟨rfl,rfl⟩
 clear HT
 go_upto_region 8 with (fail)
 refine rAw8 (w0:=w) (fp0:=[]) (R:=R2) S (tbA ⟨S,cols,I,LL0,next⟩) ?_ ?_ ?_ rfl (by kernel_rfl) rfl rfl rfl rfl rfl rfl HS6.out ?_
 · intro w' f h'
   refine (Next_calls h').mono ?_
   rintro e w8 ⟨rfl,rfl⟩
   exact ⟨by rw [HNX.out],Below.refl _ _⟩
 · intro M w' _
   refine (enc0_calls w').mono ?_
   rintro e w8 ⟨a,n,c,rfl,h8⟩
   obtain ⟨f,h1,h2,h3⟩:=piece_of h8
   exact ⟨_,f,rfl,h1,h2,h3⟩
 · intro M w' _
   exact RNumber_calls 0 (by unfold I64;omega) w'
 intro u45 w8 ⟨ya,yn,yc,e45⟩ h8
 subst e45
 have HF:=Lib.hid (St.below0 h8)
 clear h8 HS6
 simp only [putL,List.foldl,Act.put,List.setIfInBounds_toArray,List.set_cons_succ,List.set_cons_zero]
 go_wp2
 go_ret
 exact ⟨rfl,HF.out⟩
/- StoreMatchesModel. -/
theorem rd_below {w0:World} {R:List Asn} {Q:World→Prop} (h:∀w,Below w0.heap.size w0 w→Q w):Rd w0 [] R Q:=Rd.of_tr fun w _fp ht=> h w (ht.below (Nat.le_refl _) fun _k hk=> nomatch hk)
/- append bounded by bytes; StoreUndo's drawn region. -/
set_option maxRecDepth 100000
end Go.Proofs.YtpdlkdoogojboaaGreat
/- StoreUndo. -/
namespace Go.Proofs.YtpdlkdoogojboaaGreat
open Go Go.RowKit
/-- A version that is read. -/
def Ver (w0:World) (fp0:List Nat) (R:List Asn) (D:Db) (mv:Value):Prop:=∃(ms:List Rs) (a:Option Addr) (c:Nat),mv=.slice a ms.length c∧MsOk D ms∧Rd w0 fp0 R fun w=> RefX w ms mv
theorem same_ver {w0 w:World} {fp0:List Nat} {R:List Asn} {b:Nat} {D:Db} {mv:Value} (h:Ver w0 fp0 R D mv) (hl:∀t∈D,t.2.1.length < 1000000) (hS:St w0 fp0 (stA b D::R) w):Calls Tryz.prog 15 #[.pointer (some ⟨b,0,none⟩),mv] w fun e w'=> e=.returned (.bool true)∧St w0 fp0 (stA b D::R) w':=by
 obtain ⟨ms,a,c,rfl,hm,hr⟩:=h
 exact same_calls b D ms _ hm hl w0 w fp0 R hr hS
def VerPost (w0:World) (fp0:List Nat) (L R:List Asn) (D:Db) (ch:Int) (e:Ending) (w:World):Prop:=∃a n c P,e=.returned (.tuple #[.slice a n c, .int .i64 ch])∧Ver w0 fp0 (P++R) D (.slice a n c)∧St w0 fp0 (L++(P++R)) w
theorem rapply_ver {w0 w:World} {fp0:List Nat} {L R:List Asn} {D:Db} {mv:Value} {c:Chg} (h:Ver w0 fp0 R D mv) (hok:c.Ok) (hl:∀t∈D,t.2.1.length < 1000000) (hd:D.length≤1000) (hc:Rd w0 fp0 R fun w=> c.X w) (hS:St w0 fp0 (L++R) w):Calls Tryz.prog 16 #[mv,c.v] w fun e w'=> VerPost w0 fp0 L R (appD D c) (chkD D c) e w':=by
 obtain ⟨ms,a,cc,rfl,hm,hr⟩:=h
 refine (RApply_calls ms _ D hm c hok hl (by rw [hm.len];exact hd) w0 w fp0 L R hr hc hS).mono ?_
 rintro e w' ⟨ms2,a2,c2,P,rfl,hm2,hr2,hs2⟩
 exact ⟨a2,_,c2,P,rfl,⟨ms2,a2,c2,rfl,hm2,hr2⟩,hs2⟩
/-- Rows of a store's tables are rows. -/
theorem db_ok {w0 w:World} {fp0:List Nat} {R:List Asn} {b:Nat} {D:Db} (h:St w0 fp0 (stA b D::R) w):∀t∈D,AscI t.2.1∧∀x∈t.2.1,RowOk t.1 x.2:=by
 obtain ⟨q,hq,hs⟩:=h.openD
 intro t ht
 obtain ⟨i,hi,rfl⟩:=List.mem_iff_getElem.1 ht
 have hiq:i < q.ts.length:=by rw [hq.tlen];exact hi
 obtain ⟨f,hf⟩:=(hs.pickT i hiq).has 0 rfl
 have h1:=hq.at i hiq
 rw [List.getElem?_eq_getElem hi] at h1
 rw [Option.some.inj h1]
 have h2:=storeA_ok (show (storeA q.ts[i].S q.ts[i].cols q.ts[i].I q.ts[i].L q.ts[i].next).p w f from hf)
 exact ⟨h2.1,fun x hx=> (h2.2.2 x hx).2.2⟩
/- StoreBag. -/
theorem mem_bagB {l:List Rw} {e:Ent} (h:e∈bagB l):e.1∈l:=by
 have:∀(l:List Rw) (b:List Ent),e∈l.foldl (fun b r=> putB b r 1) b→e.1∈l∨e∈b:=by
  intro l
  induction l with
  | nil=> intro b h;exact .inr h
  | cons r l ih=>
   intro b h
   rcases ih _ h with h | h
   · exact .inl (List.mem_cons_of_mem _ h)
   · rcases mem_putB h with h | h
     · exact .inl (by rw [h];exact List.mem_cons_self)
     · exact .inr h
 rcases this l [] h with h | h
 · exact h
 · cases h
/-- Rows of a store's tables are as long as the tables are wide. -/
theorem db_rows {w0 w:World} {fp0:List Nat} {R:List Asn} {b:Nat} {D:Db} (h:St w0 fp0 (stA b D::R) w) (i:Int):∀r∈rowsD D i,r.length≤1000:=by
 have hok:=db_ok h
 obtain ⟨q,hq,hs⟩:=h.openD
 intro r hr
 unfold rowsD at hr
 cases e:rowD D i with
 | none=> rw [e] at hr;cases hr
 | some t=>
  rw [e] at hr
  obtain ⟨x,hx,rfl⟩:=List.mem_map.1 hr
  unfold rowD at e
  split at e
  · have hD:D[i.toNat]? =some t:=e
    have hk:i.toNat < q.ts.length:=by rw [hq.tlen];exact (List.getElem?_eq_some_iff.1 hD).1
    have hkd:i.toNat < q.td.length:=by rw [hq.dlen,←hq.tlen];exact hk
    have h1:=hq.at _ hk
    rw [hD] at h1
    have h2:=Option.some.inj h1
    have h3:t.1=q.ts[i.toNat].cols:=congrArg (·.1) h2
    have h4:=(hq.sm _ (List.getElem_mem hkd)).n
    rw [hq.tdn _ hk hkd] at h4
    have h5:=((hok t (List.mem_of_getElem? hD)).2 x hx).1
    omega
  · cases e
/- StoreIsolated: the row that is given; rows that were returned. -/
/-- An owned row whose integers are integers. -/
def givA (v:Value) (n:Nat):Asn:=exA fun xs:List Value=> starA [pureA (xs.length=n * 3∧∀i,i < n→∃m,xs[i * 3+1]? =some (.int .i64 m)),rowA 68 3 v n xs]
theorem giv_in {w0 w:World} {fp0:List Nat} {L:List Asn} {v:Value} {r:Rw} (h:St w0 fp0 (rowA 68 3 v r.length (flat r)::L) w):St w0 fp0 (givA v r.length::L) w:=by
 refine St.exo.2 ⟨flat r,St.pure.2 ⟨⟨length_flat r,fun i hi=> ⟨r[i].int,?_⟩⟩,h⟩⟩
 rw [flat_get r i hi 1 (by omega)]
 rfl
theorem giv_store {w0 w:World} {fp0:List Nat} {L:List Asn} {a:Option Addr} {n c:Nat} (h:St w0 fp0 (givA (.slice a n c) n::L) w) (i:Nat) (hi:i < n):∃g m,a=some ⟨g,0,none⟩∧w.cell? ⟨g,i * 3+1,none⟩=some (.int .i64 m)∧w.frozen? ⟨g,i * 3+1,none⟩=false∧g < w.heap.size∧
 ∀m',St w0 fp0 (givA (.slice a n c) n::L) (w.setCell ⟨g,i * 3+1,none⟩ (.int .i64 m')):=by
 obtain ⟨xs,h1⟩:=St.exo.1 h
 obtain ⟨⟨hl,hm⟩,h2⟩:=St.pure.1 h1
 obtain ⟨_,hr⟩:=h2.has 0 rfl
 obtain ⟨a',c',e, -, -,hc⟩:=row_shape hr
 obtain ⟨rfl, -,rfl⟩:=Value.slice.inj e
 obtain ⟨g,rfl,hg,hcell,hfz⟩:=hc (i * 3+1) (by omega)
 obtain ⟨m,e2⟩:=hm i hi
 refine ⟨g,m,rfl,by rw [hcell,e2],hfz _,hg,fun m'=> ?_⟩
 refine St.exo.2 ⟨xs.set (i * 3+1) (.int .i64 m'),St.pure.2 ⟨⟨by simpa using hl,fun j hj=> ?_⟩,St.setR (R:=L) h2 (i * 3+1) _⟩⟩
 by_cases e:j=i
 · subst e
   exact ⟨m',by rw [List.getElem?_set_self (by omega)]⟩
 · obtain ⟨q,hq⟩:=hm j hj
   exact ⟨q,by rw [List.getElem?_set_ne (by omega)];exact hq⟩
theorem heap_row {w0 w:World} {fp0:List Nat} {L:List Asn} {v:Value} {xs:List Value} {ns:List Nat} (h:St w0 fp0 (heapA v xs ns::L) w):
 ∃a c,v=.slice a ns.length c∧ns.length≤maxLen∧∀i (hi:i < ns.length),∃b ra rc,a=some ⟨b,0,none⟩∧w.cell? ⟨b,i,none⟩=some (.slice ra ns[i] rc)∧xs[i]? =some (.slice ra ns[i] rc)∧b < w.heap.size∧ns[i]≤maxLen:=by
 obtain ⟨f,gs,rfl,h1,h2,h3⟩:=h.has 0 rfl
 obtain ⟨a,c,rfl,q1,q2,hc⟩:=row_shape (t:=33) (size:=1) (f:=v.ownBlock.toList) ⟨h1,rfl⟩
 refine ⟨a,c,rfl,by omega,fun i hi=> ?_⟩
 obtain ⟨b,rfl,hb,hcell, -⟩:=hc i (by omega)
 obtain ⟨x,e,⟨ys,h4⟩, -⟩:=h2 i hi
 obtain ⟨ra,rc,rfl,q3,q4, -⟩:=row_shape (t:=68) (size:=3) (f:=x.ownBlock.toList) ⟨h4,rfl⟩
 exact ⟨b,ra,rc,rfl,by rw [hcell,e],e,hb,by omega⟩
theorem heap_cell {w0 w:World} {fp0:List Nat} {L:List Asn} {v:Value} {xs:List Value} {ns:List Nat} (h:St w0 fp0 (heapA v xs ns::L) w) (i:Nat) (hi:i < ns.length) {ra:Option Addr} {m rc:Nat} (hx:xs[i]? =some (.slice ra m rc)) (k:Nat) (hk:k < m):
 ∃g o0 o1 o2,ra=some ⟨g,0,none⟩∧w.cell? ⟨g,k * 3,none⟩=some o0∧w.cell? ⟨g,k * 3+1,none⟩=some o1∧w.cell? ⟨g,k * 3+2,none⟩=some o2∧w.frozen? ⟨g,k * 3,none⟩=false∧w.frozen? ⟨g,k * 3+1,none⟩=false∧w.frozen? ⟨g,k * 3+2,none⟩=false∧g < w.heap.size∧
 ∀v0 v1 v2,St w0 fp0 (heapA v xs ns::L) (((w.setCell ⟨g,k * 3,none⟩ v0).setCell ⟨g,k * 3+1,none⟩ v1).setCell ⟨g,k * 3+2,none⟩ v2):=by
 obtain ⟨f,gs,rfl,h1,h2,h3⟩:=h.has 0 rfl
 obtain ⟨x,e,⟨ys,h4⟩, -⟩:=h2 i hi
 rw [hx] at e
 obtain rfl:=Option.some.inj e
 obtain ⟨a,c,e2,q1,q2,hc⟩:=row_shape (t:=68) (size:=3) ⟨h4,rfl⟩
 obtain ⟨rfl,rfl,rfl⟩:=Value.slice.inj e2
 have hl:ys.length=ns[i] * 3:=h4.1
 obtain ⟨g,rfl,hg,c0,f0⟩:=hc (k * 3) (by omega)
 obtain ⟨g1,e3, -,c1, -⟩:=hc (k * 3+1) (by omega)
 obtain ⟨g2,e4, -,c2, -⟩:=hc (k * 3+2) (by omega)
 obtain rfl:g=g1:=by injection e3 with e3;injection e3
 obtain rfl:g=g2:=by injection e4 with e4;injection e4
 rw [List.getElem?_eq_getElem (by omega)] at c0 c1 c2
 refine ⟨g,_,_,_,rfl,c0,c1,c2,f0 _,f0 _,f0 _,hg,fun v0 v1 v2=> ?_⟩
 exact heap_set (heap_set (heap_set h i hi hx g rfl _ v0) i hi hx g rfl _ v1) i hi hx g rfl _ v2
/- StoreIsolated. -/
set_option maxHeartbeats 16000000 in
set_option maxRecDepth 40000 in
theorem iso_calls (td:List Td) (sv:Value) (l:List Chg) (lv:Value) (r:Rw) (rv:Value) (W:World) (hs:SchX W td sv) (hl:ChsX W l lv) (hr:ValsAt W r rv) (hok:∀c∈l,c.Ok) (hri:∀v∈r,I64 v.int):Calls Tryz.prog 8 #[sv,lv,rv] W fun e W'=> e=.returned (.bool true)∧Below W.heap.size W W':=by
 obtain ⟨sa,sc,rfl⟩:=hs.sl.shape
 obtain ⟨la,lc,rfl⟩:=hl.sl.shape
 obtain ⟨ra,rn,rc,rfl,hrn, -⟩:=hr.shape
 subst hrn
 have HAW:=Lib.hid (fun w'=> awake40_calls w')
 have HRX:RowKit.Hid (∀w',Below W.heap.size W w'→ValsAt w' r (.slice ra r.length rc)):=fun w' h=> hr.mono h
 have HSML:RowKit.Hid (∀w',Below W.heap.size W w'→Calls Tryz.prog 13 #[.slice sa td.length sc, .slice la l.length lc] w' fun e w2=> QPost (SmallP td l) w' e w2):=fun w' hb=> Small_calls td l _ _ w' (hs.mono hb) (hl.mono hb)
 have HSM2:RowKit.Hid (∀w' b,Below W.heap.size W w'→w'.heap[b]? =some (.cells #[.int .i64 0, .int .i64 0, .slice none 0 0, .slice ra r.length rc] 35 (0,0))→Calls Tryz.prog 13 #[.slice none 0 0, .slice (some ⟨b,0,none⟩) 1 1] w' fun e w2=> QPost (shortP r) w' e w2):=fun w' b hb hc=> by
  have h1:ChsX w' [⟨0,0,none,0,ra,rc,[],r⟩] (.slice (some ⟨b,0,none⟩) 1 1):=⟨SlX.of_blk (size:=4) (n:=1) hc (by simp) (by decide) rfl,fun x hx=> by
   rw [List.mem_singleton.1 hx]
   exact ⟨ValsX.nil _ _ _ _,hr.mono hb⟩⟩
  refine (Small_calls [] [⟨0,0,none,0,ra,rc,[],r⟩] _ _ w' ⟨SlX.nil _ _ _ _ _,by simp⟩ h1).mono ?_
  rintro e w2 ⟨q,rfl,hq,rfl⟩
  exact ⟨q,rfl,fun h=> ((hq h).ls _ (List.mem_singleton.2 rfl)).2,rfl⟩
 have HRUN:RowKit.Hid (∀w',Below W.heap.size W w'→SmallP td l→Calls Tryz.prog 14 #[.slice sa td.length sc, .slice la l.length lc] w' fun e w2=> RunPost W [] [] (runD (newD td) l) e w2):=fun w' hb hp=> by
  have hS:St W [] [] w':=St.mono (St.start (L:=[]) (fp:=[]) rfl) hb
  exact run_calls td _ l _ (fun t ht=> (hp.tds t ht).sm) (by have:=hp.tn;omega) (by have:=hp.ln;omega) hok W w' [] [] (rd_below fun w h=> hs.mono h) (rd_below fun w h=> hl.mono h) hS
 have HRI:=Lib.hid hri
 obtain ⟨rn,hrn⟩:∃rn,r.length=rn:=⟨_,rfl⟩
 have HRN:=Lib.hid hrn
 rw [hrn] at HRX HSM2 ⊢
 generalize td.length=n at *
 generalize l.length=m at *
 clear hs hl hr hok hri hrn
 go_enter Tryz.func8,Tryz.ntmps8
 go_wp2_with fail
 (with_reducible refine (HAW.out _).mono ?_)
 rintro e w1 ⟨rfl,hb1⟩
 have HB1:=Lib.hid hb1
 have HSM:=Lib.hid (HSML.out w1 hb1)
 clear hb1 HSML
 go_wp2_with fail
 (with_reducible refine HSM.out.mono ?_)
 rintro e w2 ⟨q,rfl,hq,rfl⟩
 have HQ:=Lib.hid hq
 clear hq HSM
 cases q with
 | false=>
  clear HQ HRUN
  go_wp2_with fail
  (with_reducible refine (HAW.out _).mono ?_)
  rintro e w3 ⟨rfl,hb3⟩
  have HB3:=Lib.hid (HB1.out.trans (hb3.mono HB1.out.size))
  clear hb3
  go_wp2
  go_ret
  exact ⟨rfl,HB3.out⟩
 | true=>
  have HP:RowKit.Hid (SmallP td l):=by
   show SmallP td l
   have:=HQ.out
   simpa using this
  have HS2:=Lib.hid (HSM2.out (w1.alloc (.cells #[.int .i64 0, .int .i64 0, .slice none 0 0, .slice ra rn rc] 35)) w1.heap.size (HB1.out.alloc HB1.out.size _) (heap_alloc_new w1 _))
  clear HQ HSM2
  go_wp2_with fail
  (with_reducible refine HS2.out.mono ?_)
  rintro e w2 ⟨q2,rfl,hq2,rfl⟩
  have HQ2:=Lib.hid hq2
  have HB2:RowKit.Hid (Below W.heap.size W (w1.alloc (.cells #[.int .i64 0, .int .i64 0, .slice none 0 0, .slice ra rn rc] 35))):=HB1.out.alloc HB1.out.size _
  clear hq2 HS2
  generalize hW:w1.alloc _=W2 at *
  clear hW
  cases q2 with
  | false=>
   clear HQ2 HRUN
   go_wp2_with fail
   (with_reducible refine (HAW.out _).mono ?_)
   rintro e w3 ⟨rfl,hb3⟩
   have HB3:=Lib.hid (HB2.out.trans (hb3.mono HB2.out.size))
   clear hb3
   go_wp2
   go_ret
   exact ⟨rfl,HB3.out⟩
  | true=>
   have HSH:RowKit.Hid (shortP r):=HQ2.out rfl
   have HR:=Lib.hid (HRUN.out W2 HB2.out HP.out)
   have HLT:=Lib.hid (runD_max (newD_max td) l)
   have HLL:=Lib.hid HP.out.ln
   have HTN:=Lib.hid HP.out.tn
   clear HQ2 HRUN HAW HB1
   go_wp2_with fail
   (with_reducible refine HR.out.mono ?_)
   rintro e w3 ⟨b,mv,rfl,ms,ma,mc,P,rfl,hm,hrx,h3⟩
   rw [List.append_nil] at hrx h3
   obtain ⟨D,hD⟩:∃D,runD (newD td) l=D:=⟨_,rfl⟩
   have hD2:=hD
   rw [hD] at hm h3 HLT
   obtain ⟨mn,hmn⟩:∃mn,ms.length=mn:=⟨_,rfl⟩
   have HVE:RowKit.Hid (Ver W [] P D (.slice ma mn mc)):=by
    rw [hmn] at hrx
    exact ⟨ms,ma,mc,by rw [hmn],hm,hrx⟩
   have hrn10:rn≤10:=by rw [←HRN.out];exact HSH.out.1
   have HE6:RowKit.Hid (St W [] (rowA 68 3 (.slice (some ⟨w3.heap.size,0,none⟩) 0 0) 0 []::stA b D::P) (w3.alloc (.cells #[] 68))):=h3.addF (row_empty (size:=3) ⟨heap_alloc_new w3 _,rfl⟩) ((Below.refl _ _).alloc (Nat.le_refl _) _) (fun k hk=> by rw [List.mem_singleton.1 hk];exact Nat.le_refl _)
   have hv6:=HRX.out _ HE6.out.below0
   have hsrc:=hv6.1.src (P:=Tryz.prog) (tx:=33) (e':=68) (by kernel_rfl) (by decide) (one_flat r)
   rw [HRN.out] at hsrc
   have HSRC:=Lib.hid hsrc
   rw [hmn]
   clear HR hm hrx h3 hD hmn hv6 hsrc
   go_upto_region 7 with (first
    | (at_builtin;refine wpList_appR rfl _ _ _ _ rfl rfl rfl appW HE6.out HSRC.out (by omega) ?_;intro v6 w6 h6))
   rw [Nat.zero_add,List.nil_append] at h6
   obtain ⟨_,hrow⟩:=h6.out.has 0 rfl
   obtain ⟨ga,gc,rfl, -, -, -⟩:=row_shape hrow
   have H6:RowKit.Hid (St W [] (rowA 68 3 (.slice ga rn gc) rn (flat r)::stA b D::P) w6):=h6.out
   obtain ⟨c1,hc1⟩:∃c1:Chg,c1=⟨0,1099511627776,none,0,ra,rc,[],r⟩:=⟨_,rfl⟩
   have hc1v:c1.v=.agg #[.int .i64 0, .int .i64 1099511627776, .slice none 0 0, .slice ra rn rc]:=by
    rw [hc1,←HRN.out]
    rfl
   have hc1o:c1.Ok:=by
    rw [hc1]
    exact ⟨by show I64 0;unfold I64;omega,by show I64 1099511627776;unfold I64;omega,by simp,HRI.out⟩
   have hlt:∀t∈D,t.2.1.length < 1000000:=fun t ht=> by
    have:=HLT.out t ht
    have:=HLL.out
    omega
   have hc1x:Rd W [] (rowA 68 3 (.slice ga rn gc) rn (flat r)::P) fun w=> c1.X w:=rd_below fun w h=> by
    rw [hc1]
    refine ⟨ValsX.nil _ _ _ _,?_⟩
    have h7:=HRX.out w h
    rw [←HRN.out] at h7
    exact h7
   have hdn:D.length≤1000:=by
    have h7:D.length=td.length:=by rw [←hD2,runD_length,newD,List.length_map]
    have:=HTN.out
    omega
   have HDN:=Lib.hid hdn
   obtain ⟨D2,hD2'⟩:∃D2,appD D c1=D2:=⟨_,rfl⟩
   obtain ⟨e2,he2⟩:∃e2,chkD D c1=e2:=⟨_,rfl⟩
   have hra:=rapply_ver (L:=[rowA 68 3 (.slice ga rn gc) rn (flat r),stA b D]) (R:=P) HVE.out hc1o hlt hdn (rd_below fun w h=> by
    rw [hc1]
    refine ⟨ValsX.nil _ _ _ _,?_⟩
    have h7:=HRX.out w h
    rw [←HRN.out] at h7
    exact h7) H6.out
   rw [hD2',he2,hc1v] at hra
   have HRA:=Lib.hid hra
   have HD2:RowKit.Hid (∀a c,appD D ⟨0,1099511627776,none,0,a,c,[],r⟩=D2∧chkD D ⟨0,1099511627776,none,0,a,c,[],r⟩=e2):=fun a c=> by
    rw [←hD2',←he2,hc1]
    exact ⟨rfl,rfl⟩
   clear hra hc1x hc1v hc1o hc1 hdn hD2 hD2' he2 hrow h6 HE6 HSRC hlt HVE H6 HP
   go_wp2_with fail
   (with_reducible refine HRA.out.mono ?_)
   rintro e w7 ⟨na,nn,nc,P2,rfl,hv7,h7⟩
   have hlt:∀t∈D,t.2.1.length < 1000000:=fun t ht=> by
    have:=HLT.out t ht
    have:=HLL.out
    omega
   have HTXT:RowKit.Hid (∀v∈r,v.text.size≤maxLen):=fun v hv=> by
    have h8:=HSH.out.2 v hv
    unfold maxLen
    omega
   have hap:=Apply_calls b D ⟨0,1099511627776,none,0,ga,gc,[],r⟩ ⟨by show I64 0;unfold I64;omega,by show I64 1099511627776;unfold I64;omega,by simp,HRI.out⟩ hlt W w7 [] (rowA 68 3 (.slice ga rn gc) rn (flat r)::(P2++P)) (Rd.of_piece 0 rfl fun w f h=> ⟨ValsX.nil _ _ _ _,by
    refine ⟨SlX.of_row (X:=[]) (t:=68) (f:=f) ?_ (length_flat r) (by simp),HTXT.out⟩
    show (rowA 68 3 (.slice ga r.length gc) r.length (flat r)).p w f
    rw [HRN.out]
    exact h⟩) (h7.perm (List.Perm.swap _ _ _))
   rw [(HD2.out ga gc).1,(HD2.out ga gc).2,show Chg.v ⟨0,1099511627776,none,0,ga,gc,[],r⟩=.agg #[.int .i64 0, .int .i64 1099511627776, .slice none 0 0, .slice ga r.length gc] from rfl,HRN.out] at hap
   have HAP:=Lib.hid hap
   have hnn:nn≤1000:=by
    obtain ⟨ms2,a2,c2,e,hm2, -⟩:=hv7
    obtain ⟨-,rfl, -⟩:=Value.slice.inj e
    rw [hm2.len,←(HD2.out ga gc).1,appD_length]
    exact HDN.out
   have HV7:=Lib.hid hv7
   clear hap hv7 h7 hlt HRA
   go_wp2_with fail
   (with_reducible refine HAP.out.mono ?_)
   rintro e w8 ⟨rfl,h8⟩
   have HD2L:RowKit.Hid (∀t∈D2,t.2.1.length < 1000000):=fun t ht=> by
    have h9:=appD_max HLT.out t ((HD2.out ga gc).1 ▸ ht)
    have:=HLL.out
    omega
   have HG0:RowKit.Hid (St W [] (givA (.slice ga rn gc) rn::stA b D2::(P2++P)) w8):=by
    have h9:St W [] (rowA 68 3 (.slice ga r.length gc) r.length (flat r)::stA b D2::(P2++P)) w8:=by
     rw [HRN.out]
     exact h8.perm (List.Perm.swap _ _ _)
    have h10:=giv_in h9
    rw [HRN.out] at h10
    exact h10
   clear h8 HAP HD2 HLT HTXT
   go_upto_region 11 with (fail)
   go_loopg [62] rn (fun g z wr=> ∃k:Nat,z=.int .i64 k∧g+k=rn∧RowKit.Hid (St W [] (givA (.slice ga rn gc) rn::stA b D2::(P2++P)) wr))
   case atStart=> exact ⟨0,rfl,rfl,HG0⟩
   case round=>
    clear HG0
    obtain ⟨k,rfl,hgk,Hs⟩:=hrel
    by_cases hk:k < rn
    · have hkn:(k:Int) < rn:=by omega
      obtain ⟨g,m',rfl,d1,f1,gl,hset⟩:=giv_store Hs.out k hk
      have HSET:=Lib.hid hset
      have Hgk:=Lib.hid hgk
      clear hset hgk Hs
      go_wp2
      go_roundg (gk - 1)
      case rel=> exact ⟨k+1,by go_num,by have:=Hgk.out;omega,HSET.out _⟩
      case measure=> have:=Hgk.out;omega
    · obtain rfl:k=rn:=by omega
      have HM0:RowKit.Hid (St W [] (stA b D2::(P2++P)) wr):=Hs.out.drop
      obtain ⟨M,hM⟩:∃M,P2++P=M:=⟨_,rfl⟩
      rw [hM] at HM0 HV7
      clear Hs hgk hk hM
      go_upto_region 16 with (fail)
      go_loopg [76] nn (fun g z wr=> ∃k:Nat,z=.int .i64 k∧g+k=nn∧RowKit.Hid (St W [] (stA b D2::M) wr))
      case atStart=> exact ⟨0,rfl,rfl,HM0⟩
      case round=>
       clear HM0
       obtain ⟨k,rfl,hgk,Hs⟩:=hrel
       by_cases hk:k < nn
       · have hkn:(k:Int) < nn:=by omega
         have HBG:=Lib.hid (Bag_calls b D2 k HD2L.out W wr [] M Hs.out)
         have HRS:=Lib.hid (db_rows Hs.out k)
         have HRL:RowKit.Hid ((rowsD D2 k).length < 1000000):=by
          show _ < _
          unfold rowsD
          cases e:rowD D2 k with
          | none=> simp
          | some t=>
           have h4:t∈D2:=by
            unfold rowD at e
            split at e
            · exact List.mem_of_getElem? e
            · cases e
           have:=HD2L.out t h4
           simp only [List.length_map]
           exact this
         have Hgk:=Lib.hid hgk
         clear hgk Hs
         go_wp2_with fail
         (with_reducible refine HBG.out.mono ?_)
         rintro e w9 ⟨pb,rfl,h9⟩
         obtain ⟨hwf,hrw⟩:=bagB_all (rowsD D2 k)
         have HBR:=Lib.hid (brows_st pb _ W w9 [] _ (by rw [hrw,len_ofL];have:=HRL.out;omega) (fun e he=> by have:=HRS.out _ (mem_bagB he);omega) h9)
         have H9:=Lib.hid h9
         clear HBG h9 hwf hrw
         go_wp2_with fail
         (with_reducible refine HBR.out.mono ?_)
         rintro e w10 ⟨v10,rfl,h10,hb10⟩
         obtain ⟨xs,h11⟩:=heap_of_new h10 hb10 H9.out
         obtain ⟨ns,hns⟩:∃ns,(rowsB (bagB (rowsD D2 k))).map List.length=ns:=⟨_,rfl⟩
         obtain ⟨BG,hBG⟩:∃BG,bagA pb (bagB (rowsD D2 k))=BG:=⟨_,rfl⟩
         rw [hns,hBG] at h11
         obtain ⟨va,vc,rfl,hnm, -⟩:=heap_row h11
         unfold maxLen at hnm
         obtain ⟨q,hq⟩:∃q,ns.length=q:=⟨_,rfl⟩
         have HQN:=Lib.hid hq
         have H11:=Lib.hid h11
         rw [hq] at hnm ⊢
         rw [hq] at H11
         obtain ⟨gk0,rfl⟩:∃x,x=gk:=⟨_,rfl⟩
         clear HBR h10 hb10 H9 h11 hns hBG hq HRS HRL
         go_upto_region 22 with (fail)
         go_loopg [87] q (fun g z wx=> ∃i:Nat,z=.int .i64 i∧g+i=q∧RowKit.Hid (St W [] (heapA (.slice va q vc) xs ns::BG::stA b D2::M) wx))
         case atStart=> exact ⟨0,rfl,rfl,H11⟩
         case round=>
          clear H11
          obtain ⟨i,rfl,hgi,Hi⟩:=hrel
          by_cases hi:i < q
          · have hin:(i:Int) < q:=by omega
            have hil:i < ns.length:=by rw [HQN.out];exact hi
            obtain ⟨a',c',e1, -,hrow⟩:=heap_row Hi.out
            obtain ⟨b',ra',rc',rfl,d0,hxi,dl,hm2⟩:=hrow i hil
            obtain ⟨rfl, -,rfl⟩:=Value.slice.inj e1
            unfold maxLen at hm2
            have HCELL:RowKit.Hid (∀k w,k < ns[i]→St W [] (heapA (.slice (some ⟨b',0,none⟩) q vc) xs ns::BG::stA b D2::M) w→_):=fun k w hk h=> heap_cell h i hil hxi k hk
            obtain ⟨mm,hmm⟩:∃mm,ns[i]=mm:=⟨_,rfl⟩
            rw [hmm] at d0 HCELL hm2
            have Hgi:=Lib.hid hgi
            have H0:=Lib.hid Hi.out
            obtain ⟨gi0,rfl⟩:∃x,x=gk:=⟨_,rfl⟩
            clear e1 hrow hxi hgi hmm Hi
            go_upto_region 25 with (fail)
            go_loopg [93] mm (fun g z wy=> ∃j:Nat,z=.int .i64 j∧g+j=mm∧RowKit.Hid (St W [] (heapA (.slice (some ⟨b',0,none⟩) q vc) xs ns::BG::stA b D2::M) wy))
            case atStart=> exact ⟨0,rfl,rfl,H0⟩
            case round=>
             clear H0 d0 dl
             obtain ⟨j,rfl,hgj,Hj⟩:=hrel
             by_cases hj:j < mm
             · have hjn:(j:Int) < mm:=by omega
               obtain ⟨g,o0,o1,o2,rfl,c0,c1,c2,f0,f1,f2,gl,hset⟩:=HCELL.out j _ hj Hj.out
               have HSET:=Lib.hid hset
               have Hgj:=Lib.hid hgj
               clear hset hgj Hj HCELL
               go_wp2
               go_roundg (gk - 1)
               case rel=> exact ⟨j+1,by go_num,by have:=Hgj.out;omega,HSET.out _ _ _⟩
               case measure=> have:=Hgj.out;omega
             · obtain rfl:j=mm:=by omega
               clear hgj hj HCELL
               go_wp2
               go_roundg (gi0 - 1)
               case rel=> exact ⟨i+1,by go_num,by have:=Hgi.out;omega,Hj⟩
               case measure=> have:=Hgi.out;omega
          · obtain rfl:i=q:=by omega
            have HE:=Lib.hid Hi.out.drop.drop
            clear Hi hgi hi
            go_wp2
            go_roundg (gk0 - 1)
            case rel=> exact ⟨k+1,by go_num,by have:=Hgk.out;omega,HE⟩
            case measure=> have:=Hgk.out;omega
       · obtain rfl:k=nn:=by omega
         have HSM:=Lib.hid (same_ver HV7.out HD2L.out Hs.out)
         clear Hs hgk hk
         go_wp2_with fail
         (with_reducible refine HSM.out.mono ?_)
         rintro e w11 ⟨rfl,h11⟩
         have HF:=Lib.hid h11.below0
         clear HSM h11
         go_wp2
         go_ret
         exact ⟨rfl,HF.out⟩
end Go.Proofs.YtpdlkdoogojboaaGreat
