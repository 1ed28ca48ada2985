/- Part 14 of the proof: On, Op, Jy, Oq, Oy, Oz, Pa -/
import Derived.Test.YtpdlkdoogojboaaGreatU13
set_option maxHeartbeats 16000000
set_option maxRecDepth 100000
namespace Go.Proofs.YtpdlkdoogojboaaGreat
open Go Go.RowKit
noncomputable section
theorem db_tab {w0 w:World} {fp0:List Nat} {R:List Asn} {b:Nat} {D:Db} (h:St w0 fp0 (stA b D::R) w) (hl:∀t∈D,t.2.1.length < 1000000):∀t∈D,TabOk t/\t.1<=1000:=by
 obtain ⟨q,hq,hs⟩:=h.openD;intro t ht;have hlt:=hl t ht;obtain ⟨i,hi,rfl⟩:=List.mem_iff_getElem.1 ht;have hiq:i < q.ts.length:=by rw [hq.tlen];exact hi
 have hid:i < q.td.length:=by rw [hq.dlen];exact hi
 obtain ⟨f,hf⟩:=(hs.pickT i hiq).has 0 rfl;have h1:=hq.at i hiq;rw [List.getElem?_eq_getElem hi] at h1;have h3:=(hq.sm _ (List.getElem_mem hid)).n;rw [hq.tdn i hiq hid] at h3;have h4:=Option.some.inj h1;rw [h4] at hlt ⊢;simp only at hlt ⊢;have h2:=storeA_ok (show (storeA q.ts[i].S q.ts[i].cols q.ts[i].I q.ts[i].L q.ts[i].next).p w f from hf);have hc:q.ts[i].cols<=1000:=by omega
 refine ⟨⟨h2.2.1.1,h2.2.1.2,?_,h2.1,λ x hx=> ⟨(h2.2.2 x hx).1,(h2.2.2 x hx).2.1,(h2.2.2 x hx).2.2,?_⟩⟩,hc⟩
 · unfold I64
   simp only;omega
 · have:=(h2.2.2 x hx).2.2.enc hc
   unfold I64;omega
theorem TabOk.enc {D:Db} (h:∀t∈D,TabOk t/\t.1<=1000) (hn:D.length<=4) (hl:∀t∈D,t.2.1.length < 1000000):EncOk D:=
 ⟨hn,λ t ht=> (h t ht).2,hl,λ t ht x hx=> ((h t ht).1.r x hx).row,λ t ht=> ⟨by have:=(h t ht).1.lo;have:=(h t ht).1.hi;unfold I64;omega,λ x hx=> ((h t ht).1.r x hx).i64 (h t ht).1.hi⟩⟩
theorem encD_short {D:Db} (h:EncOk D) (hl:∀t∈D,t.2.1.length<=100):(encD D).length < 100000000:=by
 have key:∀l:Db,(∀t∈l,t∈D)->(encD l).length<=l.length * 4101616:=by
  intro l
  induction l with
  | nil=> intro _;simp [encD]
  | cons t l ih=>
   intro hm;have ht:=hm t (by simp);have h1:=encI_len (h.c t ht) (h.r t ht);have h3:t.2.1.length * 41016<=100 * 41016:=Nat.mul_le_mul_right _ (hl t ht);have h2:=ih λ y hy=> hm y (by simp [hy]);rw [encD_cons,List.length_append,List.length_cons];simp only [encT,List.length_append,numL_length];omega
 have h1:=key D λ t ht=> ht;have h2:D.length * 4101616<=4 * 4101616:=Nat.mul_le_mul_right _ h.n;omega
theorem DecD.self {D:Db} {ns:List Nat} (h:∀t∈D,TabOk t/\t.1<=1000) (hn:D.map (·.1)=ns):DecD ns (encD D) (some D):=⟨hn,λ t ht=> (h t ht).1,rfl⟩
theorem Rg.Ob.neqNil (G:Rg) (i:Nat) (b:Nat) {ty r:TypeId} {x y:Operand} (hop:(opAt G.ops i).op=.binOp .neq ty x y r:=by rfl) (hx:∀a,G.env i a x=.pointer (some ⟨b,0,none⟩):=by intro _;exact kr (by kernel_rfl)) (hy:∀a,G.env i a y=.pointer none:=by intro _;exact kr (by kernel_rfl)) (hv:∀g,G.valD i g=.bool true:=by intro _;exact kr (by kernel_rfl))
 (hu:G.P.underlying ty=some (.pointer (G.P.pointee ty)):=by exact kr (by kernel_rfl)) (hq:(G.quiet i G.pcs.length && G.okV i)=true:=by exact kr (by kernel_rfl)) (hw:∀a,wantE G.ops (opAt G.ops i) (G.env i a)=some true:=by intro _;exact kr (by kernel_rfl)):G.Ob i:=Rg.Ob.read G i hq hw λ L a w _ _=> by
 simp [execOp,hop,hx,hy,go_sem,run_neq_pointer_nil _ _ _ hu,hv]
def gSe8 (ca:Option Addr) (cn cc sb:Nat) (mv:Value) (xs:List UInt8) (D:Db):=rgx Tryz.prog Tryz.f9 8 58 [39,40,41,42,43,44,45,46,47,48,49,50,51,52,53,54,55,56,57,4] [(8, .slice ca cn cc),(6,mv),(10, .int .i64 0),(9,pV sb 0)] (Vq 0 39 [Kv (.slice ca cn cc),Kv (.string (textOf xs)),Kv mv,Vf.slice,Kv (.string (textOf xs)),Kv (.bool true),Kv (.bool true),Kv (.int .i64 0),Kv (.bool true),Kv (.bool true),Kv (.bool true),Kp sb 0,Kv (.bool true),Kv (.bool true),Kv (.bool true),Kp sb 0,Kv mv,Kv (.bool true),Kv (.bool true)]++Vq 19 4 [Kv (.bool true)]) [.all (slA 5 (.slice ca cn cc) (xs.map u8C)), .new 3 [42] λ g=> slA 5 (g 42) (xs.map u8C), .all (stA sb D)]
theorem rSe8 (ca:Option Addr) (cn cc sb:Nat) (mv:Value) (xs:List UInt8) (D:Db) (w0:World) (fp0:List Nat) (R:List Asn) (henc:∀(L:List Asn) (w:World),St w0 fp0 (L++R) w->Calls Tryz.prog 35 #[mv] w λ e w2=> ∃v f,e=.returned v/\(slA 5 (v) (xs.map u8C)).p w2 f/\Below w.heap.size w w2/\∀k∈f,w.heap.size<=k) (hsame:∀u w,St w0 fp0 ([slA 5 (.slice ca cn cc) (xs.map u8C),slA 5 (u) (xs.map u8C),stA sb D]++R) w->Calls Tryz.prog 15 #[.pointer (some ⟨sb,0,none⟩),mv] w λ e w'=> e=.returned (.bool true)/\St w0 fp0 ([slA 5 (.slice ca cn cc) (xs.map u8C),slA 5 (u) (xs.map u8C),stA sb D]++R) w') {w:World} {c:Code} {a:Act} {Q:Exit->Act->World->Prop} (c1:isReg c=true) (c2:cops c=opsR Tryz.f9 8) (c3:a.tmps.size=58) (_c4:a.defers=a.defers) (i8:a.eval (.tmp 8)=.slice ca cn cc) (i6:a.eval (.tmp 6)=mv) (i10:a.eval (.tmp 10)=.int .i64 0) (i9:a.eval (.tmp 9)=.pointer (some ⟨sb,0,none⟩))
 (hS:St w0 fp0 ([slA 5 (.slice ca cn cc) (xs.map u8C),emp,stA sb D]++R) w)
 (hQ:∀(u42:Value) (w1:World),(∃a n c,u42=.slice a n c)->St w0 fp0 ([slA 5 (.slice ca cn cc) (xs.map u8C),slA 5 (u42) (xs.map u8C),stA sb D]++R) w1->Q .normal (putL a [(39, .slice ca cn cc),(40, .string (textOf xs)),(41,mv),(42,u42),(43, .string (textOf xs)),(44, .bool true),(45, .bool true),(46, .int .i64 0),(47, .bool true),(48, .bool true),(49, .bool true),(50, .pointer (some ⟨sb,0,none⟩)),(51, .bool true),(52, .bool true),(53, .bool true),(54, .pointer (some ⟨sb,0,none⟩)),(55,mv),(56, .bool true),(57, .bool true),(4, .bool true)]) w1):c.wp Tryz.prog Q a w:=by
 have ok:(gSe8 ca cn cc sb mv xs D w0 fp0 R).Ok 20:=Rg.ok _ 20 [1,3,4,5,8,12,17] ⟨.run1 _ 1 0 (λ _=> slA 5 (.slice ca cn cc) (xs.map u8C)) (λ _ _=> slA 5 (.slice ca cn cc) (xs.map u8C)) (λ L a w fp _ hp=> ⟨.string (textOf xs),w,fp,conv1 (v:=.slice ca cn cc) rfl (kr (by kernel_rfl)) (run_back hp),kr (by kernel_rfl),hp,Tr.refl _ _⟩), .callNew _ 3 1 (λ v=> slA 5 (v) (xs.map u8C)) (λ _ _ _ h=> sl_shape h) henc, .run1 _ 4 1 (λ g=> slA 5 (g 42) (xs.map u8C)) (λ g _=> slA 5 (g 42) (xs.map u8C)) (λ L a w fp _ hp=> ⟨.string (textOf xs),w,fp,conv1 (v:=.slice (sa (slots a 42)) (sn (slots a 42)) (sc (slots a 42))) rfl (kr (by kernel_rfl)) (run_back (slSelf hp)),kr (by kernel_rfl),hp,Tr.refl _ _⟩), .eqlStr _ 5 (textOf xs), .eqlS _ 8 .i64 0, .neqNil _ 12 sb, .callG _ 17 (f:=15) (args:=λ _=> #[.pointer (some ⟨sb,0,none⟩),mv]) (λ g=> [slA 5 (.slice ca cn cc) (xs.map u8C),slA 5 (g 42) (xs.map u8C),stA sb D]) (λ g _=> [slA 5 (.slice ca cn cc) (xs.map u8C),slA 5 (g 42) (xs.map u8C),stA sb D]) (λ g w h=> (by refine (hsame (g 42) w h).mono ?_;rintro e w2 ⟨rfl,h2⟩;exact ⟨_,rfl,kr (by kernel_rfl),h2⟩)),trivial⟩;refine wp_regD ok (by kernel_rfl) ⟨c1,c2⟩ ⟨c3,λ p hp=> ?_⟩ hS λ A1 w1 N1 H1=> ?_
 · simp only [gSe8,rgx,List.map_nil,List.append_nil,List.mem_cons,List.not_mem_nil,or_false] at hp
   rcases hp with rfl | rfl | rfl | rfl
   · exact i8
   · exact i6
   · exact i10
   · exact i9
 exact N1.fin [42] (hQ (slots A1 42) w1 ⟨_,_,_,(N1.val 3 rfl)⟩ H1) (by kernel_rfl)
theorem slA_bytes {w:World} {v:Value} {x:List UInt8} {f:List Nat} (h:(slA 5 v (x.map u8C)).p w f):BytesX [] w x v/\SlC v x.length:=by
 refine ⟨?_,?_⟩
 · have h1:=SlX.of_sl (X:=[]) h (by simp)
   rw [List.length_map] at h1;exact h1
 · obtain ⟨a,c,e,h1,h2, -⟩:=sl_get h
   rw [List.length_map] at e h1;exact ⟨a,c,e,h1,h2⟩
theorem appD_map (D:Db) (c:Chg):(appD D c).map (·.1)=D.map (·.1):=by
 unfold appD;cases e:rowD D c.tb with
 | none=> rfl
 | some t=>
  simp only;split
  · unfold rowD at e
    split at e
    · obtain ⟨h1,h2⟩:=List.getElem?_eq_some_iff.1 e
      rw [<-h2];exact map_set_same h1 _ _
    · cases e
  · rfl
theorem runD_map (D:Db) (l:List Chg):(runD D l).map (·.1)=D.map (·.1):=by
 unfold runD
 induction l generalizing D with
 | nil=> rfl
 | cons c l ih=> rw [List.foldl_cons,ih,appD_map]
structure RunOk (td:List Td) (D:Db):Prop where
 map:D.map (·.1)=td.map (·.n)
 n:D.length<=4
 l:∀t∈D,t.2.1.length<=100
theorem RunOk.of (td:List Td) (l:List Chg) (ht:td.length<=4) (hl:l.length<=100):RunOk td (runD (newD td) l):=
 ⟨(runD_map _ _).trans (newD_map td),by rw [runD_length,newD,List.length_map];exact ht,λ t h=> by have:=runD_max (newD_max td) l t h;omega⟩
theorem RunOk.lt {td:List Td} {D:Db} (h:RunOk td D):∀t∈D,t.2.1.length < 1000000:=λ t ht=> by have:=h.l t ht;omega
theorem sencode_calls (td:List Td) (sv:Value) (l:List Chg) (lv:Value) (W:World) (hs:SchX W td sv) (hl:ChsX W l lv) (hok:∀c∈l,c.Ok):Calls Tryz.prog 9 #[sv,lv] W λ e W'=> e=.returned (.bool true)/\Below W.heap.size W W':=by
 obtain ⟨sa,sc,rfl⟩:=hs.sl.shape;obtain ⟨la,lc,rfl⟩:=hl.sl.shape;have HAW:=Lib.hid (λ w'=> awake40_calls w');have HSX:=Lib.hid hs;have HSML:Hid (∀w',Below W.heap.size W w'->Calls Tryz.prog 13 #[.slice sa td.length sc, .slice la l.length lc] w' λ e w2=> QPost (SmallP td l) w' e w2):=λ w' hb=> Small_calls td l _ _ w' (hs.mono hb) (hl.mono hb);have HRUN:Hid (∀w',Below W.heap.size W w'->SmallP td l->Calls Tryz.prog 14 #[.slice sa td.length sc, .slice la l.length lc] w' λ e w2=> RunPost w' [] [] (runD (newD td) l) e w2):=λ w' hb hp=>
  run_calls td _ l _ (λ t ht=> (hp.tds t ht).sm) (by have:=hp.tn;omega) (by have:=hp.ln;omega) hok w' w' [] [] (rd_below λ w h=> hs.mono (hb.trans (h.mono hb.size))) (rd_below λ w h=> hl.mono (hb.trans (h.mono hb.size))) (St.start (L:=[]) (fp:=[]) rfl)
 obtain ⟨n,hn⟩:∃n,td.length=n:=⟨_,rfl⟩
 obtain ⟨m,hm⟩:∃m,l.length=m:=⟨_,rfl⟩
 rw [hn] at HSML HSX HRUN ⊢;rw [hm] at HSML HRUN ⊢;have HTN:=Lib.hid hn;have HLM:=Lib.hid hm;clear hs hl hok hn hm;go_enter Tryz.func9,Tryz.ntmps9;go_wp2_with fail;(with_reducible refine (HAW.out _).mono ?_);rintro e w1 ⟨rfl,hb1⟩;have HB1:=Lib.hid hb1;have HSM:=Lib.hid (HSML.out w1 hb1);clear hb1 HSML;go_wp2_with fail;(with_reducible refine HSM.out.mono ?_);rintro e w2 ⟨q,rfl,hq,rfl⟩;have HQ:=Lib.hid hq;clear hq HSM;cases q with
 | false=>
  clear HQ HRUN;go_wp2_with fail;(with_reducible refine (HAW.out _).mono ?_);rintro e w3 ⟨rfl,hb3⟩;have HB3:=Lib.hid (HB1.out.trans (hb3.mono HB1.out.size));clear hb3;go_wp2;go_ret;exact ⟨rfl,HB3.out⟩
 | true=>
  have hsp:=HQ.out rfl;have HR:=Lib.hid (HRUN.out w1 HB1.out hsp);have HRO:=Lib.hid (RunOk.of td l hsp.tn (by have:=hsp.ln;omega));have HTD:Hid ((∀t∈td,t.Sm)/\td.length<=1000):=⟨λ t ht=> (hsp.tds t ht).sm,by have:=hsp.tn;omega⟩
  obtain ⟨D,hD⟩:∃D,runD (newD td) l=D:=⟨_,rfl⟩
  rw [hD] at HR HRO;clear HQ HRUN hsp hD HLM;go_wp2_with fail;(with_reducible refine HR.out.mono ?_);rintro e w3 ⟨b,mv,rfl,ms,ma,mc,P,rfl,hms,hr,h3⟩;rw [List.append_nil] at hr h3;have HTB:=Lib.hid (db_tab h3 HRO.out.lt);have HEO:=Lib.hid (TabOk.enc HTB.out HRO.out.n HRO.out.lt);have HMS:=Lib.hid hms;have HMR:=Lib.hid hr;have HEN:=Lib.hid (encode_calls b D HEO.out w1 w3 [] P h3);obtain ⟨mn,hmn⟩:∃mn,ms.length=mn:=⟨_,rfl⟩
  rw [hmn] at HMR ⊢;clear hms hr h3 HR hmn;go_wp2_with fail;(with_reducible refine HEN.out.mono ?_);rintro e w4 ⟨ca,cn,cc,rfl,h4⟩;have hs4:=h4.litA [] (by decide);have HS4:Hid (St w1 [] (slA 5 (.slice (some ⟨w4.heap.size,0,none⟩) 0 0) (([]:List UInt8).map u8C)::slA 5 (.slice ca cn cc) ((encD D).map u8C)::stA b D::P) (w4.alloc (.cells #[] 5))):=hs4;obtain ⟨_,hca⟩:=hs4.has 1 rfl;have HSRC:=Lib.hid (src_sl hca);have HSH:=Lib.hid (encD_short HEO.out HRO.out.l);have HLN4:Hid ((([]:List UInt8).map u8C).length+((encD D).map u8C).length < 1099511627776):=by show _ < _;rw [List.length_map,List.length_map];have:=HSH.out;simp only [List.length_nil];omega
  have hcn:cn=(encD D).length:=by obtain ⟨_,_,e, -⟩:=(slA_bytes hca).2;exact (Value.slice.inj e).2.1
  have HCN:=Lib.hid hcn;have HDS:=Lib.hid (DecD.self HTB.out HRO.out.map);clear h4 hs4 hca hcn HEN;go_upto_region 7 with (fail)
  go_wp2_with (first
   | (at_builtin;go_loud (refine wpList_appSl rfl _ _ _ _ rfl rfl rfl appBS HS4.out HSRC.out HLN4.out ?_);intro v5 w5 h5))
  have h5':St w1 [] (slA 5 v5 ((encD D).map u8C)::slA 5 (.slice ca cn cc) ((encD D).map u8C)::stA b D::P) w5:=h5.out;have HDC:Hid (Calls Tryz.prog 34 #[.slice sa n sc,v5] w5 λ e w'=> DecDP w1 [] (slA 5 v5 ((encD D).map u8C)::slA 5 (.slice ca cn cc) ((encD D).map u8C)::stA b D::P) (td.map (·.n)) (encD D) e w'):=
   decode_calls td _ (encD D) v5 HTD.out.1 HTD.out.2 HSH.out w1 w5 [] _ _ ⟨[],rfl⟩ (λ L w h=> HSX.out.mono (HB1.out.trans (h.below0.mono HB1.out.size))) ⟨(by obtain ⟨_,hv⟩:=h5'.has 0 rfl;exact (slA_bytes hv).2),Rd.of_piece 0 rfl λ w f hf=> (slA_bytes hf).1⟩ h5'
  clear h5 h5' HS4 HSRC HLN4;(with_reducible refine HDC.out.mono ?_);rintro e w6 ⟨q,pv,hq,rfl,h6⟩;obtain rfl:=hq.uniq HDS.out;obtain ⟨sb,rfl,h6⟩:=h6;have HS6:=Lib.hid h6;simp only [Option.isSome_some,if_true];clear HDC hq h6;go_upto_region 8 with (fail)
  refine rSe8 (w0:=w1) (fp0:=[]) (R:=slA 5 v5 ((encD D).map u8C)::stA b D::P) ca cn cc sb (.slice ma mn mc) (encD D) D (λ L w h=> ?henc) (λ u w h=> ?hsame) rfl (by kernel_rfl) rfl rfl rfl rfl rfl rfl (St_re (L:=[_,_,_,_]) (St.emp.2 HS6.out) [3,0,1] [2] (by kernel_rfl)) ?_
  case henc=>
   have hx:=(HMR.out.app (L++[slA 5 v5 ((encD D).map u8C),stA b D])).here (by simpa using h);refine (rbytes_calls ms _ D HMS.out HEO.out w hx).mono ?_;rintro e w' ⟨a,m',c',rfl,hs⟩;obtain ⟨f,h3,h4,h5⟩:=piece_of hs;exact ⟨_,f,rfl,h3,h4,h5⟩
  case hsame=>
   have hp:∀(X Y Z:Asn) (F:List Asn),([X,Y,Z]++F).Perm (Z::X::Y::F):=λ X Y Z F=> by classical refine List.perm_iff_count.2 λ a=> ?_;simp only [List.count_append,List.count_cons,List.count_nil];omega
   refine (same_calls sb D ms _ HMS.out HRO.out.lt w1 w [] _ (HMR.out.app [_,_,_,_]) (h.perm (hp _ _ _ _))).mono ?_;rintro e w' ⟨rfl,h2⟩;exact ⟨rfl,h2.perm (hp _ _ _ _).symm⟩
  intro u42 w7 _ h7;have HF:=Lib.hid (HB1.out.trans (h7.below0.mono HB1.out.size));clear h7 HS6;simp only [putL,List.foldl,Act.put,List.setIfInBounds_toArray,List.set_cons_succ,List.set_cons_zero];go_wp2;go_ret;exact ⟨rfl,HF.out⟩
def gCpy1 (b:Nat) (sv tv:Value) (Z:Asn) (xs:List UInt8) (D:Db):=rgx Tryz.prog Tryz.f37 1 16 [6,7,8,9,10,11,12,5,13,14,3,4] [(0,pV b 0)] (Vq 0 6 [Kp b 0,Kp b 0,Kp b 0,Kv sv,Kp b 0]++Vq 6 12 [Fv [12] λ g=> .tuple #[.pointer (some ⟨pb (tu (g 12) 0),0,none⟩), .int .i64 0]]++Vq 7 5 [Fv [12] λ g=> .tuple #[.pointer (some ⟨pb (tu (g 12) 0),0,none⟩), .int .i64 0]]++Vq 8 13 [Fv [12] λ g=> .pointer (some ⟨pb (tu (g 12) 0),0,none⟩),Kv (.int .i64 0)]++Vq 10 3 [Fv [12] λ g=> .pointer (some ⟨pb (tu (g 12) 0),0,none⟩),Kv (.int .i64 0)]) [Bk b (104) [sv,tv], .all (Z), .new 5 [11] λ g=> slA 5 (g 11) (xs.map u8C), .new 6 [12] λ g=> stA (pb (tu (g 12) 0)) D]
theorem rCpy1 (b:Nat) (sv tv:Value) (Z:Asn) (xs:List UInt8) (D:Db) (w0:World) (fp0:List Nat) (R:List Asn) (henc:∀w,St w0 fp0 ([blkA b (104) #[sv,tv],Z,emp,emp]++R) w->Calls Tryz.prog 33 #[.pointer (some ⟨b,0,none⟩)] w λ e w'=> ∃a m c,e=.returned (.slice a m c)/\St w0 fp0 ([blkA b (104) #[sv,tv],Z,slA 5 (.slice a m c) (xs.map u8C),emp]++R) w') (hdec:∀u w,St w0 fp0 ([blkA b (104) #[sv,tv],Z,slA 5 (u) (xs.map u8C),emp]++R) w->Calls Tryz.prog 34 #[sv,u] w λ e w'=> ∃b2,e=.returned (.tuple #[.pointer (some ⟨b2,0,none⟩), .int .i64 0])/\St w0 fp0 ([blkA b (104) #[sv,tv],Z,slA 5 (u) (xs.map u8C),stA b2 D]++R) w') {w:World} {c:Code} {a:Act} {Q:Exit->Act->World->Prop} (c1:isReg c=true) (c2:cops c=opsR Tryz.f37 1) (c3:a.tmps.size=16) (_c4:a.defers=a.defers) (i0:a.eval (.tmp 0)=.pointer (some ⟨b,0,none⟩))
 (hS:St w0 fp0 ([blkA b (104) #[sv,tv],Z,emp,emp]++R) w)
 (hQ:∀(u3 u5 u11 u12 u13:Value) (w1:World),u12=.tuple #[.pointer (some ⟨pb (tu (u12) 0),0,none⟩), .int .i64 0]->u5=.tuple #[.pointer (some ⟨pb (tu (u12) 0),0,none⟩), .int .i64 0]->u13=.pointer (some ⟨pb (tu (u12) 0),0,none⟩)->u3=.pointer (some ⟨pb (tu (u12) 0),0,none⟩)->St w0 fp0 ([blkA b (104) #[sv,tv],Z,slA 5 (u11) (xs.map u8C),stA (pb (tu (u12) 0)) D]++R) w1->Q .normal (putL a [(6, .pointer (some ⟨b,0,none⟩)),(7, .pointer (some ⟨b,0,none⟩)),(8, .pointer (some ⟨b,0,none⟩)),(9,sv),(10, .pointer (some ⟨b,0,none⟩)),(11,u11),(12,u12),(5,u5),(13,u13),(14, .int .i64 0),(3,u3),(4, .int .i64 0)]) w1):c.wp Tryz.prog Q a w:=by
 have ok:(gCpy1 b sv tv Z xs D w0 fp0 R).Ok 12:=Rg.ok _ 12 [3,5,6] ⟨.load _ 3 0 0, .callG _ 5 (f:=33) (args:=λ _=> #[.pointer (some ⟨b,0,none⟩)]) (λ _=> [blkA b (104) #[sv,tv],Z,emp,emp]) (λ _ v=> [blkA b (104) #[sv,tv],Z,slA 5 (v) (xs.map u8C),emp]) (λ g w h=> (by refine (henc w h).mono ?_;rintro e w2 ⟨a2,m2,c2,rfl,h2⟩;exact ⟨_,rfl,kr (by kernel_rfl),h2⟩)), .callG _ 6 (f:=34) (args:=λ g=> #[sv,g 11]) (λ g=> [blkA b (104) #[sv,tv],Z,slA 5 (g 11) (xs.map u8C),emp]) (λ g v=> [blkA b (104) #[sv,tv],Z,slA 5 (g 11) (xs.map u8C),stA (pb (tu v 0)) D]) (λ g w h=> (by refine (hdec (g 11) w h).mono ?_;rintro e w2 ⟨b2,rfl,h2⟩;exact ⟨_,rfl,kr (by kernel_rfl),h2⟩)),trivial⟩;refine wp_regD ok (by kernel_rfl) ⟨c1,c2⟩ ⟨c3,λ p hp=> ?_⟩ hS λ A1 w1 N1 H1=> ?_
 · simp only [gCpy1,rgx,List.map_nil,List.append_nil,List.mem_cons,List.not_mem_nil,or_false] at hp
   subst hp
   · exact i0
 exact N1.fin [11,12,5,13,3] (hQ (slots A1 3) (slots A1 5) (slots A1 11) (slots A1 12) (slots A1 13) w1 (N1.val 5 rfl) (N1.val 6 rfl) (N1.val 7 rfl) (N1.val 9 rfl) H1) (by kernel_rfl)
def zL (q:StQ):List Asn:=schA q.sv q.td::slA 46 q.tv (q.ts.map λ t=> ptrV t.S)::q.ts.map tbA
def zA (q:StQ):Asn:=starA (zL q)
theorem packZ {w0 w:World} {fp0:List Nat} {R:List Asn} {b:Nat} {q:StQ} (h:St w0 fp0 (dbP b q++(q.ts.map tbA++R)) w):St w0 fp0 (blkA b 104 #[q.sv,q.tv]::zA q::R) w:=by
 have h1:St w0 fp0 ((schA q.sv q.td::slA 46 q.tv (q.ts.map λ t=> ptrV t.S)::q.ts.map tbA)++(blkA b 104 #[q.sv,q.tv]::R)) w:=h.perm (by classical refine List.perm_iff_count.2 λ a=> ?_;unfold dbP;simp only [List.cons_append,List.nil_append,List.count_append,List.count_cons];omega);have h2:St w0 fp0 (zA q::blkA b 104 #[q.sv,q.tv]::R) w:=h1.fold λ f hf=> hf;exact h2.perm (List.Perm.swap _ _ _)
theorem unpackZ {w0 w:World} {fp0:List Nat} {R:List Asn} {b:Nat} {q:StQ} (h:St w0 fp0 (blkA b 104 #[q.sv,q.tv]::zA q::R) w):St w0 fp0 (dbP b q++(q.ts.map tbA++R)) w:=by
 obtain ⟨-,h1⟩:=(h.perm (List.Perm.swap _ _ _)).unfold (L1:=λ _:Unit=> zL q) λ f hf=> ⟨(),hf⟩
 refine h1.perm ?_
 classical refine List.perm_iff_count.2 λ a=> ?_;unfold dbP zL;simp only [List.cons_append,List.nil_append,List.count_append,List.count_cons];omega
theorem scopy_calls (b:Nat) (D:Db) (hD:EncOk D) (htab:∀t∈D,TabOk t) (hsh:(encD D).length < 100000000) (w0 w:World) (fp0:List Nat) (R:List Asn) (hS:St w0 fp0 (stA b D::R) w):
 Calls Tryz.prog 37 #[.pointer (some ⟨b,0,none⟩)] w λ e w'=> ∃b2,e=.returned (.pointer (some ⟨b2,0,none⟩))/\St w0 fp0 (stA b2 D::stA b D::R) w':=by
 obtain ⟨q,hq,hs⟩:=hS.openD;have HS:=Lib.hid (packZ hs);have HQ:=Lib.hid hq;have hns:q.td.map (·.n)=D.map (·.1):=hq.n;have HEN:Hid (∀w,St w0 fp0 ([blkA b 104 #[q.sv,q.tv],zA q,emp,emp]++R) w->Calls Tryz.prog 33 #[.pointer (some ⟨b,0,none⟩)] w λ e w'=> ∃a m c,e=.returned (.slice a m c)/\St w0 fp0 ([blkA b 104 #[q.sv,q.tv],zA q,slA 5 (.slice a m c) ((encD D).map u8C),emp]++R) w'):=λ w h=> by have h1:St w0 fp0 (blkA b 104 #[q.sv,q.tv]::zA q::R) w:=St.emp.1 (St.emp.1 (St_re (L:=[_,_,_,_]) h [2,3,0,1] [] (by kernel_rfl)));refine (encodeQ_calls b q D hq hD w0 w fp0 R (unpackZ h1)).mono ?_;rintro e w' ⟨a,m,c,rfl,h2⟩;have h3:=packZ (h2.sinkD);refine ⟨a,m,c,rfl,?_⟩;exact St_re (L:=[_,_,_,_]) (St.emp.2 h3) [1,2,3,0] [] (by kernel_rfl)
 have HDE:Hid (∀u w,St w0 fp0 ([blkA b 104 #[q.sv,q.tv],zA q,slA 5 (u) ((encD D).map u8C),emp]++R) w->Calls Tryz.prog 34 #[q.sv,u] w λ e w'=> ∃b2,e=.returned (.tuple #[.pointer (some ⟨b2,0,none⟩), .int .i64 0])/\St w0 fp0 ([blkA b 104 #[q.sv,q.tv],zA q,slA 5 (u) ((encD D).map u8C),stA b2 D]++R) w'):=λ u w h=> by
  have h1:St w0 fp0 (blkA b 104 #[q.sv,q.tv]::zA q::slA 5 (u) ((encD D).map u8C)::R) w:=St.emp.1 (St_re (L:=[_,_,_,_]) h [3,0,1,2] [] (by kernel_rfl));have hpm:∀L:List Asn,(L++(blkA b 104 #[q.sv,q.tv]::zA q::slA 5 (u) ((encD D).map u8C)::R)).Perm (blkA b 104 #[q.sv,q.tv]::zA q::(L++(slA 5 (u) ((encD D).map u8C)::R))):=λ L=> by classical refine List.perm_iff_count.2 λ a=> ?_;simp only [List.count_append,List.count_cons];omega
  refine (decode_calls q.td q.sv (encD D) u hq.sm (by exact hq.len) hsh w0 w fp0 _ _ ⟨[],rfl⟩ (λ L W hW=> (db_get (unpackZ (hW.perm (hpm L)))).2.2.2.1) ⟨(by obtain ⟨_,hv⟩:=h1.has 2 rfl;exact (slA_bytes hv).2),Rd.of_piece 2 rfl λ w f hf=> (slA_bytes hf).1⟩ h1).mono ?_;rintro e w' ⟨q2,pv,hq2,rfl,h2⟩;have hself:DecD (q.td.map (·.n)) (encD D) (some D):=⟨hns.symm,htab,rfl⟩
  obtain rfl:=hq2.uniq hself;obtain ⟨b2,rfl,h3⟩:=h2;exact ⟨b2,rfl,St_re (L:=[_,_,_,_]) h3 [1,2,3,0] [] (by kernel_rfl)⟩
 clear hs hS;go_enter Tryz.func37,Tryz.ntmps37;go_upto_region 1 with (fail)
 refine rCpy1 (w0:=w0) (fp0:=fp0) (R:=R) b q.sv q.tv (zA q) (encD D) D HEN.out HDE.out rfl (by kernel_rfl) rfl rfl rfl (St_re (L:=[_,_,_,_]) (St.emp.2 (St.emp.2 HS.out)) [2,3,0,1] [] (by kernel_rfl)) ?_;intro u3 u5 u11 u12 u13 w1 e12 e5 e13 e3 h1;have hp:St w0 fp0 (blkA b 104 #[q.sv,q.tv]::zA q::stA (pb (tu u12 0)) D::slA 5 u11 ((encD D).map u8C)::R) w1:=St_re (L:=[_,_,_,_]) h1 [0,1,3,2] [] (by kernel_rfl);have h2:=St.shutD HQ.out (unpackZ hp);have HF:Hid (St w0 fp0 (stA (pb (tu u12 0)) D::stA b D::R) w1):=(St_re (L:=[_,_,_]) h2 [2,1,0] [] (by kernel_rfl)).drop;generalize pb (tu u12 0)=b2 at *;subst e3;clear h1 hp h2 HS HEN HDE e12 e5 e13;simp only [putL,List.foldl,Act.put,List.setIfInBounds_toArray,List.set_cons_succ,List.set_cons_zero];go_wp2;go_ret;exact ⟨_,rfl,HF.out⟩
theorem runD_max2 {td:List Td} {D:Db} (h:RunOk td D) (l:List Chg) (hl:l.length<=40):∀t∈runD D l,t.2.1.length < 1000000:=λ t ht=> by
 have:=runD_max h.l l t ht;omega
theorem scopylaw_calls (td:List Td) (sv:Value) (l:List Chg) (lv:Value) (l2:List Chg) (lv2:Value) (W:World) (hs:SchX W td sv) (hl:ChsX W l lv) (hl2:ChsX W l2 lv2) (hok:∀c∈l,c.Ok) (hok2:∀c∈l2,c.Ok):Calls Tryz.prog 11 #[sv,lv,lv2] W λ e W'=> e=.returned (.bool true)/\Below W.heap.size W W':=by
 obtain ⟨sa,sc,rfl⟩:=hs.sl.shape;obtain ⟨la,lc,rfl⟩:=hl.sl.shape;obtain ⟨ka,kc,rfl⟩:=hl2.sl.shape;have HAW:=Lib.hid (λ w'=> awake40_calls w');have HL2:=Lib.hid hl2;have HOK2:=Lib.hid hok2;have HSML:Hid (∀w',Below W.heap.size W w'->Calls Tryz.prog 13 #[.slice sa td.length sc, .slice la l.length lc] w' λ e w2=> QPost (SmallP td l) w' e w2):=λ w' hb=> Small_calls td l _ _ w' (hs.mono hb) (hl.mono hb);have HSM2:Hid (∀w',Below W.heap.size W w'->Calls Tryz.prog 13 #[.slice sa td.length sc, .slice ka l2.length kc] w' λ e w2=> QPost (SmallP td l2) w' e w2):=λ w' hb=> Small_calls td l2 _ _ w' (hs.mono hb) (hl2.mono hb);have HRUN:Hid (∀w',Below W.heap.size W w'->SmallP td l->Calls Tryz.prog 14 #[.slice sa td.length sc, .slice la l.length lc] w' λ e w2=> RunPost w' [] [] (runD (newD td) l) e w2):=λ w' hb hp=>
  run_calls td _ l _ (λ t ht=> (hp.tds t ht).sm) (by have:=hp.tn;omega) (by have:=hp.ln;omega) hok w' w' [] [] (rd_below λ w h=> hs.mono (hb.trans (h.mono hb.size))) (rd_below λ w h=> hl.mono (hb.trans (h.mono hb.size))) (St.start (L:=[]) (fp:=[]) rfl)
 obtain ⟨n,hn⟩:∃n,td.length=n:=⟨_,rfl⟩
 obtain ⟨m,hm⟩:∃m,l.length=m:=⟨_,rfl⟩
 obtain ⟨m2,hm2⟩:∃m2,l2.length=m2:=⟨_,rfl⟩
 rw [hn] at HSML HSM2 HRUN ⊢;rw [hm] at HSML HRUN ⊢;rw [hm2] at HSM2 HL2 ⊢;have HM2:=Lib.hid hm2;clear hs hl hok hn hm hl2 hok2 hm2;go_enter Tryz.func11,Tryz.ntmps11;go_wp2_with fail;(with_reducible refine (HAW.out _).mono ?_);rintro e w1 ⟨rfl,hb1⟩;have HB1:=Lib.hid hb1;have HSM:=Lib.hid (HSML.out w1 hb1);have HSN:=Lib.hid (HSM2.out w1 hb1);clear hb1 HSML HSM2;go_wp2_with fail;(with_reducible refine HSM.out.mono ?_);rintro e w2 ⟨q,rfl,hq,rfl⟩;have HQ:=Lib.hid hq;clear hq HSM;cases q with
 | false=>
  clear HQ HRUN HSN;go_wp2_with fail;(with_reducible refine (HAW.out _).mono ?_);rintro e w3 ⟨rfl,hb3⟩;have HB3:=Lib.hid (HB1.out.trans (hb3.mono HB1.out.size));clear hb3;go_wp2;go_ret;exact ⟨rfl,HB3.out⟩
 | true=>
  have hsp:=HQ.out rfl;have HR:=Lib.hid (HRUN.out w1 HB1.out hsp);have HRO:=Lib.hid (RunOk.of td l hsp.tn (by have:=hsp.ln;omega));obtain ⟨D,hD⟩:∃D,runD (newD td) l=D:=⟨_,rfl⟩
  rw [hD] at HR HRO;clear HQ HRUN hsp hD;go_wp2_with fail;(with_reducible refine HSN.out.mono ?_);rintro e w2 ⟨q,rfl,hq,rfl⟩;have HQ:=Lib.hid hq;clear hq HSN;cases q with
  | false=>
   clear HQ HR HRO;go_wp2_with fail;(with_reducible refine (HAW.out _).mono ?_);rintro e w3 ⟨rfl,hb3⟩;have HB3:=Lib.hid (HB1.out.trans (hb3.mono HB1.out.size));clear hb3;go_wp2;go_ret;exact ⟨rfl,HB3.out⟩
  | true=>
   have HM40:Hid (m2<=40):=by rw [<-HM2.out];exact (HQ.out rfl).ln
   have HLX:Hid (∀L w,St w1 [] L w->ChsX w l2 (.slice ka m2 kc)):=λ L w h=> HL2.out.mono (HB1.out.trans (h.below0.mono HB1.out.size));clear HQ HL2;go_wp2_with fail;(with_reducible refine HR.out.mono ?_);rintro e w3 ⟨b,mv,rfl,ms,ma,mc,P,rfl,hms,hr,h3⟩;rw [List.append_nil] at hr h3;have htb:=db_tab h3 HRO.out.lt;have heo:=TabOk.enc htb HRO.out.n HRO.out.lt;have hcp:=scopy_calls b D heo (λ t ht=> (htb t ht).1) (encD_short heo HRO.out.l) w1 w3 [] P h3;have hv:Ver w1 [] P D (.slice ma ms.length mc):=⟨ms,ma,mc,rfl,hms,hr⟩
   obtain ⟨mn,hmn⟩:∃mn,ms.length=mn:=⟨_,rfl⟩
   rw [hmn] at hv ⊢;have HCP:=Lib.hid hcp;have HV:=Lib.hid hv;clear hms hr h3 HR hmn htb heo hcp hv;go_wp2_with fail;(with_reducible refine HCP.out.mono ?_);rintro e w4 ⟨b2,rfl,h4⟩;have HSA:=Lib.hid (same_ver (HV.out.app [stA b D]) HRO.out.lt h4);clear HCP h4;go_wp2_with fail;(with_reducible refine HSA.out.mono ?_);rintro e w5 ⟨rfl,h5⟩;have HI:Hid (Ver w1 [] P (runD D (l2.take 0)) (.slice ma mn mc)/\St w1 [] (stA b2 (runD D (l2.take 0))::stA b D::P) w5):=⟨HV.out,h5⟩
   clear HSA h5;go_upto_region 11 with (fail)
   go_loopg [11,51] m2 (λ g z zi wr=> ∃(k:Nat) (Q:List Asn),zi=.int .i64 k/\g+k=m2/\Hid (Ver w1 [] (Q++P) (runD D (l2.take k)) z/\St w1 [] (stA b2 (runD D (l2.take k))::stA b D::(Q++P)) wr))
   case atStart=> exact ⟨0,[],rfl,rfl,HI⟩
   case round=>
    clear HI;obtain ⟨k,Q,rfl,hgk,Hi⟩:=hrel;obtain ⟨na,nc,rfl⟩:=Hi.out.1.shape;by_cases hk:k < m2
    · have hkl:k < l2.length:=by rw [HM2.out];exact hk
      have hkn:(k:Int) < m2:=by omega
      have hlx:=HLX.out _ _ Hi.out.2;obtain ⟨b',o,c',e1,hbl,p0,p1,p2,p3⟩:=hlx.cells k hkl;rw [HM2.out] at e1;obtain ⟨rfl, -,rfl⟩:=Value.slice.inj e1;have hD:=runD_snoc D l2 k hkl;have hcx:∀R,Rd w1 [] R λ w=> l2[k].X w:=λ R L w h=> (HLX.out _ _ h).ch _ (List.getElem_mem hkl);have hco:=HOK2.out _ (List.getElem_mem hkl);have hmax:=runD_max2 HRO.out (l2.take k) (by rw [List.length_take];have:=HM40.out;omega);have hdl:(runD D (l2.take k)).length<=1000:=by rw [runD_length];have:=HRO.out.n;omega
      obtain ⟨ch,hch⟩:∃ch,l2[k]=ch:=⟨_,rfl⟩
      rw [hch] at hD hcx hco p0 p1 p2 p3;have hs1:=Hi.out.2.newblk 35 #[.int .i64 ch.tb, .int .i64 ch.id,ch.ov,ch.nv];have hv1:=Hi.out.1;obtain ⟨Dk,hDk⟩:∃Dk,runD D (l2.take k)=Dk:=⟨_,rfl⟩
      rw [hDk] at hD hmax hdl hs1 hv1 ⊢;have hra:=λ L w (h:St w1 [] (L++(Q++P)) w)=> rapply_ver hv1 hco hmax hdl (hcx _) h;have hap:=λ R w (h:St w1 [] (stA b2 Dk::R) w)=> Apply_calls b2 Dk ch hco hmax w1 w [] R (hcx _) h;obtain ⟨D2,hD2⟩:∃D2,appD Dk ch=D2:=⟨_,rfl⟩
      obtain ⟨er,her⟩:∃er,chkD Dk ch=er:=⟨_,rfl⟩
      rw [hD2] at hD hra hap;rw [her] at hra hap;obtain ⟨dn,hdn⟩:∃dn,Dk.length=dn:=⟨_,rfl⟩
      rw [hdn] at hra ⊢;have HRA:=Lib.hid hra;have HAP:=Lib.hid hap;have HD:=Lib.hid hD;have HS1:=Lib.hid hs1;have Hgk:=Lib.hid hgk;clear e1 hlx hD hcx hco hmax hdl hs1 hv1 hra hap hgk Hi hch hkl hDk hD2 her hdn;unfold Chg.v at HRA HAP;unfold Chg.ov Chg.nv at *;go_upto_region 13 with (fail)
      generalize hW:wr.alloc _=W at *;clear hW p0 p1 p2 p3 hbl;obtain ⟨cb,hcb⟩:∃cb,wr.heap.size=cb:=⟨_,rfl⟩
      rw [hcb] at HS1 ⊢;clear hcb;obtain ⟨c0,c1,c2,c3,cl⟩:=cells4 HS1.out 0 rfl;have HR:=Lib.hid (HRA.out [_,_,_] W HS1.out);clear HRA;go_wp2_with fail;(with_reducible refine HR.out.mono ?_);rintro e w6 ⟨a2,n2,cc2,P2,rfl,hv2,h6⟩;clear HR HS1 c0 c1 c2 c3 cl;obtain ⟨c0,c1,c2,c3,cl⟩:=cells4 h6 0 rfl;have HA:=Lib.hid (HAP.out _ w6 (h6.perm (List.Perm.swap _ _ _)));have HV2:=Lib.hid hv2;clear HAP h6 hv2;go_wp2_with fail;(with_reducible refine HA.out.mono ?_);rintro e w7 ⟨rfl,h7⟩;have HI2:Hid (Ver w1 [] ((P2++Q)++P) (runD D (l2.take (k+1))) (.slice a2 n2 cc2)/\St w1 [] (stA b2 (runD D (l2.take (k+1)))::stA b D::((P2++Q)++P)) w7):=by rw [HD.out,List.append_assoc];exact ⟨HV2.out,(h7.perm (List.Perm.swap _ _ _)).drop⟩
      have hm40:m2<=40:=HM40.out;clear HA HV2 h7 c0 c1 c2 c3 cl HD;go_wp2;go_roundg (gk - 1)
      case rel=> exact ⟨k+1,P2++Q,by go_num,by have:=Hgk.out;omega,HI2⟩
      case measure=> have:=Hgk.out;omega
    · obtain rfl:k=m2:=by omega
      have hi:=Hi.out;have hrl:(runD D (l2.take k)).length=(runD D l2).length:=by rw [runD_length,runD_length]
      rw [List.take_of_length_le (by rw [HM2.out];exact Nat.le_refl _)] at hi;have hmax:=runD_max2 HRO.out l2 (by rw [HM2.out];exact HM40.out);have H0:=Lib.hid (same_ver ((HV.out.app Q).app [stA b2 (runD D l2)]) HRO.out.lt (hi.2.perm (List.Perm.swap _ _ _)));have HX:Hid (∀w,St w1 [] (stA b2 (runD D l2)::stA b D::(Q++P)) w->Calls Tryz.prog 15 #[.pointer (some ⟨b2,0,none⟩), .slice na (runD D (l2.take k)).length nc] w λ e w'=> e=.returned (.bool true)/\St w1 [] (stA b2 (runD D l2)::stA b D::(Q++P)) w'):=λ w h=> by rw [hrl];exact same_ver (hi.1.app [stA b D]) hmax h
      generalize (runD D (l2.take k)).length=rn at *;clear Hi hgk hk hi hmax hrl;go_wp2_with fail;(with_reducible refine H0.out.mono ?_);rintro e w6 ⟨rfl,h6⟩;have H2:=Lib.hid (HX.out w6 (h6.perm (List.Perm.swap _ _ _)));clear H0 h6 HX;go_wp2_with fail;(with_reducible refine H2.out.mono ?_);rintro e w7 ⟨rfl,h7⟩;have HF:=Lib.hid (HB1.out.trans (h7.below0.mono HB1.out.size));clear H2 h7;go_wp2;go_ret;exact ⟨rfl,HF.out⟩
end
end Go.Proofs.YtpdlkdoogojboaaGreat
