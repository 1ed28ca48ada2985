/- Part 14 of the proof: Jw, Jp, Jq, Jx, On, Op, Ou, Jy, Oq, Ov -/
import Derived.Test.YtpdlkdoogojboaaGreatY13
import Derived.Test.YtpdlkdoogojboaaGreatY12
import Derived.Test.YtpdlkdoogojboaaGreatY08
set_option maxHeartbeats 16000000
set_option maxRecDepth 100000
namespace Go.Proofs.YtpdlkdoogojboaaGreat
open Go Go.RowKit
noncomputable section
theorem db_tab {w0 w:World} {fp0:List Nat} {R:List Asn} {b:Nat} {D:Db} (h:St w0 fp0 (stA b D::R) w) (hl:∀t∈D,t.2.1.length < 1000000):∀t∈D,TabOk t/\t.1<=1000:=by
 obtain ⟨q,hq,hs⟩:=h.openD;intro t ht;have hlt:=hl t ht;obtain ⟨i,hi,rfl⟩:=List.mem_iff_getElem.1 ht;have hiq:i < q.ts.length:=by rw [hq.tlen];exact hi
 have hid:i < q.td.length:=by rw [hq.dlen];exact hi
 obtain ⟨f,hf⟩:=(hs.pickT i hiq).has 0 rfl;have h1:=hq.at i hiq;rw [List.getElem?_eq_getElem hi] at h1;have h3:=(hq.sm _ (List.getElem_mem hid)).n;rw [hq.tdn i hiq hid] at h3;have h4:=Option.some.inj h1;rw [h4] at hlt ⊢;simp only at hlt ⊢;have h2:=storeA_ok (show (storeA q.ts[i].S q.ts[i].cols q.ts[i].I q.ts[i].L q.ts[i].next).p w f from hf);have hc:q.ts[i].cols<=1000:=by omega
 refine ⟨⟨h2.2.1.1,h2.2.1.2,?_,h2.1,λ x hx=> ⟨(h2.2.2 x hx).1,(h2.2.2 x hx).2.1,(h2.2.2 x hx).2.2,?_⟩⟩,hc⟩
 · unfold I64
   simp only;omega
 · have:=(h2.2.2 x hx).2.2.enc hc
   unfold I64;omega
theorem TabOk.enc {D:Db} (h:∀t∈D,TabOk t/\t.1<=1000) (hn:D.length<=4) (hl:∀t∈D,t.2.1.length < 1000000):EncOk D:=
 ⟨hn,λ t ht=> (h t ht).2,hl,λ t ht x hx=> ((h t ht).1.r x hx).row,λ t ht=> ⟨by have:=(h t ht).1.lo;have:=(h t ht).1.hi;unfold I64;omega,λ x hx=> ((h t ht).1.r x hx).i64 (h t ht).1.hi⟩⟩
theorem Rg.Ob.neqNil (G:Rg) (i:Nat) (b:Nat) {ty r:TypeId} {x y:Operand} (hop:(opAt G.ops i).op=.binOp .neq ty x y r:=by rfl) (hx:∀a,G.env i a x=.pointer (some ⟨b,0,none⟩):=by intro _;exact kr (by kernel_rfl)) (hy:∀a,G.env i a y=.pointer none:=by intro _;exact kr (by kernel_rfl)) (hv:∀g,G.valD i g=.bool true:=by intro _;exact kr (by kernel_rfl))
 (hu:G.P.underlying ty=some (.pointer (G.P.pointee ty)):=by exact kr (by kernel_rfl)) (hq:(G.quiet i G.pcs.length && G.okV i)=true:=by exact kr (by kernel_rfl)) (hw:∀a,wantE G.ops (opAt G.ops i) (G.env i a)=some true:=by intro _;exact kr (by kernel_rfl)):G.Ob i:=Rg.Ob.read G i hq hw λ L a w _ _=> by
 simp [execOp,hop,hx,hy,go_sem,run_neq_pointer_nil _ _ _ hu,hv]
theorem Rg.Ob.convR (G:Rg) (i:Nat) (v:Value) (s:ByteArray) {t u:TypeId} (hl:∀L w,St G.w0 G.fp0 (L++G.R) w->(convert t u v).run G.P w=.ok (.string s) w) {x:Operand} (hop:(opAt G.ops i).op=.convert t u x:=by rfl) (hx:∀a,G.env i a x=v:=by intro _;exact kr (by kernel_rfl)) (hv:∀g,G.valD i g=.string s:=by intro _;exact kr (by kernel_rfl))
 (hq:(G.quiet i G.pcs.length && G.okV i)=true:=by exact kr (by kernel_rfl)) (hw:∀a,wantE G.ops (opAt G.ops i) (G.env i a)=some true:=by intro _;exact kr (by kernel_rfl)):G.Ob i:=Rg.Ob.read G i hq hw λ L a w _ hS=> by
 simp only [execOp,hop,hx,Sem.run_bind,hl _ w hS,Result.andThen_ok,Sem.run_pure,hv]
def gSdc7 (ba:Option Addr) (bn bc sb:Nat) (mv:Value) (xs:List UInt8) (D:Db):=rgx Tryz.prog Tryz.f10 7 63 [44,45,46,47,48,49,50,51,52,53,54,55,56,57,58,59,60,61,62,4] [(1, .slice ba bn bc),(7,mv),(6, .int .i64 0),(5,pV sb 0)] (Vq 0 44 [Kp sb 0,Kv (.bool true),Kv (.bool true),Kv (.int .i64 0),Kv (.bool true),Kv (.bool true),Kv (.bool true),Kp sb 0,Kv mv,Kv (.bool true),Kv (.bool true),Kv (.bool true),Kp sb 0,Vf.slice,Kv (.string (textOf xs)),Kv (.slice ba bn bc),Kv (.string (textOf xs)),Kv (.bool true),Kv (.bool true)]++Vq 19 4 [Kv (.bool true)]) [.all (stA sb D), .new 13 [57] λ g=> slA 5 (g 57) (xs.map u8C)]
theorem rSdc7 (ba:Option Addr) (bn bc sb:Nat) (mv:Value) (xs:List UInt8) (D:Db) (w0:World) (fp0:List Nat) (R:List Asn) (hb:∀L w,St w0 fp0 (L++R) w->(convert 52 9 (.slice ba bn bc)).run Tryz.prog w=.ok (.string (textOf xs)) w) (hsame:∀w,St w0 fp0 ([stA sb D,emp]++R) w->Calls Tryz.prog 15 #[.pointer (some ⟨sb,0,none⟩),mv] w λ e w'=> e=.returned (.bool true)/\St w0 fp0 ([stA sb D,emp]++R) w') (henc:∀w,St w0 fp0 ([stA sb D,emp]++R) w->Calls Tryz.prog 33 #[.pointer (some ⟨sb,0,none⟩)] w λ e w'=> ∃a m c,e=.returned (.slice a m c)/\St w0 fp0 ([stA sb D,slA 5 (.slice a m c) (xs.map u8C)]++R) w') {w:World} {c:Code} {a:Act} {Q:Exit->Act->World->Prop} (c1:isReg c=true) (c2:cops c=opsR Tryz.f10 7) (c3:a.tmps.size=63) (_c4:a.defers=a.defers) (i1:a.eval (.tmp 1)=.slice ba bn bc) (i7:a.eval (.tmp 7)=mv) (i6:a.eval (.tmp 6)=.int .i64 0) (i5:a.eval (.tmp 5)=.pointer (some ⟨sb,0,none⟩))
 (hS:St w0 fp0 ([stA sb D,emp]++R) w)
 (hQ:∀(u57:Value) (w1:World),(∃a n c,u57=.slice a n c)->St w0 fp0 ([stA sb D,slA 5 (u57) (xs.map u8C)]++R) w1->Q .normal (putL a [(44, .pointer (some ⟨sb,0,none⟩)),(45, .bool true),(46, .bool true),(47, .int .i64 0),(48, .bool true),(49, .bool true),(50, .bool true),(51, .pointer (some ⟨sb,0,none⟩)),(52,mv),(53, .bool true),(54, .bool true),(55, .bool true),(56, .pointer (some ⟨sb,0,none⟩)),(57,u57),(58, .string (textOf xs)),(59, .slice ba bn bc),(60, .string (textOf xs)),(61, .bool true),(62, .bool true),(4, .bool true)]) w1):c.wp Tryz.prog Q a w:=by
 have ok:(gSdc7 ba bn bc sb mv xs D w0 fp0 R).Ok 20:=Rg.ok _ 20 [1,4,9,13,14,16,17] ⟨.neqNil _ 1 sb, .eqlS _ 4 .i64 0, .callG _ 9 (f:=15) (args:=λ _=> #[.pointer (some ⟨sb,0,none⟩),mv]) (λ _=> [stA sb D,emp]) (λ _ _=> [stA sb D,emp]) (λ g w h=> (by refine (hsame w h).mono ?_;rintro e w2 ⟨rfl,h2⟩;exact ⟨_,rfl,kr (by kernel_rfl),h2⟩)), .callG _ 13 (f:=33) (args:=λ _=> #[.pointer (some ⟨sb,0,none⟩)]) (λ _=> [stA sb D,emp]) (λ _ v=> [stA sb D,slA 5 (v) (xs.map u8C)]) (λ g w h=> (by refine (henc w h).mono ?_;rintro e w2 ⟨a2,m2,c2,rfl,h2⟩;exact ⟨_,rfl,kr (by kernel_rfl),h2⟩)), .run1 _ 14 1 (λ g=> slA 5 (g 57) (xs.map u8C)) (λ g _=> slA 5 (g 57) (xs.map u8C)) (λ L a w fp _ hp=> ⟨.string (textOf xs),w,fp,conv1 (v:=.slice (sa (slots a 57)) (sn (slots a 57)) (sc (slots a 57))) rfl (kr (by kernel_rfl)) (run_back (slSelf hp)),kr (by kernel_rfl),hp,Tr.refl _ _⟩), .convR _ 16 (.slice ba bn bc) (textOf xs) hb, .eqlStr _ 17 (textOf xs),trivial⟩;refine wp_regD ok (by kernel_rfl) ⟨c1,c2⟩ ⟨c3,λ p hp=> ?_⟩ hS λ A1 w1 N1 H1=> ?_
 · simp only [gSdc7,rgx,List.map_nil,List.append_nil,List.mem_cons,List.not_mem_nil,or_false] at hp
   rcases hp with rfl | rfl | rfl | rfl
   · exact i1
   · exact i7
   · exact i6
   · exact i5
 exact N1.fin [57] (hQ (slots A1 57) w1 ⟨_,_,_,(N1.val 13 rfl)⟩ H1) (by kernel_rfl)
theorem slA_bytes {w:World} {v:Value} {x:List UInt8} {f:List Nat} (h:(slA 5 v (x.map u8C)).p w f):BytesX [] w x v/\SlC v x.length:=by
 refine ⟨?_,?_⟩
 · have h1:=SlX.of_sl (X:=[]) h (by simp)
   rw [List.length_map] at h1;exact h1
 · obtain ⟨a,c,e,h1,h2, -⟩:=sl_get h
   rw [List.length_map] at e h1;exact ⟨a,c,e,h1,h2⟩
theorem encI_many (L:LL):L.length<=(encI L).length:=by
 induction L with
 | nil=> simp
 | cons x L ih=>
  have e:encI (x::L)=numL x.1++rowB x.2++encI L:=rfl;rw [e];simp only [List.length_append,numL_length,List.length_cons];omega
theorem encD_many:∀{D:Db} {t:Nat×LL×Int},t∈D->t.2.1.length<=(encD D).length
 | u::D,t,h=> by
  rw [encD_cons,List.length_append];rcases List.mem_cons.1 h with rfl | h
  · have:=encI_many t.2.1
    simp only [encT,List.length_append];omega
  · have:=encD_many h
    omega
theorem sdecode_calls (td:List Td) (sv:Value) (b:List UInt8) (bv:Value) (W:World) (hs:SchX W td sv) (hb:BytesX [] W b bv) (hcp:SlC bv b.length):Calls Tryz.prog 10 #[sv,bv] W λ e W'=> e=.returned (.bool true)/\Below W.heap.size W W':=by
 obtain ⟨sa,sc,rfl⟩:=hs.sl.shape;obtain ⟨ba,bc,rfl,hbc,hbm⟩:=hcp;have HAW:=Lib.hid (λ w'=> awake40_calls w');have HSX:=Lib.hid hs;have HB:=Lib.hid hb;have HCP:Hid (SlC (.slice ba b.length bc) b.length):=⟨ba,bc,rfl,hbc,hbm⟩
 have HSML:Hid (∀w',Below W.heap.size W w'->Calls Tryz.prog 13 #[.slice sa td.length sc, .slice none 0 0] w' λ e w2=> QPost (SmallP td []) w' e w2):=λ w' hw=> Small_calls td [] _ _ w' (hs.mono hw) (ChsX.nil w');obtain ⟨n,hn⟩:∃n,td.length=n:=⟨_,rfl⟩
 obtain ⟨m,hm⟩:∃m,b.length=m:=⟨_,rfl⟩
 rw [hn] at HSML HSX ⊢;rw [hm] at HB HCP ⊢;have HN:=Lib.hid hn;have HM:=Lib.hid hm;have hmm:=hb.1;rw [hm] at hmm;unfold maxLen at hmm;clear hs hb hn hm hbc hbm;go_enter Tryz.func10,Tryz.ntmps10;go_wp2_with fail;(with_reducible refine (HAW.out _).mono ?_);rintro e w1 ⟨rfl,hb1⟩;have HB1:=Lib.hid hb1;have HSM:=Lib.hid (HSML.out w1 hb1);clear hb1 HSML;go_wp2_with fail;(with_reducible refine HSM.out.mono ?_);rintro e w2 ⟨q,rfl,hq,rfl⟩;have HQ:=Lib.hid hq;clear hq HSM;cases q with
 | false=>
  go_wp2_with fail;(with_reducible refine (HAW.out _).mono ?_);rintro e w3 ⟨rfl,hb3⟩;have HB3:=Lib.hid (HB1.out.trans (hb3.mono HB1.out.size));clear hb3;go_wp2;go_ret;exact ⟨rfl,HB3.out⟩
 | true=>
  have hsp:=HQ.out rfl;have HTD:Hid ((∀t∈td,t.Sm)/\td.length<=4):=⟨λ t ht=> (hsp.tds t ht).sm,hsp.tn⟩
  clear HQ hsp;by_cases h500:m<=500
  · have hs4:=(St.start (w:=w1) (L:=[]) (fp:=[]) rfl).litA [] (by decide)
    have HS4:Hid (St w1 [] (slA 5 (.slice (some ⟨w1.heap.size,0,none⟩) 0 0) (([]:List UInt8).map u8C)::[]) (w1.alloc (.cells #[] 5))):=hs4;have HSRC:Hid (Go.Src Tryz.prog 1 52 (.slice ba m bc) m (b.map u8C) (w1.alloc (.cells #[] 5))):=by have h:=SlX.mono (SlX.mono HB.out HB1.out) ((Below.refl w1.heap.size w1).alloc (Nat.le_refl _) (.cells #[] 5));rw [HM.out] at h;exact h.src (e':=5) (by kernel_rfl) (by decide) (u8C_one b)
    have HLN4:Hid ((([]:List UInt8).map u8C).length+m < 1099511627776):=by show _ < _;simp only [List.map_nil,List.length_nil];omega
    have HLB:Hid (b.length < 100000000):=by show _ < _;rw [HM.out];omega
    clear hs4;go_upto_region 3 with (fail)
    go_wp2_with (first
     | (at_builtin;go_loud (refine wpList_appSl rfl _ _ _ _ rfl rfl rfl appBS HS4.out HSRC.out HLN4.out ?_);intro v5 w5 h5))
    have h5':St w1 [] (slA 5 v5 (b.map u8C)::[]) w5:=h5.out;have HDC:Hid (Calls Tryz.prog 34 #[.slice sa n sc,v5] w5 λ e w'=> DecDP w1 [] [slA 5 v5 (b.map u8C)] (td.map (·.n)) b e w'):=
     decode_calls td _ b v5 HTD.out.1 (by have:=HTD.out.2;omega) HLB.out w1 w5 [] _ _ ⟨[],rfl⟩ (λ L w h=> HSX.out.mono (HB1.out.trans (h.below0.mono HB1.out.size))) ⟨(by obtain ⟨_,hv⟩:=h5'.has 0 rfl;exact (slA_bytes hv).2),Rd.of_piece 0 rfl λ w f hf=> (slA_bytes hf).1⟩ h5'
    clear h5 h5' HS4 HSRC HLN4;(with_reducible refine HDC.out.mono ?_);rintro e w6 ⟨q,pv,hq,rfl,h6⟩;have HQ:=Lib.hid hq;have HRS:Hid (Rd w1 [] [] λ W=> SchX W td (.slice sa n sc)):=λ L w h=> HSX.out.mono (HB1.out.trans (h.below0.mono HB1.out.size));have HRB:Hid (Rd w1 [] [] λ W=> BytesX [] W b (.slice ba m bc)):=λ L w h=> SlX.mono HB.out (HB1.out.trans (h.below0.mono HB1.out.size));have HCB:Hid (SlC (.slice ba m bc) b.length):=by show SlC _ _;rw [HM.out];exact HCP.out
    cases q with
    | none=>
     obtain ⟨rfl,h6⟩:=h6;have HRR:=Lib.hid (rread_calls td _ b _ (by have:=HTD.out.2;omega) HLB.out w1 w6 _ h6 HRS.out HRB.out HCB.out);clear hq h6 HDC;simp only [Option.isSome_none,Bool.false_eq_true,if_false];go_wp2_with fail;(with_reducible refine HRR.out.mono ?_);rintro e w7 ⟨q7,ms,ma,mc,P,rfl,hq7,h7, -, -⟩;obtain rfl:=hq7.uniq HQ.out;have HF:=Lib.hid (HB1.out.trans (h7.below0.mono HB1.out.size));obtain ⟨mn,hmn⟩:∃mn,ms.length=mn:=⟨_,rfl⟩
     rw [hmn];clear HRR hq7 h7 hmn;simp only [Option.isSome_none];go_wp2;go_ret;exact ⟨rfl,HF.out⟩
    | some D=>
     obtain ⟨sb,rfl,h6⟩:=h6;have HRR:=Lib.hid (rread_calls td _ b _ (by have:=HTD.out.2;omega) HLB.out w1 w6 _ h6 HRS.out HRB.out HCB.out);clear hq h6 HDC;simp only [Option.isSome_some,if_true];go_wp2_with fail;(with_reducible refine HRR.out.mono ?_);rintro e w7 ⟨q7,ms,ma,mc,M,rfl,hq7,h7,hr7,hok⟩;obtain rfl:=hq7.uniq HQ.out;have HMS:=Lib.hid (hok D rfl);have HMR:=Lib.hid hr7;obtain ⟨mn,hmn⟩:∃mn,ms.length=mn:=⟨_,rfl⟩
     rw [hmn] at HMR ⊢;have hlt:∀t∈D,t.2.1.length < 1000000:=λ t ht=> by have h1:=encD_many ht;rw [<-HQ.out.2.2,HM.out] at h1;omega
     have hS7:St w1 [] (stA sb D::(M++[slA 5 v5 (b.map u8C)])) w7:=h7.perm (by classical refine List.perm_iff_count.2 λ a=> ?_;simp only [List.count_append,List.count_cons,List.count_nil];omega);have hn4:D.length<=4:=by have h1:=congrArg List.length HQ.out.1;rw [List.length_map,List.length_map] at h1;have:=HTD.out.2;omega
     have HEO:=Lib.hid (TabOk.enc (db_tab hS7 hlt) hn4 hlt);have HLT:=Lib.hid hlt;have HS7:=Lib.hid hS7;have hbd:b=encD D:=HQ.out.2.2;have HBD:=Lib.hid hbd;clear h7 hr7 hok hq7 hmn hlt hS7 hn4 hbd HRR;simp only [Option.isSome_some];go_upto_region 7 with (fail)
     refine rSdc7 (w0:=w1) (fp0:=[]) (R:=M++[slA 5 v5 (b.map u8C)]) ba m bc sb (.slice ma mn mc) b D (λ L w h=> ?hconv) (λ w h=> ?hsame) (λ w h=> ?henc) rfl (by kernel_rfl) rfl rfl rfl rfl rfl rfl ((St.emp.2 HS7.out).perm (List.Perm.swap _ _ _)) ?_
     case hconv=> exact conv_bytes (HRB.out (L++(M++[slA 5 v5 (b.map u8C)])) w (by simpa using h))
     case hsame=>
      have h1:St w1 [] (stA sb D::(M++[slA 5 v5 (b.map u8C)])) w:=St.emp.1 (h.perm (List.Perm.swap _ _ _));refine (same_calls sb D ms _ HMS.out HLT.out w1 w [] _ (HMR.out.appR _) h1).mono ?_;rintro e w' ⟨rfl,h2⟩;exact ⟨rfl,(St.emp.2 h2).perm (List.Perm.swap _ _ _)⟩
     case henc=>
      have h1:St w1 [] (stA sb D::(M++[slA 5 v5 (b.map u8C)])) w:=St.emp.1 (h.perm (List.Perm.swap _ _ _));refine (encode_calls sb D HEO.out w1 w [] _ h1).mono ?_;rintro e w' ⟨a2,m2,c2,rfl,h2⟩;rw [<-HBD.out] at h2;exact ⟨a2,m2,c2,rfl,h2.perm (List.Perm.swap _ _ _)⟩
     intro u57 w8 _ h8;have HF:=Lib.hid (HB1.out.trans (h8.below0.mono HB1.out.size));clear h8 HS7;simp only [putL,List.foldl,Act.put,List.setIfInBounds_toArray,List.set_cons_succ,List.set_cons_zero];go_wp2;go_ret;exact ⟨rfl,HF.out⟩
  · have hgt:(500:Int) < m:=by omega
    go_wp2_with fail;(with_reducible refine (HAW.out _).mono ?_);rintro e w3 ⟨rfl,hb3⟩;have HB3:=Lib.hid (HB1.out.trans (hb3.mono HB1.out.size));clear hb3;go_wp2;go_ret;exact ⟨rfl,HB3.out⟩
end
end Go.Proofs.YtpdlkdoogojboaaGreat
