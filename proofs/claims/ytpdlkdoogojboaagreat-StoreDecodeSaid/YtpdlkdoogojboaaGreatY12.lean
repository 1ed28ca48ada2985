/- Part 12 of the proof: Ji, Jj, Jk, Jn, Mk, Jo, Jr, Mlr, Ml, Mn, Js, Oh -/
import Derived.Test.YtpdlkdoogojboaaGreatY11
import Derived.Test.YtpdlkdoogojboaaGreatY06
import Derived.Test.YtpdlkdoogojboaaGreatY10
import Derived.Test.YtpdlkdoogojboaaGreatY09
import Derived.Test.YtpdlkdoogojboaaGreatY07
set_option maxHeartbeats 16000000
set_option maxRecDepth 100000
namespace Go.Proofs.YtpdlkdoogojboaaGreat
open Go Go.RowKit
noncomputable section
def DecRP (b:List UInt8) (yes no:Value) (w:World) (e:Ending) (w':World):Prop:=
 ∃(q:Option Rw) (v:Value) (r:Rw),e=.returned (.tuple #[v,if q.isSome then yes else no])/\St w [] [rowA 68 3 v r.length (flat r)] w'/\DecP b q/\(q=some r\/q=none/\r=[])/\∃a n c,v=.slice a n c
theorem DecRP.bad {b:List UInt8} {yes no:Value} {w w':World} (h:DecP b none) (hb:Below w.heap.size w w'):DecRP b yes no w (.returned (.tuple #[.slice none 0 0,no])) w':=
 ⟨none, .slice none 0 0,[],rfl,St.nilR 68 3 ((St.start (w:=w) (L:=[]) (fp:=[]) rfl).mono hb),h, .inr ⟨rfl,rfl⟩,_,_,_,rfl⟩
theorem DecRP.good {b:List UInt8} {yes no v:Value} {w w':World} {r:Rw} (h:DecP b (some r)) (hs:St w [] [rowA 68 3 v r.length (flat r)] w'):DecRP b yes no w (.returned (.tuple #[v,yes])) w':=by
 obtain ⟨_,hr⟩:=hs.has 0 rfl;obtain ⟨a,c,e, -⟩:=row_shape hr;exact ⟨some r,v,r,rfl,hs,h, .inl rfl,a,_,c,e⟩
theorem text_ne (c:UInt8) (l:List UInt8):(textOf (c::l)).toList.isEmpty=false:=by
 cases h:(textOf (c::l)).toList with
 | nil=>
  have h1:=(text_mt _).1 h;have h2:=congrArg bytes h1;rw [bytes_textOf] at h2;cases h2
 | cons a l=> rfl
theorem decodeRow_calls (b:List UInt8) (bv:Value) (hl:b.length < 1099511627776) (w:World) (hb:BytesX [] w b bv):
 Calls Tryz.prog 99 #[bv] w λ e w'=> DecRP b (.int .i64 0) (.int .i64 2) w e w':=by
 obtain ⟨ba,n,bc,rfl,hn⟩:=hb.shape;have hcv:=conv_bytes hb;have H0:Hid (St w [] [rowA 68 3 (.slice none 0 0) ([]:Rw).length (flat [])] w):=St.nilR 68 3 (St.start (w:=w) (L:=[]) (fp:=[]) rfl);have HL:=Lib.hid hl;have HM:Hid (∀t,textOf t=textOf b->t=b):=λ t h=> by
  have:=congrArg bytes h
  rwa [bytes_textOf,bytes_textOf] at this
 clear hb hn hl;go_enter Tryz.func99,Tryz.ntmps99;go_wp2;clear hcv;go_loopg [4,5] b.length (λ g z4 z5 wr=> ∃(d:Rw) (l:List UInt8),z5=.string (textOf l)/\l.length=g/\Hid (RowV d/\b=encR d++l/\d.length+l.length<=b.length)/\Hid (St w [] [rowA 68 3 z4 d.length (flat d)] wr))
 case atStart=> exact ⟨[],b,rfl,rfl,⟨λ v hv=> (nomatch hv),rfl,by simp⟩,H0⟩
 case round=>
  clear H0;obtain ⟨d,l,rfl,hlg,Hd,Hs⟩:=hrel;cases l with
  | nil=>
   have HF:Hid (DecP b (some d)):=⟨Hd.out.1,by rw [Hd.out.2.1,List.append_nil]⟩
   have ht:textOf []=⟨#[]⟩:=rfl;rw [ht];clear hlg;go_wp2;refine bodyPost_ret (v:=.tuple #[_, .int .i64 0]) (by simp [results,Tryz.results99,go_sem]) rfl (DecRP.good HF.out Hs.out)
  | cons c l=>
   have ht:=text_ne c l;have HFI:=Lib.hid (λ w=> first_calls c l (by have:=HL.out;have:=Hd.out.2.2;rw [List.length_cons] at this;omega) w);have HX:Hid (∀m,(textOf (c::l)).extract m (textOf (c::l)).size=textOf ((c::l).drop m)):=λ m=> by rw [text_ext,text_size,List.take_length]
   have HZ:Hid ((textOf (c::l)).size=l.length+1):=by show _=_;rw [text_size,List.length_cons]
   obtain ⟨s,hs⟩:∃s,textOf (c::l)=s:=⟨_,rfl⟩
   rw [hs] at ht HFI HX HZ ⊢;have Hlg:=Lib.hid hlg;clear hs hlg;go_wp2_with fail;(with_reducible refine (HFI.out _).mono ?_);rintro e w1 ⟨⟨⟨K,I,T⟩,m,he,hvi,hvt,hm,hbad,hgood⟩,hb1⟩;unfold Vl.val at he;subst he;clear HFI;simp only at hvi hvt;have Hs1:=Lib.hid (Hs.out.mono hb1);have HVI:=Lib.hid hvi;have HVT:=Lib.hid hvt;have HMM:=Lib.hid hm;have HBAD:=Lib.hid hbad;have HGOOD:=Lib.hid hgood;clear Hs hvi hvt hm hbad hgood hb1;have HW:=Lib.hid (Hs1.out.newblk 68 #[.int .i64 K, .int .i64 I, .string T]);have V:=VarIs.new w1 #[.int .i64 K, .int .i64 I, .string T] 68;by_cases hm0:m=0
   · subst hm0
     have HF:Hid (DecP b none):=by show DecP b none;rw [Hd.out.2.1];exact DecP.fail Hd.out.1 (by simp) (HBAD.out (.inl rfl))
     have HB:=Lib.hid HW.out.below0;clear HGOOD HBAD;go_wp2;refine bodyPost_ret (v:=.tuple #[.slice none 0 0, .int .i64 2]) (by simp [results,Tryz.results99,go_sem]) rfl ?_;exact DecRP.bad HF.out HB.out
   · have HVC:=Lib.hid (valid_calls ⟨K,I,T⟩)
     unfold Vl.val at HVC;simp only at HVC;have hmn:((m:Int)==0)=false:=by simp;omega
     cases hok:okV ⟨K,I,T⟩
     · rw [hok] at HVC
       have HF:Hid (DecP b none):=by show DecP b none;rw [Hd.out.2.1];exact DecP.fail Hd.out.1 (by simp) (HBAD.out (.inr hok))
       have HB:=Lib.hid HW.out.below0;clear HGOOD HBAD hok hm0;go_wp2_with fail;(with_reducible refine (HVC.out _ ?tx).mono ?_)
       case tx=> have:=HL.out;have:=HVT.out;have:=Hd.out.2.2;unfold maxLen;omega
       rintro e w2 ⟨rfl,hb2⟩;have HB2:=Lib.hid (HB.out.trans (hb2.mono HB.out.size));clear hb2 HVC;go_wp2;refine bodyPost_ret (v:=.tuple #[.slice none 0 0, .int .i64 2]) (by simp [results,Tryz.results99,go_sem]) rfl ?_;exact DecRP.bad HF.out HB2.out
     · rw [hok] at HVC
       obtain ⟨v1,v2,v3⟩:=fstL_some (HGOOD.out hm0 hok);have HN:Hid (RowV (d++[(⟨K,I,T⟩:Vl)])/\b=encR (d++[(⟨K,I,T⟩:Vl)])++(c::l).drop m/\(d++[(⟨K,I,T⟩:Vl)]).length+((c::l).drop m).length<=b.length):=by
        refine And.intro (Hd.out.1.snoc hok HVI.out) (And.intro ?_ ?_)
        · rw [encR_app,List.append_assoc]
          show b=encR d++(encL _++[]++_)
          rw [List.append_nil,<-v3];exact Hd.out.2.1
        · have h1:=Hd.out.2.2
          have h2:=HMM.out;rw [List.length_append,List.length_drop];simp only [List.length_cons,List.length_nil] at h1 h2 ⊢;omega
       clear HGOOD HBAD hok v1 v2 v3;go_wp2_with fail;(with_reducible refine (HVC.out _ ?tx).mono ?_)
       case tx=> have:=HL.out;have:=HVT.out;have:=Hd.out.2.2;unfold maxLen;omega
       rintro e w2 ⟨rfl,hb2⟩;have HW2:=Lib.hid (HW.out.mono hb2);clear hb2 HVC HW V;generalize w1.heap.size=pv at *;go_upto_region 7 with (fail)
       refine rDr7 (w0:=w) (fp0:=[]) (R:=[]) pv d.length m _ s (textOf ((c::l).drop m)) T K I (flat d) (by have:=HL.out;have:=Hd.out.2.2;rw [List.length_cons] at this;omega) (by have:=HZ.out;have:=HMM.out;rw [List.length_cons] at this;omega) (HX.out m) rfl (by kernel_rfl) rfl rfl rfl rfl rfl rfl (St_re (L:=[_,_,_]) (St.emp.2 HW2.out) [1,0,2] [] (by kernel_rfl)) ?_;intro u4' u26 u27 w3 _ ⟨ya,yn,yc,e27⟩ e4 h3;subst e27;obtain rfl:u4'=.slice ya yn yc:=e4;have HS3:Hid (St w [] [rowA 68 3 (.slice ya yn yc) (d++[(⟨K,I,T⟩:Vl)]).length (flat (d++[(⟨K,I,T⟩:Vl)]))] w3):=by show St _ _ _ _;rw [flat_append,List.length_append];exact h3.drop.drop
       clear h3 HW2;simp only [putL,List.foldl,Act.put,List.setIfInBounds_toArray,List.set_cons_succ,List.set_cons_zero];go_wp2;go_roundg ((c::l).drop m).length
       case rel=> exact ⟨d++[⟨K,I,T⟩],(c::l).drop m,rfl,rfl,HN,HS3⟩
       case measure=>
        have h1:=Hlg.out;have h2:=HMM.out;rw [List.length_drop];simp only [List.length_cons] at h1 h2 ⊢;omega
theorem fst1 (l:List UInt8):fstL (1::l)=some (nullV,l):=by rw [fstL,if_pos rfl]
theorem fst2 {l:List UInt8} (h:8<=l.length):fstL (2::l)=some (⟨1,unL (l.take 8),⟨#[]⟩⟩,l.drop 8):=by rw [fstL,if_neg (by decide),if_pos rfl,if_pos h]
theorem takeW_step {l:List UInt8} {k:Nat} (hk:k < l.length) (h:(l.take k).all prB=true) (hp:prB (l[k]'hk)=true):(l.take (k+1)).all prB=true:=by
 rw [List.take_add_one,List.getElem?_eq_getElem hk,List.all_append,h];simp [hp]
theorem takeW_stop {l:List UInt8} {k:Nat} (h:(l.take k).all prB=true) (hk:k<=l.length) (hp:∀(h:k < l.length),prB (l[k]'h)=false):l.takeWhile prB=l.take k:=by
 by_cases hl:k < l.length
 · have e:l=l.take k++l[k]::l.drop (k+1):=by
    conv=> lhs;rw [<-List.take_append_drop k l,List.drop_eq_getElem_cons hl]
   conv=> lhs;rw [e]
   exact takeW_app h (hp hl)
 · have:l.take k=l:=List.take_of_length_le (by omega)
   rw [this] at h ⊢;clear this hp hl hk
   induction l with
   | nil=> rfl
   | cons c l ih=>
    rw [List.all_cons,Bool.and_eq_true] at h;rw [List.takeWhile_cons,if_pos h.1,ih h.2]
theorem fst3 (l:List UInt8) (k:Nat) (h:l.takeWhile prB=l.take k) (hk:k<=l.length):fstL (3::l)=if l[k]? =some 0/\k<=16 then some (⟨2,0,textOf (l.take k)⟩,l.drop (k+1)) else none:=by
 have hl:(l.take k).length=k:=by rw [List.length_take];omega
 rw [fstL,if_neg (by decide),if_neg (by decide),if_pos rfl,headD,h,hl]
theorem dec_step {b:List UInt8} {d:Rw} {k k':Nat} {v:Vl} (h:RowV d/\b=encR d++b.drop k/\d.length<=k) (hf:fstL (b.drop k)=some (v,b.drop k')) (hk:k < k'):RowV (d++[v])/\b=encR (d++[v])++b.drop k'/\(d++[v]).length<=k':=by
 obtain ⟨v1,v2,v3⟩:=fstL_some hf;refine ⟨h.1.snoc v1 v2,?_,by rw [List.length_append];simp only [List.length_cons,List.length_nil];have:=h.2.2;omega⟩;rw [encR_app,List.append_assoc];show b=encR d++(encL _++[]++_)
 rw [List.append_nil,<-v3];exact h.2.1
theorem dec_fail {b:List UInt8} {d:Rw} {k:Nat} (h:RowV d/\b=encR d++b.drop k/\d.length<=k) (hk:k < b.length) (hf:fstL (b.drop k)=none):DecP b none:=by
 rw [h.2.1];refine DecP.fail h.1 (λ e=> ?_) hf;have:=congrArg List.length e;rw [List.length_drop,List.length_nil] at this;omega
theorem St.snocV {w:World} {d:Rw} {u:Value} {K I:Int} {T:ByteArray} {w':World} {L:List Asn} (h:St w [] (rowA 68 3 u (d.length+1) (flat d++[.int .i64 K, .int .i64 I, .string T])::L) w'):St w [] (rowA 68 3 u (d++[(⟨K,I,T⟩:Vl)]).length (flat (d++[(⟨K,I,T⟩:Vl)]))::L) w':=by
 rw [flat_append,List.length_append];exact h
theorem one3 (K I:Int) (T:ByteArray):∀u∈(#[.int .i64 K, .int .i64 I, .string T]:Array Value).toList,u.oneCell'=true:=by
 intro u hu;simp only [List.mem_cons,List.not_mem_nil,or_false] at hu;rcases hu with rfl | rfl | rfl <;> rfl
theorem rdecode_calls (b:List UInt8) (bv:Value) (hl:b.length < 1099511627776) (w:World) (hb:BytesX [] w b bv) (hcp:SlC bv b.length):
 Calls Tryz.prog 101 #[bv] w λ e w'=> DecRP b (.bool true) (.bool false) w e w':=by
 obtain ⟨ba,n,bc,rfl,hn⟩:=hb.shape;obtain ⟨_,_,e0,hcap,hcm⟩:=hcp;obtain ⟨rfl, -,rfl⟩:=Value.slice.inj e0;rw [<-hn] at hcap;clear e0;have HCAP:=Lib.hid hcap;have HCM:=Lib.hid hcm;clear hcap hcm;have H0:Hid (St w [] [rowA 68 3 (.slice none 0 0) ([]:Rw).length (flat [])] w):=St.nilR 68 3 (St.start (w:=w) (L:=[]) (fp:=[]) rfl);have HL:=Lib.hid hl;have HB:=Lib.hid hb;have HN:=Lib.hid hn;have hnl:n < 1099511627776:=by omega
 clear hb hl hn;go_enter Tryz.func101,Tryz.ntmps101;go_upto_region 3 with (fail)
 go_loopg [4,5] n (λ g z4 z5 wr=> ∃(d:Rw) (k:Nat),z5=.int .i64 k/\k+g=n/\Hid (RowV d/\b=encR d++b.drop k/\d.length<=k)/\Hid (St w [] [rowA 68 3 z4 d.length (flat d)] wr))
 case atStart=> exact ⟨[],0,rfl,by omega,⟨λ v hv=> (nomatch hv),rfl,Nat.le_refl _⟩,H0⟩
 case round=>
  clear H0;obtain ⟨d,k,rfl,hkg,Hd,Hs⟩:=hrel;by_cases hk:k < n
  · have hkb:k < b.length:=by rw [<-HN.out];exact hk
    have hbw:=HB.out.mono Hs.out.below0;obtain ⟨bb,o,rfl,hbl⟩:=BytesX.has hbw (by omega);have hc:=BytesX.cell hbw k hkb;have hkn:(k:Int) < n:=by omega
    have Hkg:=Lib.hid hkg;have HD:=Lib.hid (List.drop_eq_getElem_cons hkb);generalize (b[k]'hkb)=c at *;have b1:=byte_eq (c:=c) 1 (by decide);have b2:=byte_eq (c:=c) 2 (by decide);have b3:=byte_eq (c:=c) 3 (by decide);clear hkg hbw;by_cases h1:c=1
    · subst h1
      have HNX:=Lib.hid (dec_step Hd.out (k':=k+1) (by rw [HD.out];exact fst1 _) (by omega));have hw1:wrap64 ((k:Int)+1)=((k+1:Nat):Int):=by unfold wrap64;omega
      have hln:d.length+1 < 1099511627776:=by have:=Hd.out.2.2;omega
      have HLN:=Lib.hid hln;clear hln;go_wp2_with (at_builtin;go_loud (refine wpList_appR rfl _ _ _ _ rfl rfl rfl appW (Hs.out.mono ((Below.refl _ _).alloc (Nat.le_refl _) _)) (src_litk (e':=68) (by kernel_rfl) _ 3 _ 1 _ _ _ #[.int .i64 0, .int .i64 0, .string ⟨#[]⟩] (heap_alloc_new _ _) rfl (one3 _ _ _)) HLN.out ?_);intro v3 w3 h3);go_roundg (gk - 1)
      case rel=> exact ⟨_,k+1,by go_num,by have:=Hkg.out;omega,HNX,St.snocV h3.out⟩
      case measure=> have:=Hkg.out;omega
    · have g1 : ((c.toNat:Int)==1)=false:=by rw [show ((1:Int)=((1:Nat):Int)) from rfl,b1];simpa using h1
      have HBW:=Lib.hid (HB.out.mono Hs.out.below0);have Hkb:=Lib.hid hkb;obtain ⟨l,hl⟩:∃l,b.drop (k+1)=l:=⟨_,rfl⟩
      have hll:l.length=n - (k+1):=by rw [<-hl,List.length_drop,HN.out]
      have HLL:=Lib.hid hll;have HLC:Hid (∀j (hj:j < l.length),wr.cell? ⟨bb,o+(k+1+j),none⟩=some (.int .u8 (l[j]'hj).toNat)):=λ j hj=> by
       have hj':k+1+j < b.length:=by rw [hll,HN.out] at hj;omega
       have e:=BytesX.cell HBW.out (k+1+j) hj';rw [e];subst hl;rw [List.getElem_drop]
      have HDL:=Lib.hid hl;rw [hl] at HD;clear hl hll hkb;by_cases h2:c=2
      · subst h2
        clear g1;by_cases h9:k+9<=n
        · have hw9:wrap64 ((k:Int)+9)=((k+9:Nat):Int):=by unfold wrap64;omega
          have hw1:wrap64 ((k:Int)+1)=((k+1+0:Nat):Int):=by unfold wrap64;omega
          have e9:l.drop 8=b.drop (k+9):=by rw [<-HDL.out,List.drop_drop]
          have HNX:=Lib.hid (dec_step Hd.out (k':=k+9) (by rw [HD.out,fst2 (by rw [HLL.out];omega),e9]) (by omega));clear e9;have hln:d.length+1 < 1099511627776:=by have:=Hd.out.2.2;omega
          have HLN:=Lib.hid hln;have h0:(0:Int)=((unN (l.take 0):Nat):Int):=rfl;obtain ⟨wr0,rfl⟩:∃x,x=wr:=⟨_,rfl⟩
          obtain ⟨gk0,rfl⟩:∃x,x=gk:=⟨_,rfl⟩
          clear hln;go_upto_region 11 with (fail)
          go_loopg [6,7] 8 (λ gm z6 z7 wr=> ∃j:Nat,z7=.int .i64 ((k+1+j:Nat):Int)/\z6=.int .u64 (unN (l.take j):Nat)/\gm+j=8/\wr=wr0)
          case atStart=> exact ⟨0,rfl,rfl,rfl,rfl⟩
          case round=>
           obtain ⟨j,rfl,rfl,hgj,rfl⟩:=hrel;clear h0;by_cases hj:j < 8
           · have hjl:j < l.length:=by rw [HLL.out];omega
             have hcj:=HLC.out j hjl;have hjn:((k+1+j:Nat):Int) < ((k+9:Nat):Int):=by omega
             have hjm:((k+1+j:Nat):Int) < n:=by omega
             have hj0:(0:Int)<=((k+1+j:Nat):Int):=by omega
             have hw2:wrap64 (((k+1+j:Nat):Int)+1)=((k+1+(j+1):Nat):Int):=by unfold wrap64;omega
             have hu:unN (l.take j) < 2 ^ 56:=by have:=unN_lt (l.take j);rw [List.length_take] at this;refine Nat.lt_of_lt_of_le this ?_;have:(256:Nat) ^ min j l.length<=256 ^ 7:=Nat.pow_le_pow_right (by decide) (by omega);exact this
             have HST:=Lib.hid (unN_step hjl);have hy:=(l[j]'hjl).toNat_lt;generalize (l[j]'hjl).toNat=y at *;have h1:IntKind.u64.wrap (y:Int)=(y:Int):=by simp only [IntKind.wrap,IntKind.bits,IntKind.signed];simp;omega
             have Hgj:=Lib.hid hgj;generalize unN (l.take j)=s at *;have h2:IntKind.u64.wrap ((s:Int) * 256)=((s * 256:Nat):Int):=by simp only [IntKind.wrap,IntKind.bits,IntKind.signed];simp;omega
             have h3:IntKind.u64.wrap (((s * 256:Nat):Int)+(y:Int))=((s * 256+y:Nat):Int):=by simp only [IntKind.wrap,IntKind.bits,IntKind.signed];simp;omega
             obtain ⟨K,hK⟩:∃K,k+1+j=K:=⟨_,rfl⟩
             have HK:=Lib.hid hK;rw [hK] at hcj hjn hjm hj0 hw2 ⊢;obtain ⟨K2,hK2⟩:∃K2,k+1+(j+1)=K2:=⟨_,rfl⟩
             rw [hK2] at hw2;have HK2:=Lib.hid hK2;obtain ⟨N9,hN9⟩:∃N9,k+9=N9:=⟨_,rfl⟩
             rw [hN9] at hjn hw9;have hjn2:(K:Int) < (k:Int)+9:=by omega
             have H9:=Lib.hid h9;have Hj:=Lib.hid hj;clear hgj hjl hK hK2 h9 hN9 hw1 b1 b2 b3 hc hj hkn hbl;go_wp2;go_roundg (gk - 1)
             case rel=> exact ⟨j+1,congrArg (Value.int .i64) (by have:=HK2.out;have:=HK.out;omega),by rw [HST.out];first | rfl | (rw [<-h3];rfl),by have:=Hgj.out;have:=Hj.out;omega,rfl⟩
             case measure=> have:=Hgj.out;have:=Hj.out;omega
           · obtain rfl:j=8:=by omega
             have hu:unN (l.take 8) < 2 ^ 64:=by have:=unN_lt (l.take 8);rw [List.length_take] at this;refine Nat.lt_of_lt_of_le this ?_;have:(256:Nat) ^ min 8 l.length<=256 ^ 8:=Nat.pow_le_pow_right (by decide) (by omega);exact this
             have hx:=xor_un _ hu;rw [wrapEq] at hx;have HX:Hid (wrap64 (bits .xor .u64 (unN (l.take 8):Int) 9223372036854775808)=unL (l.take 8)):=hx;have hjn:¬ ((k+1+8:Nat):Int) < ((k+9:Nat):Int):=by omega
             obtain ⟨N9,hN9⟩:∃N9,k+9=N9:=⟨_,rfl⟩
             rw [hN9] at hw9;rw [show k+1+8=N9 from hN9];have hjn2:¬ (N9:Int) < (k:Int)+9:=by omega
             clear hjn;have H9:=Lib.hid h9;have HN9:=Lib.hid hN9;clear hx hu h9 hN9 hw1 b1 b2 b3 hc hj hkn hbl;generalize unN (l.take 8)=u at *;generalize unL (l.take 8)=U at *;obtain ⟨E,hE⟩:∃E,wrap64 (bits .xor .u64 (u:Int) 9223372036854775808)=E:=⟨_,rfl⟩
             have hEU:E=U:=hE.symm.trans HX.out;subst hEU;clear HX hgj;go_wp2_with (at_builtin;go_loud (refine wpList_appR rfl _ _ _ _ rfl rfl rfl appW (Hs.out.mono ((Below.refl _ _).alloc (Nat.le_refl _) _)) (src_litk (e':=68) (by kernel_rfl) _ 3 _ 1 _ _ _ #[.int .i64 1, .int .i64 E, .string ⟨#[]⟩] (heap_alloc_new _ _) rfl (one3 _ _ _)) HLN.out ?_);intro v3 w3 h3);go_roundg (gk0 - 9)
             case rel=> exact ⟨_,k+9,congrArg (Value.int .i64) (by have:=HN9.out;omega),by have:=Hkg.out;have:=H9.out;omega,HNX,St.snocV h3.out⟩
             case measure=> have:=Hkg.out;omega
        · have HF:=Lib.hid (dec_fail Hd.out Hkb.out (by rw [HD.out];exact FirstP.two0 (by rw [HLL.out];omega)))
          have HB0:=Lib.hid Hs.out.below0;have hw9:wrap64 ((k:Int)+9)=((k+9:Nat):Int):=by unfold wrap64;omega
          have h9':¬ (k:Int)+9<=n:=by omega
          go_wp2;refine bodyPost_ret (v:=.tuple #[.slice none 0 0, .bool false]) (by simp [results,Tryz.results101,go_sem]) rfl (DecRP.bad HF.out HB0.out)
      · have g2 : ((c.toNat:Int)==2)=false:=by rw [show ((2:Int)=((2:Nat):Int)) from rfl,b2];simpa using h2
        by_cases h3:c=3
        · subst h3
          clear g1 g2 b1 b2 b3;have hw1:wrap64 ((k:Int)+1)=((k+1+0:Nat):Int):=by unfold wrap64;omega
          obtain ⟨wr0,rfl⟩:∃x,x=wr:=⟨_,rfl⟩
          obtain ⟨gk0,rfl⟩:∃x,x=gk:=⟨_,rfl⟩
          have Hk:=Lib.hid hk;go_upto_region 18 with (fail)
          clear hkn hc hk;go_loopg [8] l.length (λ gm z8 wr=> ∃j:Nat,z8=.int .i64 ((k+1+j:Nat):Int)/\gm+j=l.length/\Hid ((l.take j).all prB=true)/\wr=wr0)
          case atStart=> exact ⟨0,rfl,rfl,rfl,rfl⟩
          case round=>
           obtain ⟨j,rfl,hgj,Hp,rfl⟩:=hrel;have hw2:wrap64 (((k+1+j:Nat):Int)+1)=((k+1+(j+1):Nat):Int):=by have:=HLL.out;have:=Hk.out;unfold wrap64;omega
           have hjl0:j<=l.length:=by omega
           have HST:Hid ((∀(h:j < l.length),prB (l[j]'h)=false)->l.takeWhile prB=l.take j):=λ h=> takeW_stop Hp.out hjl0 h;have HF3:Hid (l.takeWhile prB=l.take j->fstL (b.drop k)=if l[j]? =some 0/\j<=16 then some (⟨2,0,textOf (l.take j)⟩,b.drop (k+1+(j+1))) else none):=λ h=> by rw [HD.out,fst3 l j h hjl0,<-HDL.out,List.drop_drop]
           have HNP:Hid (∀(hj:j < l.length),prB (l[j]'hj)=true->(l.take (j+1)).all prB=true):=λ hj h=> takeW_step hj Hp.out h;obtain ⟨K,hK⟩:∃K,k+1+j=K:=⟨_,rfl⟩
           obtain ⟨K2,hK2⟩:∃K2,k+1+(j+1)=K2:=⟨_,rfl⟩
           have HK:=Lib.hid hK;have HK2:=Lib.hid hK2;rw [hK2] at hw2 HF3;rw [hK] at hw2 ⊢;have hK0:(0:Int)<=K:=by omega
           by_cases hj:j < l.length
           · have hcj:=HLC.out j hj
             rw [hK] at hcj;have hKn:(K:Int) < n:=by have:=HLL.out;have:=Hk.out;omega
             obtain ⟨y,hy⟩:∃y,l[j]'hj=y:=⟨_,rfl⟩
             have hjq:l[j]? =some y:=by rw [List.getElem?_eq_getElem hj,hy]
             have Hjq:=Lib.hid hjq;have HY:Hid (prB y=true->(l.take (j+1)).all prB=true):=λ h=> HNP.out hj (by rw [hy];exact h);have HZ:Hid (prB y=false->l.takeWhile prB=l.take j):=λ h=> HST.out λ _=> by rw [hy];exact h
             rw [hy] at hcj;have Hgj:=Lib.hid hgj;have Hj:=Lib.hid hj;clear hjq hy hK hK2 hgj hjl0 HNP HST hj hw1;by_cases hy1:32<=y.toNat
             · by_cases hy2:y.toNat<=126
               · have HP2:Hid ((l.take (j+1)).all prB=true):=HY.out (by
                  have a1:¬ y < 32:=by rw [UInt8.lt_iff_toNat_lt];exact Nat.not_lt.2 hy1
                  have a2:¬ 126 < y:=by rw [UInt8.lt_iff_toNat_lt];exact Nat.not_lt.2 hy2
                  simp [prB,a1,a2])
                 clear HY HZ HF3;go_wp2;go_roundg (gk - 1)
                 case rel=> exact ⟨j+1,congrArg (Value.int .i64) (by have:=HK2.out;have:=HK.out;omega),by have:=Hgj.out;have:=Hj.out;omega,HP2,rfl⟩
                 case measure=> have:=Hgj.out;have:=Hj.out;omega
               · have hy0:((y.toNat:Int) !=0)=true:=by simp;omega
                 have HF:Hid (DecP b none):=dec_fail Hd.out Hkb.out (by
                  rw [HF3.out (HZ.out (by
                   have a2:126 < y:=by rw [UInt8.lt_iff_toNat_lt];exact Nat.lt_of_not_le hy2
                   simp [prB,a2])),if_neg]
                  rw [Hjq.out];rintro ⟨e, -⟩;obtain rfl:=Option.some.inj e;exact absurd hy2 (by decide))
                 have HB0:=Lib.hid Hs.out.below0;have hKn':((K:Int)==n)=false:=by simp;omega
                 clear HY HZ HF3;go_wp2;refine bodyPost_ret (v:=.tuple #[.slice none 0 0, .bool false]) (by simp [results,Tryz.results101,go_sem]) rfl (DecRP.bad HF.out HB0.out)
             · have HW:=Lib.hid (HF3.out (HZ.out (by
                have a1:y < 32:=by rw [UInt8.lt_iff_toNat_lt];exact Nat.lt_of_not_le hy1
                simp [prB,a1])))
               have hKn':((K:Int)==n)=false:=by simp;omega
               clear HY HZ HF3;by_cases hy0:y=0
               · subst hy0
                 by_cases hj16:j<=16
                 · have hd:¬ (16:Int) < (K:Int) - k - 1:=by have:=HK.out;omega
                   have hd0:(k:Int)+1<=K:=by have:=HK.out;omega
                   have hcap:=HCAP.out;have hKc:K<=bc:=by omega
                   have hcm:bc<=9223372036854775807:=HCM.out;have hx:(convert 52 9 (.slice (some ⟨bb,o+(k+1),none⟩) (K - (k+1)) (bc - (k+1)))).run Tryz.prog wr=.ok (.string (textOf (l.take j))) wr:=by
                    have h1:=BytesX.drop HBW.out (k+1) (bc - (k+1));rw [HDL.out,Option.map_some,add_plain] at h1;have h2:=h1.take j (bc - (k+1)) (Nat.le_of_lt Hj.out);have e:K - (k+1)=j:=by have:=HK.out;omega
                    rw [e];exact conv_bytes h2
                   have HNX:=Lib.hid (dec_step Hd.out (k':=K2) (by rw [HW.out,if_pos ⟨Hjq.out,hj16⟩]) (by have:=HK2.out;omega));have hln:d.length+1 < 1099511627776:=by have:=Hd.out.2.2;have:=Hk.out;omega
                   have HLN:=Lib.hid hln;clear hln HW;generalize textOf (l.take j)=T at *;go_wp2_with (at_builtin;go_loud (refine wpList_appR rfl _ _ _ _ rfl rfl rfl appW (Hs.out.mono ((Below.refl _ _).alloc (Nat.le_refl _) _)) (src_litk (e':=68) (by kernel_rfl) _ 3 _ 1 _ _ _ #[.int .i64 2, .int .i64 0, .string T] (heap_alloc_new _ _) rfl (one3 _ _ _)) HLN.out ?_);intro v3 w3 h3);go_roundg (gk0 - 2 - j)
                   case rel=> exact ⟨_,K2,congrArg (Value.int .i64) (by have:=HK2.out;have:=HK.out;omega),by have:=Hkg.out;have:=HK2.out;have:=HLL.out;have:=Hj.out;omega,HNX,St.snocV h3.out⟩
                   case measure=> have:=Hkg.out;have:=Hk.out;omega
                 · have HF:Hid (DecP b none):=dec_fail Hd.out Hkb.out (by
                    rw [HW.out,if_neg];rintro ⟨-,e⟩;exact hj16 e)
                   have HB0:=Lib.hid Hs.out.below0;have hd:(16:Int) < (K:Int) - k - 1:=by have:=HK.out;omega
                   have hd0:(k:Int)+1<=K:=by have:=HK.out;omega
                   clear HW;go_wp2;refine bodyPost_ret (v:=.tuple #[.slice none 0 0, .bool false]) (by simp [results,Tryz.results101,go_sem]) rfl (DecRP.bad HF.out HB0.out)
               · have hyz:((y.toNat:Int) !=0)=true:=by
                  have:y.toNat≠0:=λ e=> hy0 (by rw [<-UInt8.toNat_inj];exact e);simp;omega
                 have HF:Hid (DecP b none):=dec_fail Hd.out Hkb.out (by rw [HW.out,if_neg];rw [Hjq.out];rintro ⟨e, -⟩;exact hy0 (Option.some.inj e));have HB0:=Lib.hid Hs.out.below0;clear HW;go_wp2;refine bodyPost_ret (v:=.tuple #[.slice none 0 0, .bool false]) (by simp [results,Tryz.results101,go_sem]) rfl (DecRP.bad HF.out HB0.out)
           · have HF:Hid (DecP b none):=dec_fail Hd.out Hkb.out (by
              rw [HF3.out (HST.out λ h=> absurd h hj),if_neg];rw [List.getElem?_eq_none (by omega)];rintro ⟨e, -⟩;cases e)
             have HB0:=Lib.hid Hs.out.below0;have hKn:K=n:=by have:=HLL.out;have:=Hk.out;omega
             clear HF3 HST HNP hK hK2 hgj;subst hKn;go_wp2;refine bodyPost_ret (v:=.tuple #[.slice none 0 0, .bool false]) (by simp [results,Tryz.results101,go_sem]) rfl (DecRP.bad HF.out HB0.out)
        · have g3:((c.toNat:Int)==3)=false:=by rw [show ((3:Int)=((3:Nat):Int)) from rfl,b3];simpa using h3
          have HF:=Lib.hid (dec_fail Hd.out Hkb.out (by rw [HD.out];exact fst_other h1 h2 h3));have HB0:=Lib.hid Hs.out.below0;clear b1 b2 b3;go_wp2;refine bodyPost_ret (v:=.tuple #[.slice none 0 0, .bool false]) (by simp [results,Tryz.results101,go_sem]) rfl (DecRP.bad HF.out HB0.out)
  · obtain rfl:k=n:=by omega
    have HF:Hid (DecP b (some d)):=⟨Hd.out.1,by have:=Hd.out.2.1;rw [List.drop_of_length_le (by rw [HN.out];exact Nat.le_refl _),List.append_nil] at this;exact this.symm⟩
    clear hkg;go_wp2;refine bodyPost_ret (v:=.tuple #[_, .bool true]) (by simp [results,Tryz.results101,go_sem]) rfl (DecRP.good HF.out Hs.out)
def RowP (w0:World) (fp0:List Nat) (R B:List Asn) (p:Nat) (t:TypeId) (o:Option (List UInt8)) (e:Ending) (w':World):Prop:=
 ∃rv r v o2,e=.returned rv/\St w0 fp0 (rdrA p t v o2::rowA 68 3 rv r.length (flat r)::R) w'/\RdrP w0 fp0 B v o2/\RowS2 o r o2/\RowV r/\∃a n c,rv=.slice a n c
theorem RowS2.of {o o1 o2:Option (List UInt8)} {n:Int} {x:List UInt8} {q:Option Rw} {r:Rw} (h1:NumS o n o1) (h2:TakeS o1 n x o2) (h3:DecP x q) (hq:q=some r\/q=none/\r=[]):RowS2 o r (if q.isSome then o2 else none):=by
 have hn:o2=none->(if q.isSome then o2 else none)=none:=by rintro rfl;split <;> rfl
 cases o with
 | none=>
  obtain rfl:o1=none:=h1;exact hn h2.2
 | some l=>
  rcases h1 with ⟨m,g1,rfl⟩ | ⟨rfl,g1⟩
  · rcases h2 with ⟨k,hk,hkm,rfl,rfl⟩ | ⟨hb,rfl,rfl⟩
    · rcases hq with rfl | ⟨rfl,rfl⟩
      · exact .inl ⟨_,RowG.of g1 hk hkm h3,rfl⟩
      · exact .inr ⟨rfl,λ r q=> RowG.not3 g1 hk h3 r q⟩
    · exact .inr ⟨hn rfl,λ r q=> RowG.not2 g1 hb r q⟩
  · have:l.length < 8:=by
     apply Classical.byContradiction;intro h;exact g1 _ _ (NumG.of (by omega))
    exact .inr ⟨hn h2.2,λ r q=> RowG.not1 this r q⟩
theorem RowV.of {l:List UInt8} {q:Option Rw} {r:Rw} (h:DecP l q) (hq:q=some r\/q=none/\r=[]):RowV r:=by
 rcases hq with rfl | ⟨rfl,rfl⟩
 · exact h.1
 · exact λ v hv=> nomatch hv
theorem TakeS.len {o o2:Option (List UInt8)} {n:Int} {x:List UInt8} (h:TakeS o n x o2) {N:Nat} (ho:∀l,o=some l->l.length < N) (h0:0 < N):x.length < N:=by
 cases o with
 | none=> rw [h.1];exact h0
 | some l=>
  rcases h with ⟨k, -,hk,rfl, -⟩ | ⟨-,rfl, -⟩
  · rw [List.length_take]
    have:=ho l rfl;omega
  · exact h0
theorem NumS.len {o o2:Option (List UInt8)} {n:Int} (h:NumS o n o2) {N:Nat} (ho:∀l,o=some l->l.length < N):∀l,o2=some l->l.length < N:=by
 rintro m rfl;cases o with
 | none=> cases h
 | some l=>
  rcases h with ⟨m',g,e⟩ | ⟨e, -⟩
  · obtain rfl:=Option.some.inj e
    have:=g.len;have:=ho l rfl;omega
  · cases e
theorem rdRow_calls (p:Nat) (v:Value) (o:Option (List UInt8)) (ho:∀l,o=some l->l.length < 1099511627776) (w0 w:World) (fp0:List Nat) (R B:List Asn) (hB:∃M,R=M++B) (hS:St w0 fp0 (rdrA p 126 v o::R) w) (hR:RdrP w0 fp0 B v o):
 Calls Tryz.prog 65 #[.pointer (some ⟨p,0,none⟩)] w λ e w'=> RowP w0 fp0 R B p 126 o e w':=by
 have HT:=Lib.hid (rdNumber_calls p v o w0 w fp0 R B hB hS hR);obtain ⟨M,hB⟩:=hB;have HO:=Lib.hid ho;clear hS hR ho;go_enter Tryz.func65,Tryz.ntmps65;go_wp2_with fail;(with_reducible refine HT.out.mono ?_);rintro e w1 ⟨n,v1,o1,rfl,hi,h1,h2,h3⟩;have HT2:=Lib.hid (take_callsP p v1 o1 n hi w0 w1 fp0 R B h1 h2);have H3:=Lib.hid h3;clear HT hi h1 h2 h3;go_wp2_with fail;(with_reducible refine HT2.out.mono ?_);rintro e w2 ⟨u,v2,o2,x,rfl,h1,h2,h3,h4,h5⟩;have h3:BytesX [] w2 x u:=by rw [hB] at h1;exact h3 (_::M) w2 h1
 have HD:=Lib.hid (decodeRow_calls x u (h4.len (H3.out.len HO.out) (by decide)) w2 h3);have H1:=Lib.hid h1;have H2:=Lib.hid h2;have H4:=Lib.hid h4;clear HT2 h1 h2 h3 h4 h5;go_wp2_with fail;(with_reducible refine HD.out.mono ?_);rintro e w3 ⟨q,rv,r,rfl,h1,h2,h3,ra,rn,rc,rfl⟩;clear HD;have hs:=(newB H1.out h1).perm (List.Perm.swap _ _ _);obtain ⟨_,hp⟩:=hs.has 0 rfl;have c1:=(blk_get hp).1 1;have cl:=(blk_get hp).2.2;simp only [List.getElem?_toArray,List.getElem?_cons_zero,List.getElem?_cons_succ] at c1;have f1:=(blk_get hp).2.1 1;have HR:=Lib.hid (RowS2.of H3.out H4.out h2 h3);have HV:=Lib.hid (RowV.of h2 h3);have HSET:=Lib.hid (λ i hi u=> St.setB hs i hi u);cases q with
 | none=>
  have HF:Hid (RowP w0 fp0 R B p 126 o (.returned (.slice ra rn rc)) (w3.setCell ⟨p,1,none⟩ (.bool true))):=⟨_,r,v2,none,rfl,HSET.out 1 (by simp) _,trivial,HR.out,HV.out,_,_,_,rfl⟩
  clear H1 H2 H3 H4 HR HV HSET hs h1 h2 h3 hp;cases o2 with
  | none=>
   have c1:w3.cell? ⟨p,1,none⟩=some (.bool true):=c1;go_wp2;go_ret;exact HF.out
  | some l=>
   have c1:w3.cell? ⟨p,1,none⟩=some (.bool false):=c1;go_wp2;go_ret;exact HF.out
 | some r'=>
  have HF:Hid (RowP w0 fp0 R B p 126 o (.returned (.slice ra rn rc)) (w3.setCell ⟨p,1,none⟩ (.bool o2.isNone))):=⟨_,r,v2,o2,rfl,HSET.out 1 (by simp) _,H2.out,HR.out,HV.out,_,_,_,rfl⟩
  clear H1 H2 H3 H4 HR HV HSET hs h1 h2 h3 hp;cases o2 with
  | none=>
   have c1:w3.cell? ⟨p,1,none⟩=some (.bool true):=c1;go_wp2;go_ret;exact HF.out
  | some l=>
   have c1:w3.cell? ⟨p,1,none⟩=some (.bool false):=c1;go_wp2;go_ret;exact HF.out
theorem RdRow_calls (p:Nat) (v:Value) (o:Option (List UInt8)) (ho:∀l,o=some l->l.length < 1099511627776) (w0 w:World) (fp0:List Nat) (R B:List Asn) (hB:∃M,R=M++B) (hS:St w0 fp0 (rdrA p 130 v o::R) w) (hR:RdrP w0 fp0 B v o):
 Calls Tryz.prog 67 #[.pointer (some ⟨p,0,none⟩)] w λ e w'=> RowP w0 fp0 R B p 130 o e w':=by
 have HT:=Lib.hid (RdNumber_calls p v o w0 w fp0 R B hB hS hR);obtain ⟨M,hB⟩:=hB;have HO:=Lib.hid ho;clear hS hR ho;go_enter Tryz.func67,Tryz.ntmps67;go_wp2_with fail;(with_reducible refine HT.out.mono ?_);rintro e w1 ⟨n,v1,o1,rfl,hi,h1,h2,h3⟩;have HT2:=Lib.hid (take_callsR p v1 o1 n hi w0 w1 fp0 R B h1 h2);have H3:=Lib.hid h3;clear HT hi h1 h2 h3;go_wp2_with fail;(with_reducible refine HT2.out.mono ?_);rintro e w2 ⟨u,v2,o2,x,rfl,h1,h2,h3,h4,h5⟩;have h3:BytesX [] w2 x u:=by rw [hB] at h1;exact h3 (_::M) w2 h1
 have HD:=Lib.hid (rdecode_calls x u (h4.len (H3.out.len HO.out) (by decide)) w2 h3 h5);have H1:=Lib.hid h1;have H2:=Lib.hid h2;have H4:=Lib.hid h4;clear HT2 h1 h2 h3 h4 h5;go_wp2_with fail;(with_reducible refine HD.out.mono ?_);rintro e w3 ⟨q,rv,r,rfl,h1,h2,h3,ra,rn,rc,rfl⟩;clear HD;have hs:=(newB H1.out h1).perm (List.Perm.swap _ _ _);obtain ⟨_,hp⟩:=hs.has 0 rfl;have c1:=(blk_get hp).1 1;have cl:=(blk_get hp).2.2;simp only [List.getElem?_toArray,List.getElem?_cons_zero,List.getElem?_cons_succ] at c1;have f1:=(blk_get hp).2.1 1;have HR:=Lib.hid (RowS2.of H3.out H4.out h2 h3);have HV:=Lib.hid (RowV.of h2 h3);have HSET:=Lib.hid (λ i hi u=> St.setB hs i hi u);cases q with
 | none=>
  have HF:Hid (RowP w0 fp0 R B p 130 o (.returned (.slice ra rn rc)) (w3.setCell ⟨p,1,none⟩ (.bool true))):=⟨_,r,v2,none,rfl,HSET.out 1 (by simp) _,trivial,HR.out,HV.out,_,_,_,rfl⟩
  clear H1 H2 H3 H4 HR HV HSET hs h1 h2 h3 hp;cases o2 with
  | none=>
   have c1:w3.cell? ⟨p,1,none⟩=some (.bool true):=c1;go_wp2;go_ret;exact HF.out
  | some l=>
   have c1:w3.cell? ⟨p,1,none⟩=some (.bool false):=c1;go_wp2;go_ret;exact HF.out
 | some r'=>
  have HF:Hid (RowP w0 fp0 R B p 130 o (.returned (.slice ra rn rc)) (w3.setCell ⟨p,1,none⟩ (.bool o2.isNone))):=⟨_,r,v2,o2,rfl,HSET.out 1 (by simp) _,H2.out,HR.out,HV.out,_,_,_,rfl⟩
  clear H1 H2 H3 H4 HR HV HSET hs h1 h2 h3 hp;cases o2 with
  | none=>
   have c1:w3.cell? ⟨p,1,none⟩=some (.bool true):=c1;go_wp2;go_ret;exact HF.out
  | some l=>
   have c1:w3.cell? ⟨p,1,none⟩=some (.bool false):=c1;go_wp2;go_ret;exact HF.out
section
section
variable {P:Program}
end
end
def tdOne (h:Nat):Td:=⟨⟨#[116]⟩,some ⟨h,0,none⟩,1,1, .slice none 0 0, .slice none 0 0,none,0,0,[.string ⟨#[120]⟩, .int .i64 1, .int .i64 0, .int .i64 9, .int .i64 0, .bool false],[],[],[],[]⟩
def oneL (g h:Nat):List Asn:=[blkA g 89 #[.string ⟨#[116]⟩, .slice (some ⟨h,0,none⟩) 1 1, .slice none 0 0, .slice none 0 0, .slice none 0 0],blkA h 146 #[.string ⟨#[120]⟩, .int .i64 1, .int .i64 0, .int .i64 9, .int .i64 0, .bool false]]
theorem one_calls (w:World):Calls Tryz.prog 39 #[] w λ e w'=> ∃g h,e=.returned (.slice (some ⟨g,0,none⟩) 1 1)/\St w [] (oneL g h) w':=by
 have h1:=((St.start (w:=w) (L:=[]) (fp:=[]) rfl).newblk 146 #[.string ⟨#[120]⟩, .int .i64 1, .int .i64 0, .int .i64 9, .int .i64 0, .bool false]).newblk 89 #[.string ⟨#[116]⟩, .slice (some ⟨w.heap.size,0,none⟩) 1 1, .slice none 0 0, .slice none 0 0, .slice none 0 0];have HS:=Lib.hid h1;simp only [World.size_alloc] at HS;clear h1;go_enter Tryz.func39,Tryz.ntmps39;go_wp2;go_ret;exact ⟨_,_,rfl,HS.out⟩
theorem one_sch {w0:World} {fp0:List Nat} {R:List Asn} (g h i:Nat) (h1:R[i]? =some (blkA g 89 #[.string ⟨#[116]⟩, .slice (some ⟨h,0,none⟩) 1 1, .slice none 0 0, .slice none 0 0, .slice none 0 0])) (h2:R[i+1]? =some (blkA h 146 #[.string ⟨#[120]⟩, .int .i64 1, .int .i64 0, .int .i64 9, .int .i64 0, .bool false])):
 Rd w0 fp0 R λ w=> SchX w [tdOne h] (.slice (some ⟨g,0,none⟩) 1 1):=λ M w hs=> by
 have r1:=(Rd.of_piece i h1 λ w f hb=> SlX.of_blk (X:=[]) (size:=5) (n:=1) (c:=1) hb.1 (by simp) (by decide) rfl) M w hs;have r2:=(Rd.of_piece (i+1) h2 λ w f hb=> SlX.of_blk (X:=[]) (size:=6) (n:=1) (c:=1) hb.1 (by simp) (by decide) rfl) M w hs;exact ⟨r1,λ t ht=> by rw [List.mem_singleton.1 ht];exact ⟨r2,(by intro u hu;simp only [tdOne,List.mem_cons,List.not_mem_nil,or_false] at hu;rcases hu with rfl | rfl | rfl | rfl | rfl | rfl <;> rfl),⟨SlX.nil _ _ _ _ _,λ i hi=> absurd hi (by simp [tdOne])⟩,⟨SlX.nil _ _ _ _ _,λ i hi=> absurd hi (by simp [tdOne])⟩⟩⟩
theorem one_sm (h:Nat):∀t∈[tdOne h],t.Sm:=λ t ht=> by
 rw [List.mem_singleton.1 ht];exact ⟨by simp [tdOne],by simp [tdOne],by simp [tdOne],by simp [tdOne],by simp [tdOne]⟩
def numR (n:Int):Rw:=[⟨1,n,⟨#[]⟩⟩]
theorem num_calls (n:Int) (w:World):Calls Tryz.prog 40 #[.int .i64 n] w λ e w'=> ∃g,e=.returned (.slice (some ⟨g,0,none⟩) 1 1)/\St w [] [blkA g 68 #[.int .i64 1, .int .i64 n, .string ⟨#[]⟩]] w':=by
 have HS:=Lib.hid ((St.start (w:=w) (L:=[]) (fp:=[]) rfl).newblk 68 #[.int .i64 1, .int .i64 n, .string ⟨#[]⟩]);go_enter Tryz.func40,Tryz.ntmps40;go_wp2;go_ret;exact ⟨_,rfl,HS.out⟩
theorem num_vals {w:World} {n:Int} {g:Nat} {f:List Nat} (h:(blkA g 68 #[.int .i64 1, .int .i64 n, .string ⟨#[]⟩]).p w f):ValsAt w (numR n) (.slice (some ⟨g,0,none⟩) 1 1):=⟨SlX.of_blk (X:=[]) (size:=3) (n:=1) (c:=1) h.1 (by simp) (by decide) rfl,by
 intro x hx;rw [numR,List.mem_singleton] at hx;subst hx;exact Nat.zero_le _⟩
theorem enc0_calls (w:World):Calls Tryz.prog 24 #[.slice none 0 0] w λ e w'=> ∃a n c,e=.returned (.slice a n c)/\St w [] [slA 5 (.slice a n c) ((numL 0).map u8C)] w':=by
 have h1:St w [] (wrA w.heap.size []::[]) (w.alloc (.cells #[.slice none 0 0] 116)):=St.wr.2 ⟨_,(((St.start (w:=w) (L:=[]) (fp:=[]) rfl).newblk 116 #[.slice none 0 0]).nilA 5).perm (List.Perm.swap _ _ _)⟩;have HN:=Lib.hid (wNumber_calls w.heap.size [] 0 (by unfold I64;omega) (by simp) w _ [] _ h1);clear h1;go_enter Tryz.func24,Tryz.ntmps24;go_wp2_with fail;(with_reducible refine HN.out.mono ?_);rintro e w1 ⟨rfl,h2⟩;obtain ⟨v,h3⟩:=St.wr.1 h2;obtain ⟨_,hr⟩:=h3.has 1 rfl;obtain ⟨a,n,c,rfl⟩:=sl_shape hr;obtain ⟨_,hb⟩:=h3.has 0 rfl;have c0:=(blk_get hb).1 0;have cl:=(blk_get hb).2.2;simp only [List.getElem?_toArray,List.getElem?_cons_zero] at c0;have HF:Hid (St w [] [slA 5 (.slice a n c) ((numL 0).map u8C)] w1):=h3.drop;clear HN h2 h3 hr hb;go_upto_region 4 with (fail)
 go_loopg [14] 0 (λ g z wr=> z=.int .i64 0/\wr=w1)
 case atStart=> exact ⟨rfl,rfl⟩
 case round=>
  obtain ⟨rfl,rfl⟩:=hrel;go_wp2;go_ret;exact ⟨_,_,_,rfl,HF.out⟩
theorem ChsX.nil (w:World):ChsX w [] (.slice none 0 0):=⟨SlX.nil _ _ _ _ _,λ _c hc=> nomatch hc⟩
theorem RowV.txt {r:Rw} (h:RowV r):∀v∈r,v.text.size<=maxLen:=λ v hv=> by
 have h0:(ByteArray.empty).size=0:=rfl;rcases okV_cases (h v hv).1 with ⟨-, -,e⟩ | ⟨-,e⟩ | ⟨-, -, -,e⟩
 · rw [e,h0];exact Nat.zero_le _
 · rw [e,h0];exact Nat.zero_le _
 · unfold maxLen;omega
theorem conv1 {P:Program} {o:Oper} {env:Operand->Value} {w:World} {t u:TypeId} {x:Operand} {v r:Value} (hop:o.op=.convert t u x) (hx:env x=v) (hr:(convert t u v).run P w=.ok r w):(execOp env o).run P w=.ok (.value r) w:=by
 simp only [execOp,hop,hx,Sem.run_bind,hr,Result.andThen_ok,Sem.run_pure]
theorem Rg.Ob.eqlStr (G:Rg) (i:Nat) (s:ByteArray) {ty r:TypeId} {x y:Operand} (hop:(opAt G.ops i).op=.binOp .eql ty x y r:=by rfl) (hx:∀a,G.env i a x=.string s:=by intro _;exact kr (by kernel_rfl)) (hy:∀a,G.env i a y=.string s:=by intro _;exact kr (by kernel_rfl)) (hv:∀g,G.valD i g=.bool true:=by intro _;exact kr (by kernel_rfl))
 (hq:(G.quiet i G.pcs.length && G.okV i)=true:=by exact kr (by kernel_rfl)) (hw:∀a,wantE G.ops (opAt G.ops i) (G.env i a)=some true:=by intro _;exact kr (by kernel_rfl)):G.Ob i:=Rg.Ob.read G i hq hw λ L a w _ _=> by
 simp [execOp,hop,hx,hy,go_sem,hv]
def gAw5 (b cb:Nat) (x0 x1 x2 x3:Value) (e1 e2:Int) (A B C:Asn):=rgx Tryz.prog Tryz.f12 5 50 [13,14,15,16,17,18,3,4] [(1,pV b 0),(2,pV cb 0)] (Vq 0 13 [Kp b 0,Kv (.agg #[x0,x1,x2,x3]),Kv (.int .i64 e1),Kp b 0,Kv (.agg #[x0,x1,x2,x3]),Kv (.int .i64 e2)]++Vq 6 3 [Kv (.int .i64 e1),Kv (.int .i64 e2)]) [Bk cb (35) [x0,x1,x2,x3], .gen [2,5] [] λ L _g=> match L 5 with | true=> C | false=> match L 2 with | true=> B | false=> A]
theorem rAw5 (b cb:Nat) (x0 x1 x2 x3:Value) (e1 e2:Int) (A B C:Asn) (w0:World) (fp0:List Nat) (R:List Asn) (h1:∀w,St w0 fp0 ([blkA cb 35 #[x0,x1,x2,x3],A]++R) w->Calls Tryz.prog 19 #[.pointer (some ⟨b,0,none⟩), .agg #[x0,x1,x2,x3]] w λ e w2=> e=.returned (.int .i64 e1)/\St w0 fp0 ([blkA cb 35 #[x0,x1,x2,x3],B]++R) w2) (h2:∀w,St w0 fp0 ([blkA cb 35 #[x0,x1,x2,x3],B]++R) w->Calls Tryz.prog 19 #[.pointer (some ⟨b,0,none⟩), .agg #[x0,x1,x2,x3]] w λ e w2=> e=.returned (.int .i64 e2)/\St w0 fp0 ([blkA cb 35 #[x0,x1,x2,x3],C]++R) w2) {w:World} {c:Code} {a:Act} {Q:Exit->Act->World->Prop} (c1:isReg c=true) (c2:cops c=opsR Tryz.f12 5) (c3:a.tmps.size=50) (_c4:a.defers=a.defers) (i1:a.eval (.tmp 1)=.pointer (some ⟨b,0,none⟩)) (i2:a.eval (.tmp 2)=.pointer (some ⟨cb,0,none⟩))
 (hS:St w0 fp0 ([blkA cb (35) #[x0,x1,x2,x3],A]++R) w)
 (hQ:∀(w1:World),St w0 fp0 ([blkA cb (35) #[x0,x1,x2,x3],C]++R) w1->Q .normal (putL a [(13, .pointer (some ⟨b,0,none⟩)),(14, .agg #[x0,x1,x2,x3]),(15, .int .i64 e1),(16, .pointer (some ⟨b,0,none⟩)),(17, .agg #[x0,x1,x2,x3]),(18, .int .i64 e2),(3, .int .i64 e1),(4, .int .i64 e2)]) w1):c.wp Tryz.prog Q a w:=by
 have ok:(gAw5 b cb x0 x1 x2 x3 e1 e2 A B C w0 fp0 R).Ok 8:=Rg.ok _ 8 [1,2,4,5] ⟨.run1 _ 1 0 (λ _=> blkA cb 35 #[x0,x1,x2,x3]) (λ _ _=> blkA cb 35 #[x0,x1,x2,x3]) (λ L a w fp _ hp=> (by obtain ⟨h1, -, -⟩:=blk_get hp;exact ⟨.agg #[x0,x1,x2,x3],w,fp,exec_loads (cs:=[x0,x1,x2,x3]) (off:=0) rfl (kr (by kernel_rfl)) (kr (by kernel_rfl)) (kr (by kernel_rfl)) (λ j u hj=> (by rw [Nat.zero_add,h1 j];simpa using hj)),kr (by kernel_rfl),hp,Tr.refl _ _⟩)), .callG _ 2 (f:=19) (args:=λ _=> #[.pointer (some ⟨b,0,none⟩), .agg #[x0,x1,x2,x3]]) (λ _=> [blkA cb 35 #[x0,x1,x2,x3],A]) (λ _ _=> [blkA cb 35 #[x0,x1,x2,x3],B]) (λ g w h=> (h1 w h).mono λ e w2 ⟨e1,h2⟩=> ⟨_,e1,kr (by kernel_rfl),h2⟩), .run1 _ 4 0 (λ _=> blkA cb 35 #[x0,x1,x2,x3]) (λ _ _=> blkA cb 35 #[x0,x1,x2,x3]) (λ L a w fp _ hp=> (by obtain ⟨h1, -, -⟩:=blk_get hp;exact ⟨.agg #[x0,x1,x2,x3],w,fp,exec_loads (cs:=[x0,x1,x2,x3]) (off:=0) rfl (kr (by kernel_rfl)) (kr (by kernel_rfl)) (kr (by kernel_rfl)) (λ j u hj=> (by rw [Nat.zero_add,h1 j];simpa using hj)),kr (by kernel_rfl),hp,Tr.refl _ _⟩)), .callG _ 5 (f:=19) (args:=λ _=> #[.pointer (some ⟨b,0,none⟩), .agg #[x0,x1,x2,x3]]) (λ _=> [blkA cb 35 #[x0,x1,x2,x3],B]) (λ _ _=> [blkA cb 35 #[x0,x1,x2,x3],C]) (λ g w h=> (h2 w h).mono λ e w2 ⟨e1,h2⟩=> ⟨_,e1,kr (by kernel_rfl),h2⟩),trivial⟩;refine wp_regD ok (by kernel_rfl) ⟨c1,c2⟩ ⟨c3,λ p hp=> ?_⟩ hS λ A1 w1 N1 H1=> ?_
 · simp only [gAw5,rgx,List.map_nil,List.append_nil,List.mem_cons,List.not_mem_nil,or_false] at hp
   rcases hp with rfl | rfl
   · exact i1
   · exact i2
 exact N1.fin [] (hQ w1 H1) (by kernel_rfl)
def gAw8 (S:Nat) (A:Asn):=rgx Tryz.prog Tryz.f12 8 50 [25,26,27,28,29,30,31,32,33,34,35,36,37,38,39,40,41,42,43,44,45,46,47,48,49,0] [(3, .int .i64 0),(4, .int .i64 5),(5, .int .i64 4),(6,pV S 0)] (Vq 0 25 [Kv (.int .i64 0),Kv (.bool true),Kv (.bool true),Kv (.int .i64 5),Kv (.bool true),Kv (.bool true),Kv (.bool true),Kv (.int .i64 4),Kv (.bool true),Kv (.bool true),Kv (.bool true),Kp S 0,Kv (.bool true),Kv (.bool true),Kv (.bool true),Kp S 0,Kv (.int .i64 4),Kv (.bool true),Kv (.bool true),Kv (.bool true),Vf.slice,Kv (.string (textOf (numL 0))),Kv (.string (textOf (numL 0))),Kv (.bool true),Kv (.bool true)]++Vq 25 0 [Kv (.bool true)]) [.all (A), .new 20 [45] λ g=> slA 5 (g 45) ((numL 0).map u8C)]
theorem rAw8 (S:Nat) (A:Asn) (w0:World) (fp0:List Nat) (R:List Asn) (hnext:∀w f,A.p w f->Calls Tryz.prog 41 #[.pointer (some ⟨S,0,none⟩)] w λ e w'=> e=.returned (.int .i64 4)/\Below w.heap.size w w') (henc:∀(L:List Asn) (w:World),St w0 fp0 (L++R) w->Calls Tryz.prog 24 #[.slice none 0 0] w λ e w2=> ∃v f,e=.returned v/\(slA 5 (v) ((numL 0).map u8C)).p w2 f/\Below w.heap.size w w2/\∀k∈f,w.heap.size<=k) (hrn:∀(L:List Asn) (w:World),St w0 fp0 (L++R) w->Calls Tryz.prog 42 #[.int .i64 0] w λ e w'=> e=.returned (.string (textOf (numL 0)))/\Below w.heap.size w w') {w:World} {c:Code} {a:Act} {Q:Exit->Act->World->Prop} (c1:isReg c=true) (c2:cops c=opsR Tryz.f12 8) (c3:a.tmps.size=50) (_c4:a.defers=a.defers) (i3:a.eval (.tmp 3)=.int .i64 0) (i4:a.eval (.tmp 4)=.int .i64 5) (i5:a.eval (.tmp 5)=.int .i64 4) (i6:a.eval (.tmp 6)=.pointer (some ⟨S,0,none⟩))
 (hS:St w0 fp0 ([A,emp]++R) w)
 (hQ:∀(u45:Value) (w1:World),(∃a n c,u45=.slice a n c)->St w0 fp0 ([A,slA 5 (u45) ((numL 0).map u8C)]++R) w1->Q .normal (putL a [(25, .int .i64 0),(26, .bool true),(27, .bool true),(28, .int .i64 5),(29, .bool true),(30, .bool true),(31, .bool true),(32, .int .i64 4),(33, .bool true),(34, .bool true),(35, .bool true),(36, .pointer (some ⟨S,0,none⟩)),(37, .bool true),(38, .bool true),(39, .bool true),(40, .pointer (some ⟨S,0,none⟩)),(41, .int .i64 4),(42, .bool true),(43, .bool true),(44, .bool true),(45,u45),(46, .string (textOf (numL 0))),(47, .string (textOf (numL 0))),(48, .bool true),(49, .bool true),(0, .bool true)]) w1):c.wp Tryz.prog Q a w:=by
 have ok:(gAw8 S A w0 fp0 R).Ok 26:=Rg.ok _ 26 [1,4,8,16,17,20,21,22,23] ⟨.eqlS _ 1 .i64 0, .eqlS _ 4 .i64 5, .eqlS _ 8 .i64 4, .ask1 _ 16 0 (f:=41) (args:=#[.pointer (some ⟨S,0,none⟩)]) (v:=.int .i64 4) hnext, .eqlS _ 17 .i64 4, .callNew _ 20 1 (λ v=> slA 5 (v) ((numL 0).map u8C)) (λ _ _ _ h=> sl_shape h) henc, .run1 _ 21 1 (λ g=> slA 5 (g 45) ((numL 0).map u8C)) (λ g _=> slA 5 (g 45) ((numL 0).map u8C)) (λ L a w fp _ hp=> ⟨.string (textOf (numL 0)),w,fp,conv1 (v:=.slice (sa (slots a 45)) (sn (slots a 45)) (sc (slots a 45))) rfl (kr (by kernel_rfl)) (run_back (slSelf hp)),kr (by kernel_rfl),hp,Tr.refl _ _⟩), .askR _ 22 hrn, .eqlStr _ 23 (textOf (numL 0)),trivial⟩;refine wp_regD ok (by kernel_rfl) ⟨c1,c2⟩ ⟨c3,λ p hp=> ?_⟩ hS λ A1 w1 N1 H1=> ?_
 · simp only [gAw8,rgx,List.map_nil,List.append_nil,List.mem_cons,List.not_mem_nil,or_false] at hp
   rcases hp with rfl | rfl | rfl | rfl
   · exact i3
   · exact i4
   · exact i5
   · exact i6
 exact N1.fin [45] (hQ (slots A1 45) w1 ⟨_,_,_,(N1.val 20 rfl)⟩ H1) (by kernel_rfl)
def chA (g:Nat):Chg:=⟨0,3,none,0,some ⟨g,0,none⟩,1,[],numR 5⟩
def chB (g:Nat):Chg:=⟨0,3,some ⟨g,0,none⟩,1,none,0,numR 6,[]⟩
def D1:Db:=[(1,[(3,numR 5)],4)]
theorem awA (h g:Nat):chkD (newD [tdOne h]) (chA g)=0/\appD (newD [tdOne h]) (chA g)=D1:=⟨by kernel_rfl,by kernel_rfl⟩
theorem awB (g:Nat):chkD D1 (chA g)=5/\appD D1 (chA g)=D1:=⟨by kernel_rfl,by kernel_rfl⟩
theorem awC (g:Nat):chkD D1 (chB g)=4/\appD D1 (chB g)=D1:=⟨by kernel_rfl,by kernel_rfl⟩
theorem numR_ok (n:Int) (h:I64 n):∀v∈numR n,I64 v.int:=by
 intro v hv;rw [numR,List.mem_singleton] at hv;subst hv;exact h
theorem chA_ok (g:Nat):(chA g).Ok:=⟨by unfold I64 chA;simp,by unfold I64 chA;simp,by simp [chA],numR_ok 5 (by unfold I64;omega)⟩
theorem chB_ok (g:Nat):(chB g).Ok:=⟨by unfold I64 chB;simp,by unfold I64 chB;simp,numR_ok 6 (by unfold I64;omega),by simp [chB]⟩
theorem D1_len:∀t∈D1,t.2.1.length < 1000000:=by
 intro t ht;rw [D1,List.mem_singleton] at ht;subst ht;show 1 < 1000000;omega
theorem D0_len (h:Nat):∀t∈newD [tdOne h],t.2.1.length < 1000000:=λ t ht=> by
 have:=newD_max _ t ht;omega
theorem awake40_calls (w:World):Calls Tryz.prog 12 #[] w λ e w'=> e=.returned (.bool true)/\Below w.heap.size w w':=by
 have HO:=Lib.hid (one_calls w);go_enter Tryz.func12,Tryz.ntmps12;go_wp2_with fail;(with_reducible refine HO.out.mono ?_);rintro e w1 ⟨og,oh,rfl,h1⟩;have HN:=Lib.hid (StNew_calls [tdOne oh] _ (one_sm oh) (by simp) w w1 [] (oneL og oh) (one_sch og oh 0 rfl rfl) h1);clear HO h1;go_wp2_with fail;(with_reducible refine HN.out.mono ?_);rintro e w2 ⟨b,rfl,h2⟩;have H2:=Lib.hid h2;have HNU:=Lib.hid (num_calls 5 w2);clear HN h2;go_wp2_with fail;(with_reducible refine HNU.out.mono ?_);rintro e w3 ⟨ng,rfl,h3⟩;have h4:=newB H2.out h3;have h5:=h4.newblk 35 #[.int .i64 0, .int .i64 3, .slice none 0 0, .slice (some ⟨ng,0,none⟩) 1 1];have H5:=Lib.hid h5;clear HNU H2 h3 h4 h5;go_upto_region 5 with (fail)
 generalize hW:w3.alloc _=W at *;clear hW;obtain ⟨cb,hcb⟩:∃cb,w3.heap.size=cb:=⟨_,rfl⟩
 rw [hcb] at H5 ⊢;clear hcb;obtain ⟨R1,hR1⟩:∃R1,blkA ng 68 #[.int .i64 1, .int .i64 5, .string ⟨#[]⟩]::oneL og oh=R1:=⟨_,rfl⟩
 have HS5:Hid (St w [] ([blkA cb 35 #[.int .i64 0, .int .i64 3, .slice none 0 0, .slice (some ⟨ng,0,none⟩) 1 1],stA b (newD [tdOne oh])]++R1) W):=by rw [<-hR1];exact St_re (L:=[_,_,_]) H5.out [0,2,1] [] (by kernel_rfl)
 have hcx:∀A,Rd w [] ([A]++R1) λ w=> (chA ng).X w:=λ A M w' hs=> by rw [<-hR1] at hs;exact ⟨ValsX.nil _ _ _ _,(Rd.of_piece (R:=[A]++(blkA ng 68 #[.int .i64 1, .int .i64 5, .string ⟨#[]⟩]::oneL og oh)) 1 rfl λ w f h=> num_vals h) M w' hs⟩
 refine rAw5 (w0:=w) (fp0:=[]) (R:=R1) b cb (.int .i64 0) (.int .i64 3) (.slice none 0 0) (.slice (some ⟨ng,0,none⟩) 1 1) 0 5 (stA b (newD [tdOne oh])) (stA b D1) (stA b D1) ?_ ?_ rfl (by kernel_rfl) rfl rfl rfl rfl HS5.out ?_
 · intro w' h'
   have h:=Apply_calls b _ (chA ng) (chA_ok ng) (D0_len oh) w w' [] _ (hcx _) (h'.perm (List.Perm.swap _ _ _));rw [(awA oh ng).1,(awA oh ng).2] at h;refine h.mono ?_;rintro e w4 ⟨rfl,h4⟩;exact ⟨rfl,h4.perm (List.Perm.swap _ _ _)⟩
 · intro w' h'
   have h:=Apply_calls b _ (chA ng) (chA_ok ng) D1_len w w' [] _ (hcx _) (h'.perm (List.Perm.swap _ _ _));rw [(awB ng).1,(awB ng).2] at h;refine h.mono ?_;rintro e w4 ⟨rfl,h4⟩;exact ⟨rfl,h4.perm (List.Perm.swap _ _ _)⟩
 intro w4 h4;have H4:Hid (St w [] (stA b D1::R1) w4):=St.drop h4;clear h4 H5 HS5 hcx hR1;simp only [putL,List.foldl,Act.put,List.setIfInBounds_toArray,List.set_cons_succ,List.set_cons_zero];have HNU:=Lib.hid (num_calls 6 w4);go_wp2_with fail;(with_reducible refine HNU.out.mono ?_);rintro e w5 ⟨nh,rfl,h5⟩;have h6:=newB H4.out h5;have h7:St w [] (stA b D1::blkA nh 68 #[.int .i64 1, .int .i64 6, .string ⟨#[]⟩]::R1) w5:=h6.perm (List.Perm.swap _ _ _);have HA:=Lib.hid (Apply_calls b D1 (chB nh) (chB_ok nh) D1_len w w5 [] _ (λ M w' hs=> ⟨(Rd.of_piece (R:=blkA nh 68 #[.int .i64 1, .int .i64 6, .string ⟨#[]⟩]::R1) 0 rfl λ w f h=> num_vals h) M w' hs,ValsX.nil _ _ _ _⟩) h7);rw [(awC nh).1,(awC nh).2] at HA;unfold chB Chg.v Chg.ov Chg.nv numR at HA;simp only [List.length_cons,List.length_nil,Nat.zero_add] at HA;clear HNU H4 h5 h6 h7;go_wp2_with fail;(with_reducible refine HA.out.mono ?_);rintro e w6 ⟨rfl,h6⟩;obtain ⟨q,hq,hs⟩:=h6.openD;have hq1:q.ts.length=1:=hq.tlen;obtain ⟨T,hT⟩:∃T,q.ts=[T]:=by
  match e:q.ts,hq1 with
  | [T],_=> exact ⟨T,rfl⟩
 have hd:=hq.d;rw [hT] at hd;have hnx:T.next=4:=by have h1:=List.cons.inj hd;have h2:=h1.1;unfold Tb.d at h2;injection h2 with _ h2;injection h2
 have hdb:=db_get hs;have HT:=Lib.hid (table_in b 0 _ q.tv (ptrV T.S) w6 hdb.2.1 hdb.2.2.2.2 (by rw [hT];rfl));obtain ⟨R2,hR2⟩:∃R2,dbP b q++(blkA nh 68 #[.int .i64 1, .int .i64 6, .string ⟨#[]⟩]::R1)=R2:=⟨_,rfl⟩
 have HS6:Hid (St w [] ([tbA T,emp]++R2) w6):=by
  rw [hT] at hs;rw [<-hR2];have h:=St.emp.2 hs;refine h.perm ?_
  classical refine List.perm_iff_count.2 λ a=> ?_;simp only [List.map_cons,List.map_nil,List.cons_append,List.nil_append,List.count_append,List.count_cons];omega
 have HNX:=Lib.hid hnx;obtain ⟨S,cols,I,LL0,next⟩:=T;simp only at HNX HT;clear HA h6 hq hs hq1 hT hd hnx hdb hR2;unfold ptrV at HT;rw [show ((0:Nat):Int)=0 from rfl] at HT;go_wp2_with fail;(with_reducible refine HT.out.mono ?_);rintro e w7 ⟨rfl,rfl⟩;clear HT;go_upto_region 8 with (fail)
 refine rAw8 (w0:=w) (fp0:=[]) (R:=R2) S (tbA ⟨S,cols,I,LL0,next⟩) ?_ ?_ ?_ rfl (by kernel_rfl) rfl rfl rfl rfl rfl rfl HS6.out ?_
 · intro w' f h'
   refine (Next_calls h').mono ?_;rintro e w8 ⟨rfl,rfl⟩;exact ⟨by rw [HNX.out],Below.refl _ _⟩
 · intro M w' _
   refine (enc0_calls w').mono ?_;rintro e w8 ⟨a,n,c,rfl,h8⟩;obtain ⟨f,h1,h2,h3⟩:=piece_of h8;exact ⟨_,f,rfl,h1,h2,h3⟩
 · intro M w' _
   exact RNumber_calls 0 (by unfold I64;omega) w'
 intro u45 w8 ⟨ya,yn,yc,e45⟩ h8;subst e45;have HF:=Lib.hid (St.below0 h8);clear h8 HS6;simp only [putL,List.foldl,Act.put,List.setIfInBounds_toArray,List.set_cons_succ,List.set_cons_zero];go_wp2;go_ret;exact ⟨rfl,HF.out⟩
section
section
variable {b l m:List UInt8} {c:Nat} {next cnt last id:Int} {L:LL} {r:Rw} {o3 o4:Option (List UInt8)}
theorem TMid.no (h:TMid b c next cnt L last l) (hc:0 < cnt) (h1:NumS (some l) id o3) (h2:RowS2 o3 r o4) (hx:o4=none\/id<=last\/next<=id\/storB c r=false):NoTab b c:=by
 refine h.bad hc λ id' r' m1 m2 g1 g2 g3 g4 g5=> ?_;rcases h1 with ⟨m1',f1,rfl⟩ | ⟨rfl,f1⟩
 · obtain ⟨rfl,rfl⟩:=g1.uniq f1
   rcases h2 with ⟨m2',f2,rfl⟩ | ⟨rfl,f2⟩
   · obtain ⟨rfl,rfl⟩:=g2.uniq f2
     rcases hx with hx | hx | hx | hx
     · cases hx
     · omega
     · omega
     · unfold storB at hx
       rw [decide_eq_true g5.1,Bool.true_and] at hx;have:r'.all okV=true:=List.all_eq_true.2 λ v hv=> (g5.2 v hv).1;rw [this] at hx;cases hx
   · exact f2 _ _ g2
 · exact f1 _ _ g1
theorem TMid.yes (h:TMid b c next cnt L last l) (hc:0 < cnt) (h1:NumS (some l) id o3) (h2:RowS2 o3 r (some m)) (hl:last < id) (hn:id < next) (hs:storB c r=true):TMid b c next (cnt - 1) (L++[(id,r)]) id m:=by
 rcases h1 with ⟨m1',f1,rfl⟩ | ⟨rfl,f1⟩
 · rcases h2 with ⟨m2',f2,e⟩ | ⟨e,f2⟩
   · obtain rfl:=Option.some.inj e
     refine h.step hc f1 f2 hl hn ⟨?_,f2.1⟩;unfold storB at hs;exact of_decide_eq_true (Bool.and_eq_true_iff.1 hs).1
   · cases e
 · cases h2
theorem TMid.put (h:TMid b c next cnt L last l) (hl:last < id) (hn:id < next) (hs:storB c r=true):putOk c id r=true/\putLL c id r L=L++[(id,r)]/\putN c id r (last+1)=id+1:=by
 have h0:=h.lt;have h1:=h.hi;have hp:putOk c id r=true:=by unfold putOk;rw [hs,decide_eq_true (by omega)];rfl
 refine ⟨hp,?_,?_⟩
 · unfold putLL
   rw [if_pos hp];have e1:=putL_split (A:=L) (B:=[]) (k:=id) (λ a ha=> by have:=h.q a ha;omega) (by simp) r;rw [List.append_nil] at e1;exact e1
 · unfold putN
   rw [if_pos hp];omega
end
def TInv (c:Nat) (o0:Option (List UInt8)) (next cnt:Int) (L:LL) (last:Int):Option (List UInt8)->Prop
 | some l=> ∃b,o0=some b/\TMid b c next cnt L last l
 | none=> ∀b,o0=some b->NoTab b c
theorem TabS.bad {c:Nat} {o:Option (List UInt8)} {t:Nat×LL×Int} (h:∀b,o=some b->NoTab b c):TabS c o t none:=by
 cases o with
 | none=> rfl
 | some b=> exact .inr ⟨rfl,h b rfl⟩
theorem TInv.start {c:Nat} {o0 o1 o2:Option (List UInt8)} {next cnt:Int} (h1:NumS o0 next o1) (h2:NumS o1 cnt o2) (hr:1<=next/\next<=4611686018427387905/\0<=cnt):TInv c o0 next cnt [] 0 o2:=by
 cases o2 with
 | none=>
  rintro b rfl;rcases h1 with ⟨m1,f1,rfl⟩ | ⟨rfl,f1⟩
  · rcases h2 with ⟨m2,f2,e⟩ | ⟨e,f2⟩
    · cases e
    · exact NoTab.num2 f1 f2
  · exact NoTab.num1 f1
 | some l=>
  cases o0 with
  | none=>
   obtain rfl:o1=none:=h1;cases h2
  | some b=>
   rcases h1 with ⟨m1,f1,rfl⟩ | ⟨rfl,f1⟩
   · rcases h2 with ⟨m2,f2,e⟩ | ⟨e,f2⟩
     · obtain rfl:=Option.some.inj e
       exact ⟨b,rfl,TMid.start f1 f2 hr.1 hr.2.1 hr.2.2⟩
     · cases e
   · cases h2
theorem TInv.range {c:Nat} {o0 o1 o2:Option (List UInt8)} {next cnt:Int} (h1:NumS o0 next o1) (h2:NumS o1 cnt o2) (hr:¬ (1<=next/\next<=4611686018427387905/\0<=cnt)):∀b,o0=some b->NoTab b c:=by
 rintro b rfl;rcases h1 with ⟨m1,f1,rfl⟩ | ⟨rfl,f1⟩
 · rcases h2 with ⟨m2,f2,rfl⟩ | ⟨rfl,f2⟩
   · exact NoTab.range f1 f2 hr
   · exact NoTab.num2 f1 f2
 · exact NoTab.num1 f1
theorem TInv.ends {c:Nat} {o0:Option (List UInt8)} {next cnt last:Int} {L:LL} {l:List UInt8} (h:TInv c o0 next cnt L last (some l)) (hc:¬ 0 < cnt):TabS c o0 (c,L,next) (some l):=by
 obtain ⟨b,rfl,h⟩:=h;have:cnt=0:=by have:=h.n;omega
 subst this;exact .inl ⟨l,h.done,rfl⟩
def RdTabP (w0:World) (fp0:List Nat) (F B:List Asn) (p:Nat) (t:TypeId) (S c:Nat) (I:List (List Int)) (o:Option (List UInt8)) (e:Ending) (w':World):Prop:=
 ∃L next v o2,e=.returned (.tuple #[])/\St w0 fp0 (rdrA p t v o2::storeA S c I L next::F) w'/\RdrP w0 fp0 B v o2/\TabS c o (c,L,next) o2
end
end
end Go.Proofs.YtpdlkdoogojboaaGreat
