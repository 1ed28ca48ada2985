/- Part 8 of the proof: Bu, Bt, It, Iu, So, Al, Tk7, Rs2, Tz, Ik, En, Lp -/
import Derived.Test.YtnefkkidfhmggaaGreatW07
import Derived.Test.YtnefkkidfhmggaaGreatW01
import Derived.OwnWalkIn
import Derived.TacticsInMore
import Derived.LoopIn
import Derived.LoopNIn
import Derived.Shelf.Abstract
import Derived.Shelf.RegionOpen
import Derived.Deep.QuietTactic
import Derived.BigQuiet
set_option maxHeartbeats 16000000
set_option maxRecDepth 100000
namespace Go.Proofs.YtnefkkidfhmggaaGreat
open Go Go.RowKit
noncomputable section
def tTP (β:Bool):Nat:=match β with | false=> 116 | true=> 95
def tKP (β:Bool):Nat:=match β with | false=> 202 | true=> 146
def gBt0 (β:Bool) (bt bl bh tb rb N:Nat) (pl ph oo nn:Value) (X1:Value->Asn) (T0 OL OH:Asn) (w0:World) (fp0:List Nat) (R:List Asn):Rg where
 P:=Tryz.prog
 ops:=opsR (BBetw1 β) 0
 nt:=27
 ks:=[7,8,9,10,11,12,13,14,15]
 inp:=[(1, .pointer (some ⟨bt,0,none⟩)),(2, .pointer (some ⟨bl,0,none⟩)),(3, .pointer (some ⟨bh,0,none⟩))]
 vals:=[.is 0 7 (.pointer (some ⟨tb,0,none⟩)), .is 1 8 (.pointer (some ⟨tb,0,none⟩)), .is 2 9 (.pointer (some ⟨tb,0,none⟩)), .is 3 10 (.pointer (some ⟨rb,0,none⟩)), .is 4 11 (pl), .is 5 12 (ph),⟨6,13,[13],λ g=> .slice (sa (g 13)) N (sc (g 13))⟩, .is 7 14 (.int .i64 N), .is 8 15 (.int .i64 ((0:Nat):Int))]
 pcs:=[.gen [6] [13] λ L g=> match L 6 with | true=> X1 (g 13) | false=> emp, .blk bt (tTP β) [⟨.pointer (some ⟨tb,0,none⟩),[]⟩], .blk bl (tKP β) [⟨pl,[]⟩], .blk bh (tKP β) [⟨ph,[]⟩], .blk tb (tT β) [⟨.pointer (some ⟨rb,0,none⟩),[]⟩,⟨oo,[]⟩,⟨nn,[]⟩], .all (T0), .all (OL), .all (OH)]
 w0:=w0
 fp0:=fp0
 R:=R
theorem obBt0 (β:Bool) [OkI β] (bt bl bh tb rb N:Nat) (pl ph oo nn:Value) (X1:Value->Asn) (T0 OL OH:Asn) (hrec:∀(w0:World) (fp0:List Nat) (R:List Asn) (w:World),St w0 fp0 ([T0,OL,OH]++R) w->Calls Tryz.prog (fCollect β) #[ptrV rb, .slice none 0 0,pl,ph] w λ e w'=> ∃v a c,v=.slice a N c/\e=.returned v/\St w0 fp0 ([X1 v,T0,OL,OH]++R) w') (w0:World) (fp0:List Nat) (R:List Asn):(gBt0 β bt bl bh tb rb N pl ph oo nn X1 T0 OL OH w0 fp0 R).Ok 9:=by
 have h6:∀w,St w0 fp0 ([emp,blkA bt (tTP β) #[.pointer (some ⟨tb,0,none⟩)],blkA bl (tKP β) #[pl],blkA bh (tKP β) #[ph],blkA tb (tT β) #[.pointer (some ⟨rb,0,none⟩),oo,nn],T0,OL,OH]++R) w->Calls Tryz.prog (fCollect β) #[ptrV rb, .slice none 0 0,pl,ph] w λ e w'=> ∃v a c,v=.slice a N c/\e=.returned v/\St w0 fp0 ([X1 v,blkA bt (tTP β) #[.pointer (some ⟨tb,0,none⟩)],blkA bl (tKP β) #[pl],blkA bh (tKP β) #[ph],blkA tb (tT β) #[.pointer (some ⟨rb,0,none⟩),oo,nn],T0,OL,OH]++R) w':=λ w h=> (hrec _ _ _ w (St_re (L:=[_,_,_,_,_,_,_]) (St.emp.1 h) [4,5,6] [0,1,2,3] (by kernel_rfl))).mono λ e w' ⟨v,a,c,h0,h1,h2⟩=> ⟨v,a,c,h0,h1,St_re (L:=[_,_,_,_,_,_,_,_]) h2 [0,4,5,6,7,1,2,3] [] (by kernel_rfl)⟩
 cases β <;> first | (exact absurd (OkI.ok (β:=true)) (by decide)) | exact ⟨kr (by kernel_rfl),kr (by kernel_rfl), .load _ 0 1 0, .pure _ 1, .pure _ 2, .load _ 3 4 0, .load _ 4 2 0, .load _ 5 3 0, .callN _ 6 N _ _ h6, .pure _ 7, .pure _ 8,trivial⟩
section
variable {β:Bool} [OkI β]
theorem entsV_at (l:MM) (i:Nat) (h:i < l.length):(entsV l)[i * 2]? =some (encK l[i].1)/\(entsV l)[i * 2+1]? =some (encV l[i].2):=by
 induction l generalizing i with
 | nil=> simp at h
 | cons x l ih=>
  have e:entsV (x::l)=encK x.1::encV x.2::entsV l:=rfl;cases i with
  | zero=> exact ⟨rfl,rfl⟩
  | succ i=>
   have:=ih i (by simpa using h);rw [e,show (i+1) * 2=i * 2+1+1 by omega,show i * 2+1+1+1=(i * 2+1)+1+1 by omega];simpa using this
def betL (β:Bool) (o h:Nat) (l:MM) (tb bt bl bh lb hb:Nat) (lo hi:Option Ky):List Asn:=
 [objA β o h l tb,blkA bt (tTP β) #[.pointer (some ⟨tb,0,none⟩)],blkA bl (tKP β) #[optP lb lo],blkA bh (tKP β) #[optP hb hi],optB β lb lo,optB β hb hi]
theorem betw1_seq {o h:Nat} (ho':o<=1024) (lo hi:Option Ky) (lb hb:Nat) (hokl:∀k,lo=some k->k.ok β) (hokh:∀k,hi=some k->k.ok β) (l:MM) (hok:OkL β l) (tb bt bl bh:Nat) (hlen:l.length+1 < 1099511627776) (n:Nat):
 SeqSt n Tryz.prog (fBetw1 β) #[.pointer (some ⟨bt,0,none⟩), .pointer (some ⟨bl,0,none⟩), .pointer (some ⟨bh,0,none⟩)] (λ e:Ky×Va=> #[encK e.1,encV e.2]) (selM lo hi l) (betL β o h l tb bt bl bh lb hb lo hi):=by
 intro y R J Jx w0 fp0 W hS h0 hY;refine callsIn_wide.2 ?_;obtain ⟨x,rb,hg,hS1⟩:=St.openOT (show St w0 fp0 (objA β o h l tb::(blkA bt (tTP β) #[.pointer (some ⟨tb,0,none⟩)]::blkA bl (tKP β) #[optP lb lo]::blkA bh (tKP β) #[optP hb hi]::optB β lb lo::optB β hb hi::R)) W from hS);obtain ⟨g1,g2,g3⟩:=hg;have hsel:(selM lo hi l).length < 1099511627776:=Nat.lt_of_le_of_lt (List.length_filter_le _ _) (by omega);obtain ⟨sel,hsl⟩:∃sel,selM lo hi l=sel:=⟨_,rfl⟩
 have hcol:=collect_calls (β:=β) ho' lo hi lb hb hokl hokh h _ x rb g1 g2 (by rw [g3];exact hok);have HREG:=Lib.hid (obBt0 β bt bl bh tb rb sel.length (optP lb lo) (optP hb hi) (.int .i64 o) (.int .i64 l.length) (λ v=> entA β v sel) (treeA β h x rb) (optB β lb lo) (optB β hb hi) (λ w0 fp0 R w hs=> by refine (hcol (.slice none 0 0) [] w0 w fp0 R (by rw [g3];simp;omega) (St.nilR (tE β) 2 hs)).mono λ e w' ⟨a,n,c,h1,h2⟩=> ?_;rw [g3,List.nil_append,hsl] at h2;obtain ⟨_,hr⟩:=h2.has 0 rfl;obtain ⟨a',c',e1,_⟩:=row_shape hr;obtain ⟨rfl,rfl,rfl⟩:=Value.slice.inj e1;exact ⟨_,_,_,rfl,h1,h2⟩) w0 fp0 R);have HS1:=Lib.hid (St.emp.2 (St_re (L:=[_,_,_,_,_,_,_]) hS1 [2,3,4,1,0,5,6] [] (by kernel_rfl)));have H0:Hid (∀v W,St w0 fp0 ([entA β v sel,blkA bt (tTP β) #[.pointer (some ⟨tb,0,none⟩)],blkA bl (tKP β) #[optP lb lo],blkA bh (tKP β) #[optP hb hi],blkA tb (tT β) #[.pointer (some ⟨rb,0,none⟩), .int .i64 o, .int .i64 l.length],treeA β h x rb,optB β lb lo,optB β hb hi]++R) W->St w0 fp0 (J []++[entA β v sel]) W):=by intro v W hs;refine h0 _ _ ?_;have h1:=St.shutOT ⟨g1,g2,g3⟩ (St_re (L:=[_,_,_,_,_,_,_,_]) hs [5,4,1,2,3,6,7,0] [] (by kernel_rfl));have h2:=St_re (L:=[_,_,_,_,_,_,_]) h1 [6,0,1,2,3,4,5] [] (by kernel_rfl);exact St.comm (A:=[entA β v sel]) h2
 have HOK:Hid (∀e∈sel,e.1.ok β):=by intro e he;rw [<-hsl] at he;exact hok e (List.mem_filter.1 he).1
 have HY:=Lib.hid hY;rw [hsl] at HY hsel ⊢;clear hS hS1 g1 g2 g3 hlen ho' hsl hY h0 hcol hokl hokh hok;have HW:Hid (∀(c:Code) (a:Act) (Q:Exit->Act->World->Prop),isReg c=true->cops c=opsR (BBetw1 β) 0->a.tmps.size=27->a.defers=[]->a.eval (.tmp 1)=.pointer (some ⟨bt,0,none⟩)->a.eval (.tmp 2)=.pointer (some ⟨bl,0,none⟩)->a.eval (.tmp 3)=.pointer (some ⟨bh,0,none⟩)->
  (∀(u7 u8 u9 u10 u11 u12:Value) (ga:Option Addr) (gc:Nat) (w1:World),St w0 fp0 (J []++[entA β (.slice ga sel.length gc) sel]) w1->Q .normal (putL a [(7,u7),(8,u8),(9,u9),(10,u10),(11,u11),(12,u12),(13, .slice ga sel.length gc),(14, .int .i64 sel.length),(15, .int .i64 0)]) w1)->c.wp Tryz.prog Q a W):=by
  intro c a Q c1 c2 c3 c4 c5 c6 c7 hQ;refine wp_regT HREG.out (by kernel_rfl) ⟨c1,c2⟩ ⟨c3,c4,λ p hp=> ?_⟩ HS1.out λ A1 w1 N1 H1=> ?_
  · simp only [gBt0,List.map_nil,List.append_nil,List.mem_cons,List.not_mem_nil,or_false] at hp
    rcases hp with rfl | rfl | rfl
    · exact c5
    · exact c6
    · exact c7
  have e13:slots A1 13=.slice (sa (slots A1 13)) sel.length (sc (slots A1 13)):=N1.val 6 rfl;have e14:slots A1 14=.int .i64 sel.length:=N1.val 7 rfl;have e15:slots A1 15=.int .i64 0:=N1.val 8 rfl;have H1':St w0 fp0 ([entA β (slots A1 13) sel,blkA bt (tTP β) #[.pointer (some ⟨tb,0,none⟩)],blkA bl (tKP β) #[optP lb lo],blkA bh (tKP β) #[optP hb hi],blkA tb (tT β) #[.pointer (some ⟨rb,0,none⟩), .int .i64 o, .int .i64 l.length],treeA β h x rb,optB β lb lo,optB β hb hi]++R) w1:=H1;have h2:=H0.out _ _ H1';rw [e13] at h2;have:=hQ (slots A1 7) (slots A1 8) (slots A1 9) (slots A1 10) (slots A1 11) (slots A1 12) _ _ w1 h2;rw [<-e13,<-e14,<-e15] at this;rw [show A1=putL a [(7,slots A1 7),(8,slots A1 8),(9,slots A1 9),(10,slots A1 10),(11,slots A1 11),(12,slots A1 12),(13,slots A1 13),(14,slots A1 14),(15,slots A1 15)] from N1.frame.eq];exact this
 clear HREG HS1 H0;obtain ⟨E,hE⟩:∃E:Value->Asn,(λ v=> entA β v sel)=E:=⟨_,rfl⟩
 have HROW:Hid (∀v w f,(E v).p w f->∃a c,v=.slice a sel.length c/\∀i,i < sel.length * 2->∃g,a=some ⟨g,0,none⟩/\g < w.heap.size/\w.cell? ⟨g,i,none⟩=(entsV sel)[i]? /\∀j,w.frozen? ⟨g,j,none⟩=false):=by intro v w f hf;rw [<-hE] at hf;obtain ⟨a,c,e1, -, -,e2⟩:=row_shape (show (rowA (tE β) 2 v sel.length (entsV sel)).p w f from hf);exact ⟨a,c,e1,e2⟩
 replace HW:Hid (∀(c:Code) (a:Act) (Q:Exit->Act->World->Prop),isReg c=true->cops c=opsR (BBetw1 β) 0->a.tmps.size=27->a.defers=[]->a.eval (.tmp 1)=.pointer (some ⟨bt,0,none⟩)->a.eval (.tmp 2)=.pointer (some ⟨bl,0,none⟩)->a.eval (.tmp 3)=.pointer (some ⟨bh,0,none⟩)->
  (∀(u7 u8 u9 u10 u11 u12:Value) (ga:Option Addr) (gc:Nat) (w1:World),St w0 fp0 (J []++[E (.slice ga sel.length gc)]) w1->Q .normal (putL a [(7,u7),(8,u8),(9,u9),(10,u10),(11,u11),(12,u12),(13, .slice ga sel.length gc),(14, .int .i64 sel.length),(15, .int .i64 0)]) w1)->c.wp Tryz.prog Q a W):=by
  rw [<-hE];exact HW
 clear hE HOK;cases β
 case' false=> go_enter Tryz.func137,Tryz.ntmps137
 case' true=> first | (exact absurd (OkI.ok (β:=true)) (by decide)) | go_enter Tryz.func110,Tryz.ntmps110
 all_goals
  go_upto_region 0 with (fail)
  refine HW.out _ _ _ rfl (by kernel_rfl) rfl rfl rfl rfl rfl λ u7 u8 u9 u10 u11 u12 ga gc w1 h2=> ?_;have H2:=Lib.hid h2;clear h2 HW;simp only [putL,List.foldl,Act.put,List.setIfInBounds_toArray,List.set_cons_succ,List.set_cons_zero];obtain ⟨N,hN⟩:∃N,sel.length=N:=⟨_,rfl⟩
  have HN:=Lib.hid hN;rw [hN] at H2 hsel HROW ⊢;clear hN;go_wp2;go_loopg [15] N (λ g z wr=> ∃k:Nat,z=.int .i64 k/\g+k=N/\Hid (∃pre rest,sel=pre++rest/\pre.length=k/\St w0 fp0 (J pre++[E (.slice ga N gc)]) wr))
  case atStart=> exact ⟨0,rfl,rfl,⟨[],sel,rfl,rfl,H2.out⟩⟩
  case round=>
   obtain ⟨k,rfl,hgk,Hr⟩:=hrel;by_cases hk:k < N
   · obtain ⟨pre,rest,hxs,hpl,hs⟩:=Hr.out
     cases rest with
     | nil=>
      exfalso;have:=congrArg List.length hxs;rw [HN.out,List.append_nil] at this;omega
     | cons x rest=>
      obtain ⟨_,hrw⟩:=St.has (i:=0) (A:=E (.slice ga N gc)) hs.comm rfl;have hkl:k < sel.length:=by rw [HN.out];exact hk
      have hxk:sel[k]=x:=by
       have:sel[k]? =some x:=by rw [hxs,<-hpl];simp
       rw [List.getElem?_eq_getElem hkl] at this;exact Option.some.inj this
      obtain ⟨ga',gc',e0,hcell⟩:=HROW.out _ _ _ hrw;injection e0 with e1 e2 e3;subst e1;obtain ⟨gb,hga,hgl,hc0, -⟩:=hcell (k * 2) (by omega);obtain ⟨gb',hga', -,hc1, -⟩:=hcell (k * 2+1) (by omega);subst hga;obtain rfl:gb'=gb:=by injection hga' with h;injection h with h;exact h.symm
      rw [(entsV_at sel k hkl).1,hxk] at hc0;rw [(entsV_at sel k hkl).2,hxk] at hc1;have HYx:Hid (∀W',St w0 fp0 (J pre++[E (.slice (some ⟨gb',0,none⟩) N gc)]) W'->YieldAt Fence.wide (n - 1) Tryz.prog y #[encK x.1,encV x.2] W' λ e W'=>
       (e=.returned (.bool true)/\St w0 fp0 (J (pre++[x])++[E (.slice (some ⟨gb',0,none⟩) N gc)]) W')\/(e=.returned (.bool false)/\St w0 fp0 (Jx (pre++[x])++[E (.slice (some ⟨gb',0,none⟩) N gc)]) W')):=
       λ W' h=> HY.out pre x rest _ W' hxs h
      have Hs:=Lib.hid hs;have Hxs:=Lib.hid hxs;have Hpl:=Lib.hid hpl;have hkn:(k:Int) < N:=by omega
      clear hs hxs hpl hrw hkl hxk hcell hga' Hr e2 e3;have Hgk:=Lib.hid hgk;clear hgk;obtain ⟨xk,exk⟩:∃xk,x.1=xk:=⟨_,rfl⟩
      obtain ⟨xv,exv⟩:∃xv,x.2=xv:=⟨_,rfl⟩
      rw [exk] at hc0;rw [exv] at hc1;rw [exk,exv] at HYx;clear exk exv;cases xk <;> cases xv
      all_goals
       simp only [encK,encV] at hc0 hc1 HYx;go_upto_region 3 with (fail)
       generalize hW2:wr.alloc _=W2;have hb2:Below wr.heap.size wr W2:=by rw [<-hW2];exact (Below.refl _ _).alloc (Nat.le_refl _) _
       have d0:=World.cell?_alloc_new wr _ _ 0 |>.symm.trans (congrArg (λ w=> World.cell? w ⟨wr.heap.size,0,none⟩) hW2) |>.symm
       have d1:=World.cell?_alloc_new wr _ _ 1 |>.symm.trans (congrArg (λ w=> World.cell? w ⟨wr.heap.size,1,none⟩) hW2) |>.symm
       simp only [List.getElem?_toArray,List.getElem?_cons_zero,List.getElem?_cons_succ] at d0 d1;have dl:wr.heap.size < W2.heap.size:=by rw [<-hW2];simp
       have HSo:Hid (∀W' A,St w0 fp0 (A++[E (.slice (some ⟨gb',0,none⟩) N gc)]) W'->St w0 fp0 A W'):=λ W' A h=> St.dropAll (A:=[E (.slice (some ⟨gb',0,none⟩) N gc)]) h.comm;obtain ⟨fn,tmps,assign,body,hy,hR⟩:=HYx.out W2 (Hs.out.mono hb2);have HR:=Lib.hid hR;clear hb2 hR hW2 hc0 hc1 hgl H2 HYx Hs HY;generalize wr.heap.size=eb at *;refine (wpIn_wide (n:=n)).1 ?_
       gi_wp2
       refine ⟨λ h=> (by cases h),HR.out.mono ?_⟩;rintro e W' (⟨rfl,hs'⟩ | ⟨rfl,hs'⟩)
       · have Hs':=Lib.hid hs'
         clear hs' HR hy d0 d1 dl
         gi_wp2
         go_wp2;go_roundg (N - (k+1))
         case rel=> exact ⟨k+1,by go_num,by omega,⟨pre++[x],rest,by rw [Hxs.out];simp,by rw [List.length_append,Hpl.out];rfl,Hs'.out⟩⟩
         case measure=> have:=Hgk.out;omega
       · have Hs':=Lib.hid (HSo.out _ _ hs')
         clear hs' HR hy d0 d1 dl HSo
         gi_wp2
         go_wp2;refine bodyPost_ret (results_none rfl _ _ _) rfl ?_;exact ⟨⟨_,rfl⟩, .inr ⟨pre,x,rest,Hxs.out,Hs'.out⟩⟩
   · have hnk:k=N:=by omega
     have Hend:Hid (St w0 fp0 (J sel) wr):=by
      obtain ⟨pre,rest,hxs,hpl,hs⟩:=Hr.out;have:rest=[]:=by have:=congrArg List.length hxs;rw [HN.out,List.length_append] at this;exact List.length_eq_zero_iff.1 (by omega)
      subst this;rw [List.append_nil] at hxs;rw [hxs];exact St.dropAll (A:=[E (.slice ga N gc)]) (by rw [<-hxs] at hs ⊢;exact hs.comm)
     clear Hr HY H2 hgk hk HN hsel;subst hnk;go_wp2;go_end0;exact ⟨⟨_,rfl⟩, .inl Hend.out⟩
end
section
variable {β:Bool} [OkI β]
def iterL (β:Bool) (tb bt bl bh lb hb:Nat) (lo hi:Option Ky):List Asn:=
 [blkA bt (tTP β) #[.pointer (some ⟨tb,0,none⟩)],blkA bl (tKP β) #[optP lb lo],blkA bh (tKP β) #[optP hb hi]]
def iterF (β:Bool) (bt bl bh:Nat):Value:=.func (.func (fBetw1 β)) #[] #[.pointer (some ⟨bt,0,none⟩), .pointer (some ⟨bl,0,none⟩), .pointer (some ⟨bh,0,none⟩)]
theorem between_calls (tb lb hb:Nat) (lo hi:Option Ky) (w0 w:World) (fp0:List Nat) (R:List Asn) (hS:St w0 fp0 R w):
 Calls Tryz.prog (fBetween β) #[.pointer (some ⟨tb,0,none⟩),optP lb lo,optP hb hi] w λ e w'=> ∃bt bl bh,e=.returned (iterF β bt bl bh)/\St w0 fp0 (iterL β tb bt bl bh lb hb lo hi++R) w':=by
 have HS:Hid (St w0 fp0 (iterL β tb w.heap.size (w.heap.size+1) (w.heap.size+1+1) lb hb lo hi++R) (((w.alloc (.cells #[.pointer (some ⟨tb,0,none⟩)] (tTP β))).alloc (.cells #[optP lb lo] (tKP β))).alloc (.cells #[optP hb hi] (tKP β)))):=by have h1:=((hS.newblk (tTP β) #[.pointer (some ⟨tb,0,none⟩)]).newblk (tKP β) #[optP lb lo]).newblk (tKP β) #[optP hb hi];simp only [World.size_alloc] at h1;exact St_re (L:=[_,_,_]) h1 [2,1,0] [] (by kernel_rfl)
 clear hS;cases lo <;> cases hi
 all_goals
  cases β
  case' false=> go_enter Tryz.func109,Tryz.ntmps109
  case' true=> first | (exact absurd (OkI.ok (β:=true)) (by decide)) | go_enter Tryz.func90,Tryz.ntmps90
  all_goals
   dsimp only [optP,tTP,tKP] at HS ⊢;go_wp2;go_ret;exact ⟨_,_,_,rfl,HS.out⟩
end
theorem All_calls (tb:Nat) (w0 w:World) (fp0:List Nat) (R:List Asn) (hS:St w0 fp0 R w):
 Calls Tryz.prog 88 #[.pointer (some ⟨tb,0,none⟩)] w λ e w'=> ∃bt bl bh,e=.returned (iterF false bt bl bh)/\St w0 fp0 (iterL false tb bt bl bh 0 0 none none++R) w':=by
 have HC:=Lib.hid (between_calls (β:=false) tb 0 0 none none w0 w fp0 R hS);clear hS;unfold iterF at *;dsimp only [fBetween,optP] at HC;go_enter Tryz.func88,Tryz.ntmps88;go_wp2_with fail;(with_reducible refine HC.out.mono ?_);rintro e w1 ⟨bt,bl,bh,rfl,hs⟩;have HS:=Lib.hid hs;clear hs HC;go_wp2;go_ret;exact ⟨_,_,_,rfl,HS.out⟩
section
open Go.Shelf
attribute [local go_sem] Oper.semAt_some
theorem St.exo {w0 w:World} {fp0:List Nat} {α:Type} {F:α->List Asn} {L:List Asn}:St w0 fp0 (exA (λ a=> starA (F a))::L) w↔∃a,St w0 fp0 (F a++L) w:=by
 constructor
 · intro h
   obtain ⟨a,ha⟩:=h.unfold (L1:=F) λ f ⟨a,ha⟩=> ⟨a,ha⟩
   exact ⟨a,ha⟩
 · rintro ⟨a,ha⟩
   exact ha.fold λ f hf=> ⟨a,hf⟩
def vaA:Va->Option Addr×Nat×Nat
 | .sl a n c=> (a,n,c)
 | .int _=> (none,0,0)
def toRi (e:Re):Ri:=⟨e.id,(vaA e.va).1,(vaA e.va).2.1,(vaA e.va).2.2,e.r⟩
theorem toRi_v {e:Re} (h:∃a n c,e.va=.sl a n c):(toRi e).v=encV e.va:=by
 obtain ⟨a,n,c,h⟩:=h;unfold toRi Ri.v;rw [h];rfl
def somL (p:Re->Bool) (es:List Re):List Ri:=(es.filter p).map toRi
theorem somL_len (p:Re->Bool) (es:List Re):(somL p es).length<=es.length:=by
 rw [somL,List.length_map];exact List.length_filter_le _ _
theorem somL_snoc (p:Re->Bool) (A:List Re) (e:Re):somL p (A++[e])=somL p A++if p e then [toRi e] else []:=by
 unfold somL;rw [List.filter_append,List.map_append];cases h:p e <;> simp [h]
def outA (b:Nat) (l:List Ri):Asn:=exA λ v=> starA [blkA b 94 #[v],rowA 114 2 v l.length (riV l)]
theorem St.out {w0 w:World} {fp0:List Nat} {L:List Asn} {b:Nat} {l:List Ri}:St w0 fp0 (outA b l::L) w↔∃v,St w0 fp0 (blkA b 94 #[v]::rowA 114 2 v l.length (riV l)::L) w:=
 St.exo (F:=λ v=> [blkA b 94 #[v],rowA 114 2 v l.length (riV l)])
theorem appIT:AppSrc Tryz.prog 94 94 114 2:=appSrc (z:=.agg #[.int .i64 0, .slice none 0 0]) (bytes:=32) (by kernel_rfl) (by kernel_rfl) rfl (by decide) (by decide)
theorem riV_one (y:Ri):riV [y]=[.int .i64 y.id,y.v]:=rfl
theorem St.appIt {w0 W:World} {fp0:List Nat} {L:List Asn} {bo:Nat} {v0:Value} {l:List Ri} (ty:TypeId) (y:Ri) (hlen:l.length+1 < 1099511627776) (hS:St w0 fp0 (blkA bo 94 #[v0]::rowA 114 2 v0 l.length (riV l)::L) W):
 ∃v' w',(Builtin.append_ #[94,94] ty #[v0, .slice (some ⟨W.heap.size,0,none⟩) 1 1]).run Tryz.prog (W.alloc (.cells #[.int .i64 y.id,y.v] 114))=.ok v' w'/\(∃a c,v'=.slice a (l.length+1) c)/\
  w'.cell? ⟨bo,0,none⟩=some v0/\w'.frozen? ⟨bo,0,none⟩=false/\bo < w'.heap.size/\St w0 fp0 (blkA bo 94 #[v']::rowA 114 2 v' (l++[y]).length (riV (l++[y]))::L) (w'.setCell ⟨bo,0,none⟩ v'):=by
 have h1:=hS.newblk 114 #[.int .i64 y.id,y.v];have h1:St w0 fp0 (rowA 114 2 v0 l.length (riV l)::blkA bo 94 #[v0]::L) (W.alloc (.cells #[.int .i64 y.id,y.v] 114)):=h1.drop.perm (List.Perm.swap _ _ _);obtain ⟨v',w',hr,h2⟩:=St.appSrc appIT ty h1 (src_litk (tx:=94) (e':=114) (by kernel_rfl) _ 2 W.heap.size 1 1 114 (0,0) #[.int .i64 y.id,y.v] (heap_alloc_new W _) rfl (by intro u hu;simp only [List.mem_cons,List.not_mem_nil,or_false] at hu;rcases hu with rfl | rfl <;> rfl)) hlen;have h3:St w0 fp0 (blkA bo 94 #[v0]::rowA 114 2 v' (l.length+1) (riV l++[.int .i64 y.id,y.v])::L) w':=h2.perm (List.Perm.swap _ _ _);obtain ⟨_,ho⟩:=h2.has 0 rfl;obtain ⟨a,c,e,_⟩:=row_shape ho;obtain ⟨g,hg,hset2⟩:=h3.get 0 rfl;have hc:=(blk_get hg).1 0;have hf:=(blk_get hg).2.1 0;have hl:=(blk_get hg).2.2;obtain ⟨hb2,ht2⟩:=blk_set hg 0 v';have h4:=hset2 _ _ _ hb2 ht2;refine ⟨v',w',hr,⟨a,c,e⟩,hc,hf,hl,?_⟩;rw [riV_append,riV_one,List.length_append,List.length_singleton];exact h4
def IsC (f:Nat) (caps:Array Value) (p:Re->Bool) (S:Nat) (s:Sto) (LX:List Asn):Prop:=∀(w0:World) (fp0:List Nat) (R:List Asn) (w:World) (e:Re),e∈s.es->St w0 fp0 (stoL S s++(LX++R)) w->
 Calls Tryz.prog f (#[encV e.va]++caps) w λ ev w'=> ev=.returned (.bool (p e))/\St w0 fp0 (stoL S s++(LX++R)) w'
theorem St.slOf {w0 w:World} {fp0:List Nat} {R:List Asn} {S:Nat} {s:Sto} (h:St w0 fp0 (stoL S s++R) w):∀e∈s.es,∃a n c,e.va=.sl a n c:=by
 intro e he;obtain ⟨f,hf⟩:=h.star_of;obtain ⟨i,hi,rfl⟩:=List.mem_iff_getElem.1 he;obtain ⟨g,hg, -⟩:=Star.get (i+3) (A:=reA s.es[i]) (by show (blkA _ _ _::_::_::(s.es.map reA++s.ixs.map ixA))[i+3]? =_;simp only [List.getElem?_cons_succ];rw [List.getElem?_append_left (by simpa using hi),List.getElem?_map,List.getElem?_eq_getElem hi];rfl) hf;obtain ⟨a,c,e1, -⟩:=row_shape hg;exact encV_sl _ ⟨a,_,c,e1⟩
def stoR (S:Nat) (s:Sto):List Asn:=blkA S 119 #[.int .i64 s.cols,ptrV s.tb, .int .i64 s.next,s.iv]::rowA 97 2 s.iv s.ixs.length (ixV s.ixs)::(s.es.map reA++s.ixs.map ixA)
theorem reM_split {es:List Re} {pre rest:MM} {x:Ky×Va} (h:reM es=pre++x::rest):∃e:Re,x=(.int e.id,e.va)/\es.take (pre.length+1)=es.take pre.length++[e]/\e∈es:=by
 have hl:pre.length < es.length:=by have h1:=congrArg List.length h;rw [reM,List.length_map,List.length_append,List.length_cons] at h1;omega
 have hx:(reM es)[pre.length]? =some x:=by rw [h];simp
 rw [reM,List.getElem?_map,List.getElem?_eq_getElem hl] at hx;exact ⟨es[pre.length],(Option.some.inj hx).symm,List.take_succ_eq_append_getElem hl,List.getElem_mem hl⟩
def smI (b5 b3:Nat) (isv:Value) (p:Re->Bool) (es:List Re) (L:List Asn) (pre:MM):List Asn:=outA b5 (somL p (es.take pre.length))::blkA b3 88 #[isv]::L
theorem some_calls (f:Nat) (caps:Array Value) (p:Re->Bool) (S:Nat) (s:Sto) (LX:List Asn) (he:∀args w,(callFunc f args).run Tryz.prog w=.ok (.enter f args) w) (hlen:s.es.length+1 < 1099511627776) (his:IsC f caps p S s LX)
 (w0 w:World) (fp0:List Nat) (R:List Asn) (hS:St w0 fp0 (stoL S s++(LX++R)) w):
 Calls Tryz.prog 48 #[ptrV S, .func (.func f) #[] caps] w λ e w'=> ∃v,e=.returned v/\St w0 fp0 (rowA 114 2 v (somL p s.es).length (riV (somL p s.es))::(stoL S s++(LX++R))) w':=by
 have HSL:=Lib.hid hS.slOf;obtain ⟨tb,htb⟩:∃tb,s.tb=tb:=⟨_,rfl⟩
 have HS0:Hid (St w0 fp0 (rowA 114 2 (.slice none 0 0) 0 []::blkA (w.heap.size+1) 94 #[.slice none 0 0]::blkA w.heap.size 88 #[.func (.func f) #[] caps]::(stoL S s++(LX++R))) ((w.alloc (.cells #[.func (.func f) #[] caps] 88)).alloc (.cells #[.slice none 0 0] 94))):=by have h1:=((hS.newblk 88 #[.func (.func f) #[] caps]).newblk 94 #[.slice none 0 0]).nilR 114 2;simp only [World.size_alloc] at h1;exact h1
 have HSEQ:=Lib.hid (λ bt bl bh=> betw1_seq (β:=false) (o:=16) (h:=s.h) (by omega) none none 0 0 (by simp) (by simp) (reM s.es) (okR _) s.tb bt bl bh (by rw [reM,List.length_map];exact hlen) (2 - 1));simp only [selM_all] at HSEQ;have HIS:=Lib.hid his;have HLEN:=Lib.hid hlen;have c1:(((w.alloc (.cells #[.func (.func f) #[] caps] 88)).alloc (.cells #[.slice none 0 0] 94)).cell? ⟨S,1,none⟩)=some (ptrV tb):=by obtain ⟨_,hb⟩:=HS0.out.has 3 rfl;have:=(blk_get hb).1 1;rw [<-htb];exact this
 have hSl:S < ((w.alloc (.cells #[.func (.func f) #[] caps] 88)).alloc (.cells #[.slice none 0 0] 94)).heap.size:=World.block_lt_of_cell? _ _ c1;clear hS his hlen;rw [htb] at HSEQ;have HTB:=Lib.hid htb;clear htb;unfold ptrV at *;dsimp only [fBetw1] at HSEQ;refine calls_of_wp_m Tryz.func48 rfl ?_;simp only [Tryz.ntmps48,List.size_toArray,List.length_cons,List.length_nil,Nat.reduceAdd,Nat.reduceSub,Array.replicate_succ,Array.replicate_zero,List.push_toArray,List.append_toArray,List.nil_append,List.cons_append];go_upto_region 2 with (fail)
 generalize hWW:(w.alloc _).alloc _=W0;have HS1:=Lib.hid (show St w0 fp0 _ W0 from hWW ▸ HS0.out);have c1':W0.cell? ⟨S,1,none⟩=some (.pointer (some ⟨tb,0,none⟩)):=hWW ▸ c1;have hSl':S < W0.heap.size:=hWW ▸ hSl;clear hWW HS0 c1 hSl;obtain ⟨b3,hbm⟩:∃b3,w.heap.size=b3:=⟨_,rfl⟩
 simp only [hbm] at HS1 ⊢;clear hbm;have HA:=Lib.hid (All_calls tb w0 W0 fp0 _ HS1.out);clear HS1;go_wp2_with fail;(with_reducible refine HA.out.mono ?_);rintro e w1 ⟨bt,bl,bh,rfl,hs1⟩;have HS1:=Lib.hid hs1;clear hs1 HA c1' hSl';unfold iterF;dsimp only [fBetw1];go_wp2_with fail;have HFR:Hid (St w0 fp0 (betL false 16 s.h (reM s.es) tb bt bl bh 0 0 none none++(blkA (b3+1) 94 #[.slice none 0 0]::rowA 114 2 (.slice none 0 0) 0 []::blkA b3 88 #[.func (.func f) #[] caps]::stoR S s++(LX++R))) w1):=by have h1:St w0 fp0 (emp::emp::(iterL false tb bt bl bh 0 0 none none++(rowA 114 2 (.slice none 0 0) 0 []::blkA (b3+1) 94 #[.slice none 0 0]::blkA b3 88 #[.func (.func f) #[] caps]::(stoL S s++(LX++R))))) w1:=St.emp.2 (St.emp.2 HS1.out);refine h1.perm ?_;rw [<-HTB.out];unfold stoL stoR betL iterL optB;exact (by classical exact List.perm_iff_count.2 λ a=> by simp only [List.cons_append,List.nil_append,List.count_append,List.count_cons] <;> omega)
 obtain ⟨b5,hb5⟩:∃b5,b3+1=b5:=⟨_,rfl⟩
 rw [hb5] at HFR ⊢;clear HS1;refine wp_rangeFunc_st (n:=2) rfl (enters_of Tryz.func137 (by kernel_rfl) rfl) (HSEQ.out bt bl bh) (λ _=> rfl)
  (smI b5 b3 (.func (.func f) #[] caps) p s.es (iterL false tb bt bl bh 0 0 none none++(stoL S s++(LX++R)))) (λ _ _=> [pureA False]) _ HFR.out ?h0 ?round ?done ?stop
 case h0=>
  intro Own W hW;have h1:St w0 fp0 (emp::emp::(blkA b5 94 #[.slice none 0 0]::rowA 114 2 (.slice none 0 0) 0 []::(blkA b3 88 #[.func (.func f) #[] caps]::(iterL false tb bt bl bh 0 0 none none++(stoL S s++(LX++R)))++Own))) W:=by refine hW.perm ?_;rw [<-HTB.out];unfold stoL stoR betL iterL optB;exact (by classical exact List.perm_iff_count.2 λ a=> by simp only [List.cons_append,List.nil_append,List.count_append,List.count_cons] <;> omega)
  have h2:=St.emp.1 (St.emp.1 h1);exact St.out.2 ⟨_,h2⟩
 case round=>
  intro l0 pre x rest Own W hxs hs;obtain ⟨e,hx,het,hem⟩:=reM_split hxs;obtain ⟨PRE,hPRE⟩:∃PRE,somL p (s.es.take pre.length)=PRE:=⟨_,rfl⟩
  have hPL:PRE.length+1 < 1099511627776:=by have h1:=somL_len p (s.es.take pre.length);rw [hPRE,List.length_take] at h1;have:=HLEN.out;omega
  obtain ⟨nx,hnx⟩:∃nx,pre++[x]=nx:=⟨_,rfl⟩
  have HNX:Hid (somL p (s.es.take nx.length)=PRE++if p e then [toRi e] else []):=by show _=_;rw [<-hnx,List.length_append,show [x].length=1 from rfl,het,somL_snoc,hPRE]
  have hsm:smI b5 b3 (.func (.func f) #[] caps) p s.es (iterL false tb bt bl bh 0 0 none none++(stoL S s++(LX++R))) pre=outA b5 PRE::blkA b3 88 #[.func (.func f) #[] caps]::(iterL false tb bt bl bh 0 0 none none++(stoL S s++(LX++R))):=by rw [smI,hPRE]
  rw [hsm] at hs ⊢;rw [hnx,hx];have HV:=Lib.hid (toRi_v (HSL.out e hem));have HEM:=Lib.hid hem;clear hx het hPRE hxs hem hsm hnx;obtain ⟨va,vn,vc,hvv⟩:∃a n c,encV e.va=.slice a n c:=by obtain ⟨a,n,c,h⟩:=HSL.out e HEM.out;exact ⟨a,n,c,by rw [h];rfl⟩
  rw [hvv] at HV ⊢;dsimp only [encK]
  gi_wp2
  refine ⟨hs,λ Own2 W2 hs2=> ?_⟩;clear hs Own W;have h2:St w0 fp0 (stoL S s++(LX++(R++(outA b5 PRE::blkA b3 88 #[.func (.func f) #[] caps]::(iterL false tb bt bl bh 0 0 none none++Own2))))) W2:=by refine hs2.perm ?_;exact (by classical exact List.perm_iff_count.2 λ a=> by simp only [List.cons_append,List.count_append,List.count_cons] <;> omega)
  have HC:=Lib.hid (HIS.out w0 fp0 _ W2 e HEM.out h2);rw [hvv] at HC;clear hvv;obtain ⟨_,hb⟩:=hs2.has 1 rfl;have d0:=(blk_get hb).1 0;have dl:=(blk_get hb).2.2;simp only [List.getElem?_toArray,List.getElem?_cons_zero] at d0;clear hs2 h2 hb
  gi_wp2
  refine ⟨trivial,rfl,(CallsIn.inRound l0 (callsIn_wide.2 HC.out)).mono ?_⟩;rintro ev w3 ⟨rfl,h3⟩;clear HC d0 dl;have h4:St w0 fp0 (outA b5 PRE::(blkA b3 88 #[.func (.func f) #[] caps]::(iterL false tb bt bl bh 0 0 none none++(stoL S s++(LX++R)))++Own2)) w3:=by refine h3.perm ?_;exact (by classical exact List.perm_iff_count.2 λ a=> by simp only [List.cons_append,List.count_append,List.count_cons] <;> omega)
  obtain ⟨q,hq⟩:∃q,p e=q:=⟨_,rfl⟩
  rw [hq] at HNX ⊢;clear hq h3;cases q with
  | false=>
   have HF:Hid (St w0 fp0 (smI b5 b3 (.func (.func f) #[] caps) p s.es (iterL false tb bt bl bh 0 0 none none++(stoL S s++(LX++R))) nx++Own2) w3):=by show St _ _ _ _;unfold smI;rw [HNX.out,if_neg (by simp),List.append_nil];exact h4
   clear h4 HNX
   gi_wp2
   exact HF.out
  | true=>
   obtain ⟨v0,h5⟩:=St.out.1 h4;obtain ⟨_,hb⟩:=h5.has 0 rfl;have d0:=(blk_get hb).1 0;have dl:=(blk_get hb).2.2;simp only [List.getElem?_toArray,List.getElem?_cons_zero] at d0;obtain ⟨v',w',hr,⟨a',c',rfl⟩,e0,e1,e2,h6⟩:=h5.appIt 94 (toRi e) hPL;rw [HV.out,show (toRi e).id=e.id from rfl] at hr;have h7:=St.out.2 ⟨_,h6⟩;have HF:Hid (St w0 fp0 (smI b5 b3 (.func (.func f) #[] caps) p s.es (iterL false tb bt bl bh 0 0 none none++(stoL S s++(LX++R))) nx++Own2) (w'.setCell ⟨b5,0,none⟩ (.slice a' (PRE.length+1) c'))):=by show St _ _ _ _;unfold smI;rw [HNX.out,if_pos rfl];exact h7
   have HR:=Lib.hid hr;clear h4 HNX h5 hb h6 h7 hr
   gi_wp2_with (gi_at_builtin;refine wpListIn_append_run rfl _ _ _ rfl rfl rfl HR.out ?_)
   exact HF.out
 case done=>
  intro D W hW;have hlr:(reM s.es).length=s.es.length:=by rw [reM,List.length_map]
  have h1:St w0 fp0 (outA b5 (somL p s.es)::blkA b3 88 #[.func (.func f) #[] caps]::(iterL false tb bt bl bh 0 0 none none++(defA D::(stoL S s++(LX++R))))) W:=by refine hW.perm ?_;unfold smI;rw [hlr,List.take_length];exact (by classical exact List.perm_iff_count.2 λ a=> by simp only [List.count_append,List.count_cons] <;> omega)
  obtain ⟨v0,h2⟩:=St.out.1 h1;obtain ⟨_,hb⟩:=h2.has 0 rfl;have d0:=(blk_get hb).1 0;have dl:=(blk_get hb).2.2;simp only [List.getElem?_toArray,List.getElem?_cons_zero] at d0;have h3:St w0 fp0 (defA D::rowA 114 2 v0 (somL p s.es).length (riV (somL p s.es))::(stoL S s++(LX++R))) W:=by refine St.dropAll (A:=[blkA b5 94 #[v0],blkA b3 88 #[.func (.func f) #[] caps]]++iterL false tb bt bl bh 0 0 none none) (h2.perm ?_);exact (by classical exact List.perm_iff_count.2 λ a=> by simp only [List.cons_append,List.nil_append,List.count_append,List.count_cons] <;> omega)
  have H3:=Lib.hid h3;clear hW h1 h2 h3 hb hlr;dsimp only;go_wp2;exact bodyPostM_mark H3.out rfl λ w' hw'=> ⟨_,results_tmp rfl _ _ _,v0,rfl,hw'⟩
 case stop=>
  intro D c pre x rest W hxs hW;exact ((St.pure.1 (show St w0 fp0 (pureA False::[defA D]) W from hW.perm (List.Perm.swap _ _ _))).1).elim
end
theorem all11_isc (S:Nat) (s:Sto):IsC 54 #[] (λ _=> true) S s []:=by
 intro w0 fp0 R w e he hs;have HS:=Lib.hid hs;generalize encV e.va=v;clear hs;go_enter Tryz.func54,Tryz.ntmps54;go_wp2;go_ret;exact ⟨rfl,HS.out⟩
theorem all1_calls (bS S:Nat) (s:Sto) (hlen:s.es.length+1 < 1099511627776) (w0 w:World) (fp0:List Nat) (R:List Asn) (hS:St w0 fp0 (blkA bS 34 #[ptrV S]::(stoL S s++R)) w):
 Calls Tryz.prog 53 #[.pointer (some ⟨bS,0,none⟩)] w λ e w'=> ∃v,e=.returned v/\St w0 fp0 (rowA 114 2 v (somL (λ _=> true) s.es).length (riV (somL (λ _=> true) s.es))::blkA bS 34 #[ptrV S]::(stoL S s++R)) w':=by
 obtain ⟨_,hb⟩:=hS.has 0 rfl;have c0:=(blk_get hb).1 0;have cl:=(blk_get hb).2.2;simp only [List.getElem?_toArray,List.getElem?_cons_zero] at c0;have HC:=Lib.hid (some_calls 54 #[] (λ _=> true) S s [] (enters_own Tryz.func54 (by kernel_rfl) rfl) hlen (all11_isc S s) w0 w fp0 (blkA bS 34 #[ptrV S]::R) (hS.perm List.perm_middle.symm));clear hS hb;unfold ptrV at *;go_enter Tryz.func53,Tryz.ntmps53;go_wp2_with fail;(with_reducible refine HC.out.mono ?_);rintro e w1 ⟨v,rfl,h1⟩;have H1:=Lib.hid (show St w0 fp0 (rowA 114 2 v (somL (λ _=> true) s.es).length (riV (somL (λ _=> true) s.es))::blkA bS 34 #[.pointer (some ⟨S,0,none⟩)]::(stoL S s++R)) w1 from h1.perm (List.Perm.cons _ List.perm_middle));clear HC h1 c0 cl;go_wp2;go_ret;exact ⟨v,rfl,H1.out⟩
def allF (cb:Nat):Value:=.func (.func 84) #[] #[.pointer (some ⟨cb,0,none⟩)]
theorem each_calls (col:Value) (h1:col.oneCell'=true) (hc:∃f caps,col=.func (.func f) #[] caps) (w0 w:World) (fp0:List Nat) (R:List Asn) (hS:St w0 fp0 R w):
 Calls Tryz.prog 45 #[col] w λ e w'=> ∃cb,e=.returned (allF cb)/\St w0 fp0 (blkA cb 109 #[col]::R) w':=by
 obtain ⟨f,caps,rfl⟩:=hc;have HS:=Lib.hid (hS.newblk 109 #[.func (.func f) #[] caps]);clear hS;unfold allF;go_enter Tryz.func45,Tryz.ntmps45;go_wp2;go_ret;exact ⟨_,rfl,HS.out⟩
theorem All_store (S:Nat) (w0 w:World) (fp0:List Nat) (R:List Asn) (hS:St w0 fp0 R w):
 Calls Tryz.prog 16 #[ptrV S] w λ e w'=> ∃cb bS,e=.returned (allF cb)/\St w0 fp0 (blkA cb 109 #[.func (.func 53) #[] #[.pointer (some ⟨bS,0,none⟩)]]::blkA bS 34 #[ptrV S]::R) w':=by
 have HC:=Lib.hid (each_calls (.func (.func 53) #[] #[.pointer (some ⟨w.heap.size,0,none⟩)]) rfl ⟨_,_,rfl⟩ w0 _ fp0 _ (hS.newblk 34 #[ptrV S]));clear hS;unfold ptrV allF at *;go_enter Tryz.func16,Tryz.ntmps16;go_wp2_with fail;(with_reducible refine HC.out.mono ?_);rintro e w1 ⟨cb,rfl,h1⟩;have H1:=Lib.hid h1;clear h1 HC;go_wp2;go_ret;exact ⟨_,_,rfl,H1.out⟩
theorem somL_row {p:Re->Bool} {es:List Re} {x:Ri} (h:x∈somL p es):∃e∈es,p e=true/\x=toRi e:=by
 obtain ⟨e,he,rfl⟩:=List.mem_map.1 h;obtain ⟨h1,h2⟩:=List.mem_filter.1 he;exact ⟨e,h1,h2,rfl⟩
theorem somL_len2 {p:Re->Bool} {cols:Nat} {I:List (List Int)} {L:LL} {next:Int} {s:Sto} (hok:s.Ok cols I L next) (hc:cols<=1000000):∀x∈somL p s.es,x.r.length < 1099511627776:=by
 intro x hx;obtain ⟨e,he, -,rfl⟩:=somL_row hx;have hm:(e.id,e.r)∈L:=by rw [<-hok.rows];exact List.mem_map.2 ⟨_,he,rfl⟩
 have:e.r.length=cols:=(hok.row _ hm).2.2.1;show e.r.length < _;omega
theorem all_seq {S cols:Nat} {I:List (List Int)} {L:LL} {next:Int} {s:Sto} (hok:s.Ok cols I L next) (hc:cols<=1000000) (hlen:s.es.length+1 < 1099511627776) (bS cb:Nat) (n:Nat):
 SeqG n Tryz.prog 84 #[.pointer (some ⟨cb,0,none⟩)] 2 itG (λ W=> ∀x∈somL (λ _=> true) s.es,ValsAt W x.r x.v) (somL (λ _=> true) s.es) (blkA cb 109 #[.func (.func 53) #[] #[.pointer (some ⟨bS,0,none⟩)]]::(blkA bS 34 #[ptrV S]::stoL S s)):=
 each1_seq 53 #[.pointer (some ⟨bS,0,none⟩)] cb _ _ (enters_own Tryz.func53 (by kernel_rfl) rfl) (Nat.lt_of_le_of_lt (somL_len _ _) (by omega)) (somL_len2 hok hc) (λ w0 fp0 R w hs=> by have h1:St w0 fp0 (blkA bS 34 #[ptrV S]::(stoL S s++(blkA cb 109 #[.func (.func 53) #[] #[.pointer (some ⟨bS,0,none⟩)]]::R))) w:=hs.perm (by simp only [List.cons_append];exact (by classical exact List.perm_iff_count.2 λ a=> by simp only [List.count_append,List.count_cons] <;> omega));refine (all1_calls bS S s hlen w0 w fp0 _ h1).mono ?_;rintro e w' ⟨v,rfl,h2⟩;refine ⟨v,rfl,h2.perm ?_⟩;simp only [List.cons_append];exact (by classical exact List.perm_iff_count.2 λ a=> by simp only [List.count_append,List.count_cons] <;> omega)) n
theorem St.emptyV {w0 w:World} {fp0:List Nat} {L:List Asn} (h:St w0 fp0 L w):St w0 fp0 (rowA 29 3 (.slice (some ⟨w.heap.size,0,none⟩) 0 0) 0 []::L) (w.alloc (.cells #[] 29)):=
 (h.newblk 29 #[]).fold (L1:=[blkA w.heap.size 29 #[]]) λ f ⟨f1,f2,hf,h3,_,e⟩=> by obtain rfl:=h3;rw [List.append_nil] at e;subst e;exact row_empty hf
theorem appVS:AppSrc Tryz.prog 27 27 29 3:=appSrc (z:=.agg #[.int .i64 0, .int .i64 0, .string ⟨#[]⟩]) (bytes:=32) (by kernel_rfl) (by kernel_rfl) rfl (by decide) (by decide)
def gTk7 (b5:Nat) (lv:Value) (id:Int) (xa:Option Addr) (xn xc m:Nat) (XS V:List Value):=rgx Tryz.prog Tryz.f14 7 30 [17,18,19,20,21,22,23,24] [(5,pV b5 0),(6, .int .i64 id),(7, .slice xa xn xc)] (Vq 0 17 [Kv lv,Kv (.int .i64 id)]++Vq 3 20 [Kv (.slice xa xn xc),Vf.slice,Fv [21] λ g=> .agg #[.int .i64 id, .slice (sa (g 21)) (sn (g 21)) (sc (g 21))],Vf.box,Vf.slice]) [.blk b5 (35) [⟨lv,[(8, .s 24)]⟩], .all (rowA 29 3 (.slice xa xn xc) xn XS), .gen [2,4] [19,21] λ L g=> match L 4 with | true=> rowA 29 3 (g 21) xn XS | false=> match L 2 with | true=> rowA 29 3 (g 19) 0 [] | false=> emp, .new 6 [23,21] λ g=> boxsA 56 (g 23) #[.int .i64 id, .slice (sa (g 21)) (sn (g 21)) (sc (g 21))], .gen [7] [24,21] λ L g=> match L 7 with | true=> rowA 56 2 (g 24) (m+1) (V++[Value.int .i64 id,Value.slice (sa (g 21)) (sn (g 21)) (sc (g 21))]) | false=> rowA 56 2 lv m V]
theorem rTk7 (b5:Nat) (lv:Value) (id:Int) (xa:Option Addr) (xn xc m:Nat) (XS V:List Value) (w0:World) (fp0:List Nat) (R:List Asn) (hx:XS.length=xn * 3) (hx1:∀u∈XS,u.oneCell'=true) (hn:xn < 1099511627776) (hl:m+1 < 1099511627776) {w:World} {c:Code} {a:Act} {l0 n0:Nat} {Q:Exit->Act->World->Prop} (c1:isDrw c=true) (c2:cops c=opsR Tryz.f14 7) (c3:a.tmps.size=30) (c4:a.defers=[]) (i5:a.eval (.tmp 5)=.pointer (some ⟨b5,0,none⟩)) (i6:a.eval (.tmp 6)=.int .i64 id) (i7:a.eval (.tmp 7)=.slice xa xn xc)
 (hS:St w0 fp0 ([blkA b5 (35) #[lv],rowA 29 3 (.slice xa xn xc) xn XS,emp,emp,rowA 56 2 lv m V]++R) w)
 (hq:∀a w,¬ Q .outgrown a w) (hQ:∀(u19 u21 u22 u23 u24:Value) (w1:World),(∃a n c,u21=.slice a n c)->u22=.agg #[.int .i64 id, .slice (sa (u21)) (sn (u21)) (sc (u21))]->(∃b,u23=.slice (some ⟨b,0,none⟩) 1 1)->(∃a n c,u24=.slice a n c)->St w0 fp0 ([blkA b5 (35) #[u24],rowA 29 3 (.slice xa xn xc) xn XS,rowA 29 3 (u21) xn XS,boxsA 56 (u23) #[.int .i64 id, .slice (sa (u21)) (sn (u21)) (sc (u21))],rowA 56 2 (u24) (m+1) (V++[Value.int .i64 id,Value.slice (sa (u21)) (sn (u21)) (sc (u21))])]++R) w1->Q .normal (putL a [(17,lv),(18, .int .i64 id),(19,u19),(20, .slice xa xn xc),(21,u21),(22,u22),(23,u23),(24,u24)]) w1):c.wpIn (Fence.wide.inRound l0) n0 Tryz.prog Q a w:=by
 have ok:(gTk7 b5 lv id xa xn xc m XS V w0 fp0 R).Ok 9:=Rg.ok _ 9 [0,2,4,6,7,8] ⟨.load _ 0 0 0, .runG _ 2 (λ g=> [blkA b5 35 #[lv],rowA 29 3 (.slice xa xn xc) xn XS,emp,emp,rowA 56 2 lv m V]) (λ g v=> [blkA b5 35 #[lv],rowA 29 3 (.slice xa xn xc) xn XS,rowA 29 3 v 0 [],emp,rowA 56 2 lv m V]) (λ a w h=> ⟨.slice (some ⟨w.heap.size,0,none⟩) 0 0,w.alloc (.cells #[] 29),kr (by kernel_rfl),kr (by kernel_rfl),St.emp.1 (St_re (L:=[_,_,_,_,_,_]) h.emptyV [3,1,2,0,4,5] [] (by kernel_rfl))⟩), .appG _ 4 (λ g=> [blkA b5 35 #[lv],rowA 29 3 (.slice xa xn xc) xn XS,rowA 29 3 (g 19) 0 [],emp,rowA 56 2 lv m V]) (λ g v=> [blkA b5 35 #[lv],rowA 29 3 (.slice xa xn xc) xn XS,rowA 29 3 v xn XS,emp,rowA 56 2 lv m V]) (λ ty g w h=> (by obtain ⟨fa,hfa⟩:=h.has 1 rfl;obtain ⟨v,w2,h1,h2⟩:=St.appSrc appVS ty (St_re (L:=[_,_,_,_,_]) h [2,0,1,3,4] [] (by kernel_rfl)) ((SlX.of_row (X:=[]) hfa hx (by simp)).src (tx:=27) (e':=29) (by kernel_rfl) (by decide) hx1) (by omega);rw [Nat.zero_add,List.nil_append] at h2;obtain ⟨_,hr⟩:=h2.has 0 rfl;obtain ⟨a,c,rfl, -⟩:=row_shape hr;exact ⟨_,w2,h1,kr (by kernel_rfl),St_re (L:=[_,_,_,_,_]) h2 [1,2,0,3,4] [] (by kernel_rfl)⟩)), .boxsG _ 6 3, .appG _ 7 (λ g=> [blkA b5 35 #[lv],rowA 29 3 (.slice xa xn xc) xn XS,rowA 29 3 (g 21) xn XS,boxsA 56 (g 23) #[.int .i64 id, .slice (sa (g 21)) (sn (g 21)) (sc (g 21))],rowA 56 2 lv m V]) (λ g v=> [blkA b5 35 #[lv],rowA 29 3 (.slice xa xn xc) xn XS,rowA 29 3 (g 21) xn XS,boxsA 56 (g 23) #[.int .i64 id, .slice (sa (g 21)) (sn (g 21)) (sc (g 21))],rowA 56 2 v (m+1) (V++[Value.int .i64 id,Value.slice (sa (g 21)) (sn (g 21)) (sc (g 21))])]) (λ ty g w h=> (by obtain ⟨fb,hfb⟩:=h.has 3 rfl;obtain ⟨v,w2,h1,h2⟩:=St.appSrc appRI ty (St_re (L:=[_,_,_,_,_]) h [4,0,1,2,3] [] (by kernel_rfl)) (boxs_src (tx:=35) (e':=56) (by kernel_rfl) hfb rfl (by simp;exact ⟨rfl,rfl⟩)) hl;obtain ⟨_,hr⟩:=h2.has 0 rfl;obtain ⟨a,c,rfl, -⟩:=row_shape hr;exact ⟨_,w2,h1,kr (by kernel_rfl),St_re (L:=[_,_,_,_,_]) h2 [1,2,3,4,0] [] (by kernel_rfl)⟩)), .store _ 8 0 0,trivial⟩;refine wpIn_regT hq ok (by kernel_rfl) ⟨c1,c2⟩ ⟨c3,c4,λ p hp=> ?_⟩ hS λ A1 w1 N1 H1=> ?_
 · simp only [gTk7,rgx,List.map_nil,List.append_nil,List.mem_cons,List.not_mem_nil,or_false] at hp
   rcases hp with rfl | rfl | rfl
   · exact i5
   · exact i6
   · exact i7
 exact N1.fin [19,21,22,23,24] (hQ (slots A1 19) (slots A1 21) (slots A1 22) (slots A1 23) (slots A1 24) w1 ⟨_,_,_,(N1.val 3 rfl)⟩ (N1.val 4 rfl) ⟨_,(N1.val 5 rfl)⟩ ⟨_,_,_,(N1.val 6 rfl)⟩ H1) (by kernel_rfl)
theorem riL_drop_eq {l m:List Ri} {k:Nat} (h1:k < l.length) (h2:k < m.length):riL (l.drop k)=riL (m.drop k)↔(l[k].id=m[k].id/\l[k].r=m[k].r)/\riL (l.drop (k+1))=riL (m.drop (k+1)):=by
 rw [List.drop_eq_getElem_cons h1,List.drop_eq_getElem_cons h2];simp only [riL,List.map_cons,List.cons.injEq,Prod.mk.injEq]
theorem RSameI_calls (l m:List Ri) (v u:Value) (w:World) (hl:RiX w l v) (hm:RiX w m u):Calls Tryz.prog 13 #[v,u] w λ e w'=> e=.returned (.bool (decide (riL l=riL m)))/\Below w.heap.size w w':=by
 obtain ⟨a,c,rfl⟩:=hl.sl.shape;obtain ⟨a2,c2,rfl⟩:=hm.sl.shape;obtain ⟨n,hn⟩:∃n,l.length=n:=⟨_,rfl⟩
 obtain ⟨n2,hn2⟩:∃n2,m.length=n2:=⟨_,rfl⟩
 have hb1:n<=9223372036854775807:=by have:=hl.sl.1;unfold maxLen at this;omega
 have HV:=Lib.hid hl;have HU:=Lib.hid hm;obtain ⟨q,hq⟩:∃q,decide (riL l=riL m)=q:=⟨_,rfl⟩
 have HQ:=Lib.hid hq;have HN:=Lib.hid hn;have HN2:=Lib.hid hn2;rw [hq];clear hl hm hq;by_cases he:n=n2
 · have HE:Hid (riL (l.drop 0)=riL (m.drop 0)↔riL l=riL m):=by show _↔_;simp
   rw [hn2,hn];rw [hn] at HV;rw [hn2] at HU;clear hn hn2;subst he;have he':((n:Int) !=n)=false:=by simp
   go_enter Tryz.func13,Tryz.ntmps13;go_wp2;go_loopg [5] n (λ g z wr=> ∃k:Nat,z=.int .i64 k/\g+k=n/\Hid (riL (l.drop k)=riL (m.drop k)↔riL l=riL m)/\Hid (Below w.heap.size w wr))
   case atStart=> exact ⟨0,rfl,rfl,HE,Below.refl _ _⟩
   case round=>
    clear HE;obtain ⟨k,rfl,hgk,He,Hb⟩:=hrel;by_cases hk:k < n
    · have hkl:k < l.length:=by rw [HN.out];exact hk
      have hkm:k < m.length:=by rw [HN2.out];exact hk
      have hv:=HV.out.mono Hb.out;have hu:=HU.out.mono Hb.out;obtain ⟨b,o,c',e1,p1,p2⟩:=ri_cells hv.sl k hkl;obtain ⟨b2,o2,c2',e2,r1,r2⟩:=ri_cells hu.sl k hkm;obtain ⟨rfl, -, -⟩:=Value.slice.inj e1;obtain ⟨rfl, -, -⟩:=Value.slice.inj e2;have hpl:=World.block_lt_of_cell? wr _ p1;have hrl:=World.block_lt_of_cell? wr _ r1;have hk':(k:Int) < n:=by omega
      have HD:=Lib.hid (riL_drop_eq hkl hkm);have HS:=Lib.hid (λ w' (hb:Below wr.heap.size wr w')=> rsame_calls l[k].r m[k].r l[k].v m[k].v w' ((hv.row _ (List.getElem_mem hkl)).mono hb) ((hu.row _ (List.getElem_mem hkm)).mono hb));have Hgk:=Lib.hid hgk;clear hgk e1 e2 hv hu;generalize l[k]=x at *;generalize m[k]=y at *;clear hkl hkm;obtain ⟨xid,xa,xn,xc,xr⟩:=x;obtain ⟨yid,ya,yn,yc,yr⟩:=y;unfold Ri.v at *;simp only at *;by_cases hxy:xid=yid
      · subst hxy
        have hne:(xid !=xid)=false:=by simp
        obtain ⟨t,ht⟩:∃t,decide (xr=yr)=t:=⟨_,rfl⟩
        have HT:=Lib.hid ht;rw [ht] at HS;clear ht;go_upto_region 6 with (fail)
        go_region_held3 (λ w'=> Below wr.heap.size wr w'/\∀b o,b < wr.heap.size->w'.cell? ⟨b,o,none⟩=wr.cell? ⟨b,o,none⟩)
         (first | assumption | exact S_of (Below.drew (Below.refl _ _)) | exact S_step (by assumption) (by assumption))
         (first | (go_at_call 29;(with_reducible refine (HS.out _ (And.left (by assumption))).mono ?_);rintro e w1 ⟨rfl,hb1⟩))
        all_goals
         rename_i hH
         have Hb1:=Lib.hid (Hb.out.trans (hH.1.mono Hb.out.size));clear hH;cases t
         · have HF:Hid (q=false):=by
            have:¬ riL l=riL m:=λ h=> of_decide_eq_false HT.out (HD.out.1 (He.out.2 h)).1.2;show _=_;rw [<-HQ.out,decide_eq_false this]
           obtain rfl:=HF.out;go_wp2;go_ret;exact ⟨rfl,Hb1.out⟩
         · go_wp2
           go_roundg (gk - 1)
           case rel=>
            refine ⟨k+1,by go_num,by have:=Hgk.out;omega,?_,Hb1⟩;show _↔_;rw [<-He.out,HD.out];simp only [true_and];exact ⟨λ h=> ⟨of_decide_eq_true HT.out,h⟩,λ h=> h.2⟩
           case measure=> have:=Hgk.out;omega
      · have hne:(xid !=yid)=true:=by simp [hxy]
        have HF:Hid (q=false):=by have:¬ riL l=riL m:=λ h=> hxy (HD.out.1 (He.out.2 h)).1.1;show _=_;rw [<-HQ.out,decide_eq_false this]
        obtain rfl:=HF.out;clear hxy HS;go_upto_region 6 with (fail)
        go_quiet (fail);go_wp2;go_ret;exact ⟨rfl,Hb.out.trans ((below_drewN _ _).mono Hb.out.size)⟩
    · obtain rfl:k=n:=by omega
      have HR:Hid (q=true):=by have:riL l=riL m:=He.out.1 (by rw [List.drop_of_length_le (by rw [HN.out];exact Nat.le_refl _),List.drop_of_length_le (by rw [HN2.out];exact Nat.le_refl _)]);show _=_;rw [<-HQ.out,decide_eq_true this]
      obtain rfl:=HR.out;clear hgk hk;go_wp2;go_ret;exact ⟨rfl,Hb.out⟩
 · have he':((n:Int) !=n2)=true:=by simp;omega
   have HF:Hid (q=false):=by
    have:¬ riL l=riL m:=λ h=> by have:=congrArg List.length h;simp only [riL,List.length_map] at this;omega
    show _=_;rw [<-HQ.out,decide_eq_false this]
   obtain rfl:=HF.out;rw [hn,hn2];rw [hn] at HV;rw [hn2] at HU;clear he hn hn2;go_enter Tryz.func13,Tryz.ntmps13;go_wp2;go_ret;exact ⟨rfl,Below.refl _ _⟩
section
open Go.Shelf
attribute [local go_sem] Oper.semAt_some
def rowP (x:Ri):Asn:=rowA 29 3 x.v x.r.length (flat x.r)
def itsL (v:Value) (out:List Ri):List Asn:=riA v out::out.map rowP
def tkA (b5:Nat) (pre:List Ri):Asn:=exA λ q:Value×List Ri=> starA (pureA (riL q.2=riL pre)::blkA b5 35 #[q.1]::itsL q.1 q.2)
theorem St.tk {w0 w:World} {fp0:List Nat} {L:List Asn} {b5:Nat} {pre:List Ri}:St w0 fp0 (tkA b5 pre::L) w↔∃v out,riL out=riL pre/\St w0 fp0 (blkA b5 35 #[v]::(itsL v out++L)) w:=by
 unfold tkA;rw [St.exo (F:=λ q:Value×List Ri=> pureA (riL q.2=riL pre)::blkA b5 35 #[q.1]::itsL q.1 q.2)];constructor
 · rintro ⟨⟨v,out⟩,h⟩
   exact ⟨v,out,St.pure.1 h⟩
 · rintro ⟨v,out,h⟩
   exact ⟨⟨v,out⟩,St.pure.2 h⟩
def takeR (most:Int) (l:List Ri):List Ri:=if most < 1 then [] else l.take most.toNat
def tzI (b5 b3:Nat) (most:Int) (L:List Asn) (pre:List Ri):List Asn:=pureA ((pre.length:Int) < most)::tkA b5 pre::blkA b3 3 #[.int .i64 most]::L
def tzX (b5:Nat) (most:Int) (L:List Asn) (c:Code) (pre:List Ri):List Asn:=pureA (c=.exit 0)::pureA (pre.length=most.toNat)::tkA b5 pre::L
theorem taken_calls (g:Nat) (lb:Array Value) (eg:∀args w,(callFunc g args).run Tryz.prog w=.ok (.enter g args) w) (Qr:World->Prop) (its:List Ri) (L0:List Asn) (hseq:SeqG (2 - 1) Tryz.prog g lb 2 itG Qr its L0) (hlen:its.length < 1099511627775) (hrow:∀x∈its,x.r.length < 1099511627776)
 (most:Int) (w0 w:World) (fp0:List Nat) (R:List Asn) (hqr:∀Own W,St w0 fp0 (L0++Own) W->Qr W) (hS:St w0 fp0 (L0++R) w):
 Calls Tryz.prog 14 #[.func (.func g) #[] lb, .int .i64 most] w λ e w'=> ∃v out,e=.returned v/\riL out=riL (takeR most its)/\St w0 fp0 (itsL v out++(L0++R)) w':=by
 have hnn:∀w,(binOp .eql 44 (.func (.func g) #[] lb) .nilFunc).run Tryz.prog w=.ok (.bool false) w:=λ w=> run_eql_func_nil Tryz.underlying44 w;have HS:=Lib.hid hS;have Hlen:=Lib.hid hlen;have Hrow:=Lib.hid hrow;by_cases hm:most < 1
 · have hT:Hid (takeR most its=[]):=by show _=_;simp [takeR,hm]
   clear hS hlen hrow hqr hseq;refine calls_of_wp_m Tryz.func14 rfl ?_;simp only [Tryz.ntmps14,List.size_toArray,List.length_cons,List.length_nil,Nat.reduceAdd,Nat.reduceSub,Array.replicate_succ,Array.replicate_zero,List.push_toArray,List.append_toArray,List.nil_append,List.cons_append];go_wp2;refine bodyPostM_ret (results_tmp rfl _ _ _) rfl ?_;refine ⟨_,[],rfl,by rw [hT.out],?_⟩;refine St.nilR 56 2 (HS.out.mono ?_);exact ((Below.refl _ _).alloc (Nat.le_refl _) _).alloc (by simp) _
 · have hT:Hid (takeR most its=its.take most.toNat):=by show _=_;simp [takeR,hm]
   have hm1:decide (most < 1)=false:=by simp;omega
   have HM:Hid (1<=most):=by show _<=_;omega
   have HSEQ:=Lib.hid hseq;have HQR:=Lib.hid hqr;have HS0:Hid (St w0 fp0 (L0++(blkA (w.heap.size+1) 35 #[.slice none 0 0]::rowA 56 2 (.slice none 0 0) 0 []::blkA w.heap.size 3 #[.int .i64 most]::R)) ((w.alloc (.cells #[.int .i64 most] 3)).alloc (.cells #[.slice none 0 0] 35))):=by have h1:=((hS.newblk 3 #[.int .i64 most]).newblk 35 #[.slice none 0 0]).nilR 56 2;simp only [World.size_alloc] at h1;refine h1.perm ?_;exact (by classical exact List.perm_iff_count.2 λ a=> by simp only [List.count_append,List.count_cons] <;> omega)
   clear hS hlen hrow hqr hseq hm;refine calls_of_wp_m Tryz.func14 rfl ?_;simp only [Tryz.ntmps14,List.size_toArray,List.length_cons,List.length_nil,Nat.reduceAdd,Nat.reduceSub,Array.replicate_succ,Array.replicate_zero,List.push_toArray,List.append_toArray,List.nil_append,List.cons_append];go_wp2_with fail;generalize hWW:(w.alloc _).alloc _=W0 at *;clear hWW;obtain ⟨b3,hbm⟩:∃b3,w.heap.size=b3:=⟨_,rfl⟩
   rw [hbm] at HS0 ⊢;clear hbm;generalize b3+1=b5 at *;refine wp_rangeFunc_g (n:=2) rfl eg HSEQ.out
    (tzI b5 b3 most (L0++R)) (tzX b5 most (L0++R)) _ HS0.out ?h0 ?hqr ?round ?done ?stop
   case h0=>
    intro Own W hW;refine St.pure.2 ⟨by have:=HM.out;simp;omega,?_⟩;refine St.tk.2 ⟨.slice none 0 0,[],rfl,hW.perm ?_⟩;unfold itsL riA;exact (by classical exact List.perm_iff_count.2 λ a=> by simp only [List.map_nil,List.cons_append,List.nil_append,List.count_append,List.count_cons,riV,List.flatMap_nil,List.length_nil,List.append_eq] <;> omega)
   case hqr=>
    intro pre Own W hW;refine HQR.out (pureA ((pre.length:Int) < most)::tkA b5 pre::blkA b3 3 #[.int .i64 most]::(R++Own)) W (hW.perm ?_);unfold tzI;exact (by classical exact List.perm_iff_count.2 λ a=> by simp only [List.cons_append,List.count_append,List.count_cons] <;> omega)
   case round=>
    intro l0 pre x rest args Own W hxs hsz hs;obtain ⟨xa,xc,rfl,hs'⟩:=itG_out (show St w0 fp0 (itG x args::(tzI b5 b3 most (L0++R) pre++Own)) W from hs);clear hs;have HR:=Lib.hid (Hrow.out x (by rw [hxs];simp));have Hpl:Hid (pre.length+1 < 1099511627776):=by have h1:=congrArg List.length hxs;rw [List.length_append,List.length_cons] at h1;have:=Hlen.out;show _ < _;omega
    have HS1:=Lib.hid (itG_in hs');clear hs' hsz;have Hxs:=Lib.hid hxs;clear hxs
    gi_wp2
    refine ⟨HS1.out,λ Own2 W2 hs2=> ?_⟩;clear HS1;obtain ⟨ya,yc,hargs,h1⟩:=itG_out (show St w0 fp0 (itG x #[.int .i64 x.id, .slice xa x.r.length xc]::(tzI b5 b3 most (L0++R) pre++Own2)) W2 from hs2);have e1:Value.slice xa x.r.length xc=.slice ya x.r.length yc:=by simpa using hargs
    obtain ⟨rfl, -,rfl⟩:=Value.slice.inj e1;obtain ⟨hlt,h2⟩:=St.pure.1 (show St w0 fp0 (pureA ((pre.length:Int) < most)::rowA 29 3 (.slice xa x.r.length xc) x.r.length (flat x.r)::tkA b5 pre::(blkA b3 3 #[.int .i64 most]::(L0++R)++Own2)) W2 from h1.perm (List.Perm.swap _ _ _));obtain ⟨v0,out,ho,h3⟩:=St.tk.1 (h2.perm (List.Perm.swap _ _ _));have hol:out.length=pre.length:=by rw [<-riL_len,ho,riL_len]
    have HO:=Lib.hid ho;have h4:St w0 fp0 ([blkA b5 35 #[v0],rowA 29 3 (.slice xa x.r.length xc) x.r.length (flat x.r),emp,emp,rowA 56 2 v0 out.length (riV out)]++(out.map rowP++(blkA b3 3 #[.int .i64 most]::((L0++R)++Own2)))) W2:=by have h5:=St.emp.2 (St.emp.2 h3);refine h5.perm ?_;unfold itsL riA;exact (by classical exact List.perm_iff_count.2 λ a=> by simp only [List.cons_append,List.nil_append,List.count_append,List.count_cons] <;> omega)
    have H4:=Lib.hid h4;have Hlt:=Lib.hid hlt;have Hol:=Lib.hid hol;clear hs2 hargs e1 hlt h1 h2 h3 h4 ho hol;refine wpIn_block (wpIn_seq ?_);refine rTk7 (w0:=w0) (fp0:=fp0) b5 v0 x.id xa x.r.length xc out.length (flat x.r) (riV out) _ (by rw [length_flat]) (one_flat _) HR.out (by rw [Hol.out];exact Hpl.out) rfl (by kernel_rfl) rfl rfl rfl rfl rfl H4.out ?_ ?_
    · intro a w h;exact h
    intro u19 u21 u22 u23 u24 W3 ⟨da,dn,dc,d1⟩ hu22 ⟨db,hu23⟩ ⟨ea,en,ec,e1⟩ h5;subst d1 e1 hu22 hu23;obtain ⟨_,hr1⟩:=h5.has 2 rfl;obtain ⟨_,_,e2, -⟩:=row_shape hr1;obtain ⟨-,rfl, -⟩:=Value.slice.inj e2;obtain ⟨_,hr2⟩:=h5.has 4 rfl;obtain ⟨_,_,e3, -⟩:=row_shape hr2;obtain ⟨-,rfl, -⟩:=Value.slice.inj e3;have ho2:riL (out++[⟨x.id,da,x.r.length,dc,x.r⟩])=riL (pre++[x]):=by rw [riL_append,riL_append,HO.out];rfl
    have h6:St w0 fp0 (tkA b5 (pre++[x])::(blkA b3 3 #[.int .i64 most]::((L0++R)++Own2))) W3:=by refine St.tk.2 ⟨.slice ea (out.length+1) ec,out++[⟨x.id,da,x.r.length,dc,x.r⟩],ho2,?_⟩;refine St.dropAll (A:=[rowA 29 3 (.slice xa x.r.length xc) x.r.length (flat x.r),boxsA 56 (.slice (some ⟨db,0,none⟩) 1 1) #[.int .i64 x.id, .slice da x.r.length dc]]) (h5.perm ?_);unfold itsL riA;rw [riV_append,riV_one,List.length_append];exact (by classical exact List.perm_iff_count.2 λ a=> by simp only [List.map_append,List.map_cons,List.map_nil,rowP,Ri.v,List.length_singleton,List.cons_append,List.nil_append,List.count_append,List.count_cons,List.count_nil,sa,sn,sc] <;> omega)
    obtain ⟨_,hb5⟩:=h5.has 0 rfl;have d0:=(blk_get hb5).1 0;have dl:=(blk_get hb5).2.2;simp only [List.getElem?_toArray,List.getElem?_cons_zero] at d0;obtain ⟨_,hb3⟩:=h6.has 1 rfl;have f0:=(blk_get hb3).1 0;have fl:=(blk_get hb3).2.2;simp only [List.getElem?_toArray,List.getElem?_cons_zero] at f0;have H6:=Lib.hid h6;have hl:(pre++[x]).length=pre.length+1:=by simp
    have Hl:=Lib.hid hl;obtain ⟨nx,hnx⟩:∃nx,pre++[x]=nx:=⟨_,rfl⟩
    rw [hnx] at H6 Hl ⊢;clear H4 hr1 hr2 e2 e3 h5 h6 hb5 hb3 ho2 hl hnx HO Hxs;generalize hon:out.length+1=m at *;have Hon:=Lib.hid hon;clear hon;simp only [putL,List.foldl,Act.put,List.setIfInBounds_toArray,List.set_cons_succ,List.set_cons_zero];by_cases hge:most<=m
    · have hge':decide (most<=(m:Int))=true:=by simp [hge]
      have Hge:=Lib.hid hge;clear hge
      gi_wp2
      show St w0 fp0 (tzX b5 most (L0++R) (.exit 0) nx++Own2) W3;have e3:nx.length=most.toNat:=by have:=Hl.out;have:=Hol.out;have:=Hon.out;have:=Hlt.out;have:=Hge.out;omega
      refine St.pure.2 ⟨rfl,St.pure.2 ⟨e3,?_⟩⟩;refine St.dropAll (A:=[blkA b3 3 #[.int .i64 most]]) (H6.out.perm ?_);exact (by classical exact List.perm_iff_count.2 λ a=> by simp only [List.cons_append,List.nil_append,List.append_eq,List.count_append,List.count_cons] <;> omega)
    · have hge':decide (most<=(m:Int))=false:=by simp;omega
      have Hge:=Lib.hid hge;clear hge
      gi_wp2
      show St w0 fp0 (tzI b5 b3 most (L0++R) nx++Own2) W3;have e3:(nx.length:Int) < most:=by have:=Hl.out;have:=Hol.out;have:=Hon.out;have:=Hge.out;omega
      refine St.pure.2 ⟨e3,H6.out.perm ?_⟩;exact (by classical exact List.perm_iff_count.2 λ a=> by simp only [List.cons_append,List.append_eq,List.count_append,List.count_cons] <;> omega)
   case done=>
    intro D W hW;obtain ⟨hlt,h1⟩:=St.pure.1 (show St w0 fp0 (pureA ((its.length:Int) < most)::(defA D::tkA b5 its::blkA b3 3 #[.int .i64 most]::(L0++R))) W from hW.perm (List.Perm.swap _ _ _));obtain ⟨v0,out,ho,h2⟩:=St.tk.1 (h1.perm (List.Perm.swap _ _ _));have e:riL out=riL (takeR most its):=by rw [ho,hT.out,List.take_of_length_le (by omega)]
    have E:=Lib.hid e;obtain ⟨_,hb⟩:=h2.has 0 rfl;obtain ⟨_,hp⟩:=h2.has 1 rfl;obtain ⟨ga,gc,rfl, -⟩:=row_shape hp;have d0:=(blk_get hb).1 0;have dl:=(blk_get hb).2.2;simp only [List.getElem?_toArray,List.getElem?_cons_zero] at d0;have h3:St w0 fp0 (defA D::(itsL (.slice ga out.length gc) out++(L0++R))) W:=by refine St.dropAll (A:=[blkA b5 35 #[.slice ga out.length gc],blkA b3 3 #[.int .i64 most]]) (h2.perm ?_);exact (by classical exact List.perm_iff_count.2 λ a=> by simp only [List.cons_append,List.nil_append,List.count_append,List.count_cons] <;> omega)
    have H3:=Lib.hid h3;clear hW h1 h2 h3 hb hp hlt e ho;dsimp only;go_wp2;exact bodyPostM_mark H3.out rfl λ w' hw'=> ⟨_,results_tmp rfl _ _ _, .slice ga out.length gc,out,rfl,E.out,hw'⟩
   case stop=>
    intro D c pre x rest W hxs hW;have h1:St w0 fp0 (pureA (c=.exit 0)::pureA ((pre++[x]).length=most.toNat)::tkA b5 (pre++[x])::defA D::(L0++R)) W:=by refine hW.perm ?_;unfold tzX;exact (by classical exact List.perm_iff_count.2 λ a=> by simp only [List.count_cons] <;> omega)
    obtain ⟨rfl,h2⟩:=St.pure.1 h1;obtain ⟨hlt,h2⟩:=St.pure.1 h2;obtain ⟨v0,out,ho,h2⟩:=St.tk.1 h2;have e:riL out=riL (takeR most its):=by rw [ho,hT.out,hxs,<-hlt,show pre++x::rest=(pre++[x])++rest by simp,List.take_left]
    have E:=Lib.hid e;obtain ⟨_,hb⟩:=h2.has 0 rfl;obtain ⟨_,hp⟩:=h2.has 1 rfl;obtain ⟨ga,gc,rfl, -⟩:=row_shape hp;have d0:=(blk_get hb).1 0;have dl:=(blk_get hb).2.2;simp only [List.getElem?_toArray,List.getElem?_cons_zero] at d0;have h3:St w0 fp0 (defA D::(itsL (.slice ga out.length gc) out++(L0++R))) W:=by refine St.dropAll (A:=[blkA b5 35 #[.slice ga out.length gc]]) (h2.perm ?_);exact (by classical exact List.perm_iff_count.2 λ a=> by simp only [List.cons_append,List.nil_append,List.count_append,List.count_cons] <;> omega)
    have H3:=Lib.hid h3;clear hW h1 h2 h3 hb hp hlt e ho hxs;dsimp only;go_wp2;exact bodyPostM_mark H3.out rfl λ w' hw'=> ⟨_,results_tmp rfl _ _ _, .slice ga out.length gc,out,rfl,E.out,hw'⟩
end
section
open Go.Shelf
attribute [local go_sem] Oper.semAt_some
theorem find_id {es:List Re} (ha:es.Pairwise λ a b=> a.id < b.id) {e:Re} (he:e∈es):es.find? (λ x=> x.id==e.id)=some e:=by
 induction es with
 | nil=> cases he
 | cons x es ih=>
  obtain ⟨h1,h2⟩:=List.pairwise_cons.1 ha;rw [List.find?_cons];rcases List.mem_cons.1 he with rfl | he
  · simp
  · have:(x.id==e.id)=false:=by
     have:=h1 e he;simp;omega
    rw [this];exact ih h2 he
theorem stoGet {S cols:Nat} {I:List (List Int)} {L:LL} {next:Int} {s:Sto} (hok:s.Ok cols I L next) {e:Re} (he:e∈s.es) (w0 w:World) (fp0:List Nat) (R:List Asn) (hS:St w0 fp0 (stoL S s++R) w):
 Calls Tryz.prog 69 #[ptrV s.tb, .int .i64 e.id] w λ ev w'=> ev=.returned (.tuple #[encV e.va, .bool true])/\St w0 fp0 (stoL S s++R) w':=by
 have hG:=Get_calls (o:=16) (by omega) s.h (reM s.es) s.tb (.int e.id) trivial (okR s.es) w0 w fp0 _ (show St w0 fp0 (objA false 16 s.h (reM s.es) s.tb::blkA S 119 #[.int .i64 s.cols,ptrV s.tb, .int .i64 s.next,s.iv]::rowA 97 2 s.iv s.ixs.length (ixV s.ixs)::(s.es.map reA++s.ixs.map ixA)++R) w from hS.perm (List.Perm.swap _ _ _));rw [getM_reM,find_id (reL_asc (by rw [hok.rows];exact hok.asc)) he] at hG;refine hG.mono ?_;rintro ev w1 ⟨rfl,h1⟩;exact ⟨rfl,h1.perm (List.Perm.swap _ _ _)⟩
def ikI (b7 b5 b3 S:Nat) (isv:Value) (p:Re->Bool) (ess:List Re) (L:List Asn) (pre:MM):List Asn:=outA b7 (somL p (ess.take pre.length))::blkA b5 88 #[isv]::blkA b3 34 #[ptrV S]::L
def entM (kf:Re->Ky) (ess:List Re):MM:=ess.map λ e=> (kf e, .int e.id)
theorem entM_split {kf:Re->Ky} {es:List Re} {pre rest:MM} {x:Ky×Va} (h:entM kf es=pre++x::rest):∃e:Re,x=(kf e, .int e.id)/\es.take (pre.length+1)=es.take pre.length++[e]/\e∈es:=by
 have hl:pre.length < es.length:=by have h1:=congrArg List.length h;rw [entM,List.length_map,List.length_append,List.length_cons] at h1;omega
 have hx:(entM kf es)[pre.length]? =some x:=by rw [h];simp
 rw [entM,List.getElem?_map,List.getElem?_eq_getElem hl] at hx;exact ⟨es[pre.length],(Option.some.inj hx).symm,List.take_succ_eq_append_getElem hl,List.getElem_mem hl⟩
theorem indexed_calls (f:Nat) (caps:Array Value) (p:Re->Bool) (S cols:Nat) (I:List (List Int)) (L:LL) (next:Int) (s:Sto) (hok:s.Ok cols I L next) (LX:List Asn) (he:∀args w,(callFunc f args).run Tryz.prog w=.ok (.enter f args) w) (his:IsC f caps p S s LX)
 (g:Nat) (lb:Array Value) (eg:∀args w,(callFunc g args).run Tryz.prog w=.ok (.enter g args) w) (kf:Re->Ky) (ess:List Re) (hm:∀e∈ess,e∈s.es) (hlen:ess.length+1 < 1099511627776) (L0 R1:List Asn) (hseq:SeqSt (2 - 1) Tryz.prog g lb (λ e:Ky×Va=> #[encK e.1,encV e.2]) (entM kf ess) L0)
 (w0 w:World) (fp0:List Nat) (R:List Asn) (hsp:∀Own W,St w0 fp0 ((L0++R1)++Own) W↔St w0 fp0 ((stoL S s++(LX++R))++Own) W) (hS:St w0 fp0 (stoL S s++(LX++R)) w):
 Calls Tryz.prog 51 #[ptrV S, .func (.func g) #[] lb, .func (.func f) #[] caps] w λ e w'=> ∃v,e=.returned v/\St w0 fp0 (rowA 114 2 v (somL p ess).length (riV (somL p ess))::(stoL S s++(LX++R))) w':=by
 have HSL:=Lib.hid hS.slOf;obtain ⟨tb,htb⟩:∃tb,s.tb=tb:=⟨_,rfl⟩
 have HS0:Hid (St w0 fp0 ((L0++R1)++(blkA (w.heap.size+1+1) 94 #[.slice none 0 0]::rowA 114 2 (.slice none 0 0) 0 []::blkA (w.heap.size+1) 88 #[.func (.func f) #[] caps]::[blkA w.heap.size 34 #[ptrV S]])) (((w.alloc (.cells #[ptrV S] 34)).alloc (.cells #[.func (.func f) #[] caps] 88)).alloc (.cells #[.slice none 0 0] 94))):=by have h1:=(((hS.newblk 34 #[ptrV S]).newblk 88 #[.func (.func f) #[] caps]).newblk 94 #[.slice none 0 0]).nilR 114 2;simp only [World.size_alloc] at h1;refine (hsp _ _).2 (h1.perm ?_);exact (by classical exact List.perm_iff_count.2 λ a=> by simp only [List.count_append,List.count_cons,List.count_nil] <;> omega)
 have HSEQ:=Lib.hid hseq;have HSP:=Lib.hid hsp;have HIS:=Lib.hid his;have HLEN:=Lib.hid hlen;have HM:=Lib.hid hm;have HOK:=Lib.hid hok;have HTB:=Lib.hid htb;clear hS his hlen hseq hsp hm hok htb;unfold ptrV at HS0 ⊢;refine calls_of_wp_m Tryz.func51 rfl ?_;simp only [Tryz.ntmps51,List.size_toArray,List.length_cons,List.length_nil,Nat.reduceAdd,Nat.reduceSub,Array.replicate_succ,Array.replicate_zero,List.push_toArray,List.append_toArray,List.nil_append,List.cons_append];go_wp2_with fail;generalize hWW:((w.alloc _).alloc _).alloc _=W0 at *;clear hWW;obtain ⟨b3,hbm⟩:∃b3,w.heap.size=b3:=⟨_,rfl⟩
 rw [hbm] at HS0 ⊢;clear hbm;generalize b3+1+1=b7 at *;generalize b3+1=b5 at *;refine wp_rangeFunc_st (n:=2) rfl eg HSEQ.out (λ _=> rfl)
  (ikI b7 b5 b3 S (.func (.func f) #[] caps) p ess (stoL S s++(LX++R))) (λ _ _=> [pureA False]) _ (show St w0 fp0 (L0++(R1++_)) W0 from (by have:=HS0.out;rwa [List.append_assoc] at this)) ?h0 ?round ?done ?stop
 case h0=>
  intro Own W hW;have h1:St w0 fp0 ((L0++R1)++(blkA b7 94 #[.slice none 0 0]::rowA 114 2 (.slice none 0 0) 0 []::blkA b5 88 #[.func (.func f) #[] caps]::blkA b3 34 #[.pointer (some ⟨S,0,none⟩)]::Own)) W:=by refine hW.perm ?_;exact (by classical exact List.perm_iff_count.2 λ a=> by simp only [List.count_append,List.count_cons,List.count_nil] <;> omega)
  have h2:=(HSP.out _ _).1 h1;refine St.out.2 ⟨.slice none 0 0,h2.perm ?_⟩;unfold ptrV;exact (by classical exact List.perm_iff_count.2 λ a=> by simp only [List.cons_append,List.append_eq,List.count_append,List.count_cons,List.take_zero,somL,List.length_nil,List.map_nil,List.filter_nil,riV,List.flatMap_nil] <;> omega)
 case round=>
  intro l0 pre x rest Own W hxs hs;obtain ⟨e,hx,het,hem⟩:=entM_split hxs;obtain ⟨PRE,hPRE⟩:∃PRE,somL p (ess.take pre.length)=PRE:=⟨_,rfl⟩
  have hPL:PRE.length+1 < 1099511627776:=by have h1:=somL_len p (ess.take pre.length);rw [hPRE,List.length_take] at h1;have:=HLEN.out;omega
  obtain ⟨nx,hnx⟩:∃nx,pre++[x]=nx:=⟨_,rfl⟩
  have HNX:Hid (somL p (ess.take nx.length)=PRE++if p e then [toRi e] else []):=by show _=_;rw [<-hnx,List.length_append,show [x].length=1 from rfl,het,somL_snoc,hPRE]
  have hsm:ikI b7 b5 b3 S (.func (.func f) #[] caps) p ess (stoL S s++(LX++R)) pre=outA b7 PRE::blkA b5 88 #[.func (.func f) #[] caps]::blkA b3 34 #[ptrV S]::(stoL S s++(LX++R)):=by rw [ikI,hPRE]
  rw [hsm] at hs ⊢;rw [hnx,hx];have HEM:=Lib.hid (HM.out e hem);have HV:=Lib.hid (toRi_v (HSL.out e HEM.out));clear hx het hPRE hxs hem hsm hnx x;obtain ⟨va,vn,vc,hvv⟩:∃a n c,encV e.va=.slice a n c:=by obtain ⟨a,n,c,h⟩:=HSL.out e HEM.out;exact ⟨a,n,c,by rw [h];rfl⟩
  rw [hvv] at HV;dsimp only [encV];generalize encK (kf e)=kv
  gi_wp2
  refine ⟨hs,λ Own2 W2 hs2=> ?_⟩;clear hs Own W;have h2:St w0 fp0 (stoL S s++(LX++(R++(outA b7 PRE::blkA b5 88 #[.func (.func f) #[] caps]::blkA b3 34 #[ptrV S]::Own2)))) W2:=by refine hs2.perm ?_;exact (by classical exact List.perm_iff_count.2 λ a=> by simp only [List.cons_append,List.count_append,List.count_cons] <;> omega)
  have HG:=Lib.hid (show Calls Tryz.prog 69 #[.pointer (some ⟨s.tb,0,none⟩), .int .i64 e.id] W2 _ from stoGet HOK.out HEM.out w0 W2 fp0 _ h2);rw [hvv,HTB.out] at HG;obtain ⟨_,hb⟩:=h2.has 0 rfl;have c1:=(blk_get hb).1 1;have cl:=(blk_get hb).2.2;obtain ⟨_,hb3⟩:=hs2.has 2 rfl;have d0:=(blk_get hb3).1 0;have dl:=(blk_get hb3).2.2;simp only [List.getElem?_toArray,List.getElem?_cons_zero,List.getElem?_cons_succ] at c1 d0;rw [HTB.out] at c1;unfold ptrV at c1 d0;clear hs2 h2 hb hb3
  gi_wp2
  refine ⟨trivial,rfl,(CallsIn.inRound l0 (callsIn_wide.2 HG.out)).mono ?_⟩;rintro ev W3 ⟨rfl,h3⟩;clear HG c1 cl d0 dl;have HC:=Lib.hid (HIS.out w0 fp0 _ W3 e HEM.out h3);rw [hvv] at HC;have h3':St w0 fp0 (blkA b5 88 #[.func (.func f) #[] caps]::(outA b7 PRE::blkA b3 34 #[ptrV S]::(stoL S s++(LX++R))++Own2)) W3:=by refine h3.perm ?_;exact (by classical exact List.perm_iff_count.2 λ a=> by simp only [List.cons_append,List.count_append,List.count_cons] <;> omega)
  obtain ⟨_,hb⟩:=h3'.has 0 rfl;have d0:=(blk_get hb).1 0;have dl:=(blk_get hb).2.2;simp only [List.getElem?_toArray,List.getElem?_cons_zero] at d0;clear h3 h3' hb hvv
  gi_wp2
  refine ⟨trivial,rfl,(CallsIn.inRound l0 (callsIn_wide.2 HC.out)).mono ?_⟩;rintro ev w3 ⟨rfl,h3⟩;clear HC d0 dl;have h4:St w0 fp0 (outA b7 PRE::(blkA b5 88 #[.func (.func f) #[] caps]::blkA b3 34 #[ptrV S]::(stoL S s++(LX++R))++Own2)) w3:=by refine h3.perm ?_;exact (by classical exact List.perm_iff_count.2 λ a=> by simp only [List.cons_append,List.count_append,List.count_cons] <;> omega)
  obtain ⟨q,hq⟩:∃q,p e=q:=⟨_,rfl⟩
  rw [hq] at HNX ⊢;clear hq h3;cases q with
  | false=>
   have HF:Hid (St w0 fp0 (ikI b7 b5 b3 S (.func (.func f) #[] caps) p ess (stoL S s++(LX++R)) nx++Own2) w3):=by show St _ _ _ _;unfold ikI;rw [HNX.out,if_neg (by simp),List.append_nil];exact h4
   clear h4 HNX
   gi_wp2
   exact HF.out
  | true=>
   obtain ⟨v0,h5⟩:=St.out.1 h4;obtain ⟨_,hb⟩:=h5.has 0 rfl;have d0:=(blk_get hb).1 0;have dl:=(blk_get hb).2.2;simp only [List.getElem?_toArray,List.getElem?_cons_zero] at d0;obtain ⟨v',w',hr,⟨a',c',rfl⟩,e0,e1,e2,h6⟩:=h5.appIt 94 (toRi e) hPL;rw [HV.out,show (toRi e).id=e.id from rfl] at hr;have h7:=St.out.2 ⟨_,h6⟩;have HF:Hid (St w0 fp0 (ikI b7 b5 b3 S (.func (.func f) #[] caps) p ess (stoL S s++(LX++R)) nx++Own2) (w'.setCell ⟨b7,0,none⟩ (.slice a' (PRE.length+1) c'))):=by show St _ _ _ _;unfold ikI;rw [HNX.out,if_pos rfl];exact h7
   have HR:=Lib.hid hr;clear h4 HNX h5 hb h6 h7 hr
   gi_wp2_with (gi_at_builtin;refine wpListIn_append_run rfl _ _ _ rfl rfl rfl HR.out ?_)
   exact HF.out
 case done=>
  intro D W hW;have hlr:(entM kf ess).length=ess.length:=by rw [entM,List.length_map]
  have h1:St w0 fp0 (outA b7 (somL p ess)::blkA b5 88 #[.func (.func f) #[] caps]::blkA b3 34 #[ptrV S]::(defA D::(stoL S s++(LX++R)))) W:=by refine hW.perm ?_;unfold ikI;rw [hlr,List.take_length];exact (by classical exact List.perm_iff_count.2 λ a=> by simp only [List.count_append,List.count_cons] <;> omega)
  obtain ⟨v0,h2⟩:=St.out.1 h1;obtain ⟨_,hb⟩:=h2.has 0 rfl;have d0:=(blk_get hb).1 0;have dl:=(blk_get hb).2.2;simp only [List.getElem?_toArray,List.getElem?_cons_zero] at d0;have h3:St w0 fp0 (defA D::rowA 114 2 v0 (somL p ess).length (riV (somL p ess))::(stoL S s++(LX++R))) W:=by refine St.dropAll (A:=[blkA b7 94 #[v0],blkA b5 88 #[.func (.func f) #[] caps],blkA b3 34 #[ptrV S]]) (h2.perm ?_);exact (by classical exact List.perm_iff_count.2 λ a=> by simp only [List.cons_append,List.nil_append,List.count_append,List.count_cons] <;> omega)
  have H3:=Lib.hid h3;clear hW h1 h2 h3 hb hlr;dsimp only;go_wp2;exact bodyPostM_mark H3.out rfl λ w' hw'=> ⟨_,results_tmp rfl _ _ _,v0,rfl,hw'⟩
 case stop=>
  intro D c pre x rest W hxs hW;exact ((St.pure.1 (show St w0 fp0 (pureA False::[defA D]) W from hW.perm (List.Perm.swap _ _ _))).1).elim
end
theorem End_calls (p:List UInt8) (h:∃c∈p,c≠255) (hl:p.length < 1099511627776) (w:World):
 Calls Tryz.prog 50 #[.string (textOf p)] w λ e w'=> e=.returned (.tuple #[.string (textOf (endL p)), .bool true])/\Below w.heap.size w w':=by
 obtain ⟨N,hN⟩:∃N,p.length=N:=⟨_,rfl⟩
 have HN:=Lib.hid hN;obtain ⟨t,ht⟩:∃t,textOf p=t:=⟨_,rfl⟩
 have HT:=Lib.hid ht;rw [ht];obtain ⟨r,hr⟩:∃r,textOf (endL p)=r:=⟨_,rfl⟩
 rw [hr];have HR:=Lib.hid hr;have H:=Lib.hid h;have HL:=Lib.hid hl;clear h hr ht hl hN;go_enter Tryz.func50,Tryz.ntmps50;go_wp2;go_loopg [4] N (λ g z wr=> ∃u:ByteArray,z=.string u/\u.size=g/\g<=N/\wr=w/\Hid (∃s:List UInt8,u=textOf s/\(∃c∈s,c≠255)/\endL s=endL p))
 case atStart=> exact ⟨t,rfl,by rw [<-HT.out,text_size,HN.out],Nat.le_refl _,rfl,p,HT.out.symm,H.out,rfl⟩
 case round=>
  obtain ⟨u,rfl,hug,hgN,rfl,Hu⟩:=hrel;obtain ⟨s0,hu,hlow,hend⟩:=Hu.out;clear Hu;have hne:s0≠[]:=by rintro rfl;obtain ⟨c,hc, -⟩:=hlow;cases hc
  obtain ⟨s,c,rfl⟩:∃s c,s0=s++[c]:=⟨_,_,(List.dropLast_concat_getLast hne).symm⟩
  obtain ⟨m,hm⟩:∃m,s.length=m:=⟨_,rfl⟩
  have hg:gk=m+1:=by rw [<-hug,hu,text_size,List.length_append,hm];rfl
  have hgp:0 < gk:=by omega
  have hmg:(m:Int) < gk:=by omega
  have hw:wrap64 ((gk:Int) - 1)=m:=by
   have:(gk:Int) - 1=m:=by omega
   rw [this];have:=HL.out;have:=HN.out;unfold wrap64;omega
  have hcu:∀(h:m < u.size),u[m]'h=c:=by intro h;subst hu;show (s++[c]).toArray[m]'_=c;simp [<-hm]
  have hte:u.toList.isEmpty=false:=by
   cases h:u.toList with
   | nil=>
    have:=(text_mt u).1 h;rw [this] at hug;exact absurd hug (by show ¬ (0=gk);omega)
   | cons a l=> rfl
  have HG:=Lib.hid hg;have HGN:=Lib.hid hgN;have HU:=Lib.hid hu;have HLOW:=Lib.hid hlow;have HEND:=Lib.hid hend;have HMM:=Lib.hid hm;clear hg hgN;by_cases hc:c=255
  · have hcc:((c.toNat:Int)==255)=true:=by rw [hc];rfl
    have hx:u.extract 0 m=textOf s:=by rw [hu,text_take,<-hm,List.take_left]
    have HE:Hid (∃s':List UInt8,u.extract 0 m=textOf s'/\(∃c∈s',c≠255)/\endL s'=endL p):=by
     refine ⟨s,hx,?_,?_⟩
     · obtain ⟨d,hd,hd'⟩:=hlow
       rcases List.mem_append.1 hd with h | h
       · exact ⟨d,h,hd'⟩
       · exact absurd ((List.mem_singleton.1 h).trans hc) hd'
     · rw [<-hend,endL,endL,List.reverse_append,List.reverse_singleton,List.singleton_append,endR,if_pos hc]
    have HX:Hid ((u.extract 0 m).size=m):=by show _=_;rw [hx,text_size,hm]
    clear hx hu hlow hend hne hm hc;go_wp2;go_roundg m
    case rel=> exact ⟨_,rfl,HX.out,by have:=HG.out;have:=HGN.out;omega,rfl,HE.out⟩
    case measure=> have:=HG.out;omega
  · have hcc:((c.toNat:Int)==255)=false:=by
     have:c.toNat≠255:=λ e=> hc (by rw [<-UInt8.toNat_inj];exact e);simp;omega
    have hcv:=run_bytes_of_string (P:=Tryz.prog) wr 9 101 5 u (by kernel_rfl) (by kernel_rfl) (by kernel_rfl);have hcap:gk<=grownCap wr u.size 0 5:=by rw [<-hug];exact grownCap_ge _ _ _ _
    rw [hug] at hcv hcap;obtain ⟨G,hG⟩:∃G,grownCap wr gk 0 5=G:=⟨_,rfl⟩
    rw [hG] at hcv hcap;have hbr:∀j (hj:j < u.size),(bytesRow u G)[j]? =some (.int .u8 (u[j]'hj).toNat):=bytesRow_get u _;have hbs:(bytesRow u G).size=G:=by rw [bytesRow,Array.size_append,Array.size_map,Array.size_replicate,show u.data.size=gk from hug,hug];omega
    obtain ⟨br,hbrr⟩:∃br,bytesRow u G=br:=⟨_,rfl⟩
    rw [hbrr] at hcv hbr hbs;rw [hbs] at hcv;obtain ⟨W2,hW2⟩:∃W2,wr.drew.alloc (.cells br 5 (G,G+1))=W2:=⟨_,rfl⟩
    rw [hW2] at hcv;obtain ⟨B,hB⟩:∃B,wr.heap.size=B:=⟨_,rfl⟩
    have h2:W2.heap[B]? =some (.cells br 5 (G,G+1)):=by rw [<-hW2,<-hB];exact heap_alloc_new wr.drew _
    have hb2:Below wr.heap.size wr W2:=by rw [<-hW2];exact Below.alloc (below_drew wr) (Nat.le_refl _) _
    rw [hB] at hcv;have c0:W2.cell? ⟨B,m,none⟩=some (.int .u8 c.toNat):=by
     have hmu:m < u.size:=by omega
     rw [cell_of_row W2 B m br 5 _ h2,hbr m hmu,hcu hmu]
    have f0:W2.frozen? ⟨B,m,none⟩=false:=by simp [World.frozen?,h2];omega
    have hBl:B < W2.heap.size:=World.block_lt_of_cell? W2 _ c0;have hc1:(c+1).toNat=(c.toNat+1) % 256:=by rw [UInt8.toNat_add];rfl
    have hend2:r=textOf (s++[c+1]):=by rw [<-HR.out,<-hend,endL,List.reverse_append,List.reverse_singleton,List.singleton_append,endR,if_neg hc,List.reverse_cons,List.reverse_reverse]
    have hln:(s++[c+1]).length=gk:=by rw [HG.out,List.length_append,hm];rfl
    have hcv2:(convert 101 9 (.slice (some ⟨B,0,none⟩) gk G)).run Tryz.prog (W2.setCell ⟨B,m,none⟩ (.int .u8 (((c.toNat:Int)+1) % 256)))=.ok (.string r) (W2.setCell ⟨B,m,none⟩ (.int .u8 (((c.toNat:Int)+1) % 256))):=by
     rw [<-hln,hend2];refine run_convert_bytes_back _ 101 9 5 ⟨B,0,none⟩ G (s++[c+1]) (by kernel_rfl) (by kernel_rfl) (by kernel_rfl) λ j hj=> ?_;rw [hln,HG.out] at hj;rw [add_plain,Nat.zero_add];by_cases hjm:j=m
     · subst hjm
       rw [World.cell?_setCell_same _ _ _ c0];have:(s++[c+1])[j]'(by rw [List.length_append,hm];simp)=c+1:=by simp [<-hm]
       rw [this,hc1];simp
     · rw [World.cell?_setCell_other _ _ _ _ (by intro h;injection h with h1 h2;exact hjm h2.symm)]
       have hju:j < u.size:=by omega
       rw [cell_of_row W2 B j br 5 _ h2,hbr j hju];have:(s++[c+1])[j]'(by rw [hln];omega)=u[j]'hju:=by subst hu;rw [List.getElem_append_left (by omega)];rw [text_get,List.getElem_append_left (by omega)]
       rw [this]
    have HB2:=Lib.hid hb2;have HH2:=Lib.hid h2;have HBR:=Lib.hid hbr;have HCAP:=Lib.hid hcap;have HBS:=Lib.hid hbs;have HBB:=Lib.hid hB;clear hend2 hu hlow hend hne hm hc hbr hcap hbs hG hbrr hW2 h2 hb2 hB;go_wp2;refine bodyPost_ret (v:=.tuple #[.string r, .bool true]) (by simp [results,Tryz.results50,go_sem]) rfl ?_;exact ⟨rfl,HB2.out.setCell (by show wr.heap.size<=B;have:=HBB.out;omega) _⟩
theorem colV_at {r:Rw} {c:Int} (h:0<=c) (hc:c.toNat < r.length):colV r c=r[c.toNat]:=by
 rw [colV,if_pos h,List.getD,List.getElem?_eq_getElem hc];rfl
theorem lookup1_calls (cs:List Int) (vals r:Rw) (cv vv rv:Value) (b4 b5:Nat) (w:World) (hc:IntsX [] w cs cv) (hv:ValsAt w vals vv) (hr:ValsAt w r rv) (e4:w.cell? ⟨b4,0,none⟩=some cv) (e5:w.cell? ⟨b5,0,none⟩=some vv) (hlen:cs.length=vals.length) (hcs:∀c∈cs,0<=c/\c < r.length):
 Calls Tryz.prog 38 #[rv, .pointer (some ⟨b4,0,none⟩), .pointer (some ⟨b5,0,none⟩)] w λ e w'=> e=.returned (.bool (decide (cs.map (colV r)=vals)))/\Below w.heap.size w w':=by
 obtain ⟨a1,n1,c1,rfl,hn1, -⟩:=hc.shape;obtain ⟨a2,n2,c2,rfl,hn2, -⟩:=hv.shape;obtain ⟨a3,n3,c3,rfl,hn3,hm3⟩:=hr.shape;have hln:cs.length<=maxLen:=hc.1;unfold maxLen at hln hm3;obtain ⟨n,hn⟩:∃n,cs.length=n:=⟨_,rfl⟩
 have hb1:n<=9223372036854775807:=by omega
 have hb3:n3<=9223372036854775807:=by omega
 obtain rfl:n2=n:=by omega
 obtain rfl:n1=n2:=by omega
 have e4l:=World.block_lt_of_cell? w _ e4;have e5l:=World.block_lt_of_cell? w _ e5;have HC:=Lib.hid hc;have HV:=Lib.hid hv;have HR:=Lib.hid hr;obtain ⟨q,hq⟩:∃q,decide (cs.map (colV r)=vals)=q:=⟨_,rfl⟩
 have HQ:=Lib.hid hq;have HN:=Lib.hid hn;have HN2:=Lib.hid hn2;have HN3:=Lib.hid hn3;have HCS:=Lib.hid hcs;have E4:=Lib.hid e4;have E5:=Lib.hid e5;rw [hq];have HE:Hid ((cs.drop 0).map (colV r)=vals.drop 0↔cs.map (colV r)=vals):=by show _↔_;simp
 clear hc hv hr hq hn1 hn2 hn3 hm3 hln hlen hcs hn;go_enter Tryz.func38,Tryz.ntmps38;go_wp2;clear e4 e5;go_loopg [9] n1 (λ g z wr=> ∃k:Nat,z=.int .i64 k/\g+k=n1/\Hid ((cs.drop k).map (colV r)=vals.drop k↔cs.map (colV r)=vals)/\Hid (Below w.heap.size w wr))
 case atStart=> exact ⟨0,rfl,rfl,HE,Below.refl _ _⟩
 case round=>
  clear HE;obtain ⟨k,rfl,hgk,He,Hb⟩:=hrel;by_cases hk:k < n1
  · have hkc:k < cs.length:=by rw [HN.out];exact hk
    have hkv:k < vals.length:=by rw [<-HN2.out];exact hk
    have hcw:=HC.out.mono Hb.out;have hvw:=HV.out.mono Hb.out;have hrw':=HR.out.mono Hb.out;obtain ⟨hj0,hj1⟩:=HCS.out _ (List.getElem_mem hkc);obtain ⟨j,hj⟩:∃j:Nat,cs[k]=(j:Int):=⟨cs[k].toNat,by omega⟩
    have hjr:j < r.length:=by omega
    obtain ⟨b1,o1,rfl⟩:=hcw.has k hk;obtain ⟨b2,o2,rfl⟩:=hvw.has k hk;obtain ⟨b3,o3,rfl⟩:=hrw'.has j (by rw [HN3.out];exact hjr);have p1:=hcw.cell k hkc;obtain ⟨p2,p3,p4⟩:=hvw.cell k hkv;obtain ⟨p5,p6,p7⟩:=hrw'.cell j hjr;rw [hj] at p1;have p8:wr.cell? ⟨b4,0,none⟩=_:=(Hb.out.cell (p:=⟨b4,0,none⟩) e4l).trans E4.out;have p9:wr.cell? ⟨b5,0,none⟩=_:=(Hb.out.cell (p:=⟨b5,0,none⟩) e5l).trans E5.out;have hp1:=World.block_lt_of_cell? wr _ p1;have hp2:=World.block_lt_of_cell? wr _ p2;have hp5:=World.block_lt_of_cell? wr _ p5;have hp8:=World.block_lt_of_cell? wr _ p8;have hp9:=World.block_lt_of_cell? wr _ p9;have hk':(k:Int) < n1:=by omega
    have hjn:(j:Int) < n3:=by have:=HN3.out;omega
    have HD:Hid ((cs.drop k).map (colV r)=vals.drop k↔r[j]=vals[k]/\(cs.drop (k+1)).map (colV r)=vals.drop (k+1)):=by show _↔_;rw [List.drop_eq_getElem_cons hkc,List.drop_eq_getElem_cons hkv,List.map_cons,List.cons.injEq,hj,colV_at (by omega) (by simpa using hjr)];simp
    generalize r[j]=x at *;generalize vals[k]=y at *;have HX:=Lib.hid (λ w'=> cmpV_calls x y w');have Hgk:=Lib.hid hgk;clear hgk hcw hvw hrw' hj0 hj1 hj hkc hkv hjr;by_cases hxy:x=y
    · subst hxy
      have HZ:cmpV x x=0:=cmpV_zero.2 rfl;rw [HZ] at HX;clear HZ;go_upto_region 4 with (fail)
      go_region_held3 (λ w'=> Below wr.heap.size wr w'/\∀b o,b < wr.heap.size->w'.cell? ⟨b,o,none⟩=wr.cell? ⟨b,o,none⟩)
       (first | assumption | exact S_of (Below.drew (Below.refl _ _)) | exact S_step (by assumption) (by assumption))
       (first | (go_at_call 39;(with_reducible refine (HX.out _).mono ?_);rintro e w1 ⟨rfl,hb1⟩))
      all_goals
       rename_i hH
       have Hb1:=Lib.hid (Hb.out.trans (hH.1.mono Hb.out.size));clear hH;go_wp2;go_roundg (gk - 1)
       case rel=>
        refine ⟨k+1,by go_num,by have:=Hgk.out;omega,?_,Hb1⟩;show _↔_;rw [<-He.out,HD.out];simp only [true_and]
       case measure=> have:=Hgk.out;omega
    · have HZ:(cmpV x y !=0)=true:=by
       have:cmpV x y≠0:=λ h=> hxy (cmpV_zero.1 h);simpa using this
      generalize cmpV x y=z at *;have HF:Hid (q=false):=by have:¬ cs.map (colV r)=vals:=λ h=> hxy (HD.out.1 (He.out.2 h)).1;show _=_;rw [<-HQ.out,decide_eq_false this]
      obtain rfl:=HF.out;clear hxy;go_upto_region 4 with (fail)
      go_region_held3 (λ w'=> Below wr.heap.size wr w'/\∀b o,b < wr.heap.size->w'.cell? ⟨b,o,none⟩=wr.cell? ⟨b,o,none⟩)
       (first | assumption | exact S_of (Below.drew (Below.refl _ _)) | exact S_step (by assumption) (by assumption))
       (first | (go_at_call 39;(with_reducible refine (HX.out _).mono ?_);rintro e w1 ⟨rfl,hb1⟩))
      all_goals
       rename_i hH
       have Hb1:=Lib.hid (Hb.out.trans (hH.1.mono Hb.out.size));clear hH;go_wp2;go_ret;exact ⟨rfl,Hb1.out⟩
  · obtain rfl:k=n1:=by omega
    have HR1:Hid (q=true):=by have:cs.map (colV r)=vals:=He.out.1 (by rw [List.drop_of_length_le (by rw [HN.out];exact Nat.le_refl _),List.drop_of_length_le (by rw [<-HN2.out];exact Nat.le_refl _)];rfl);show _=_;rw [<-HQ.out,decide_eq_true this]
    obtain rfl:=HR1.out;clear hgk hk;go_wp2;go_ret;exact ⟨rfl,Hb.out⟩
end
end Go.Proofs.YtnefkkidfhmggaaGreat
