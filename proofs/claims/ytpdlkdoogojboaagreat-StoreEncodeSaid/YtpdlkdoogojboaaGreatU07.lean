/- Part 7 of the proof: Rh2, Ri2, M0, M1, Mo, Tg, Cn2, M2r, M2, M3, M4r, M4 -/
import Derived.Test.YtpdlkdoogojboaaGreatU06
import Derived.Test.YtpdlkdoogojboaaGreatU01
import Derived.Test.YtpdlkdoogojboaaGreatU05
import Derived.Test.YtpdlkdoogojboaaGreatU00
set_option maxHeartbeats 16000000
set_option maxRecDepth 100000
namespace Go.Proofs.YtpdlkdoogojboaaGreat
open Go Go.RowKit
noncomputable section
theorem limit_calls (w:World):Calls Tryz.prog 80 #[] w λ e w'=> e=.returned (.int .i64 4611686018427387904)/\w=w':=by
 go_enter Tryz.func80,Tryz.ntmps80;go_wp2;go_ret;exact ⟨rfl,rfl⟩
theorem cpRS {w0 w:World} {fp0:List Nat} {R:List Asn} {A:Asn} {vb rb:Nat} {c0 c1 c2 r0 r1 r2:Value} (h:St w0 fp0 (A::blkA vb 44 #[c0,c1,c2]::blkA rb 44 #[r0,r1,r2]::R) w):
 St w0 fp0 (A::R) (((w.setCell ⟨rb,0,none⟩ c0).setCell ⟨rb,1,none⟩ c1).setCell ⟨rb,2,none⟩ c2):=by
 have h2:=(h.perm (List.Perm.cons _ (List.Perm.swap _ _ _))).perm (List.Perm.swap _ _ _);have h3:=((h2.setB 0 (by simp) c0).setB 1 (by simp) c1).setB 2 (by simp) c2;exact (h3.drop.perm (List.Perm.swap _ _ _)).drop
theorem riA_snoc {w0 w:World} {fp0:List Nat} {R:List Asn} {v:Value} {l:List Ri} (x:Ri) (h:St w0 fp0 (rowA 109 2 v (l.length+1) (riV l++[.int .i64 x.id,x.v])::R) w):St w0 fp0 (riA v (l++[x])::R) w:=by
 unfold riA;rw [riV_append,List.length_append];exact h
theorem setRN {w0 w:World} {fp0:List Nat} {R:List Asn} {A:Asn} {vb rb cols:Nat} {o:Value} {next:Int} {r0 r1 r2:Value} (h:St w0 fp0 (A::blkA vb 44 #[.int .i64 cols,o, .int .i64 next]::blkA rb 44 #[r0,r1,r2]::R) w) (v:Value) (nx:Int):
 St w0 fp0 (A::R) (((((w.setCell ⟨vb,1,none⟩ v).setCell ⟨vb,2,none⟩ (.int .i64 nx)).setCell ⟨rb,0,none⟩ (.int .i64 cols)).setCell ⟨rb,1,none⟩ v).setCell ⟨rb,2,none⟩ (.int .i64 nx)):=by
 have h1:=((h.perm (List.Perm.swap _ _ _)).setB 1 (by simp) v).setB 2 (by simp) (.int .i64 nx);exact cpRS (h1.perm (List.Perm.swap _ _ _))
theorem rp_cells {w0 w:World} {fp0:List Nat} {R:List Asn} {A B Z:Asn} {vb lb lo n c i:Nat} {c0 c2:Value} {l:List Ri} {y:Ri} (hz:Rd w0 fp0 (Z::R) λ w=> SlX [] w 2 l.length (riV l) (.slice (some ⟨lb,lo,none⟩) n c)) (h:St w0 fp0 (A::blkA vb 44 #[c0, .slice (some ⟨lb,lo,none⟩) n c,c2]::B::Z::R) w) (hy:l[i]? =some y):
 w.cell? ⟨vb,1,none⟩=some (.slice (some ⟨lb,lo,none⟩) n c)/\vb < w.heap.size/\w.cell? ⟨lb,lo+i * 2,none⟩=some (.int .i64 y.id)/\w.cell? ⟨lb,lo+i * 2+1,none⟩=some y.v/\lb < w.heap.size:=by
 obtain ⟨_,hb⟩:=h.has 1 rfl;have hp:=hz.at (M:=[_,_,_]) h;obtain ⟨hi,rfl⟩:=List.getElem?_eq_some_iff.1 hy;obtain ⟨b,o,c',e1,q1,q2⟩:=ri_cells hp i hi;obtain ⟨e1, -, -⟩:=Value.slice.inj e1;injection e1 with e1;injection e1 with e1 e2;subst e1 e2;exact ⟨(blk_get hb).1 1,(blk_get hb).2.2,q1,q2,World.block_lt_of_cell? w _ q1⟩
def PutPostZ (Z:Asn) (w0:World) (fp0:List Nat) (R:List Asn) (q:Bool) (lv lv2:Value) (x:Ri) (l:List Ri) (w:World):Prop:=(q=true/\St w0 fp0 (riA lv2 (putR x.id x l)::Z::R) w)\/(q=false/\lv2=lv/\St w0 fp0 (Z::R) w)
theorem RPut_callsZ (Z:Asn) (cols:Nat) (lv:Value) (next:Int) (x:Ri) (l:List Ri) (hasc:l.Pairwise λ a b=> a.id < b.id) (hlen:l.length < 400000000000) (w0 w:World) (fp0:List Nat) (R:List Asn) (hv:Rd w0 fp0 R λ w=> ValsAt w x.r x.v) (hz:Rd w0 fp0 (Z::R) λ w=> SlX [] w 2 l.length (riV l) lv) (hS:St w0 fp0 (Z::R) w):
 Calls Tryz.prog 49 #[rsV cols lv next, .int .i64 x.id,x.v] w λ e w'=> ∃lv2,e=.returned (.tuple #[rsV cols lv2 (putN cols x.id x.r next),errV (putOk cols x.id x.r)])/\PutPostZ Z w0 fp0 R (putOk cols x.id x.r) lv lv2 x l w':=by
 obtain ⟨a,c,rfl⟩:=(hz.here hS).shape;obtain ⟨n,hn⟩:∃n,l.length=n:=⟨_,rfl⟩
 have hn63:n<=9223372036854775807:=by omega
 have HN:=Lib.hid hn;rw [hn] at hz;have HZ:=Lib.hid hz;have HL:=Lib.hid hlen;have H0:Hid (St w0 fp0 (Z::blkA w.heap.size 44 #[.int .i64 cols, .slice a n c, .int .i64 next]::blkA (w.heap.size+1) 44 #[.int .i64 0, .slice none 0 0, .int .i64 0]::R) ((w.alloc (.cells #[.int .i64 cols, .slice a n c, .int .i64 next] 44)).alloc (.cells #[.int .i64 0, .slice none 0 0, .int .i64 0] 44))):=by
  have h1:=((hS.newblk 44 #[.int .i64 cols, .slice a n c, .int .i64 next]).newblk 44 #[.int .i64 0, .slice none 0 0, .int .i64 0])
  simp only [World.size_alloc] at h1;exact St_re (L:=[_,_,_]) h1 [2,1,0] [] (by kernel_rfl)
 have HV:Hid (∀M w',St w0 fp0 (M++R) w'->ValsAt w' x.r x.v):=λ M w' h=> hv.at h;have HAL:=Lib.hid (stepP_all (k:=x.id) (x:=x) hasc);have HSL:=Lib.hid (λ m=> stepP_len x.id x (l.take m) ([],false));have HST:Hid (∀i (hi:i < l.length),(l.take (i+1)).foldl (stepP x.id x) ([],false)=stepP x.id x ((l.take i).foldl (stepP x.id x) ([],false)) l[i]):=λ i hi=> by rw [List.take_add_one,List.getElem?_eq_getElem hi,List.foldl_append];rfl
 unfold putN;obtain ⟨q,hq⟩:∃q,putOk cols x.id x.r=q:=⟨_,rfl⟩
 have HQ:Hid ((decide (1<=x.id/\x.id<=4611686018427387904) && storB cols x.r)=q):=hq;rw [hq,hn];clear hS hz hn hlen hv hasc hq;obtain ⟨k,xa,xn,xc,xr⟩:=x;unfold Ri.v at *;unfold rsV;simp only at *;obtain ⟨X,hX⟩:∃X:Ri,(⟨k,xa,xn,xc,xr⟩:Ri)=X:=⟨_,rfl⟩
 have HX:=Lib.hid hX;rw [hX] at HAL HSL HST ⊢;clear hX;obtain ⟨vb,hvb⟩:∃vb,w.heap.size=vb:=⟨_,rfl⟩
 have H0':Hid (∃W,(w.alloc (.cells #[.int .i64 cols, .slice a n c, .int .i64 next] 44)).alloc (.cells #[.int .i64 0, .slice none 0 0, .int .i64 0] 44)=W/\St w0 fp0 (Z::blkA vb 44 #[.int .i64 cols, .slice a n c, .int .i64 next]::blkA (vb+1) 44 #[.int .i64 0, .slice none 0 0, .int .i64 0]::R) W):=⟨_,rfl,by rw [<-hvb];exact H0.out⟩
 clear H0;go_enter Tryz.func49,Tryz.ntmps49;go_upto_region 1 with (fail)
 obtain ⟨W,hW,hs⟩:=H0'.out;rw [hW];have H1:=Lib.hid hs;obtain ⟨_,hb1⟩:=hs.has 1 rfl;obtain ⟨_,hb2⟩:=hs.has 2 rfl;have c0:=(blk_get hb1).1 0;have c1:=(blk_get hb1).1 1;have c2:=(blk_get hb1).1 2;have d0:=(blk_get hb2).1 0;have d1:=(blk_get hb2).1 1;have d2:=(blk_get hb2).1 2;have g0:=(blk_get hb2).2.1 0;have g1:=(blk_get hb2).2.1 1;have g2:=(blk_get hb2).2.1 2;have bl1:=(blk_get hb1).2.2;have bl2:=(blk_get hb2).2.2;simp only [List.getElem?_toArray,List.getElem?_cons_zero,List.getElem?_cons_succ] at c0 c1 c2 d0 d1 d2;have HEND:Hid (St w0 fp0 (Z::R) (((W.setCell ⟨vb+1,0,none⟩ (.int .i64 cols)).setCell ⟨vb+1,1,none⟩ (.slice a n c)).setCell ⟨vb+1,2,none⟩ (.int .i64 next))):=cpRS hs;clear hW hvb H0' hs hb1 hb2;by_cases h1:k < 1
 · have HE:Hid (q=false):=by show _=_;rw [<-HQ.out,decide_eq_false (by omega)];rfl
   obtain rfl:=HE.out;go_wp2;refine bodyPost_ret (v:=.tuple #[.agg #[.int .i64 cols, .slice a n c, .int .i64 next], .int .i64 1]) (by clear HV HAL HSL HST HEND;simp [results,Tryz.results49,go_sem, *]) rfl ?_;exact ⟨_,rfl, .inr ⟨rfl,rfl,HEND.out⟩⟩
 · by_cases h2:4611686018427387904 < k
   · have HE:Hid (q=false):=by show _=_;rw [<-HQ.out,decide_eq_false (by omega)];rfl
     obtain rfl:=HE.out;go_wp2_with (first | (go_at_call 80;(with_reducible refine (limit_calls _).mono ?_);rintro e w1 ⟨rfl,rfl⟩));refine bodyPost_ret (v:=.tuple #[.agg #[.int .i64 cols, .slice a n c, .int .i64 next], .int .i64 1]) (by clear HV HAL HSL HST HEND;simp [results,Tryz.results49,go_sem, *]) rfl ?_;exact ⟨_,rfl, .inr ⟨rfl,rfl,HEND.out⟩⟩
   · have HSTO:=Lib.hid (RStorable_calls cols xr (.slice xa xn xc) W (HV.out [_,_,_] W H1.out))
     have HQ2:Hid (storB cols xr=q):=by show _=_;rw [<-HQ.out,decide_eq_true (by omega),Bool.true_and]
     rw [HQ2.out] at HSTO;have HQ3:Hid (q=true->decide (1<=k/\k<=4611686018427387904)=true):=λ _=> decide_eq_true (by omega);cases q
     · go_wp2_with (first
        | (go_at_call 80;(with_reducible refine (limit_calls _).mono ?_);rintro e w1 ⟨rfl,rfl⟩))
       (with_reducible refine HSTO.out.mono ?_);rintro e w1 ⟨rfl,hb⟩;have hs:=H1.out.mono hb;clear HEND c0 c1 c2 d0 d1 d2 g0 g1 g2 bl1 bl2 hb;obtain ⟨_,hb1⟩:=hs.has 1 rfl;obtain ⟨_,hb2⟩:=hs.has 2 rfl;have c0:=(blk_get hb1).1 0;have c1:=(blk_get hb1).1 1;have c2:=(blk_get hb1).1 2;have f1:=(blk_get hb1).2.1 1;have f2:=(blk_get hb1).2.1 2;have d0:=(blk_get hb2).1 0;have d1:=(blk_get hb2).1 1;have d2:=(blk_get hb2).1 2;have g0:=(blk_get hb2).2.1 0;have g1:=(blk_get hb2).2.1 1;have g2:=(blk_get hb2).2.1 2;have bl1:=(blk_get hb1).2.2;have bl2:=(blk_get hb2).2.2;simp only [List.getElem?_toArray,List.getElem?_cons_zero,List.getElem?_cons_succ] at c0 c1 c2 d0 d1 d2;have HEND:Hid (St w0 fp0 (Z::R) (((w1.setCell ⟨vb+1,0,none⟩ (.int .i64 cols)).setCell ⟨vb+1,1,none⟩ (.slice a n c)).setCell ⟨vb+1,2,none⟩ (.int .i64 next))):=cpRS hs;clear hb1 hb2 hs H1 HSTO;go_wp2;refine bodyPost_ret (v:=.tuple #[.agg #[.int .i64 cols, .slice a n c, .int .i64 next], .int .i64 1]) (by clear HV HAL HSL HST HEND;simp [results,Tryz.results49,go_sem, *]) rfl ?_;exact ⟨_,rfl, .inr ⟨rfl,rfl,HEND.out⟩⟩
     · go_wp2_with (first
        | (go_at_call 80;(with_reducible refine (limit_calls _).mono ?_);rintro e w1 ⟨rfl,rfl⟩))
       (with_reducible refine HSTO.out.mono ?_);rintro e w1 ⟨rfl,hb⟩;have H2:Hid (∃s,s=(l.take 0).foldl (stepP k X) ([],false)/\St w0 fp0 (riA (.slice none 0 0) s.1::blkA vb 44 #[.int .i64 cols, .slice a n c, .int .i64 next]::blkA (vb+1) 44 #[.int .i64 0, .slice none 0 0, .int .i64 0]::Z::R) w1):=by refine ⟨_,rfl,?_⟩;rw [List.take_zero];have h:=(H1.out.mono hb).nilR 109 2;exact St_re (L:=[_,_,_,_]) h [0,2,3,1] [] (by kernel_rfl)
       clear HEND c0 c1 c2 d0 d1 d2 g0 g1 g2 bl1 bl2 hb H1 HSTO;obtain ⟨s0,hs0,hs⟩:=H2.out;obtain ⟨_,hb1⟩:=hs.has 1 rfl;have c1:=(blk_get hb1).1 1;have bl1:=(blk_get hb1).2.2;simp only [List.getElem?_toArray,List.getElem?_cons_zero,List.getElem?_cons_succ] at c1;clear hs hs0 hb1;go_wp2;go_loopg [8,9,10] n (λ g z8 z9 z wr=> ∃(i:Nat) (b:Bool),z=.int .i64 i/\z9=.bool b/\g+i=n/\Hid (∃s,s=(l.take i).foldl (stepP k X) ([],false)/\b=s.2/\St w0 fp0 (riA z8 s.1::blkA vb 44 #[.int .i64 cols, .slice a n c, .int .i64 next]::blkA (vb+1) 44 #[.int .i64 0, .slice none 0 0, .int .i64 0]::Z::R) wr))
       case atStart=>
        obtain ⟨s0,hs0,hs⟩:=H2.out;exact ⟨0,false,rfl,rfl,rfl,s0,hs0,by rw [hs0];rfl,hs⟩
       case round=>
        clear H2 c1 bl1;obtain ⟨i,b,rfl,rfl,hgi,Hs⟩:=hrel;obtain ⟨s,hs0,hbs,hs⟩:=Hs.out;obtain ⟨_,hb1⟩:=hs.has 1 rfl;obtain ⟨_,hb2⟩:=hs.has 2 rfl;have c0:=(blk_get hb1).1 0;have c1:=(blk_get hb1).1 1;have c2:=(blk_get hb1).1 2;have f1:=(blk_get hb1).2.1 1;have f2:=(blk_get hb1).2.1 2;have d0:=(blk_get hb2).1 0;have d1:=(blk_get hb2).1 1;have d2:=(blk_get hb2).1 2;have g0:=(blk_get hb2).2.1 0;have g1:=(blk_get hb2).2.1 1;have g2:=(blk_get hb2).2.1 2;have bl1:=(blk_get hb1).2.2;have bl2:=(blk_get hb2).2.2;simp only [List.getElem?_toArray,List.getElem?_cons_zero,List.getElem?_cons_succ] at c0 c1 c2 d0 d1 d2;by_cases hi:i < n
        · have hil:i < l.length:=by rw [HN.out];exact hi
          have hst:=HST.out i hil;rw [<-hs0] at hst;have hp:=HZ.out.at (M:=[_,_,_]) hs;obtain ⟨lb,lo,c',e1,q1,q2⟩:=ri_cells (by rw [HN.out];exact hp) i hil;obtain ⟨rfl, -,rfl⟩:=Value.slice.inj e1;have hql:=World.block_lt_of_cell? _ _ q1;have hi':(i:Int) < n:=by omega
          have hlen:s.1.length+2 < 1099511627776:=by have h1:=HSL.out i;rw [<-hs0,List.length_take,List.length_nil] at h1;have:=HL.out;omega
          have Hlen:=Lib.hid hlen;have Hgi:=Lib.hid hgi;have Hst:=Lib.hid hst;have HS:=Lib.hid hs;have HY:=Lib.hid (List.getElem?_eq_getElem hil);clear e1 hgi hst hp hlen hb1 hb2 hs hs0 Hs d0 d1 d2 g0 g1 g2 bl2 f1 f2;generalize l[i]=y at *;clear hil;obtain ⟨yid,ya,yn,yc,yr⟩:=y;obtain ⟨out,pl⟩:=s;unfold Ri.v at q2;simp only at q1 q2 Hst hbs HS Hlen;subst hbs;cases b
          · by_cases hge:k<=yid
            · by_cases hx:yid=k
              · have hxk:(yid !=k)=false:=by simp [hx]
                have hx2:=Lib.hid hx;have hge2:=Lib.hid hge;clear hx;go_wp2_with (first | (at_builtin;refine wpList_appR rfl _ _ _ _ rfl rfl rfl appRI (HS.out.mono ((Below.refl _ _).alloc (Nat.le_refl _) _)) (src_litk (e':=109) (by kernel_rfl) _ 2 _ 1 _ _ _ #[.int .i64 k, .slice xa xn xc] (heap_alloc_new _ _) rfl (by simp;exact ⟨rfl,rfl⟩)) (by have:=Hlen.out;omega) ?_;intro v3 w3 h3;obtain ⟨k1,k2,k3,k4,k5⟩:=rp_cells (by rw [HN.out];exact HZ.out) h3.out HY.out;unfold Ri.v at k4;simp only at k3 k4));go_roundg (gk - 1)
                case rel=> exact ⟨i+1,true,by go_num,rfl,by have:=Hgi.out;omega,(out++[X],true),by rw [Hst.out];simp [stepP,hx2.out],rfl,(by have h4:=riA_snoc (⟨k,xa,xn,xc,xr⟩:Ri) h3.out;rw [HX.out] at h4;exact h4)⟩
                case measure=> have:=Hgi.out;omega
              · have hxk:(yid !=k)=true:=by simp [hx]
                have hx2:=Lib.hid hx;have hge2:=Lib.hid hge;clear hx
                go_wp2_with (first
                 | (at_builtin;refine wpList_appR rfl _ _ _ _ rfl rfl rfl appRI (HS.out.mono ((Below.refl _ _).alloc (Nat.le_refl _) _)) (src_litk (e':=109) (by kernel_rfl) _ 2 _ 1 _ _ _ #[.int .i64 k, .slice xa xn xc] (heap_alloc_new _ _) rfl (by simp;exact ⟨rfl,rfl⟩)) (by have:=Hlen.out;omega) ?_;intro v3 w3 h3;obtain ⟨k1,k2,k3,k4,k5⟩:=rp_cells (by rw [HN.out];exact HZ.out) h3.out HY.out;unfold Ri.v at k4;simp only at k3 k4)
                 | (at_builtin;refine wpList_appR rfl _ _ _ _ rfl rfl rfl appRI ((riA_snoc (⟨k,xa,xn,xc,xr⟩:Ri) h3.out).mono ((Below.refl _ _).alloc (Nat.le_refl _) _)) (src_litk (e':=109) (by kernel_rfl) _ 2 _ 1 _ _ _ #[.int .i64 yid, .slice ya yn yc] (heap_alloc_new _ _) rfl (by simp;exact ⟨rfl,rfl⟩)) (by have:=Hlen.out;simp;omega) ?_;intro v4 w4 h4))
                go_roundg (gk - 1)
                case rel=> exact ⟨i+1,true,by go_num,rfl,by have:=Hgi.out;omega,(out++[X]++[⟨yid,ya,yn,yc,yr⟩],true),by rw [Hst.out];simp [stepP,hx2.out,hge2.out],rfl,(by have h5:=riA_snoc (⟨yid,ya,yn,yc,yr⟩:Ri) h4.out;rw [HX.out] at h5;exact h5)⟩
                case measure=> have:=Hgi.out;omega
            · have hx:¬ yid=k:=by omega
              have hxk:(yid !=k)=true:=by simp [hx]
              have hx2:=Lib.hid hx;have hge2:=Lib.hid hge;clear hx;go_wp2_with (first | (at_builtin;refine wpList_appR rfl _ _ _ _ rfl rfl rfl appRI (HS.out.mono ((Below.refl _ _).alloc (Nat.le_refl _) _)) (src_litk (e':=109) (by kernel_rfl) _ 2 _ 1 _ _ _ #[.int .i64 yid, .slice ya yn yc] (heap_alloc_new _ _) rfl (by simp;exact ⟨rfl,rfl⟩)) (by have:=Hlen.out;omega) ?_;intro v3 w3 h3;obtain ⟨k1,k2,k3,k4,k5⟩:=rp_cells (by rw [HN.out];exact HZ.out) h3.out HY.out;unfold Ri.v at k4;simp only at k3 k4));go_roundg (gk - 1)
              case rel=> exact ⟨i+1,false,by go_num,rfl,by have:=Hgi.out;omega,(out++[⟨yid,ya,yn,yc,yr⟩],false),by rw [Hst.out];have h9:¬ k<=yid:=(by have:=hge2.out;omega);simp [stepP,hx2.out,if_neg h9],rfl,riA_snoc (⟨yid,ya,yn,yc,yr⟩:Ri) h3.out⟩
              case measure=> have:=Hgi.out;omega
          · by_cases hx:yid=k
            · have hxk:(yid !=k)=false:=by simp [hx]
              have hx2:=Lib.hid hx;clear hx;go_wp2;go_roundg (gk - 1)
              case rel=> exact ⟨i+1,true,by go_num,rfl,by have:=Hgi.out;omega,(out,true),by rw [Hst.out];simp [stepP,hx2.out],rfl,HS.out⟩
              case measure=> have:=Hgi.out;omega
            · have hxk:(yid !=k)=true:=by simp [hx]
              have hx2:=Lib.hid hx;clear hx;go_wp2_with (first | (at_builtin;refine wpList_appR rfl _ _ _ _ rfl rfl rfl appRI (HS.out.mono ((Below.refl _ _).alloc (Nat.le_refl _) _)) (src_litk (e':=109) (by kernel_rfl) _ 2 _ 1 _ _ _ #[.int .i64 yid, .slice ya yn yc] (heap_alloc_new _ _) rfl (by simp;exact ⟨rfl,rfl⟩)) (by have:=Hlen.out;omega) ?_;intro v3 w3 h3;obtain ⟨k1,k2,k3,k4,k5⟩:=rp_cells (by rw [HN.out];exact HZ.out) h3.out HY.out;unfold Ri.v at k4;simp only at k3 k4));go_roundg (gk - 1)
              case rel=> exact ⟨i+1,true,by go_num,rfl,by have:=Hgi.out;omega,(out++[⟨yid,ya,yn,yc,yr⟩],true),by rw [Hst.out];simp [stepP,hx2.out],rfl,riA_snoc (⟨yid,ya,yn,yc,yr⟩:Ri) h3.out⟩
              case measure=> have:=Hgi.out;omega
        · obtain rfl:i=n:=by omega
          rw [List.take_of_length_le (by rw [HN.out];exact Nat.le_refl _)] at hs0;obtain ⟨out,pl⟩:=s;simp only at hbs hs;subst hbs;have hal:=HAL.out;rw [<-hs0] at hal;have hlen:out.length+2 < 1099511627776:=by have h1:=HSL.out i;rw [List.take_of_length_le (by rw [HN.out];exact Nat.le_refl _),<-hs0,List.length_nil] at h1;have:=HL.out;simp only at h1;omega
          have Hlen:=Lib.hid hlen;have HS:=Lib.hid hs;have hw:IntKind.i64.wrap (k+1)=k+1:=IntWalk.i64_in _ (by omega);simp only at hal;have HALL:=Lib.hid hal;clear hs0 hgi hi hlen Hs hal hs hb1 hb2;cases b
          · go_upto_region 15 with (first | (at_builtin;refine wpList_appR rfl _ _ _ _ rfl rfl rfl appRI (HS.out.mono ((Below.refl _ _).alloc (Nat.le_refl _) _)) (src_litk (e':=109) (by kernel_rfl) _ 2 _ 1 _ _ _ #[.int .i64 k, .slice xa xn xc] (heap_alloc_new _ _) rfl (by simp;exact ⟨rfl,rfl⟩)) (by have:=Hlen.out;omega) ?_;intro v3 w3 h3))
            have H3:Hid (St w0 fp0 (riA v3 (putR k X l)::blkA vb 44 #[.int .i64 cols, .slice a i c, .int .i64 next]::blkA (vb+1) 44 #[.int .i64 0, .slice none 0 0, .int .i64 0]::Z::R) w3):=by have h4:=riA_snoc (⟨k,xa,xn,xc,xr⟩:Ri) h3.out;rw [HX.out] at h4;have h5:=HALL.out;rw [if_neg (by simp)] at h5;rw [h5] at h4;exact h4
            clear HS h3 c0 c1 c2 d0 d1 d2 f1 f2 g0 g1 g2 bl1 bl2 Hlen;have hs:=H3.out;obtain ⟨_,hb1⟩:=hs.has 1 rfl;obtain ⟨_,hb2⟩:=hs.has 2 rfl;have c0:=(blk_get hb1).1 0;have c1:=(blk_get hb1).1 1;have c2:=(blk_get hb1).1 2;have f1:=(blk_get hb1).2.1 1;have f2:=(blk_get hb1).2.1 2;have d0:=(blk_get hb2).1 0;have d1:=(blk_get hb2).1 1;have d2:=(blk_get hb2).1 2;have g0:=(blk_get hb2).2.1 0;have g1:=(blk_get hb2).2.1 1;have g2:=(blk_get hb2).2.1 2;have bl1:=(blk_get hb1).2.2;have bl2:=(blk_get hb2).2.2;simp only [List.getElem?_toArray,List.getElem?_cons_zero,List.getElem?_cons_succ] at c0 c1 c2 d0 d1 d2;obtain ⟨_,hrow⟩:=hs.has 0 rfl;obtain ⟨ya,yc,hyy⟩:=(riA_sl hrow).shape;subst hyy;obtain ⟨m,hm⟩:∃m,(putR k X l).length=m:=⟨_,rfl⟩
            rw [hm] at hs;have HF1:=Lib.hid (setRS hs (.slice ya m yc));have HF2:=Lib.hid (setRN hs (.slice ya m yc) (k+1));rw [hm];clear hs hrow hb1 hb2 hm H3;by_cases hnx:next<=k
            · have hmx:max next (k+1)=k+1:=by omega
              have HMX:=Lib.hid hmx;clear hmx;go_wp2;refine bodyPost_ret (v:=.tuple #[.agg #[.int .i64 cols, .slice ya m yc, .int .i64 (k+1)], .int .i64 0]) (by clear HV HAL HSL HST HF1 HF2;simp [results,Tryz.results49,go_sem, *]) rfl ?_;refine ⟨.slice ya m yc,?_, .inl ⟨rfl,?_⟩⟩
              · rw [HMX.out];rfl
              · rw [show X.id=k by rw [<-HX.out]]
                exact HF2.out
            · have hmx:max next (k+1)=next:=by omega
              have HMX:=Lib.hid hmx;clear hmx;go_wp2;refine bodyPost_ret (v:=.tuple #[.agg #[.int .i64 cols, .slice ya m yc, .int .i64 next], .int .i64 0]) (by clear HV HAL HSL HST HF1 HF2;simp [results,Tryz.results49,go_sem, *]) rfl ?_;refine ⟨.slice ya m yc,?_, .inl ⟨rfl,?_⟩⟩
              · rw [HMX.out];rfl
              · rw [show X.id=k by rw [<-HX.out]]
                exact HF1.out
          · have H3:Hid (St w0 fp0 (riA u8 (putR k X l)::blkA vb 44 #[.int .i64 cols, .slice a i c, .int .i64 next]::blkA (vb+1) 44 #[.int .i64 0, .slice none 0 0, .int .i64 0]::Z::R) wr):=by
             have h5:=HALL.out;rw [if_pos rfl] at h5;have h4:=HS.out;rw [h5] at h4;exact h4
            clear HS c0 c1 c2 d0 d1 d2 f1 f2 g0 g1 g2 bl1 bl2 Hlen;have hs:=H3.out;obtain ⟨_,hb1⟩:=hs.has 1 rfl;obtain ⟨_,hb2⟩:=hs.has 2 rfl;have c0:=(blk_get hb1).1 0;have c1:=(blk_get hb1).1 1;have c2:=(blk_get hb1).1 2;have f1:=(blk_get hb1).2.1 1;have f2:=(blk_get hb1).2.1 2;have d0:=(blk_get hb2).1 0;have d1:=(blk_get hb2).1 1;have d2:=(blk_get hb2).1 2;have g0:=(blk_get hb2).2.1 0;have g1:=(blk_get hb2).2.1 1;have g2:=(blk_get hb2).2.1 2;have bl1:=(blk_get hb1).2.2;have bl2:=(blk_get hb2).2.2;simp only [List.getElem?_toArray,List.getElem?_cons_zero,List.getElem?_cons_succ] at c0 c1 c2 d0 d1 d2;obtain ⟨_,hrow⟩:=hs.has 0 rfl;obtain ⟨ya,yc,hyy⟩:=(riA_sl hrow).shape;subst hyy;obtain ⟨m,hm⟩:∃m,(putR k X l).length=m:=⟨_,rfl⟩
            rw [hm] at hs;have HF1:=Lib.hid (setRS hs (.slice ya m yc));have HF2:=Lib.hid (setRN hs (.slice ya m yc) (k+1));rw [hm];clear hs hrow hb1 hb2 hm H3;by_cases hnx:next<=k
            · have hmx:max next (k+1)=k+1:=by omega
              have HMX:=Lib.hid hmx;clear hmx;go_wp2;refine bodyPost_ret (v:=.tuple #[.agg #[.int .i64 cols, .slice ya m yc, .int .i64 (k+1)], .int .i64 0]) (by clear HV HAL HSL HST HF1 HF2;simp [results,Tryz.results49,go_sem, *]) rfl ?_;refine ⟨.slice ya m yc,?_, .inl ⟨rfl,?_⟩⟩
              · rw [HMX.out];rfl
              · rw [show X.id=k by rw [<-HX.out]]
                exact HF2.out
            · have hmx:max next (k+1)=next:=by omega
              have HMX:=Lib.hid hmx;clear hmx;go_wp2;refine bodyPost_ret (v:=.tuple #[.agg #[.int .i64 cols, .slice ya m yc, .int .i64 next], .int .i64 0]) (by clear HV HAL HSL HST HF1 HF2;simp [results,Tryz.results49,go_sem, *]) rfl ?_;refine ⟨.slice ya m yc,?_, .inl ⟨rfl,?_⟩⟩
              · rw [HMX.out];rfl
              · rw [show X.id=k by rw [<-HX.out]]
                exact HF1.out
def chkT (cols:Nat) (L:LL) (id:Int) (old new:Rw):Int:=
 if ¬ (1<=id/\id<=4611686018427387904)\/(old=[]/\new=[])\/(new≠[]/\storB cols new=false) then 1
 else if old=[] then (if (getL L id).isSome then 5 else 0) else if getL L id=some old then 0 else 4
def appT (cols:Nat) (id:Int) (new:Rw) (L:LL):LL:=if new=[] then delL id L else putLL cols id new L
def appN (cols:Nat) (id:Int) (new:Rw) (next:Int):Int:=if new=[] then next else putN cols id new next
theorem chkT_ok {cols:Nat} {L:LL} {id:Int} {old new:Rw} (h:chkT cols L id old new=0):(1<=id/\id<=4611686018427387904)/\¬ (old=[]/\new=[])/\(new≠[]->storB cols new=true)/\((old=[]/\getL L id=none)\/(old≠[]/\getL L id=some old)):=by
 unfold chkT at h;split at h
 · cases h
 rename_i h1
 refine ⟨Classical.byContradiction λ x=> h1 (.inl x),λ e=> h1 (.inr (.inl e)),λ e=> by
  cases q:storB cols new with
  | true=> rfl
  | false=> exact absurd (.inr (.inr ⟨e,q⟩)) h1,?_⟩
 split at h
 · rename_i e
   split at h
   · cases h
   · rename_i g
     exact .inl ⟨e,by simpa using g⟩
 · rename_i e
   split at h
   · rename_i g
     exact .inr ⟨e,g⟩
   · cases h
section
structure Td where
 nm:ByteArray
 ca:Option Addr
 n:Nat
 cc:Nat
 kv:Value
 fv:Value
 xa:Option Addr
 xn:Nat
 xc:Nat
 cvs:List Value
 kvs:List Value
 fvs:List Value
 K:List (List Int)
 F:List (List Int)
def Td.c (t:Td):List Value:=[.string t.nm, .slice t.ca t.n t.cc,t.kv,t.fv, .slice t.xa t.xn t.xc]
structure Td.X (w:World) (t:Td):Prop where
 cols:SlX [] w 6 t.n t.cvs (.slice t.ca t.n t.cc)
 one:∀u∈t.cvs,u.oneCell'=true
 keys:KeysX w t.kvs t.K t.kv
 fors:ForsX w t.fvs t.F t.fv
structure Td.Sm (t:Td):Prop where
 n:t.n<=1000
 k:t.K.length<=1000
 f:t.F.length<=1000
 kl:∀c∈t.K,c.length<=1000
 fl:∀c∈t.F,c.length<=1000
theorem KeysX.mono {w w':World} {vs:List Value} {ks:List (List Int)} {v:Value} (h:KeysX w vs ks v) (hb:Below w.heap.size w w'):KeysX w' vs ks v:=⟨h.1.mono hb,λ i hi=> by
 obtain ⟨u,h1,h2⟩:=h.2 i hi;exact ⟨u,h1,h2.mono hb⟩⟩
theorem ForsX.mono {w w':World} {vs:List Value} {ks:List (List Int)} {v:Value} (h:ForsX w vs ks v) (hb:Below w.heap.size w w'):ForsX w' vs ks v:=⟨h.1.mono hb,λ i hi=> by
 obtain ⟨u,a,b,h1,h2,h3,h4⟩:=h.2 i hi;exact ⟨u,a,b,h1,h2,h3,h4.mono hb⟩⟩
theorem Td.X.mono {w w':World} {t:Td} (h:t.X w) (hb:Below w.heap.size w w'):t.X w':=⟨h.cols.mono hb,h.one,h.keys.mono hb,h.fors.mono hb⟩
structure SchX (w:World) (l:List Td) (v:Value):Prop where
 sl:SlX [] w 5 l.length (l.flatMap Td.c) v
 td:∀t∈l,t.X w
theorem SchX.mono {w w':World} {l:List Td} {v:Value} (h:SchX w l v) (hb:Below w.heap.size w w'):SchX w' l v:=⟨h.sl.mono hb,λ t ht=> (h.td t ht).mono hb⟩
theorem tdc_len (t:Td):t.c.length=5:=rfl
theorem SchX.cells {w:World} {l:List Td} {v:Value} (h:SchX w l v) (i:Nat) (hi:i < l.length):∃b o c,v=.slice (some ⟨b,o,none⟩) l.length c/\b < w.heap.size/\w.cell? ⟨b,o+i * 5,none⟩=some (.string l[i].nm)/\w.cell? ⟨b,o+i * 5+1,none⟩=some (.slice l[i].ca l[i].n l[i].cc)/\w.cell? ⟨b,o+i * 5+2,none⟩=some l[i].kv/\w.cell? ⟨b,o+i * 5+3,none⟩=some l[i].fv/\w.cell? ⟨b,o+i * 5+4,none⟩=some (.slice l[i].xa l[i].xn l[i].xc):=by
 obtain ⟨b,o,c,e, -,hb,hc⟩:=rec_cells (by decide) tdc_len h.sl i hi;exact ⟨b,o,c,e,hb,hc 0 _ rfl,hc 1 _ rfl,hc 2 _ rfl,hc 3 _ rfl,hc 4 _ rfl⟩
structure Chg where
 tb:Int
 id:Int
 oa:Option Addr
 oc:Nat
 na:Option Addr
 nc:Nat
 old:Rw
 new:Rw
def Chg.ov (c:Chg):Value:=.slice c.oa c.old.length c.oc
def Chg.nv (c:Chg):Value:=.slice c.na c.new.length c.nc
def Chg.c (c:Chg):List Value:=[.int .i64 c.tb, .int .i64 c.id,c.ov,c.nv]
def Chg.v (c:Chg):Value:=.agg #[.int .i64 c.tb, .int .i64 c.id,c.ov,c.nv]
structure Chg.X (w:World) (c:Chg):Prop where
 old:ValsAt w c.old c.ov
 new:ValsAt w c.new c.nv
theorem Chg.X.mono {w w':World} {c:Chg} (h:c.X w) (hb:Below w.heap.size w w'):c.X w':=⟨h.old.mono hb,h.new.mono hb⟩
structure Chg.Ok (c:Chg):Prop where
 tb:I64 c.tb
 id:I64 c.id
 old:∀v∈c.old,I64 v.int
 new:∀v∈c.new,I64 v.int
structure ChsX (w:World) (l:List Chg) (v:Value):Prop where
 sl:SlX [] w 4 l.length (l.flatMap Chg.c) v
 ch:∀c∈l,c.X w
theorem ChsX.mono {w w':World} {l:List Chg} {v:Value} (h:ChsX w l v) (hb:Below w.heap.size w w'):ChsX w' l v:=⟨h.sl.mono hb,λ t ht=> (h.ch t ht).mono hb⟩
theorem chc_len (t:Chg):t.c.length=4:=rfl
theorem ChsX.cells {w:World} {l:List Chg} {v:Value} (h:ChsX w l v) (i:Nat) (hi:i < l.length):∃b o c,v=.slice (some ⟨b,o,none⟩) l.length c/\b < w.heap.size/\w.cell? ⟨b,o+i * 4,none⟩=some (.int .i64 l[i].tb)/\w.cell? ⟨b,o+i * 4+1,none⟩=some (.int .i64 l[i].id)/\w.cell? ⟨b,o+i * 4+2,none⟩=some l[i].ov/\w.cell? ⟨b,o+i * 4+3,none⟩=some l[i].nv:=by
 obtain ⟨b,o,c,e, -,hb,hc⟩:=rec_cells (by decide) chc_len h.sl i hi;exact ⟨b,o,c,e,hb,hc 0 _ rfl,hc 1 _ rfl,hc 2 _ rfl,hc 3 _ rfl⟩
structure Rs where
 cols:Nat
 la:Option Addr
 lc:Nat
 next:Int
 l:List Ri
def Rs.lv (m:Rs):Value:=.slice m.la m.l.length m.lc
def Rs.c (m:Rs):List Value:=[.int .i64 m.cols,m.lv, .int .i64 m.next]
structure RefX (w:World) (l:List Rs) (v:Value):Prop where
 sl:SlX [] w 3 l.length (l.flatMap Rs.c) v
 ri:∀m∈l,RiX w m.l m.lv
theorem RefX.mono {w w':World} {l:List Rs} {v:Value} (h:RefX w l v) (hb:Below w.heap.size w w'):RefX w' l v:=⟨h.sl.mono hb,λ t ht=> (h.ri t ht).mono hb⟩
theorem rsc_len (t:Rs):t.c.length=3:=rfl
theorem RefX.cells {w:World} {l:List Rs} {v:Value} (h:RefX w l v) (i:Nat) (hi:i < l.length):∃b o c,v=.slice (some ⟨b,o,none⟩) l.length c/\b < w.heap.size/\w.cell? ⟨b,o+i * 3,none⟩=some (.int .i64 l[i].cols)/\w.cell? ⟨b,o+i * 3+1,none⟩=some l[i].lv/\w.cell? ⟨b,o+i * 3+2,none⟩=some (.int .i64 l[i].next):=by
 obtain ⟨b,o,c,e, -,hb,hc⟩:=rec_cells (by decide) rsc_len h.sl i hi;exact ⟨b,o,c,e,hb,hc 0 _ rfl,hc 1 _ rfl,hc 2 _ rfl⟩
theorem St.setR {w0 w:World} {fp0:List Nat} {R:List Asn} {t:TypeId} {size g n c:Nat} {xs:List Value} (h:St w0 fp0 (rowA t size (.slice (some ⟨g,0,none⟩) n c) n xs::R) w) (i:Nat) (v:Value):St w0 fp0 (rowA t size (.slice (some ⟨g,0,none⟩) n c) n (xs.set i v)::R) (w.setCell ⟨g,i,none⟩ v):=by
 obtain ⟨f,hf,hk⟩:=h.get 0 rfl;obtain ⟨h1,h2⟩:=hf;obtain ⟨h3,h4⟩:=h1.stored i v;refine hk _ _ [g] ⟨h3,rfl⟩ ?_;rw [h2];exact Tr.of_grown (o:=some g) (o':=some g) h4 (λ k hk=> .inl hk)
theorem St.addF {w0 w w':World} {fp0:List Nat} {L:List Asn} {A:Asn} {f:List Nat} (h:St w0 fp0 L w) (ha:A.p w' f) (hb:Below w.heap.size w w') (hn:∀k∈f,w.heap.size<=k):St w0 fp0 (A::L) w':=
 (h.add hb ha hn).perm List.perm_append_comm
abbrev Db:=List (Nat×LL×Int)
def Rs.d (m:Rs):Nat×LL×Int:=(m.cols,riL m.l,m.next)
structure Tb where
 S:Nat
 cols:Nat
 I:List (List Int)
 L:LL
 next:Int
def Tb.d (t:Tb):Nat×LL×Int:=(t.cols,t.L,t.next)
def tbA (t:Tb):Asn:=storeA t.S t.cols t.I t.L t.next
theorem map_pick {α β:Type} (f:α->β) (l:List α) (i:Nat) (h:i < l.length):(l.map f).Perm (f l[i]::(l.eraseIdx i).map f):=by
 induction l generalizing i with
 | nil=> simp at h
 | cons x l ih=>
  cases i with
  | zero=> exact List.Perm.refl _
  | succ i=>
   have:=ih i (by simpa using h);simp only [List.map_cons,List.getElem_cons_succ,List.eraseIdx_cons_succ];exact (List.Perm.cons _ this).trans (List.Perm.swap _ _ _)
theorem map_place {α β:Type} (f:α->β) (l:List α) (i:Nat) (y:α) (h:i < l.length):((l.set i y).map f).Perm (f y::(l.eraseIdx i).map f):=by
 induction l generalizing i with
 | nil=> simp at h
 | cons x l ih=>
  cases i with
  | zero=> exact List.Perm.refl _
  | succ i=>
   have:=ih i (by simpa using h);simp only [List.map_cons,List.set_cons_succ,List.eraseIdx_cons_succ];exact (List.Perm.cons _ this).trans (List.Perm.swap _ _ _)
def schA (v:Value) (td:List Td):Asn:=exA λ X:List Asn=> starA (pureA (∀w f,Star w X f->SchX w td v)::X)
theorem schA_at {v:Value} {td:List Td} {w:World} {f:List Nat} (h:(schA v td).p w f):SchX w td v:=by
 obtain ⟨X,g,f2,⟨h1,rfl⟩,h2, -,rfl⟩:=h;exact h1 w _ h2
theorem St.schA {w0 w:World} {fp0:List Nat} {R X:List Asn} {v:Value} {td:List Td} (h:∀w f,Star w X f->SchX w td v) (hs:St w0 fp0 (X++R) w):St w0 fp0 (schA v td::R) w:=by
 have h1:St w0 fp0 ((pureA (∀w f,Star w X f->SchX w td v)::X)++R) w:=St.pure.2 ⟨h,hs⟩;exact h1.fold λ f hf=> ⟨X,hf⟩
structure StQ where
 sa:Option Addr
 sc:Nat
 ta:Option Addr
 tc:Nat
 td:List Td
 ts:List Tb
def StQ.sv (q:StQ):Value:=.slice q.sa q.td.length q.sc
def StQ.tv (q:StQ):Value:=.slice q.ta q.ts.length q.tc
structure StQ.Ok (q:StQ) (D:Db):Prop where
 d:q.ts.map Tb.d=D
 n:q.td.map (·.n)=D.map (·.1)
 sm:∀t∈q.td,t.Sm
 len:q.td.length<=1000
def dbP (b:Nat) (q:StQ):List Asn:=blkA b 104 #[q.sv,q.tv]::schA q.sv q.td::slA 46 q.tv (q.ts.map λ t=> ptrV t.S)::[]
def stA (b:Nat) (D:Db):Asn:=exA λ q:StQ=> starA (pureA (q.Ok D)::(dbP b q++q.ts.map tbA))
section
variable {w0 w:World} {fp0:List Nat} {R:List Asn} {b:Nat} {D:Db}
theorem St.openD (hs:St w0 fp0 (stA b D::R) w):∃q:StQ,q.Ok D/\St w0 fp0 (dbP b q++(q.ts.map tbA++R)) w:=by
 obtain ⟨q,h1⟩:=hs.unfold (L1:=λ q:StQ=> pureA (q.Ok D)::(dbP b q++q.ts.map tbA)) λ f ⟨q,hq⟩=> ⟨q,hq⟩
 have h2:=St.pure.1 h1;exact ⟨q,h2.1,List.append_assoc (dbP b q) (q.ts.map tbA) R ▸ h2.2⟩
theorem St.shutD {q:StQ} (hk:q.Ok D) (hs:St w0 fp0 (dbP b q++(q.ts.map tbA++R)) w):St w0 fp0 (stA b D::R) w:=by
 have h1:St w0 fp0 ((pureA (q.Ok D)::(dbP b q++q.ts.map tbA))++R) w:=St.pure.2 ⟨hk,by have e:=List.append_assoc (dbP b q) (q.ts.map tbA) R;rw [<-e] at hs;exact hs⟩;exact h1.fold λ f hf=> ⟨q,hf⟩
theorem St.pickT {q:StQ} (hs:St w0 fp0 (dbP b q++(q.ts.map tbA++R)) w) (i:Nat) (hi:i < q.ts.length):St w0 fp0 (tbA q.ts[i]::(dbP b q++((q.ts.eraseIdx i).map tbA++R))) w:=
 hs.perm ((List.Perm.append_left _ (List.Perm.append_right R (map_pick tbA q.ts i hi))).trans List.perm_middle)
theorem St.placeT {q:StQ} {i:Nat} {t:Tb} (hi:i < q.ts.length) (hs:St w0 fp0 (tbA t::(dbP b q++((q.ts.eraseIdx i).map tbA++R))) w):St w0 fp0 (dbP b q++((q.ts.set i t).map tbA++R)) w:=
 hs.perm ((List.Perm.append_left _ (List.Perm.append_right R (map_place tbA q.ts i t hi))).trans List.perm_middle).symm
end
theorem StQ.Ok.tlen {q:StQ} {D:Db} (h:q.Ok D):q.ts.length=D.length:=by rw [<-h.d,List.length_map]
theorem StQ.Ok.dlen {q:StQ} {D:Db} (h:q.Ok D):q.td.length=D.length:=by
 have:=congrArg List.length h.n;simpa using this
theorem StQ.Ok.at {q:StQ} {D:Db} (h:q.Ok D) (i:Nat) (hi:i < q.ts.length):D[i]? =some (q.ts[i].cols,q.ts[i].L,q.ts[i].next):=by
 rw [<-h.d,List.getElem?_map,List.getElem?_eq_getElem hi];rfl
theorem StQ.Ok.tdn {q:StQ} {D:Db} (h:q.Ok D) (i:Nat) (hi:i < q.ts.length) (hd:i < q.td.length):q.td[i].n=q.ts[i].cols:=by
 have h1:=congrArg (λ l=> l[i]?) h.n;simp only [List.getElem?_map] at h1;rw [h.at i hi,List.getElem?_eq_getElem hd] at h1;simpa using h1
theorem StQ.Ok.put {q:StQ} {D:Db} (h:q.Ok D) (i:Nat) (hi:i < q.ts.length) (L:LL) (next:Int):StQ.Ok { q with ts:=q.ts.set i { q.ts[i] with L:=L,next:=next } } (D.set i (q.ts[i].cols,L,next)):=by
 refine ⟨?_,?_,h.sm,h.len⟩
 · rw [List.map_set,h.d]
   rfl
 · show q.td.map (·.n)=_
   rw [h.n,List.map_set];have h2:=h.at i hi;have h3:(D.map (·.1))[i]? =some q.ts[i].cols:=by rw [List.getElem?_map,h2];rfl
   obtain ⟨h4,h5⟩:=List.getElem?_eq_some_iff.1 h3;rw [<-h5,List.set_getElem_self]
end
section
open Go.ChangeShapes Go.ChangeAt Go.WideShapes
theorem cCOL:Tryz.prog.cellsOf 146=6:=by kernel_rfl
theorem cTABLE:Tryz.prog.cellsOf 89=5:=by kernel_rfl
theorem cFOR:Tryz.prog.cellsOf 92=3:=by kernel_rfl
theorem cCH:Tryz.prog.cellsOf 35=4:=by kernel_rfl
theorem cCOLS:Tryz.prog.cellsOf 84=1:=by kernel_rfl
theorem cISS:Tryz.prog.cellsOf 85=1:=by kernel_rfl
theorem cFORS:Tryz.prog.cellsOf 86=1:=by kernel_rfl
theorem cEXPRS:Tryz.prog.cellsOf 87=1:=by kernel_rfl
theorem cEXPR:Tryz.prog.cellsOf 292=8:=by kernel_rfl
theorem cBOOL:Tryz.prog.cellsOf 4=1:=by kernel_rfl
structure Clm where
 nm:ByteArray
 ty:Int
 lo:Int
 hi:Int
 mx:Int
 nn:Bool
def Clm.c (c:Clm):List Value:=[.string c.nm, .int .i64 c.ty, .int .i64 c.lo, .int .i64 c.hi, .int .i64 c.mx, .bool c.nn]
instance:Inhabited Clm:=⟨⟨⟨#[]⟩,0,0,0,0,false⟩⟩
instance:Inhabited Td:=⟨⟨⟨#[]⟩,none,0,0, .slice none 0 0, .slice none 0 0,none,0,0,[],[],[],[],[]⟩⟩
instance:Inhabited Chg:=⟨⟨0,0,none,0,none,0,[],[]⟩⟩
section
variable {H:Type} {enc:TypeId×Value->H} {w:World}
theorem read_col {fuel:Nat} {cs:List Value} {x:DataW H×List MemPlace} (h:DataW.trod enc Tryz.prog w 0 (λ _=> true) true fuel 146 cs=some x):∃c:Clm,cs=c.c:=by
 obtain ⟨xs,n, -,rfl,hl,hxl,hx⟩:=DataW.trod_struct Tryz.underlying146 h;rw [cCOL] at hl
 match cs,hl,hx with
 | [a,b,c,d,e,f],_,hx=>
  match xs,hxl,hx with
  | [x0,x1,x2,x3,x4,x5],_,hx=>
   have h0:=hx 0 _ rfl;have h1:=hx 1 _ rfl;have h2:=hx 2 _ rfl;have h3:=hx 3 _ rfl;have h4:=hx 4 _ rfl;have h5:=hx 5 _ rfl;simp only [List.getElem_toArray,List.getElem_cons_zero,List.getElem_cons_succ,cINT,cI64,cSTR,cBOOL] at h0 h1 h2 h3 h4 h5;obtain ⟨t,e0, -, -⟩:=DataW.trod_string Tryz.underlying9 (by simpa using h0);obtain ⟨i1,e1, -, -⟩:=DataW.trod_int Tryz.underlying3 (by simpa using h1);obtain ⟨i2,e2, -, -⟩:=DataW.trod_int Tryz.underlying2 (by simpa using h2);obtain ⟨i3,e3, -, -⟩:=DataW.trod_int Tryz.underlying2 (by simpa using h3);obtain ⟨i4,e4, -, -⟩:=DataW.trod_int Tryz.underlying3 (by simpa using h4);obtain ⟨b5,e5, -⟩:=DataW.trod_bool Tryz.underlying4 (by simpa using h5);cases e0;cases e1;cases e2;cases e3;cases e4;cases e5;exact ⟨⟨t,i1,i2,i3,i4,b5⟩,rfl⟩
theorem clm_one (l:List Clm):∀u∈l.flatMap Clm.c,u.oneCell'=true:=by
 intro u hu;obtain ⟨m, -,hm⟩:=List.mem_flatMap.1 hu;unfold Clm.c at hm;simp only [List.mem_cons,List.not_mem_nil,or_false] at hm;rcases hm with rfl | rfl | rfl | rfl | rfl | rfl <;> rfl
theorem read_cols {fuel:Nat} {s:Value} {x:DataW H×List MemPlace} (h:DataW.trod enc Tryz.prog w 0 (λ _=> true) true fuel 84 [s]=some x):∃a n c cvs,s=.slice a n c/\SlX [] w 6 n cvs (.slice a n c)/\∀u∈cvs,u.oneCell'=true:=by
 rcases slice_read Tryz.underlying84 cCOL (by omega) h with ⟨a,e⟩ | ⟨b,o,len,cap,k,D,R,e,hb,hlc,hcm,rfl,hxD,hDl,hel⟩
 · cases e
   exact ⟨_,_,_,[],rfl,SlX.nil _ _ _ _ _,by simp⟩
 · cases e
   obtain ⟨l,h1, -⟩:=slx_read (w:=w) (cap:=cap) (sz:=6) (by omega) Clm.c (λ _=> rfl) (P:=λ _=> True) (b:=b) (o:=o) (len:=len) (Nat.le_trans hlc hcm) (λ i hi=> by obtain ⟨cs',pl, -,hc,ht⟩:=hel i (by rw [hDl];exact hi);obtain ⟨y,rfl⟩:=read_col ht;exact ⟨y,hc,trivial⟩);have e:=h1.len.1;rw [<-e] at h1;exact ⟨_,_,_,_,rfl,h1,clm_one l⟩
theorem read_slice {e t:TypeId} {fuel sz:Nat} {s:Value} {x:DataW H×List MemPlace} (ht:Tryz.prog.underlying t=some (.slice e)) (hsz:Tryz.prog.cellsOf e=sz) (h0:0 < sz) (h:DataW.trod enc Tryz.prog w 0 (λ _=> true) true fuel t [s]=some x):∃a n c,s=.slice a n c:=by
 rcases slice_read ht hsz h0 h with ⟨a,e⟩ | ⟨b,o,len,cap,k,D,R,e, -⟩
 · cases e
   exact ⟨_,_,_,rfl⟩
 · cases e
   exact ⟨_,_,_,rfl⟩
structure Il where
 v:Value
 l:List Int
structure Fl where
 v:Value
 a:Int
 b:Int
 l:List Int
instance:Inhabited Il:=⟨⟨.slice none 0 0,[]⟩⟩
instance:Inhabited Fl:=⟨⟨.slice none 0 0,0,0,[]⟩⟩
theorem read_keys {fuel:Nat} {s:Value} {x:DataW H×List MemPlace} (h:DataW.trod enc Tryz.prog w 0 (λ _=> true) true fuel 85 [s]=some x):∃vs K,KeysX w vs K s:=by
 rcases slice_read Tryz.underlying85 cIS (by omega) h with ⟨a,e⟩ | ⟨b,o,len,cap,k,D,R,e,hb,hlc,hcm,rfl,hxD,hDl,hel⟩
 · cases e
   exact ⟨[],[],SlX.nil _ _ _ _ _,λ i hi=> absurd hi (by simp)⟩
 · cases e
   obtain ⟨l,h1,h2⟩:=slx_read (w:=w) (cap:=cap) (sz:=1) (by omega) (λ y:Il=> [y.v]) (λ _=> rfl) (P:=λ y=> IntsX [] w y.l y.v) (b:=b) (o:=o) (len:=len) (Nat.le_trans hlc hcm) (λ i hi=> by
    obtain ⟨cs',pl, -,hc,ht⟩:=hel i (by rw [hDl];exact hi);have hl:cs'.length=1:=by
     rcases slice_read Tryz.underlying90 cINT (by omega) ht with ⟨a,e⟩ | ⟨_,_,_,_,_,_,_,e, -⟩
     · rw [e];rfl
     · rw [e];rfl
    match cs',hl with
    | [u],_=>
     obtain ⟨K,hK, -⟩:=read_ints (s:=u) ht;exact ⟨⟨u,K⟩,hc,hK⟩)
   refine ⟨_,l.map (·.l),by rw [List.length_map];exact h1,λ i hi=> ?_⟩;rw [List.length_map] at hi;refine ⟨l[i].v,?_,?_⟩
   · have:=flatMap_get (g:=λ y:Il=> [y.v]) (sz:=1) (λ _=> rfl) l i 0 (by omega)
     rw [List.getElem?_eq_getElem hi] at this;rw [Nat.mul_one,Nat.add_zero] at this;rw [this];rfl
   · rw [List.getElem_map]
     exact h2 _ (List.getElem_mem hi)
theorem read_for {fuel:Nat} {cs:List Value} {x:DataW H×List MemPlace} (h:DataW.trod enc Tryz.prog w 0 (λ _=> true) true fuel 92 cs=some x):∃y:Fl,cs=[y.v, .int .i64 y.a, .int .i64 y.b]/\IntsX [] w y.l y.v:=by
 obtain ⟨xs,n, -,rfl,hl,hxl,hx⟩:=DataW.trod_struct Tryz.underlying92 h;rw [cFOR] at hl
 match cs,hl,hx with
 | [a,b,c],_,hx=>
  match xs,hxl,hx with
  | [x0,x1,x2],_,hx=>
   have h0:=hx 0 _ rfl;have h1:=hx 1 _ rfl;have h2:=hx 2 _ rfl;simp only [List.getElem_toArray,List.getElem_cons_zero,List.getElem_cons_succ,cINT,cIS] at h0 h1 h2;obtain ⟨K,hK, -⟩:=read_ints (s:=a) (x:=x0) (by simpa using h0);obtain ⟨i1,e1, -, -⟩:=DataW.trod_int Tryz.underlying3 (by simpa using h1);obtain ⟨i2,e2, -, -⟩:=DataW.trod_int Tryz.underlying3 (by simpa using h2);cases e1;cases e2;exact ⟨⟨a,i1,i2,K⟩,rfl,hK⟩
theorem read_fors {fuel:Nat} {s:Value} {x:DataW H×List MemPlace} (h:DataW.trod enc Tryz.prog w 0 (λ _=> true) true fuel 86 [s]=some x):∃vs F,ForsX w vs F s:=by
 rcases slice_read Tryz.underlying86 cFOR (by omega) h with ⟨a,e⟩ | ⟨b,o,len,cap,k,D,R,e,hb,hlc,hcm,rfl,hxD,hDl,hel⟩
 · cases e
   exact ⟨[],[],SlX.nil _ _ _ _ _,λ i hi=> absurd hi (by simp)⟩
 · cases e
   obtain ⟨l,h1,h2⟩:=slx_read (w:=w) (cap:=cap) (sz:=3) (by omega) (λ y:Fl=> [y.v, .int .i64 y.a, .int .i64 y.b]) (λ _=> rfl) (P:=λ y=> IntsX [] w y.l y.v) (b:=b) (o:=o) (len:=len) (Nat.le_trans hlc hcm) (λ i hi=> by obtain ⟨cs',pl, -,hc,ht⟩:=hel i (by rw [hDl];exact hi);obtain ⟨y,rfl,hy⟩:=read_for ht;exact ⟨y,hc,hy⟩);refine ⟨_,l.map (·.l),by rw [List.length_map];exact h1,λ i hi=> ?_⟩;rw [List.length_map] at hi;have hg:=λ r hr=> flatMap_get (g:=λ y:Fl=> [y.v, .int .i64 y.a, .int .i64 y.b]) (sz:=3) (λ _=> rfl) l i r hr;rw [List.getElem?_eq_getElem hi] at hg;refine ⟨l[i].v,l[i].a,l[i].b,?_,?_,?_,?_⟩
   · rw [show i * 3=i * 3+0 by omega,hg 0 (by omega)];rfl
   · rw [hg 1 (by omega)];rfl
   · rw [hg 2 (by omega)];rfl
   · rw [List.getElem_map]
     exact h2 _ (List.getElem_mem hi)
theorem read_table {fuel:Nat} {cs:List Value} {x:DataW H×List MemPlace} (h:DataW.trod enc Tryz.prog w 0 (λ _=> true) true fuel 89 cs=some x):∃t:Td,cs=t.c/\t.X w:=by
 obtain ⟨xs,n, -,rfl,hl,hxl,hx⟩:=DataW.trod_struct Tryz.underlying89 h;rw [cTABLE] at hl
 match cs,hl,hx with
 | [a,b,c,d,e],_,hx=>
  match xs,hxl,hx with
  | [x0,x1,x2,x3,x4],_,hx=>
   have h0:=hx 0 _ rfl;have h1:=hx 1 _ rfl;have h2:=hx 2 _ rfl;have h3:=hx 3 _ rfl;have h4:=hx 4 _ rfl;simp only [List.getElem_toArray,List.getElem_cons_zero,List.getElem_cons_succ,cSTR,cCOLS,cISS,cFORS,cEXPRS] at h0 h1 h2 h3 h4;obtain ⟨t,e0, -, -⟩:=DataW.trod_string Tryz.underlying9 (by simpa using h0);obtain ⟨ca,cn,cc,cvs,rfl,hC,hC1⟩:=read_cols (s:=b) (x:=x1) (by simpa using h1);obtain ⟨kvs,K,hK⟩:=read_keys (s:=c) (x:=x2) (by simpa using h2);obtain ⟨fvs,F,hF⟩:=read_fors (s:=d) (x:=x3) (by simpa using h3);obtain ⟨xa,xn,xc,rfl⟩:=read_slice (s:=e) (x:=x4) Tryz.underlying87 cEXPR (by omega) (by simpa using h4);cases e0;exact ⟨⟨t,ca,cn,cc,c,d,xa,xn,xc,cvs,kvs,fvs,K,F⟩,rfl,hC,hC1,hK,hF⟩
theorem read_change {fuel:Nat} {cs:List Value} {x:DataW H×List MemPlace} (h:DataW.trod enc Tryz.prog w 0 (λ _=> true) true fuel 35 cs=some x):∃c:Chg,cs=c.c/\c.X w/\c.Ok:=by
 obtain ⟨xs,n, -,rfl,hl,hxl,hx⟩:=DataW.trod_struct Tryz.underlying35 h;rw [cCH] at hl
 match cs,hl,hx with
 | [a,b,c,d],_,hx=>
  match xs,hxl,hx with
  | [x0,x1,x2,x3],_,hx=>
   have h0:=hx 0 _ rfl;have h1:=hx 1 _ rfl;have h2:=hx 2 _ rfl;have h3:=hx 3 _ rfl;simp only [List.getElem_toArray,List.getElem_cons_zero,List.getElem_cons_succ,cINT,cI64,cRW] at h0 h1 h2 h3;obtain ⟨t,e0, -,ht⟩:=DataW.trod_int Tryz.underlying3 (by simpa using h0);obtain ⟨i,e1, -,hi⟩:=DataW.trod_int Tryz.underlying2 (by simpa using h1);obtain ⟨old,hO,hOi⟩:=read_row (s:=c) (x:=x2) (by simpa using h2);obtain ⟨new,hN,hNi⟩:=read_row (s:=d) (x:=x3) (by simpa using h3);obtain ⟨oa,on,oc,rfl,hon, -⟩:=hO.shape;obtain ⟨na,nn,nc,rfl,hnn, -⟩:=hN.shape;subst hon hnn;cases e0;cases e1;exact ⟨⟨t,i,oa,oc,na,nc,old,new⟩,rfl,⟨hO,hN⟩,wf64 ht,wf64 hi,λ v hv=> (hOi v hv).1,λ v hv=> (hNi v hv).1⟩
theorem open_schema {W:World} {base:Nat} {v:Value} {d:DataW H} {p:List MemPlace} (hok:Value.okWide Tryz.prog W .any base 23 v) (h:DataW.Trod enc Tryz.prog W 0 (λ _=> true) true 23 v d p):∃td,SchX W td v:=by
 obtain ⟨fuel,h⟩:=h;rw [cell_of_one_slice W Tryz.underlying23 hok] at h;rcases slice_read Tryz.underlying23 cTABLE (by omega) h with ⟨a,e⟩ | ⟨b,o,len,cap,k,D,R,e,hb,hlc,hcm,rfl,hxD,hDl,hel⟩
 · cases e
   exact ⟨[],SlX.nil _ _ _ _ _,by simp⟩
 · cases e
   obtain ⟨l,h1,h2⟩:=slx_read (w:=W) (cap:=cap) (sz:=5) (by omega) Td.c (λ _=> rfl) (P:=λ t=> t.X W) (b:=b) (o:=o) (len:=len) (Nat.le_trans hlc hcm) (λ i hi=> by obtain ⟨cs',pl, -,hc,ht⟩:=hel i (by rw [hDl];exact hi);obtain ⟨y,rfl,hy⟩:=read_table ht;exact ⟨y,hc,hy⟩);exact ⟨l,h1,h2⟩
theorem open_changes {W:World} {base:Nat} {v:Value} {d:DataW H} {p:List MemPlace} (hok:Value.okWide Tryz.prog W .any base 24 v) (h:DataW.Trod enc Tryz.prog W 0 (λ _=> true) true 24 v d p):∃l,ChsX W l v/\∀c∈l,c.Ok:=by
 obtain ⟨fuel,h⟩:=h;rw [cell_of_one_slice W Tryz.underlying24 hok] at h;rcases slice_read Tryz.underlying24 cCH (by omega) h with ⟨a,e⟩ | ⟨b,o,len,cap,k,D,R,e,hb,hlc,hcm,rfl,hxD,hDl,hel⟩
 · cases e
   exact ⟨[],⟨SlX.nil _ _ _ _ _,by simp⟩,by simp⟩
 · cases e
   obtain ⟨l,h1,h2⟩:=slx_read (w:=W) (cap:=cap) (sz:=4) (by omega) Chg.c (λ _=> rfl) (P:=λ c=> c.X W/\c.Ok) (b:=b) (o:=o) (len:=len) (Nat.le_trans hlc hcm) (λ i hi=> by obtain ⟨cs',pl, -,hc,ht⟩:=hel i (by rw [hDl];exact hi);obtain ⟨y,rfl,hy⟩:=read_change ht;exact ⟨y,hc,hy⟩);exact ⟨l,⟨h1,λ c hc=> (h2 c hc).1⟩,λ c hc=> (h2 c hc).2⟩
end
end
theorem Rg.Ob.callNew (G:Rg) (i k:Nat) {d:Nat} {A:(Nat->Value)->Asn} (B:Value->Asn) (hB:∀v w f,(B v).p w f->∃a n c,v=.slice a n c) {f:Nat} {args:Array Value} (hc:∀L w,St G.w0 G.fp0 (L++G.R) w->Calls G.P f args w λ e w2=> ∃v f',e=.returned v/\(B v).p w2 f'/\Below w.heap.size w w2/\∀k∈f',w.heap.size<=k)
 (hk:G.pcs[k]? =some (.new i [d] A):=by rfl) (hA:∀g v,A (rv [d] (sput g (some d) v))=B v:=by intro _ _;exact kr (by kernel_rfl)) (hr:∀a w,(execOp (G.env i a) (opAt G.ops i)).run G.P w=.ok (.enter f args) w:=by intro _ _;exact kr (by kernel_rfl))
 (hd:dstOf G.ops i=some d:=by exact kr (by kernel_rfl)) (hself:((closOf G.ops).getD i []).elem i=false:=by exact kr (by kernel_rfl)) (hsh:∀g a n c,G.shp i g (.slice a n c)=.slice a n c:=by intro _ _ _ _;exact kr (by kernel_rfl))
 (hq:G.quiet i k=true:=by exact kr (by kernel_rfl)) (hw:∀a,wantE G.ops (opAt G.ops i) (G.env i a)=some true:=by intro _;exact kr (by kernel_rfl)):G.Ob i:=
 Rg.Ob.call G i k (args:=λ _=> args) hr (λ L a w fp _ hS hp=> by rw [new_before hself] at hp;obtain rfl:fp=[]:=hp;refine (hc _ w hS).mono ?_;rintro e w2 ⟨v,f',rfl,h2,h3,h4⟩;obtain ⟨va,vn,vc,rfl⟩:=hB _ _ _ h2;refine ⟨_,rfl,hsh _ _ _ _,f',?_,⟨h3.os,h3.tape,h3.output,h3.size,λ k hk _=> h3.block k hk,λ k hk=> .inr (h4 k hk)⟩⟩;rw [new_after,hd,hA];exact h2) hk hq hw
theorem Rg.Ob.run1 (G:Rg) (i k:Nat) {p:Pc} (PB:(Nat->Value)->Asn) (PA:(Nat->Value)->Value->Asn)
 (h:∀L a w fp,stP G (lk (closOf G.ops) i L) (slots a) w->(PB (slots a)).p w fp->∃v w' f',(execOp (G.env i a) (opAt G.ops i)).run G.P w=.ok (.value v) w'/\G.shp i (slots a) v=v/\(PA (slots a) v).p w' f'/\Tr w w' fp f')
 (hk:G.pcs[k]? =some p:=by rfl) (hB:∀L g,p.at (lk (closOf G.ops) i L) g=PB g:=by intro _ _;exact kr (by kernel_rfl)) (hA:∀L g v,p.at (ln (closOf G.ops) i L) (sput g (dstOf G.ops i) v)=PA g v:=by intro _ _ _;exact kr (by kernel_rfl))
 (hq:G.quiet i k=true:=by exact kr (by kernel_rfl)) (hw:∀a,wantE G.ops (opAt G.ops i) (G.env i a)=some true:=by intro _;exact kr (by kernel_rfl)):G.Ob i:=
 Rg.Ob.eff G i k hk (λ L a w fp _ hS hp=> by rw [hB] at hp;obtain ⟨v,w',f',h1,h2,h3,h4⟩:=h L a w fp hS hp;rw [h1];exact ⟨G.shp_of h2,f',by rw [hA];exact h3,h4⟩) hq hw
theorem Rg.Ob.skip1 (G:Rg) (i k:Nat) {p:Pc} (PB PA:(Nat->Value)->Asn)
 (h:∀L a w fp,stP G (lk (closOf G.ops) i L) (slots a) w->(PB (slots a)).p w fp->∃w' f',(execOp (G.env i a) (opAt G.ops i)).run G.P w=.ok .skip w'/\(PA (slots a)).p w' f'/\Tr w w' fp f')
 (hk:G.pcs[k]? =some p:=by rfl) (hB:∀L g,p.at (lk (closOf G.ops) i L) g=PB g:=by intro _ _;exact kr (by kernel_rfl)) (hA:∀L g,p.at (ln (closOf G.ops) i L) g=PA g:=by intro _ _;exact kr (by kernel_rfl))
 (hd:dstOf G.ops i=none:=by exact kr (by kernel_rfl)) (hvo:(G.valOf i).isNone=true:=by exact kr (by kernel_rfl)) (hq:G.quiet i k=true:=by exact kr (by kernel_rfl)) (hw:∀a,wantE G.ops (opAt G.ops i) (G.env i a)=some true:=by intro _;exact kr (by kernel_rfl)):G.Ob i:=
 Rg.Ob.eff G i k hk (λ L a w fp _ hS hp=> by
  have hvo':G.valOf i=none:=by simpa using hvo
  rw [hB] at hp;obtain ⟨w',f',h1,h3,h4⟩:=h L a w fp hS hp;rw [h1,hd,hvo'];exact ⟨λ t h=> (nomatch h),f',by rw [sput_none,hA];exact h3,h4⟩) hq hw
theorem piece_of {w0 w:World} {A:Asn} (h:St w [] [A] w0):∃f,A.p w0 f/\Below w.heap.size w w0/\∀k∈f,w.heap.size<=k:=by
 obtain ⟨fp,⟨f,g,h3,hg, -,e⟩,ht⟩:=h;obtain rfl:g=[]:=hg;rw [List.append_nil] at e;subst e;exact ⟨_,h3,ht.below (Nat.le_refl _) (λ k hk=> nomatch hk),λ k hk=> (ht.new k hk).resolve_left (by simp)⟩
theorem exec_store {P:Program} {o:Oper} {env:Operand->Value} {w w':World} {ty:TypeId} {x y:Operand} {p u:Value} (hop:o.op=.store ty x y) (hx:env x=p) (hy:env y=u) (h:(Instr.storeAt ty p u).run P w=.ok () w'):(execOp env o).run P w=.ok .skip w':=by
 simp only [execOp,hop,hx,hy,Sem.run_bind,h,Result.andThen_ok,Sem.run_pure]
theorem slSelf {t:TypeId} {w:World} {v:Value} {xs:List Value} {f:List Nat} (h:(slA t v xs).p w f):(slA t (.slice (sa v) (sn v) (sc v)) xs).p w f:=by
 obtain ⟨a,n,c,rfl⟩:=sl_shape h;exact h
theorem one_int (l:List Int):∀u∈l.map intC,u.oneCell'=true:=by
 intro u hu;obtain ⟨z, -,rfl⟩:=List.mem_map.1 hu;rfl
theorem Rg.Ob.eqlS (G:Rg) (i:Nat) (k:IntKind) (p:Int) {ty r:TypeId} {x y:Operand} (hop:(opAt G.ops i).op=.binOp .eql ty x y r:=by rfl) (hx:∀a,G.env i a x=.int k p:=by intro _;exact kr (by kernel_rfl)) (hy:∀a,G.env i a y=.int k p:=by intro _;exact kr (by kernel_rfl)) (hv:∀g,G.valD i g=.bool true:=by intro _;exact kr (by kernel_rfl))
 (hq:(G.quiet i G.pcs.length && G.okV i)=true:=by exact kr (by kernel_rfl)) (hw:∀a,wantE G.ops (opAt G.ops i) (G.env i a)=some true:=by intro _;exact kr (by kernel_rfl)):G.Ob i:=Rg.Ob.read G i hq hw λ L a w _ _=> by
 simp [execOp,hop,hx,hy,go_sem,hv]
theorem newB {w0 w w':World} {fp0:List Nat} {L:List Asn} {A:Asn} (h:St w0 fp0 L w) (h2:St w [] [A] w'):St w0 fp0 (A::L) w':=by
 obtain ⟨fp,⟨f,g,h3,hg, -,e⟩,ht⟩:=h2;obtain rfl:g=[]:=hg;rw [List.append_nil] at e;subst e;have h4:=St.add h (ht.below (Nat.le_refl _) (λ k hk=> nomatch hk)) h3 (λ k hk=> (ht.new k hk).resolve_left (by simp));exact h4.perm List.perm_append_comm
theorem wp_of_value {P:Program} {o:Oper} {a:Act} {w w':World} {K:Act->World->Prop} {Q:Exit->Act->World->Prop} {v:Value} {d:Nat} (hd:o.dst=some d) (hr:(execOp a.eval o).run P w=.ok (.value v) w') (h:K (a.put (some d) v) w'):o.wp P a w K Q:=by
 unfold Oper.wp;rw [hr];show K (a.put o.dst v) w';rw [hd];exact h
theorem wp_of_call {P:Program} {o:Oper} {a:Act} {w:World} {K:Act->World->Prop} {Q:Exit->Act->World->Prop} {f:FuncId} {args:Array Value} {R:Ending->World->Prop} {d:Nat} (hd:o.dst=some d) (hr:(execOp a.eval o).run P w=.ok (.enter f args) w) (hR:Calls P f args w R)
 (h:∀e w',R e w'->∃v,e=.returned v/\K (a.put (some d) v) w'):o.wp P a w K Q:=by
 unfold Oper.wp;rw [hr];refine hR.mono λ e w' hr=> ?_;obtain ⟨v,rfl,h'⟩:=h e w' hr;show K (a.put o.dst v) w';rw [hd];exact h'
theorem exec_load1 {P:Program} {o:Oper} {a:Act} {w:World} {ty:TypeId} {d b j:Nat} {v:Value} (hop:o.op=.load ty (.tmp d)) (ha:(isAgg ty).run P w=.ok false w) (hx:a.eval (.tmp d)=.pointer (some ⟨b,j,none⟩)) (hc:w.cell? ⟨b,j,none⟩=some v):(execOp a.eval o).run P w=.ok (.value v) w:=by
 simp only [execOp,hop,hx,Sem.run_bind,run_load1 ha hc,Result.andThen_ok,Sem.run_pure]
def tu:Value->Nat->Value
 | .tuple a,i=> a.getD i undef
 | _,_=> undef
theorem Rg.Ob.indexO (G:Rg) (i b o n c m s:Nat) (hm:m < n) {t e:TypeId} {x y:Operand} (hop:(opAt G.ops i).op=.indexAddr t x y:=by rfl) (hu:G.P.underlying t=some (.slice e):=by rfl) (hz:∀w,(sizeOf e).run G.P w=.ok s w:=by intro _;exact kr (by kernel_rfl)) (hx:∀a,G.env i a x=.slice (some ⟨b,o,none⟩) n c:=by intro _;exact kr (by kernel_rfl)) (hy:∀a,G.env i a y=.int .i64 m:=by intro _;exact kr (by kernel_rfl)) (hv:∀g,G.valD i g=.pointer (some ⟨b,o+m * s,none⟩):=by intro _;exact kr (by kernel_rfl))
 (hq:(G.quiet i G.pcs.length && G.okV i)=true:=by exact kr (by kernel_rfl)) (hw:∀a,wantE G.ops (opAt G.ops i) (G.env i a)=some true:=by intro _;exact kr (by kernel_rfl)):G.Ob i:=Rg.Ob.read G i hq hw λ L a w _ _=> by
 simp only [execOp,hop,hx,hy,Sem.run_bind,run_index1 hu (hz w) hm,Result.andThen_ok,Sem.run_pure,hv]
theorem exec_loads {P:Program} {o:Oper} {env:Operand->Value} {w:World} {ty:TypeId} {x:Operand} {b off:Nat} {cs:List Value} (hop:o.op=.load ty x) (ha:(isAgg ty).run P w=.ok true w) (hs:(sizeOf ty).run P w=.ok cs.length w) (hx:env x=.pointer (some ⟨b,off,none⟩)) (hc:∀j u,cs[j]? =some u->w.cell? ⟨b,off+j,none⟩=some u):(execOp env o).run P w=.ok (.value (.agg cs.toArray)) w:=by
 have h:=run_loadCells_list (P:=P) (w:=w) ⟨b,off,none⟩ cs (λ j v hj=> by rw [add_plain];exact hc j v hj);simp [execOp,hop,hx,Instr.loadAt,Instr.sureAddr,loadVar,ha,hs,h]
theorem Rg.Ob.loadR (G:Rg) (i:Nat) {b off:Nat} (cs:List Value) (hl:∀L w,St G.w0 G.fp0 (L++G.R) w->∀j u,cs[j]? =some u->w.cell? ⟨b,off+j,none⟩=some u) {ty:TypeId} {x:Operand} (hop:(opAt G.ops i).op=.load ty x:=by rfl) (ha:∀w,(isAgg ty).run G.P w=.ok true w:=by intro _;exact kr (by kernel_rfl)) (hs:∀w,(sizeOf ty).run G.P w=.ok cs.length w:=by intro _;exact kr (by kernel_rfl)) (hx:∀a,G.env i a x=.pointer (some ⟨b,off,none⟩):=by intro _;exact kr (by kernel_rfl)) (hv:∀g,G.valD i g=.agg cs.toArray:=by intro _;exact kr (by kernel_rfl))
 (hq:(G.quiet i G.pcs.length && G.okV i)=true:=by exact kr (by kernel_rfl)) (hw:∀a,wantE G.ops (opAt G.ops i) (G.env i a)=some true:=by intro _;exact kr (by kernel_rfl)):G.Ob i:=Rg.Ob.read G i hq hw λ L a w _ hS=> by
 rw [exec_loads hop (ha w) (hs w) (hx a) (hl _ w hS),hv]
theorem Rg.Ob.loadR1 (G:Rg) (i:Nat) {b off:Nat} (u:Value) (hl:∀L w,St G.w0 G.fp0 (L++G.R) w->w.cell? ⟨b,off,none⟩=some u) {ty:TypeId} {d:Nat} (hop:(opAt G.ops i).op=.load ty (.tmp d):=by rfl) (ha:∀w,(isAgg ty).run G.P w=.ok false w:=by intro _;exact kr (by kernel_rfl)) (hx:∀a,G.env i a (.tmp d)=.pointer (some ⟨b,off,none⟩):=by intro _;exact kr (by kernel_rfl)) (hv:∀g,G.valD i g=u:=by intro _;exact kr (by kernel_rfl))
 (hq:(G.quiet i G.pcs.length && G.okV i)=true:=by exact kr (by kernel_rfl)) (hw:∀a,wantE G.ops (opAt G.ops i) (G.env i a)=some true:=by intro _;exact kr (by kernel_rfl)):G.Ob i:=Rg.Ob.read G i hq hw λ L a w _ hS=> by
 simp only [execOp,hop,hx,Sem.run_bind,run_load1 (ha w) (hl _ w hS),Result.andThen_ok,Sem.run_pure,hv]
theorem row_empty {w:World} {b:Nat} {t:TypeId} {size:Nat} {f:List Nat} (h:(blkA b t #[]).p w f):(rowA t size (.slice (some ⟨b,0,none⟩) 0 0) 0 []).p w f:=
 ⟨⟨by simp, .inr ⟨b,0,#[],rfl,Nat.zero_le _,h.1,Nat.le_refl _,Nat.zero_le _,by simp,by simp⟩⟩,h.2⟩
theorem Rg.Ob.askR (G:Rg) (i:Nat) {f:Nat} {args:Array Value} {v:Value} (hc:∀L w,St G.w0 G.fp0 (L++G.R) w->Calls G.P f args w λ e w'=> e=.returned v/\Below w.heap.size w w') (hv:∀g,G.valD i g=v:=by intro _;exact kr (by kernel_rfl))
 (hr:∀a w,(execOp (G.env i a) (opAt G.ops i)).run G.P w=.ok (.enter f args) w:=by intro _ _;exact kr (by kernel_rfl))
 (hq:(G.quiet i G.pcs.length && G.okV i)=true:=by exact kr (by kernel_rfl)) (hw:∀a,wantE G.ops (opAt G.ops i) (G.env i a)=some true:=by intro _;exact kr (by kernel_rfl)):G.Ob i:=
 Rg.Ob.ask G i (args:=λ _=> args) hr (λ L a w _ hS=> by rw [hv];exact hc _ w hS) hq hw
theorem appCL:AppSrc Tryz.prog 84 84 146 6:=appSrc (z:=.agg #[.string ⟨#[]⟩, .int .i64 0, .int .i64 0, .int .i64 0, .int .i64 0, .bool false]) (bytes:=56) (by kernel_rfl) (by kernel_rfl) rfl (by decide) (by decide)
theorem cloneCL (xs:List Value) (n:Nat) (v:Value) (w:World) (hs:SlX [] w 6 n xs v) (h1:∀u∈xs,u.oneCell'=true) (hlen:n < 1099511627776):
 Calls Tryz.prog 108 #[v] w λ e w'=> ∃v' f',e=.returned v'/\(rowA 146 6 v' n xs).p w' f'/\Below w.heap.size w w'/\∀k∈f',w.heap.size<=k:=by
 rcases hs.cases (by decide) with ⟨c,rfl,rfl,rfl⟩ | ⟨ad,c,rfl⟩
 · have hnil:=λ w'=> Lib.run_eql_slice_nil (P:=Tryz.prog) w' 84 146 none 0 c 0 0 Tryz.underlying84
   simp only [Option.isNone_none] at hnil;clear hs hlen h1;go_enter Tryz.func108,Tryz.ntmps108;go_wp2;go_ret;exact ⟨_,[],rfl,row_nil _ _ _,Below.refl _ _,by simp⟩
 · have hb0:Below w.heap.size w (w.alloc (.cells #[] 146)):=(Below.refl _ _).alloc (Nat.le_refl _) _
   have hrow:(rowA 146 6 (.slice (some ⟨w.heap.size,0,none⟩) 0 0) 0 []).p (w.alloc (.cells #[] 146)) [w.heap.size]:=by have h:=World.ownsRow_lit (base:=0) (e:=146) (size:=6) w #[] 0 (Nat.zero_le _) (by simp) (by simp);exact ⟨h,rfl⟩
   obtain ⟨v',w',f',hr,h2,h3⟩:=appCL 84 _ _ 0 [] _ _ _ _ hrow ((hs.mono hb0).src (tx:=84) (e':=146) (by kernel_rfl) (by decide) h1) (by omega);rw [Nat.zero_add,List.nil_append] at h2;have hb:Below w.heap.size w w':=hb0.trans (h3.below (by simp) (by simp));have HO:Hid ((rowA 146 6 v' n xs).p w' f'/\Below w.heap.size w w'/\∀k∈f',w.heap.size<=k):=by
    refine ⟨h2,hb,λ k hk=> ?_⟩;rcases h3.new k hk with h | h
    · rw [List.mem_singleton.1 h];exact Nat.le_refl _
    · have:=hb0.size;omega
   have hnil:=λ w'=> Lib.run_eql_slice_nil (P:=Tryz.prog) w' 84 146 (some ad) n c 0 0 Tryz.underlying84;simp only [Option.isNone_some] at hnil;have HR:=Lib.hid hr;clear hs hrow h2 h3 hb hb0 hr;go_enter Tryz.func108,Tryz.ntmps108;go_wp2_with (at_builtin;refine wpList_append_run rfl _ _ _ rfl rfl rfl HR.out ?_);go_ret;exact ⟨_,_,rfl,HO.out⟩
theorem appJS:AppSrc Tryz.prog 85 85 90 1:=appSrc (z:=.slice none 0 0) (bytes:=24) (by kernel_rfl) (by kernel_rfl) rfl (by decide) (by decide)
theorem cloneJS (xs:List Value) (n:Nat) (v:Value) (w:World) (hs:SlX [] w 1 n xs v) (h1:∀u∈xs,u.oneCell'=true) (hlen:n < 1099511627776):
 Calls Tryz.prog 109 #[v] w λ e w'=> ∃v' f',e=.returned v'/\(rowA 90 1 v' n xs).p w' f'/\Below w.heap.size w w'/\∀k∈f',w.heap.size<=k:=by
 rcases hs.cases (by decide) with ⟨c,rfl,rfl,rfl⟩ | ⟨ad,c,rfl⟩
 · have hnil:=λ w'=> Lib.run_eql_slice_nil (P:=Tryz.prog) w' 85 90 none 0 c 0 0 Tryz.underlying85
   simp only [Option.isNone_none] at hnil;clear hs hlen h1;go_enter Tryz.func109,Tryz.ntmps109;go_wp2;go_ret;exact ⟨_,[],rfl,row_nil _ _ _,Below.refl _ _,by simp⟩
 · have hb0:Below w.heap.size w (w.alloc (.cells #[] 90)):=(Below.refl _ _).alloc (Nat.le_refl _) _
   have hrow:(rowA 90 1 (.slice (some ⟨w.heap.size,0,none⟩) 0 0) 0 []).p (w.alloc (.cells #[] 90)) [w.heap.size]:=by have h:=World.ownsRow_lit (base:=0) (e:=90) (size:=1) w #[] 0 (Nat.zero_le _) (by simp) (by simp);exact ⟨h,rfl⟩
   obtain ⟨v',w',f',hr,h2,h3⟩:=appJS 85 _ _ 0 [] _ _ _ _ hrow ((hs.mono hb0).src (tx:=85) (e':=90) (by kernel_rfl) (by decide) h1) (by omega);rw [Nat.zero_add,List.nil_append] at h2;have hb:Below w.heap.size w w':=hb0.trans (h3.below (by simp) (by simp));have HO:Hid ((rowA 90 1 v' n xs).p w' f'/\Below w.heap.size w w'/\∀k∈f',w.heap.size<=k):=by
    refine ⟨h2,hb,λ k hk=> ?_⟩;rcases h3.new k hk with h | h
    · rw [List.mem_singleton.1 h];exact Nat.le_refl _
    · have:=hb0.size;omega
   have hnil:=λ w'=> Lib.run_eql_slice_nil (P:=Tryz.prog) w' 85 90 (some ad) n c 0 0 Tryz.underlying85;simp only [Option.isNone_some] at hnil;have HR:=Lib.hid hr;clear hs hrow h2 h3 hb hb0 hr;go_enter Tryz.func109,Tryz.ntmps109;go_wp2_with (at_builtin;refine wpList_append_run rfl _ _ _ rfl rfl rfl HR.out ?_);go_ret;exact ⟨_,_,rfl,HO.out⟩
theorem appFO:AppSrc Tryz.prog 86 86 92 3:=appSrc (z:=.agg #[.slice none 0 0, .int .i64 0, .int .i64 0]) (bytes:=40) (by kernel_rfl) (by kernel_rfl) rfl (by decide) (by decide)
theorem cloneFO (xs:List Value) (n:Nat) (v:Value) (w:World) (hs:SlX [] w 3 n xs v) (h1:∀u∈xs,u.oneCell'=true) (hlen:n < 1099511627776):
 Calls Tryz.prog 111 #[v] w λ e w'=> ∃v' f',e=.returned v'/\(rowA 92 3 v' n xs).p w' f'/\Below w.heap.size w w'/\∀k∈f',w.heap.size<=k:=by
 rcases hs.cases (by decide) with ⟨c,rfl,rfl,rfl⟩ | ⟨ad,c,rfl⟩
 · have hnil:=λ w'=> Lib.run_eql_slice_nil (P:=Tryz.prog) w' 86 92 none 0 c 0 0 Tryz.underlying86
   simp only [Option.isNone_none] at hnil;clear hs hlen h1;go_enter Tryz.func111,Tryz.ntmps111;go_wp2;go_ret;exact ⟨_,[],rfl,row_nil _ _ _,Below.refl _ _,by simp⟩
 · have hb0:Below w.heap.size w (w.alloc (.cells #[] 92)):=(Below.refl _ _).alloc (Nat.le_refl _) _
   have hrow:(rowA 92 3 (.slice (some ⟨w.heap.size,0,none⟩) 0 0) 0 []).p (w.alloc (.cells #[] 92)) [w.heap.size]:=by have h:=World.ownsRow_lit (base:=0) (e:=92) (size:=3) w #[] 0 (Nat.zero_le _) (by simp) (by simp);exact ⟨h,rfl⟩
   obtain ⟨v',w',f',hr,h2,h3⟩:=appFO 86 _ _ 0 [] _ _ _ _ hrow ((hs.mono hb0).src (tx:=86) (e':=92) (by kernel_rfl) (by decide) h1) (by omega);rw [Nat.zero_add,List.nil_append] at h2;have hb:Below w.heap.size w w':=hb0.trans (h3.below (by simp) (by simp));have HO:Hid ((rowA 92 3 v' n xs).p w' f'/\Below w.heap.size w w'/\∀k∈f',w.heap.size<=k):=by
    refine ⟨h2,hb,λ k hk=> ?_⟩;rcases h3.new k hk with h | h
    · rw [List.mem_singleton.1 h];exact Nat.le_refl _
    · have:=hb0.size;omega
   have hnil:=λ w'=> Lib.run_eql_slice_nil (P:=Tryz.prog) w' 86 92 (some ad) n c 0 0 Tryz.underlying86;simp only [Option.isNone_some] at hnil;have HR:=Lib.hid hr;clear hs hrow h2 h3 hb hb0 hr;go_enter Tryz.func111,Tryz.ntmps111;go_wp2_with (at_builtin;refine wpList_append_run rfl _ _ _ rfl rfl rfl HR.out ?_);go_ret;exact ⟨_,_,rfl,HO.out⟩
theorem Rg.Ob.indexN (G:Rg) (i b n c m s:Nat) (hm:m < n) {t e:TypeId} {x y:Operand} (hop:(opAt G.ops i).op=.indexAddr t x y:=by rfl) (hu:G.P.underlying t=some (.slice e):=by rfl) (hz:∀w,(sizeOf e).run G.P w=.ok s w:=by intro _;exact kr (by kernel_rfl)) (hx:∀a,G.env i a x=.slice (some ⟨b,0,none⟩) n c:=by intro _;exact kr (by kernel_rfl)) (hy:∀a,G.env i a y=.int .i64 m:=by intro _;exact kr (by kernel_rfl)) (hv:∀g,G.valD i g=.pointer (some ⟨b,m * s,none⟩):=by intro _;exact kr (by kernel_rfl))
 (hq:(G.quiet i G.pcs.length && G.okV i)=true:=by exact kr (by kernel_rfl)) (hw:∀a,wantE G.ops (opAt G.ops i) (G.env i a)=some true:=by intro _;exact kr (by kernel_rfl)):G.Ob i:=Rg.Ob.read G i hq hw λ L a w _ _=> by
 have e1:0+m * s=m * s:=by omega
 simp only [execOp,hop,hx,hy,Sem.run_bind,run_index1 hu (hz w) hm,Result.andThen_ok,Sem.run_pure,hv,e1]
theorem row_at {w:World} {t:TypeId} {size g n c i:Nat} {xs:List Value} {u:Value} {f:List Nat} (h:(rowA t size (.slice (some ⟨g,0,none⟩) n c) n xs).p w f) (hl:xs.length=n * size) (hu:xs[i]? =some u):w.cell? ⟨g,i,none⟩=some u/\w.frozen? ⟨g,i,none⟩=false/\g < w.heap.size:=by
 obtain ⟨a,c',e, -, -,h4⟩:=row_shape h;have hi:=(List.getElem?_eq_some_iff.1 hu).1;obtain ⟨g',e1,h5,h6,h7⟩:=h4 i (by omega);injection e with e;rw [e1] at e;injection e with e;injection e with e;subst e;exact ⟨h6.trans hu,h7 i,h5⟩
theorem storeRow1 {P:Program} {w:World} {ty t:TypeId} {size g n c i:Nat} {xs:List Value} {u v:Value} {f:List Nat} (hb:(rowA t size (.slice (some ⟨g,0,none⟩) n c) n xs).p w f) (hl:xs.length=n * size) (hu:xs[i]? =some u) (hz:(sizeOf ty).run P w=.ok 1 w) (h1:v.oneCell'=true):
 ∃w' f',(Instr.storeAt ty (.pointer (some ⟨g,i,none⟩)) v).run P w=.ok () w'/\(rowA t size (.slice (some ⟨g,0,none⟩) n c) n (xs.set i v)).p w' f'/\Tr w w' f f':=by
 obtain ⟨hc,hfz, -⟩:=row_at hb hl hu;obtain ⟨h2,h3⟩:=hb;obtain ⟨h4,h5⟩:=h2.stored i v;refine ⟨_,[g],run_store1 hz h1 hc hfz,⟨h4,rfl⟩,?_⟩;rw [h3];exact Tr.of_grown (o:=some g) (o':=some g) h5 (λ k hk=> .inl hk)
theorem clone_in {w0 w w2:World} {fp0 f:List Nat} {R:List Asn} {A B C:Asn} (h:St w0 fp0 ([A,B]++R) w) (h1:C.p w2 f) (h2:Below w.heap.size w w2) (h3:∀k∈f,w.heap.size<=k):St w0 fp0 ([A,starA [B,C]]++R) w2:=by
 have h4:=St_re (L:=[_,_,_]) (h.addF h1 h2 h3) [2,0,1] [] (by kernel_rfl);have h5:St w0 fp0 ([B,C]++(A::R)) w2:=St_re (L:=[_,_,_]) (h.addF h1 h2 h3) [2,0,1] [] (by kernel_rfl);exact (St.star.2 h5).perm (List.Perm.swap _ _ _)
def gCs10 (tb kg n kc i m:Nat) (nm cv fv xv u:Value) (us XS:List Value):=rgx Tryz.prog Tryz.f74 10 69 [28,29,30,31,32,33,34,35,36,37] [(5,pV tb 0),(6,nV i)] (Vq 0 28 [Kp tb 2,Kv (.slice (some ⟨kg,0,none⟩) n kc),Kn i,Kp tb 2,Kv (.slice (some ⟨kg,0,none⟩) n kc),Kn i,Kp kg i,Kv u,Vf.slice,Kp kg i]) [Bk tb (89) [nm,cv, .slice (some ⟨kg,0,none⟩) n kc,fv,xv], .gen [8,10] [36] λ L g=> match L 10 with | true=> starA [rowA 90 1 (.slice (some ⟨kg,0,none⟩) n kc) n (us.set (i) (.slice (sa (g 36)) (sn (g 36)) (sc (g 36)))),rowA 3 1 (g 36) m XS] | false=> match L 8 with | true=> starA [rowA 90 1 (.slice (some ⟨kg,0,none⟩) n kc) n us,rowA 3 1 (g 36) m XS] | false=> rowA 90 1 (.slice (some ⟨kg,0,none⟩) n kc) n us]
theorem rCs10 (tb kg n kc i m:Nat) (nm cv fv xv u:Value) (us XS:List Value) (w0:World) (fp0:List Nat) (R:List Asn) (hi:i < n) (hl:us.length=n * 1) (hu:us[i]? =some u) (hcl:∀(L:List Asn) (w:World),St w0 fp0 (L++R) w->Calls Tryz.prog 110 #[u] w λ e w2=> ∃v f,e=.returned v/\(rowA 3 1 v m XS).p w2 f/\Below w.heap.size w w2/\∀k∈f,w.heap.size<=k) {w:World} {c:Code} {a:Act} {Q:Exit->Act->World->Prop} (c1:isReg c=true) (c2:cops c=opsR Tryz.f74 10) (c3:a.tmps.size=69) (_c4:a.defers=a.defers) (i5:a.eval (.tmp 5)=.pointer (some ⟨tb,0,none⟩)) (i6:a.eval (.tmp 6)=.int .i64 i)
 (hS:St w0 fp0 ([blkA tb (89) #[nm,cv, .slice (some ⟨kg,0,none⟩) n kc,fv,xv],rowA 90 1 (.slice (some ⟨kg,0,none⟩) n kc) n us]++R) w)
 (hQ:∀(u36:Value) (w1:World),(∃a n c,u36=.slice a n c)->St w0 fp0 ([blkA tb (89) #[nm,cv, .slice (some ⟨kg,0,none⟩) n kc,fv,xv],starA [rowA 90 1 (.slice (some ⟨kg,0,none⟩) n kc) n (us.set (i) (.slice (sa (u36)) (sn (u36)) (sc (u36)))),rowA 3 1 (u36) m XS]]++R) w1->Q .normal (putL a [(28, .pointer (some ⟨tb,2,none⟩)),(29, .slice (some ⟨kg,0,none⟩) n kc),(30, .int .i64 i),(31, .pointer (some ⟨tb,2,none⟩)),(32, .slice (some ⟨kg,0,none⟩) n kc),(33, .int .i64 i),(34, .pointer (some ⟨kg,i,none⟩)),(35,u),(36,u36),(37, .pointer (some ⟨kg,i,none⟩))]) w1):c.wp Tryz.prog Q a w:=by
 have ok:(gCs10 tb kg n kc i m nm cv fv xv u us XS w0 fp0 R).Ok 11:=Rg.ok _ 11 [1,4,6,7,8,9,10] ⟨.load _ 1 0 2, .load _ 4 0 2, .index _ 6 kg n kc i hi, .loadBy _ 7 1 (b:=kg) (j:=i) (A:=rowA 90 1 (.slice (some ⟨kg,0,none⟩) n kc) n us) (λ w f h=> ⟨u,(row_at h hl hu).1,λ _=> kr (by kernel_rfl)⟩) (hA:=by intro _ _;exact kr (by kernel_rfl)), .callG _ 8 (f:=110) (args:=λ _=> #[u]) (λ _=> [blkA tb 89 #[nm,cv, .slice (some ⟨kg,0,none⟩) n kc,fv,xv],rowA 90 1 (.slice (some ⟨kg,0,none⟩) n kc) n us]) (λ _ v=> [blkA tb 89 #[nm,cv, .slice (some ⟨kg,0,none⟩) n kc,fv,xv],starA [rowA 90 1 (.slice (some ⟨kg,0,none⟩) n kc) n us,rowA 3 1 (v) m XS]]) (λ g w h=> (hcl [_,_] w h).mono λ e w2 ⟨v,f,e1,h1,h2,h3⟩=> (by obtain ⟨a,c,e2, -⟩:=row_shape h1;subst e2;exact ⟨_,e1,kr (by kernel_rfl),clone_in h h1 h2 h3⟩)), .index _ 9 kg n kc i hi, .skip1 _ 10 1 (λ g=> starA [rowA 90 1 (.slice (some ⟨kg,0,none⟩) n kc) n us,rowA 3 1 (g 36) m XS]) (λ g=> starA [rowA 90 1 (.slice (some ⟨kg,0,none⟩) n kc) n (us.set (i) (.slice (sa (g 36)) (sn (g 36)) (sc (g 36)))),rowA 3 1 (g 36) m XS]) (λ L a w fp hS hp=> (by obtain ⟨f0,hf0, -,hk⟩:=Star.get 0 rfl (show Star w [rowA 90 1 (.slice (some ⟨kg,0,none⟩) n kc) n us,rowA 3 1 (slots a 36) m XS] fp from hp);obtain ⟨w2,f2,h1,h2,h3⟩:=storeRow1 (P:=Tryz.prog) (ty:=90) (v:=.slice (sa (slots a 36)) (sn (slots a 36)) (sc (slots a 36))) hf0 hl hu (kr (by kernel_rfl)) rfl;obtain ⟨fp2,q1,q2⟩:=hk _ w2 f2 h2 h3;exact ⟨w2,fp2,exec_store rfl (kr (by kernel_rfl)) (kr (by kernel_rfl)) h1,q1,q2⟩)),trivial⟩;refine wp_regD ok (by kernel_rfl) ⟨c1,c2⟩ ⟨c3,λ p hp=> ?_⟩ hS λ A1 w1 N1 H1=> ?_
 · simp only [gCs10,rgx,List.map_nil,List.append_nil,List.mem_cons,List.not_mem_nil,or_false] at hp
   rcases hp with rfl | rfl
   · exact i5
   · exact i6
 exact N1.fin [36] (hQ (slots A1 36) w1 ⟨_,_,_,(N1.val 8 rfl)⟩ H1) (by kernel_rfl)
def gCs16 (tb kg n kc i m:Nat) (nm cv kv xv u:Value) (us XS:List Value):=rgx Tryz.prog Tryz.f74 16 69 [49,50,51,52,53,54,55,56,57,58,59,60] [(5,pV tb 0),(7,nV i)] (Vq 0 49 [Kp tb 3,Kv (.slice (some ⟨kg,0,none⟩) n kc),Kn i,Kp tb 3,Kv (.slice (some ⟨kg,0,none⟩) n kc),Kn i,Kp kg (i * 3),Kp kg (i * 3),Kv u,Vf.slice,Kp kg (i * 3),Kp kg (i * 3)]) [Bk tb (89) [nm,cv,kv, .slice (some ⟨kg,0,none⟩) n kc,xv], .gen [9,12] [58] λ L g=> match L 12 with | true=> starA [rowA 92 3 (.slice (some ⟨kg,0,none⟩) n kc) n (us.set (i * 3) (.slice (sa (g 58)) (sn (g 58)) (sc (g 58)))),rowA 3 1 (g 58) m XS] | false=> match L 9 with | true=> starA [rowA 92 3 (.slice (some ⟨kg,0,none⟩) n kc) n us,rowA 3 1 (g 58) m XS] | false=> rowA 92 3 (.slice (some ⟨kg,0,none⟩) n kc) n us]
theorem rCs16 (tb kg n kc i m:Nat) (nm cv kv xv u:Value) (us XS:List Value) (w0:World) (fp0:List Nat) (R:List Asn) (hi:i < n) (hl:us.length=n * 3) (hu:us[i * 3]? =some u) (hcl:∀(L:List Asn) (w:World),St w0 fp0 (L++R) w->Calls Tryz.prog 110 #[u] w λ e w2=> ∃v f,e=.returned v/\(rowA 3 1 v m XS).p w2 f/\Below w.heap.size w w2/\∀k∈f,w.heap.size<=k) {w:World} {c:Code} {a:Act} {Q:Exit->Act->World->Prop} (c1:isReg c=true) (c2:cops c=opsR Tryz.f74 16) (c3:a.tmps.size=69) (_c4:a.defers=a.defers) (i5:a.eval (.tmp 5)=.pointer (some ⟨tb,0,none⟩)) (i7:a.eval (.tmp 7)=.int .i64 i)
 (hS:St w0 fp0 ([blkA tb (89) #[nm,cv,kv, .slice (some ⟨kg,0,none⟩) n kc,xv],rowA 92 3 (.slice (some ⟨kg,0,none⟩) n kc) n us]++R) w)
 (hQ:∀(u58:Value) (w1:World),(∃a n c,u58=.slice a n c)->St w0 fp0 ([blkA tb (89) #[nm,cv,kv, .slice (some ⟨kg,0,none⟩) n kc,xv],starA [rowA 92 3 (.slice (some ⟨kg,0,none⟩) n kc) n (us.set (i * 3) (.slice (sa (u58)) (sn (u58)) (sc (u58)))),rowA 3 1 (u58) m XS]]++R) w1->Q .normal (putL a [(49, .pointer (some ⟨tb,3,none⟩)),(50, .slice (some ⟨kg,0,none⟩) n kc),(51, .int .i64 i),(52, .pointer (some ⟨tb,3,none⟩)),(53, .slice (some ⟨kg,0,none⟩) n kc),(54, .int .i64 i),(55, .pointer (some ⟨kg,i * 3,none⟩)),(56, .pointer (some ⟨kg,i * 3,none⟩)),(57,u),(58,u58),(59, .pointer (some ⟨kg,i * 3,none⟩)),(60, .pointer (some ⟨kg,i * 3,none⟩))]) w1):c.wp Tryz.prog Q a w:=by
 have ok:(gCs16 tb kg n kc i m nm cv kv xv u us XS w0 fp0 R).Ok 13:=Rg.ok _ 13 [1,4,6,8,9,10,12] ⟨.load _ 1 0 3, .load _ 4 0 3, .indexN _ 6 kg n kc i 3 hi, .loadBy _ 8 1 (b:=kg) (j:=i * 3) (A:=rowA 92 3 (.slice (some ⟨kg,0,none⟩) n kc) n us) (λ w f h=> ⟨u,(row_at h hl hu).1,λ _=> kr (by kernel_rfl)⟩) (hA:=by intro _ _;exact kr (by kernel_rfl)), .callG _ 9 (f:=110) (args:=λ _=> #[u]) (λ _=> [blkA tb 89 #[nm,cv,kv, .slice (some ⟨kg,0,none⟩) n kc,xv],rowA 92 3 (.slice (some ⟨kg,0,none⟩) n kc) n us]) (λ _ v=> [blkA tb 89 #[nm,cv,kv, .slice (some ⟨kg,0,none⟩) n kc,xv],starA [rowA 92 3 (.slice (some ⟨kg,0,none⟩) n kc) n us,rowA 3 1 (v) m XS]]) (λ g w h=> (hcl [_,_] w h).mono λ e w2 ⟨v,f,e1,h1,h2,h3⟩=> (by obtain ⟨a,c,e2, -⟩:=row_shape h1;subst e2;exact ⟨_,e1,kr (by kernel_rfl),clone_in h h1 h2 h3⟩)), .indexN _ 10 kg n kc i 3 hi, .skip1 _ 12 1 (λ g=> starA [rowA 92 3 (.slice (some ⟨kg,0,none⟩) n kc) n us,rowA 3 1 (g 58) m XS]) (λ g=> starA [rowA 92 3 (.slice (some ⟨kg,0,none⟩) n kc) n (us.set (i * 3) (.slice (sa (g 58)) (sn (g 58)) (sc (g 58)))),rowA 3 1 (g 58) m XS]) (λ L a w fp hS hp=> (by obtain ⟨f0,hf0, -,hk⟩:=Star.get 0 rfl (show Star w [rowA 92 3 (.slice (some ⟨kg,0,none⟩) n kc) n us,rowA 3 1 (slots a 58) m XS] fp from hp);obtain ⟨w2,f2,h1,h2,h3⟩:=storeRow1 (P:=Tryz.prog) (ty:=90) (v:=.slice (sa (slots a 58)) (sn (slots a 58)) (sc (slots a 58))) hf0 hl hu (kr (by kernel_rfl)) rfl;obtain ⟨fp2,q1,q2⟩:=hk _ w2 f2 h2 h3;exact ⟨w2,fp2,exec_store rfl (kr (by kernel_rfl)) (kr (by kernel_rfl)) h1,q1,q2⟩)),trivial⟩;refine wp_regD ok (by kernel_rfl) ⟨c1,c2⟩ ⟨c3,λ p hp=> ?_⟩ hS λ A1 w1 N1 H1=> ?_
 · simp only [gCs16,rgx,List.map_nil,List.append_nil,List.mem_cons,List.not_mem_nil,or_false] at hp
   rcases hp with rfl | rfl
   · exact i5
   · exact i7
 exact N1.fin [58] (hQ (slots A1 58) w1 ⟨_,_,_,(N1.val 9 rfl)⟩ H1) (by kernel_rfl)
def Td.sh (t:Td):Nat×List (List Int)×List (List Int):=(t.n,t.K,t.F)
theorem appTB:AppSrc Tryz.prog 23 23 89 5:=appSrc (z:=.agg #[.string ⟨#[]⟩, .slice none 0 0, .slice none 0 0, .slice none 0 0, .slice none 0 0]) (bytes:=112) (by kernel_rfl) (by kernel_rfl) rfl (by decide) (by decide)
def KUp (K:List (List Int)) (vs us:List Value) (Y:List Asn) (k:Nat):Prop:=us.length=K.length/\(∀w f,Star w Y f->∀j (h:j < K.length),j < k->∃u,us[j]? =some u/\IntsX [] w K[j] u)/\∀j,k<=j->us[j]? =vs[j]?
def FUp (F:List (List Int)) (vs us:List Value) (Y:List Asn) (k:Nat):Prop:=us.length=F.length * 3/\(∀w f,Star w Y f->∀j (h:j < F.length),j < k->∃u a b,us[j * 3]? =some u/\us[j * 3+1]? =some (.int .i64 a)/\us[j * 3+2]? =some (.int .i64 b)/\IntsX [] w F[j] u)/\∀j,k * 3<=j->us[j]? =vs[j]?
theorem KUp.next {K:List (List Int)} {vs us:List Value} {Y:List Asn} {k:Nat} (h:KUp K vs us Y k) (hk:k < K.length) (v:Value):KUp K vs (us.set k v) (rowA 3 1 v K[k].length (K[k].map intC)::Y) (k+1):=by
 obtain ⟨h1,h2,h3⟩:=h;refine ⟨by rw [List.length_set,h1],λ w f hs j hj hjk=> ?_,λ j hj=> ?_⟩
 · obtain ⟨f0,g,h4,h5, -, -⟩:=hs
   by_cases e:j=k
   · subst e
     exact ⟨v,by rw [List.getElem?_set_self (by omega)],SlX.of_row (X:=[]) h4 (by simp) (by simp)⟩
   · obtain ⟨u,h6,h7⟩:=h2 w g h5 j hj (by omega)
     exact ⟨u,by rw [List.getElem?_set_ne (by omega)];exact h6,h7⟩
 · rw [List.getElem?_set_ne (by omega)]
   exact h3 j (by omega)
theorem FUp.next {F:List (List Int)} {vs us:List Value} {Y:List Asn} {k:Nat} {a b:Int} (h:FUp F vs us Y k) (hk:k < F.length) (v:Value) (ha:vs[k * 3+1]? =some (.int .i64 a)) (hb:vs[k * 3+2]? =some (.int .i64 b)):FUp F vs (us.set (k * 3) v) (rowA 3 1 v F[k].length (F[k].map intC)::Y) (k+1):=by
 obtain ⟨h1,h2,h3⟩:=h;refine ⟨by rw [List.length_set,h1],λ w f hs j hj hjk=> ?_,λ j hj=> ?_⟩
 · obtain ⟨f0,g,h4,h5, -, -⟩:=hs
   by_cases e:j=k
   · subst e
     exact ⟨v,a,b,by rw [List.getElem?_set_self (by omega)],by rw [List.getElem?_set_ne (by omega),h3 _ (by omega)];exact ha,by rw [List.getElem?_set_ne (by omega),h3 _ (by omega)];exact hb,SlX.of_row (X:=[]) h4 (by simp) (by simp)⟩
   · obtain ⟨u,a',b',h6,h7,h8,h9⟩:=h2 w g h5 j hj (by omega)
     exact ⟨u,a',b',by rw [List.getElem?_set_ne (by omega)];exact h6,by rw [List.getElem?_set_ne (by omega)];exact h7,by rw [List.getElem?_set_ne (by omega)];exact h8,h9⟩
 · rw [List.getElem?_set_ne (by omega)]
   exact h3 j (by omega)
theorem KUp.start {K:List (List Int)} {vs:List Value} (h:vs.length=K.length):KUp K vs vs [] 0:=⟨h,λ _ _ _ _ _ h=> by omega,λ _ _=> rfl⟩
theorem FUp.start {F:List (List Int)} {vs:List Value} (h:vs.length=F.length * 3):FUp F vs vs [] 0:=⟨h,λ _ _ _ _ _ h=> by omega,λ _ _=> rfl⟩
def tdL (t:Td) (Y1 Y2:List Asn):List Asn:=rowA 92 3 t.fv t.F.length t.fvs::(Y2++(rowA 90 1 t.kv t.K.length t.kvs::(Y1++[rowA 146 6 (.slice t.ca t.n t.cc) t.n t.cvs])))
theorem td_star {t:Td} {Y1 Y2 X:List Asn} {vs1 vs2:List Value} {l:List Td} (h0:t.cvs.length=t.n * 6) (h1:∀u∈t.cvs,u.oneCell'=true) (hk:KUp t.K vs1 t.kvs Y1 t.K.length) (hf:FUp t.F vs2 t.fvs Y2 t.F.length) (hX:∀w f,Star w X f->∀y∈l,y.X w) (w:World) (f:List Nat) (hs:Star w (tdL t Y1 Y2++X) f):∀y∈l++[t],y.X w:=by
 obtain ⟨g,f1,h2,h3, -, -⟩:=hs.append;obtain ⟨fa,ga,a1,a2, -, -⟩:=h2;obtain ⟨fb,gb,b1,b2, -, -⟩:=a2.append;obtain ⟨fc,gc,c1,c2, -, -⟩:=b2;obtain ⟨fd,gd,d1,d2, -, -⟩:=c2.append;obtain ⟨fe,ge,e1, -, -, -⟩:=d2;intro y hy;rcases List.mem_append.1 hy with hy | hy
 · exact hX w f1 h3 y hy
 · rw [List.mem_singleton.1 hy]
   exact ⟨SlX.of_row (X:=[]) e1 h0 (by simp),h1,⟨SlX.of_row (X:=[]) c1 (by rw [hk.1];omega) (by simp),λ i hi=> hk.2.1 w fd d1 i hi hi⟩,⟨SlX.of_row (X:=[]) a1 hf.1 (by simp),λ i hi=> hf.2.1 w fb b1 i hi hi⟩⟩
def CsInv (w0:World) (fp0:List Nat) (R:List Asn) (td:List Td) (z:Value) (k:Nat) (w:World):Prop:=∃(l:List Td) (X:List Asn),l.map Td.sh=(td.take k).map Td.sh/\l.length=k/\(∀w f,Star w X f->∀y∈l,y.X w)/\St w0 fp0 (rowA 89 5 z k (l.flatMap Td.c)::(X++R)) w
theorem one_ints {vs:List Value} {ks:List (List Int)} {w:World} {v:Value} (h:KeysX w vs ks v):∀u∈vs,u.oneCell'=true:=by
 intro u hu;obtain ⟨i,hi,rfl⟩:=List.mem_iff_getElem.1 hu;have hl:=h.1.2.1;obtain ⟨u,h1,h2⟩:=h.2 i (by omega);rw [List.getElem?_eq_getElem hi] at h1;rw [Option.some.inj h1];obtain ⟨a,n,c,rfl, -, -⟩:=h2.shape;rfl
theorem one_fors {vs:List Value} {ks:List (List Int)} {w:World} {v:Value} (h:ForsX w vs ks v):∀u∈vs,u.oneCell'=true:=by
 intro u hu;obtain ⟨j,hj,rfl⟩:=List.mem_iff_getElem.1 hu;have hl:=h.1.2.1;obtain ⟨i,r,rfl,hr⟩:∃i r,j=i * 3+r/\r < 3:=⟨j / 3,j % 3,by omega,by omega⟩
 obtain ⟨u,a,b,h1,h2,h3,h4⟩:=h.2 i (by omega);rcases (by omega:r=0\/r=1\/r=2) with rfl | rfl | rfl
 · rw [Nat.add_zero] at hj
   rw [List.getElem?_eq_getElem hj] at h1;have:=Option.some.inj h1;simp only [Nat.add_zero];rw [this];obtain ⟨a,n,c,rfl, -, -⟩:=h4.shape;rfl
 · rw [List.getElem?_eq_getElem hj] at h2
   rw [Option.some.inj h2];rfl
 · rw [List.getElem?_eq_getElem hj] at h3
   rw [Option.some.inj h3];rfl
theorem clone_out {w0 w:World} {fp0:List Nat} {R:List Asn} {A B C:Asn} (h:St w0 fp0 ([A,starA [B,C]]++R) w):St w0 fp0 (A::B::C::R) w:=by
 have h1:St w0 fp0 (starA [B,C]::A::R) w:=h.perm (List.Perm.swap _ _ _);have h2:St w0 fp0 ([B,C]++(A::R)) w:=St.star.1 h1;exact St_re (L:=[_,_,_]) h2 [2,0,1] [] (by kernel_rfl)
theorem cells5 {w0 w:World} {fp0:List Nat} {L:List Asn} {b:Nat} {t:TypeId} {c0 c1 c2 c3 c4:Value} (h:St w0 fp0 L w) (i:Nat) (hi:L[i]? =some (blkA b t #[c0,c1,c2,c3,c4])):
 w.cell? ⟨b,0,none⟩=some c0/\w.cell? ⟨b,1,none⟩=some c1/\w.cell? ⟨b,2,none⟩=some c2/\w.cell? ⟨b,3,none⟩=some c3/\w.cell? ⟨b,4,none⟩=some c4/\w.frozen? ⟨b,1,none⟩=false/\w.frozen? ⟨b,2,none⟩=false/\w.frozen? ⟨b,3,none⟩=false/\w.frozen? ⟨b,4,none⟩=false/\b < w.heap.size:=by
 obtain ⟨_,hb⟩:=h.has i hi;obtain ⟨h1,h2,h3⟩:=blk_get hb;exact ⟨h1 0,h1 1,h1 2,h1 3,h1 4,h2 1,h2 2,h2 3,h2 4,h3⟩
theorem copySchema_calls (td:List Td) (v:Value) (hsm:∀t∈td,t.Sm) (htl:td.length<=1000) (w0 w:World) (fp0:List Nat) (R:List Asn) (hv:Rd w0 fp0 R λ w=> SchX w td v) (hS:St w0 fp0 R w):
 Calls Tryz.prog 74 #[v] w λ e w'=> ∃a c,∃td2:List Td,e=.returned (.slice a td2.length c)/\td2.map Td.sh=td.map Td.sh/\St w0 fp0 (schA (.slice a td2.length c) td2::R) w':=by
 obtain ⟨va,vc,rfl⟩:=(hv.here hS).sl.shape;have HV:=Lib.hid hv;have HSM:=Lib.hid hsm;obtain ⟨N,hN⟩:∃N,td.length=N:=⟨_,rfl⟩
 have HN:=Lib.hid hN;have hN63:N<=1000:=by omega
 have H0:Hid (CsInv w0 fp0 R td (.slice none 0 0) 0 w):=⟨[],[],rfl,rfl,(λ _ _ _ _ h=> nomatch h),hS.nilR 89 5⟩
 rw [hN] at HV ⊢;clear hv hsm hN hS htl;go_enter Tryz.func74,Tryz.ntmps74;go_upto_region 3 with (fail)
 go_loopg [3,10] N (λ g z3 z wr=> ∃k:Nat,z=.int .i64 k/\g+k=N/\Hid (CsInv w0 fp0 R td z3 k wr))
 case atStart=> exact ⟨0,rfl,rfl,H0⟩
 case round=>
  clear H0;obtain ⟨k,rfl,hgk,Hi⟩:=hrel;obtain ⟨l,X,hsh,hlk,hX,hS1⟩:=Hi.out;obtain ⟨_,hrow⟩:=hS1.has 0 rfl;obtain ⟨za,zc,rfl, -⟩:=row_shape hrow;clear hrow;by_cases hk:k < N
  · have hkl:k < td.length:=by rw [HN.out];exact hk
    have hlw:=HV.out.at (M:=_::X) hS1;obtain ⟨b,o,c',e1,hpl,p0,p1,p2,p3,p4⟩:=hlw.cells k hkl;obtain ⟨rfl, -,rfl⟩:=Value.slice.inj e1;have htx:Rd w0 fp0 R λ w=> td[k].X w:=HV.out.imp λ w h=> h.td _ (List.getElem_mem hkl);have htm:=HSM.out _ (List.getElem_mem hkl);have hsh2:(td.take (k+1)).map Td.sh=(td.take k).map Td.sh++[td[k].sh]:=by rw [List.take_add_one,List.getElem?_eq_getElem hkl,List.map_append];rfl
    have ht0:=htx.at (M:=_::X) hS1;obtain ⟨ka,kc,hkv⟩:=ht0.keys.1.shape;obtain ⟨fa,fc,hfv⟩:=ht0.fors.1.shape;have hkn:(k:Int) < N:=by omega
    have Hsh:=Lib.hid (And.intro hsh (And.intro hlk (And.intro hX hsh2)));clear e1 hlw Hi hsh hlk hX hsh2;generalize td[k]=t at *;clear hkl;obtain ⟨nm,ca,n,cc,kv,fv,xa,xn,xc,cvs,kvs,fvs,K,F⟩:=t;simp only at p0 p1 p2 p3 p4 hkv hfv;subst hkv hfv;have HTX:=Lib.hid htx;have HTM:=Lib.hid htm;have HT0:=Lib.hid ht0;obtain ⟨kn,hkn⟩:∃kn,K.length=kn:=⟨_,rfl⟩
    obtain ⟨fn,hfn⟩:∃fn,F.length=fn:=⟨_,rfl⟩
    rw [hkn] at HTX HT0 HTM Hsh p2;rw [hfn] at HTX HT0 HTM Hsh p3;have HKN:=Lib.hid hkn;have HFN:=Lib.hid hfn;have HS2:=Lib.hid (hS1.newblk 89 #[.string nm, .slice ca n cc, .slice ka kn kc, .slice fa fn fc, .slice xa xn xc]);have Hgk:=Lib.hid hgk;clear htx htm ht0 hkn hfn hgk hS1;go_upto_region 5 with (fail)
    have hsz:=World.size_alloc wr (.cells #[.string nm, .slice ca n cc, .slice ka kn kc, .slice fa fn fc, .slice xa xn xc] 89);generalize hW2:wr.alloc _=W2 at *;clear hW2 p0 p1 p2 p3 p4 hpl;obtain ⟨tb,htb⟩:∃tb,wr.heap.size=tb:=⟨_,rfl⟩
    rw [htb] at HS2 hsz ⊢;clear htb hsz;obtain ⟨c0,c1,c2,c3,c4,f1,f2,f3,f4,tl⟩:=cells5 HS2.out 0 rfl;have hxr:=HTX.out.at (M:=_::_::X) HS2.out;have HC:=Lib.hid (cloneCL cvs n (.slice ca n cc) W2 hxr.cols hxr.one (by have:=HTM.out.n;simp only at this;omega));clear hxr;go_wp2_with fail;(with_reducible refine HC.out.mono ?_);rintro e w3 ⟨v3,g3,rfl,h3,hb3,hn3⟩;obtain ⟨ca2,cc2,rfl, -⟩:=row_shape h3;have h4:=St_re (L:=[_,_,_]) (HS2.out.addF h3 hb3 hn3) [1,0,2] [] (by kernel_rfl);clear c0 c1 c2 c3 c4 f1 f2 f3 f4 tl HC HS2 h3 hb3 hn3;obtain ⟨c0,c1,c2,c3,c4,f1,f2,f3,f4,tl⟩:=cells5 h4 0 rfl;have H4:=Lib.hid (h4.setB 1 (by simp) (.slice ca2 n cc2));clear h4;simp only [List.setIfInBounds_toArray,List.set_cons_succ,List.set_cons_zero] at H4;go_upto_region 6 with (fail)
    generalize hW2:World.setCell _ _ _=W4 at *;clear hW2 c0 c1 c2 c3 c4 f1 f2 f3 f4 tl;obtain ⟨c0,c1,c2,c3,c4,f1,f2,f3,f4,tl⟩:=cells5 H4.out 0 rfl;have hxr:=HTX.out.at (M:=_::_::_::X) H4.out;have HC:=Lib.hid (cloneJS kvs kn (.slice ka kn kc) W4 (by have h:=hxr.keys.1;simp only at h;rwa [HKN.out] at h) (one_ints hxr.keys) (by have:=HTM.out.k;simp only at this;have:=HKN.out;omega));have HK0:=Lib.hid (KUp.start (K:=K) (vs:=kvs) (by have:=hxr.keys.1.2.1;simp only at this;omega));have HK0':Hid (∀j (h:j < K.length),∃u,kvs[j]? =some u):=λ j h=> (hxr.keys.2 j h).imp λ u h=> h.1;have hkn3:kn<=1000:=by have:=HTM.out.k;simp only at this;have:=HKN.out;omega
    clear hxr;go_wp2_with fail;(with_reducible refine HC.out.mono ?_);rintro e w5 ⟨v5,g5,rfl,h5,hb5,hn5⟩;obtain ⟨ka2,kc2,rfl, -⟩:=row_shape h5;have h6:=St_re (L:=[_,_,_,_]) (H4.out.addF h5 hb5 hn5) [1,0,2,3] [] (by kernel_rfl);clear c0 c1 c2 c3 c4 f1 f2 f3 f4 tl HC H4 h5 hb5 hn5;obtain ⟨c0,c1,c2,c3,c4,f1,f2,f3,f4,tl⟩:=cells5 h6 0 rfl;have H6:=Lib.hid (h6.setB 2 (by simp) (.slice ka2 kn kc2));clear h6;simp only [List.setIfInBounds_toArray,List.set_cons_succ,List.set_cons_zero] at H6;go_upto_region 7 with (fail)
    generalize hW2:World.setCell _ _ _=W6 at *;clear hW2 c0 c1 c2 c3 c4 f1 f2 f3 f4 tl;obtain ⟨c0,c1,c2,c3,c4,f1,f2,f3,f4,tl⟩:=cells5 H6.out 0 rfl;obtain ⟨gk0,rfl⟩:∃x,x=gk:=⟨_,rfl⟩
    go_upto_region 8 with (fail)
    have HI:Hid (∃us Y,KUp K kvs us Y 0/\St w0 fp0 (blkA tb 89 #[.string nm, .slice ca2 n cc2, .slice ka2 kn kc2, .slice fa fn fc, .slice xa xn xc]::rowA 90 1 (.slice ka2 kn kc2) kn us::(Y++(rowA 146 6 (.slice ca2 n cc2) n cvs::rowA 89 5 (.slice za k zc) k (l.flatMap Td.c)::(X++R)))) W6):=⟨kvs,[],HK0.out,H6.out⟩
    clear H6 c0 c1 c2 c3 c4 f1 f2 f3 f4 tl HK0;go_loopg [25] kn (λ g z wr=> ∃i:Nat,z=.int .i64 i/\g+i=kn/\Hid (∃us Y,KUp K kvs us Y i/\St w0 fp0 (blkA tb 89 #[.string nm, .slice ca2 n cc2, .slice ka2 kn kc2, .slice fa fn fc, .slice xa xn xc]::rowA 90 1 (.slice ka2 kn kc2) kn us::(Y++(rowA 146 6 (.slice ca2 n cc2) n cvs::rowA 89 5 (.slice za k zc) k (l.flatMap Td.c)::(X++R)))) wr))
    case atStart=> exact ⟨0,rfl,rfl,HI⟩
    case round=>
     clear HI;obtain ⟨i,rfl,hgi,Hi⟩:=hrel;by_cases hi:i < kn
     · have hii:(i:Int) < kn:=by omega
       have Hgi:=Lib.hid hgi;clear hgi;go_upto_region 10 with (fail)
       obtain ⟨us,Y,hup,hs⟩:=Hi.out;have hiK:i < K.length:=by rw [HKN.out];exact hi
       obtain ⟨_,hrow⟩:=hs.has 1 rfl;obtain ⟨kg,rfl⟩:∃kg,ka2=some ⟨kg,0,none⟩:=by obtain ⟨_,_,e, -, -,h4⟩:=row_shape hrow;obtain ⟨g',e1, -⟩:=h4 i (by omega);injection e with e;exact ⟨g',by rw [e,e1]⟩
       obtain ⟨u,hu⟩:=HK0'.out i hiK;have hcl:∀(L:List Asn) (w:World),St w0 fp0 (L++(Y++(rowA 146 6 (.slice ca2 n cc2) n cvs::rowA 89 5 (.slice za k zc) k (l.flatMap Td.c)::(X++R)))) w->Calls Tryz.prog 110 #[u] w λ e w2=> ∃v f,e=.returned v/\(rowA 3 1 v K[i].length (K[i].map intC)).p w2 f/\Below w.heap.size w w2/\∀k∈f,w.heap.size<=k:=λ L w h=> by
        have hxr:=HTX.out.at (M:=L++(Y++(_::_::X))) (by simp only [List.cons_append,List.append_assoc];exact h)
        obtain ⟨u',hu',hi'⟩:=hxr.keys.2 i hiK;rw [hu] at hu';obtain rfl:=Option.some.inj hu';have:=HTM.out.kl _ (List.getElem_mem hiK);exact cloneI _ _ u w hi' (one_int _) (by omega)
       refine rCs10 (w0:=w0) (fp0:=fp0) tb kg kn kc2 i K[i].length (.string nm) (.slice ca2 n cc2) (.slice fa fn fc) (.slice xa xn xc) u us (K[i].map intC) (R:=Y++(rowA 146 6 (.slice ca2 n cc2) n cvs::rowA 89 5 (.slice za k zc) k (l.flatMap Td.c)::(X++R))) hi (by rw [hup.1,HKN.out];omega) ((hup.2.2 i (Nat.le_refl _)).trans hu) hcl rfl (by kernel_rfl) rfl rfl rfl rfl hs ?_;intro u36 w1 ⟨ya,yn,yc,e36⟩ h1;subst e36;have HI2:Hid (∃us Y,KUp K kvs us Y (i+1)/\St w0 fp0 (blkA tb 89 #[.string nm, .slice ca2 n cc2, .slice (some ⟨kg,0,none⟩) kn kc2, .slice fa fn fc, .slice xa xn xc]::rowA 90 1 (.slice (some ⟨kg,0,none⟩) kn kc2) kn us::(Y++(rowA 146 6 (.slice ca2 n cc2) n cvs::rowA 89 5 (.slice za k zc) k (l.flatMap Td.c)::(X++R)))) w1):=
        ⟨_,_,hup.next hiK (.slice ya yn yc),clone_out h1⟩
       clear h1 hs hup hcl hrow hu Hi hiK;simp only [putL,List.foldl,Act.put,List.setIfInBounds_toArray,List.set_cons_succ,List.set_cons_zero];go_wp2;go_roundg (gk - 1)
       case rel=> exact ⟨i+1,by go_num,by have:=Hgi.out;omega,HI2⟩
       case measure=> have:=Hgi.out;omega
     · obtain rfl:i=kn:=by omega
       obtain ⟨us,Y,hup,hs⟩:=Hi.out;have HUP:=Lib.hid hup;have H7:=Lib.hid hs;have hxr:=HTX.out.at (M:=_::_::(Y++(_::_::X))) (show St w0 fp0 (_::_::((Y++(_::_::X))++R)) _ by simp only [List.cons_append,List.append_assoc];exact hs)
       have HC:=Lib.hid (cloneFO fvs fn (.slice fa fn fc) wr (by have h:=hxr.fors.1;simp only at h;rwa [HFN.out] at h) (one_fors hxr.fors) (by have:=HTM.out.f;simp only at this;have:=HFN.out;omega));have HF0:=Lib.hid (FUp.start (F:=F) (vs:=fvs) (by have:=hxr.fors.1.2.1;simp only at this;omega));have HF0':Hid (∀j (h:j < F.length),∃u a b,fvs[j * 3]? =some u/\fvs[j * 3+1]? =some (.int .i64 a)/\fvs[j * 3+2]? =some (.int .i64 b)):=λ j h=> by obtain ⟨u,a,b,h1,h2,h3, -⟩:=hxr.fors.2 j h;exact ⟨u,a,b,h1,h2,h3⟩
       have hfn3:fn<=1000:=by have:=HTM.out.f;simp only at this;have:=HFN.out;omega
       obtain ⟨c0,c1,c2,c3,c4,f1,f2,f3,f4,tl⟩:=cells5 hs 0 rfl;clear hxr hs hup Hi hgi hi;go_wp2_with fail;(with_reducible refine HC.out.mono ?_);rintro e w7 ⟨v7,g7,rfl,h7,hb7,hn7⟩;obtain ⟨fa2,fc2,rfl, -⟩:=row_shape h7;have h8:=St_re (L:=[_,_,_]) (H7.out.addF h7 hb7 hn7) [1,0,2] [] (by kernel_rfl);clear c0 c1 c2 c3 c4 f1 f2 f3 f4 tl HC H7 h7 hb7 hn7;obtain ⟨c0,c1,c2,c3,c4,f1,f2,f3,f4,tl⟩:=cells5 h8 0 rfl;have H8:=Lib.hid (h8.setB 3 (by simp) (.slice fa2 fn fc2));clear h8;simp only [List.setIfInBounds_toArray,List.set_cons_succ,List.set_cons_zero] at H8;go_upto_region 13 with (fail)
       generalize hW2:World.setCell _ _ _=W8 at *;clear hW2 c0 c1 c2 c3 c4 f1 f2 f3 f4 tl;obtain ⟨c0,c1,c2,c3,c4,f1,f2,f3,f4,tl⟩:=cells5 H8.out 0 rfl;go_upto_region 14 with (fail)
       obtain ⟨R1,hR1⟩:∃R1,rowA 90 1 (.slice ka2 i kc2) i us::(Y++(rowA 146 6 (.slice ca2 n cc2) n cvs::rowA 89 5 (.slice za k zc) k (l.flatMap Td.c)::(X++R)))=R1:=⟨_,rfl⟩
       have HR1:=Lib.hid hR1;have HI:Hid (∃us2 Z,FUp F fvs us2 Z 0/\St w0 fp0 (blkA tb 89 #[.string nm, .slice ca2 n cc2, .slice ka2 i kc2, .slice fa2 fn fc2, .slice xa xn xc]::rowA 92 3 (.slice fa2 fn fc2) fn us2::(Z++R1)) W8):=⟨fvs,[],HF0.out,by rw [<-hR1];exact H8.out⟩
       clear H8 c0 c1 c2 c3 c4 f1 f2 f3 f4 tl HF0 hR1;go_loopg [46] fn (λ g z wr=> ∃j:Nat,z=.int .i64 j/\g+j=fn/\Hid (∃us2 Z,FUp F fvs us2 Z j/\St w0 fp0 (blkA tb 89 #[.string nm, .slice ca2 n cc2, .slice ka2 i kc2, .slice fa2 fn fc2, .slice xa xn xc]::rowA 92 3 (.slice fa2 fn fc2) fn us2::(Z++R1)) wr))
       case atStart=> exact ⟨0,rfl,rfl,HI⟩
       case round=>
        clear HI;obtain ⟨j,rfl,hgj,Hj⟩:=hrel;by_cases hj:j < fn
        · have hjj:(j:Int) < fn:=by omega
          have Hgj:=Lib.hid hgj;clear hgj;go_upto_region 16 with (fail)
          obtain ⟨us2,Z,hup,hs⟩:=Hj.out;have hjF:j < F.length:=by rw [HFN.out];exact hj
          obtain ⟨_,hrow⟩:=hs.has 1 rfl;obtain ⟨fg,rfl⟩:∃fg,fa2=some ⟨fg,0,none⟩:=by obtain ⟨_,_,e, -, -,h4⟩:=row_shape hrow;obtain ⟨g',e1, -⟩:=h4 (j * 3) (by omega);injection e with e;exact ⟨g',by rw [e,e1]⟩
          obtain ⟨u,a,b,hu,hua,hub⟩:=HF0'.out j hjF;have hcl:∀(L:List Asn) (w:World),St w0 fp0 (L++(Z++R1)) w->Calls Tryz.prog 110 #[u] w λ e w2=> ∃v f,e=.returned v/\(rowA 3 1 v F[j].length (F[j].map intC)).p w2 f/\Below w.heap.size w w2/\∀k∈f,w.heap.size<=k:=λ L w h=> by
           rw [<-HR1.out] at h;have hxr:=HTX.out.at (M:=L++(Z++(_::(Y++(_::_::X))))) (by simp only [List.cons_append,List.append_assoc];exact h)
           obtain ⟨u',_,_,hu',_,_,hi'⟩:=hxr.fors.2 j hjF;rw [hu] at hu';obtain rfl:=Option.some.inj hu';have:=HTM.out.fl _ (List.getElem_mem hjF);exact cloneI _ _ u w hi' (one_int _) (by omega)
          refine rCs16 (w0:=w0) (fp0:=fp0) tb fg fn fc2 j F[j].length (.string nm) (.slice ca2 n cc2) (.slice ka2 i kc2) (.slice xa xn xc) u us2 (F[j].map intC) (R:=Z++R1) hj (by rw [hup.1,HFN.out]) ((hup.2.2 _ (Nat.le_refl _)).trans hu) hcl rfl (by kernel_rfl) rfl rfl rfl rfl hs ?_;intro u58 w1 ⟨ya,yn,yc,e58⟩ h1;subst e58;have HI2:Hid (∃us2 Z,FUp F fvs us2 Z (j+1)/\St w0 fp0 (blkA tb 89 #[.string nm, .slice ca2 n cc2, .slice ka2 i kc2, .slice (some ⟨fg,0,none⟩) fn fc2, .slice xa xn xc]::rowA 92 3 (.slice (some ⟨fg,0,none⟩) fn fc2) fn us2::(Z++R1)) w1):=
           ⟨_,_,hup.next hjF (.slice ya yn yc) hua hub,clone_out h1⟩
          clear h1 hs hup hcl hrow hu Hj hjF hua hub;simp only [putL,List.foldl,Act.put,List.setIfInBounds_toArray,List.set_cons_succ,List.set_cons_zero];go_wp2;go_roundg (gk - 1)
          case rel=> exact ⟨j+1,by go_num,by have:=Hgj.out;omega,HI2⟩
          case measure=> have:=Hgj.out;omega
        · obtain rfl:j=fn:=by omega
          obtain ⟨us2,Z,hup2,hs⟩:=Hj.out;obtain ⟨c0,c1,c2,c3,c4,f1,f2,f3,f4,tl⟩:=cells5 hs 0 rfl;have H9:=Lib.hid (hs.setB 4 (by simp) (.slice none 0 0));simp only [List.setIfInBounds_toArray,List.set_cons_succ,List.set_cons_zero] at H9;have hxr:=HTX.out.at (M:=_::_::(Z++(_::(Y++(_::_::X))))) (show St w0 fp0 (_::_::((Z++(_::(Y++(_::_::X))))++R)) _ by rw [<-HR1.out] at hs;simp only [List.cons_append,List.append_assoc];exact hs)
          have HST:=Lib.hid (td_star (t:=⟨nm,ca2,n,cc2, .slice ka2 i kc2, .slice fa2 j fc2,none,0,0,cvs,us,us2,K,F⟩) (X:=X) (l:=l) hxr.cols.2.1 hxr.one (by show KUp K kvs us Y K.length;rw [HKN.out];exact HUP.out) (by show FUp F fvs us2 Z F.length;rw [HFN.out];exact hup2) Hsh.out.2.2.1);clear hxr hs hup2 Hj hgj hj HUP;go_upto_region 19 with (fail)
          generalize hW2:World.setCell _ _ _=W9 at *;clear hW2 c0 c1 c2 c3 c4 f1 f2 f3 f4 tl;obtain ⟨c0,c1,c2,c3,c4,f1,f2,f3,f4,tl⟩:=cells5 H9.out 0 rfl;have HT:Hid (St w0 fp0 (rowA 89 5 (.slice za k zc) k (l.flatMap Td.c)::(blkA tb 89 #[.string nm, .slice ca2 n cc2, .slice ka2 i kc2, .slice fa2 j fc2, .slice none 0 0]::((tdL ⟨nm,ca2,n,cc2, .slice ka2 i kc2, .slice fa2 j fc2,none,0,0,cvs,us,us2,K,F⟩ Y Z++X)++R))) W9):=by
           have h:=H9.out;rw [<-HR1.out] at h;refine h.perm ?_;unfold tdL;rw [HKN.out,HFN.out]
           classical refine List.perm_iff_count.2 λ a=> ?_;simp only [List.count_append,List.count_cons,List.count_nil,List.cons_append,List.append_assoc];omega
          clear H9 HR1;go_upto_region 20 with (first | (at_builtin;refine wpList_appR rfl _ _ _ _ rfl rfl rfl appTB (HT.out.mono ((Below.refl _ _).alloc (Nat.le_refl _) _)) (src_litk (e':=89) (by kernel_rfl) _ 5 _ 1 _ _ _ #[.string nm, .slice ca2 n cc2, .slice ka2 i kc2, .slice fa2 j fc2, .slice none 0 0] (heap_alloc_new _ _) rfl (by simp;exact ⟨rfl,rfl,rfl,rfl,rfl⟩)) (by omega) ?_;intro v9 w9 h9))
          have HI2:Hid (CsInv w0 fp0 R td v9 (k+1) w9):=by
           refine ⟨l++[⟨nm,ca2,n,cc2, .slice ka2 i kc2, .slice fa2 j fc2,none,0,0,cvs,us,us2,K,F⟩],tdL ⟨nm,ca2,n,cc2, .slice ka2 i kc2, .slice fa2 j fc2,none,0,0,cvs,us,us2,K,F⟩ Y Z++X,?_,by rw [List.length_append,Hsh.out.2.1];rfl,HST.out,?_⟩
           · rw [List.map_append,Hsh.out.1,Hsh.out.2.2.2]
             rfl
           · rw [List.flatMap_append]
             exact (h9.out.perm (List.Perm.swap _ _ _)).drop
          clear HT HST h9 c0 c1 c2 c3 c4 f1 f2 f3 f4 tl;go_wp2;go_roundg (gk0 - 1)
          case rel=> exact ⟨k+1,by go_num,by have:=Hgk.out;omega,HI2⟩
          case measure=> have:=Hgk.out;omega
  · obtain rfl:k=N:=by omega
    have HF:Hid (∃a c,∃td2:List Td,Value.slice za k zc=.slice a td2.length c/\td2.map Td.sh=td.map Td.sh/\St w0 fp0 (schA (.slice a td2.length c) td2::R) wr):=by
     refine ⟨za,zc,l,by rw [hlk],?_,?_⟩
     · rw [hsh,List.take_of_length_le (by rw [HN.out];exact Nat.le_refl _)]
     · rw [hlk]
       refine St.schA (X:=rowA 89 5 (.slice za k zc) k (l.flatMap Td.c)::X) (λ w f hf=> ?_) hS1;obtain ⟨g,g2,h1,h2, -, -⟩:=hf;exact ⟨by rw [hlk];exact SlX.of_row (X:=[]) h1 (by rw [flatMap_len tdc_len,hlk]) (by simp),hX w g2 h2⟩
    clear hS1 hX hlk hsh Hi hgk hk;go_wp2;go_ret;obtain ⟨a,c,td2,e,h1,h2⟩:=HF.out;exact ⟨a,c,td2,(show Ending.returned (Value.slice za k zc)=_ by rw [e]),h1,h2⟩
theorem appPS:AppSrc Tryz.prog 102 102 46 1:=appSrc (z:=.pointer none) (bytes:=8) (by kernel_rfl) (by kernel_rfl) rfl (by decide) (by decide)
def gNw5 (b tb n:Nat) (SV TV nm cv kv fv xv:Value) (ps:List Value) (I:List (List Int)):=rgx Tryz.prog Tryz.f38 5 32 [19,20,21,22,23,24,25,26,27,28,29] [(3,pV b 0),(5,pV tb 0)] (Vq 0 19 [Kp b 0,Kp b 0,Kp b 0,Kp b 1,Kv TV,Kv (.agg #[nm,cv,kv,fv,xv]),Vf.ptr,Vf.box,Vf.slice,Kp b 0,Kp b 1]) [.blk b (104) [⟨SV,[]⟩,⟨TV,[(11, .s 27)]⟩],Bk tb (89) [nm,cv,kv,fv,xv], .gen [8] [27,25] λ L g=> match L 8 with | true=> slA 46 (g 27) (ps++[.pointer (some ⟨pb (g 25),0,none⟩)]) | false=> slA 46 TV ps, .new 6 [25] λ g=> storeA (pb (g 25)) n I [] 1, .new 7 [26,25] λ g=> boxsA 46 (g 26) #[.pointer (some ⟨pb (g 25),0,none⟩)]]
theorem rNw5 (b tb n:Nat) (SV TV nm cv kv fv xv:Value) (ps:List Value) (I:List (List Int)) (w0:World) (fp0:List Nat) (R:List Asn) (hl:ps.length+1 < 1099511627776) (hnew:∀w,St w0 fp0 ([blkA b 104 #[SV,TV],blkA tb 89 #[nm,cv,kv,fv,xv],slA 46 TV ps,emp,emp]++R) w->Calls Tryz.prog 75 #[.agg #[nm,cv,kv,fv,xv]] w λ e w2=> ∃S,e=.returned (ptrV S)/\St w0 fp0 (storeA S n I [] 1::[blkA b 104 #[SV,TV],blkA tb 89 #[nm,cv,kv,fv,xv],slA 46 TV ps]++R) w2) {w:World} {c:Code} {a:Act} {Q:Exit->Act->World->Prop} (c1:isReg c=true) (c2:cops c=opsR Tryz.f38 5) (c3:a.tmps.size=32) (_c4:a.defers=a.defers) (i3:a.eval (.tmp 3)=.pointer (some ⟨b,0,none⟩)) (i5:a.eval (.tmp 5)=.pointer (some ⟨tb,0,none⟩))
 (hS:St w0 fp0 ([blkA b (104) #[SV,TV],blkA tb (89) #[nm,cv,kv,fv,xv],slA 46 TV ps,emp,emp]++R) w)
 (hQ:∀(u25 u26 u27:Value) (w1:World),(∃b,u25=.pointer (some ⟨b,0,none⟩))->(∃b,u26=.slice (some ⟨b,0,none⟩) 1 1)->(∃a n c,u27=.slice a n c)->St w0 fp0 ([blkA b (104) #[SV,u27],blkA tb (89) #[nm,cv,kv,fv,xv],slA 46 (u27) (ps++[.pointer (some ⟨pb (u25),0,none⟩)]),storeA (pb (u25)) n I [] 1,boxsA 46 (u26) #[.pointer (some ⟨pb (u25),0,none⟩)]]++R) w1->Q .normal (putL a [(19, .pointer (some ⟨b,0,none⟩)),(20, .pointer (some ⟨b,0,none⟩)),(21, .pointer (some ⟨b,0,none⟩)),(22, .pointer (some ⟨b,1,none⟩)),(23,TV),(24, .agg #[nm,cv,kv,fv,xv]),(25,u25),(26,u26),(27,u27),(28, .pointer (some ⟨b,0,none⟩)),(29, .pointer (some ⟨b,1,none⟩))]) w1):c.wp Tryz.prog Q a w:=by
 have ok:(gNw5 b tb n SV TV nm cv kv fv xv ps I w0 fp0 R).Ok 12:=Rg.ok _ 12 [4,5,6,7,8,11] ⟨.load _ 4 0 1, .run1 _ 5 1 (λ _=> blkA tb 89 #[nm,cv,kv,fv,xv]) (λ _ _=> blkA tb 89 #[nm,cv,kv,fv,xv]) (λ L a w fp _ hp=> (by obtain ⟨h1, -, -⟩:=blk_get hp;exact ⟨.agg #[nm,cv,kv,fv,xv],w,fp,exec_loads (cs:=[nm,cv,kv,fv,xv]) (off:=0) rfl (kr (by kernel_rfl)) (kr (by kernel_rfl)) (kr (by kernel_rfl)) (λ j u hj=> (by rw [Nat.zero_add,h1 j];simpa using hj)),kr (by kernel_rfl),hp,Tr.refl _ _⟩)), .callG _ 6 (f:=75) (args:=λ _=> #[.agg #[nm,cv,kv,fv,xv]]) (λ _=> [blkA b 104 #[SV,TV],blkA tb 89 #[nm,cv,kv,fv,xv],slA 46 TV ps,emp,emp]) (λ _ v=> [blkA b 104 #[SV,TV],blkA tb 89 #[nm,cv,kv,fv,xv],slA 46 TV ps,storeA (pb (v)) n I [] 1,emp]) (λ g w h=> (hnew w h).mono λ e w2 ⟨S,e1,h1⟩=> ⟨_,e1,kr (by kernel_rfl),St_re (L:=[_,_,_,_,_]) (St.emp.2 h1) [2,3,4,1,0] [] (by kernel_rfl)⟩), .boxsG _ 7 4, .appG _ 8 (λ g=> [blkA b 104 #[SV,TV],blkA tb 89 #[nm,cv,kv,fv,xv],slA 46 TV ps,storeA (pb (g 25)) n I [] 1,boxsA 46 (g 26) #[.pointer (some ⟨pb (g 25),0,none⟩)]]) (λ g v=> [blkA b 104 #[SV,TV],blkA tb 89 #[nm,cv,kv,fv,xv],slA 46 (v) (ps++[.pointer (some ⟨pb (g 25),0,none⟩)]),storeA (pb (g 25)) n I [] 1,boxsA 46 (g 26) #[.pointer (some ⟨pb (g 25),0,none⟩)]]) (λ ty g w h=> (by obtain ⟨fb,hfb⟩:=h.has 4 rfl;obtain ⟨v,w2,h1,h2⟩:=St.appSl appPS ty (St_re (L:=[_,_,_,_,_]) h [2,0,1,3,4] [] (by kernel_rfl)) (boxs_src (tx:=102) (e':=46) (by kernel_rfl) hfb rfl (by simp;rfl)) (by omega);obtain ⟨_,hr⟩:=h2.has 0 rfl;obtain ⟨a,n,c,rfl⟩:=sl_shape hr;exact ⟨_,w2,h1,kr (by kernel_rfl),St_re (L:=[_,_,_,_,_]) h2 [1,2,0,3,4] [] (by kernel_rfl)⟩)), .store _ 11 0 1,trivial⟩;refine wp_regD ok (by kernel_rfl) ⟨c1,c2⟩ ⟨c3,λ p hp=> ?_⟩ hS λ A1 w1 N1 H1=> ?_
 · simp only [gNw5,rgx,List.map_nil,List.append_nil,List.mem_cons,List.not_mem_nil,or_false] at hp
   rcases hp with rfl | rfl
   · exact i3
   · exact i5
 exact N1.fin [25,26,27] (hQ (slots A1 25) (slots A1 26) (slots A1 27) w1 ⟨_,(N1.val 6 rfl)⟩ ⟨_,(N1.val 7 rfl)⟩ ⟨_,_,_,(N1.val 8 rfl)⟩ H1) (by kernel_rfl)
theorem Td.Sm.of {t u:Td} (h:t.Sm) (e:u.sh=t.sh):u.Sm:=by
 unfold Td.sh at e;injection e with e1 e2;injection e2 with e2 e3;exact ⟨by rw [e1];exact h.n,by rw [e2];exact h.k,by rw [e3];exact h.f,by rw [e2];exact h.kl,by rw [e3];exact h.fl⟩
theorem sm_of {td2 td:List Td} (h:td2.map Td.sh=td.map Td.sh) (hsm:∀t∈td,t.Sm):∀t∈td2,t.Sm:=by
 intro t ht;have:t.sh∈td.map Td.sh:=by rw [<-h];exact List.mem_map_of_mem ht
 obtain ⟨u,hu,e⟩:=List.mem_map.1 this;exact (hsm u hu).of e.symm
def newD (td:List Td):Db:=td.map λ t=> (t.n,[],1)
theorem newD_of {td2 td:List Td} (h:td2.map Td.sh=td.map Td.sh):newD td2=newD td:=by
 have:=congrArg (List.map λ s:Nat×List (List Int)×List (List Int)=> (s.1,([]:LL),(1:Int))) h;rw [List.map_map,List.map_map] at this;exact this
def NwInv (w0:World) (fp0:List Nat) (R:List Asn) (b:Nat) (sa:Option Addr) (sc:Nat) (td:List Td) (k:Nat) (w:World):Prop:=∃(ts:List Tb) (ta:Option Addr) (tc:Nat),ts.map Tb.d=newD (td.take k)/\ts.length=k/\
 St w0 fp0 (blkA b 104 #[.slice sa td.length sc, .slice ta k tc]::schA (.slice sa td.length sc) td::slA 46 (.slice ta k tc) (ts.map λ t=> ptrV t.S)::(ts.map tbA++R)) w
theorem StNew_calls (td:List Td) (v:Value) (hsm:∀t∈td,t.Sm) (htl:td.length<=1000) (w0 w:World) (fp0:List Nat) (R:List Asn) (hv:Rd w0 fp0 R λ w=> SchX w td v) (hS:St w0 fp0 R w):
 Calls Tryz.prog 38 #[v] w λ e w'=> ∃b,e=.returned (.pointer (some ⟨b,0,none⟩))/\St w0 fp0 (stA b (newD td)::R) w':=by
 obtain ⟨va,vc,rfl⟩:=(hv.here hS).sl.shape;have HC:=Lib.hid (copySchema_calls td _ hsm htl w0 w fp0 R hv hS);have HSM:=Lib.hid hsm;have HTL:=Lib.hid htl;obtain ⟨D0,hD0⟩:∃D0,newD td=D0:=⟨_,rfl⟩
 have HD0:=Lib.hid hD0;rw [hD0];clear hv hS hsm htl hD0;go_enter Tryz.func38,Tryz.ntmps38;go_wp2_with fail;(with_reducible refine HC.out.mono ?_);rintro e w1 ⟨sa,sc,td2,rfl,hsh,h1⟩;have HSM2:=Lib.hid (sm_of hsh HSM.out);have hlen:td2.length<=1000:=by have:=congrArg List.length hsh;simp only [List.length_map] at this;have:=HTL.out;omega
 have HD:=Lib.hid ((newD_of hsh).trans HD0.out);have H1:=Lib.hid (h1.newblk 104 #[.slice sa td2.length sc, .slice none 0 0]);clear HC HSM HTL hsh h1 HD0;go_upto_region 2 with (fail)
 generalize hW:w1.alloc _=W at *;clear hW;obtain ⟨b,hb⟩:∃b,w1.heap.size=b:=⟨_,rfl⟩
 rw [hb] at H1 ⊢;clear hb;obtain ⟨_,hb⟩:=H1.out.has 0 rfl;have c0:=(blk_get hb).1 0;have bl:=(blk_get hb).2.2;simp only [List.getElem?_toArray,List.getElem?_cons_zero] at c0;clear hb;obtain ⟨N,hN⟩:∃N,td2.length=N:=⟨_,rfl⟩
 have HN:=Lib.hid hN;have HI:Hid (NwInv w0 fp0 R b sa sc td2 0 W):=⟨[],none,0,rfl,rfl,St_re (L:=[_,_,_]) (H1.out.nilR 46 1) [1,2,0] [] (by kernel_rfl)⟩
 rw [hN] at c0 hlen ⊢;clear H1 hN;go_upto_region 3 with (fail)
 clear c0 bl;go_loopg [15] N (λ g z wr=> ∃k:Nat,z=.int .i64 k/\g+k=N/\Hid (NwInv w0 fp0 R b sa sc td2 k wr))
 case atStart=> exact ⟨0,rfl,rfl,HI⟩
 case round=>
  clear HI;obtain ⟨k,rfl,hgk,Hi⟩:=hrel;by_cases hk:k < N
  · have hkn:(k:Int) < N:=by omega
    obtain ⟨ts,ta,tc,hts,htl,hs⟩:=Hi.out;have hkl:k < td2.length:=by rw [HN.out];exact hk
    obtain ⟨_,hsch⟩:=hs.has 1 rfl;have hx:=schA_at hsch;obtain ⟨b',o,c',e1,hpl,p0,p1,p2,p3,p4⟩:=hx.cells k hkl;obtain ⟨rfl, -,rfl⟩:=Value.slice.inj e1;have htm:=HSM2.out _ (List.getElem_mem hkl);have ht0:=hx.td _ (List.getElem_mem hkl);have hD:newD (td2.take (k+1))=newD (td2.take k)++[(td2[k].n,[],1)]:=by rw [List.take_add_one,List.getElem?_eq_getElem hkl,newD,List.map_append];rfl
    have HMem:=Lib.hid (List.getElem_mem hkl);clear e1 hsch hx Hi;rw [HN.out] at hs;generalize td2[k]=t at *;clear hkl;obtain ⟨nm,ca,n,cc,kv,fv,xa,xn,xc,cvs,kvs,fvs,K,F⟩:=t;simp only at p0 p1 p2 p3 p4;obtain ⟨ka,kc,hkv⟩:=ht0.keys.1.shape;obtain ⟨fa,fc,hfv⟩:=ht0.fors.1.shape;simp only at hkv hfv;subst hkv hfv;have HS1:=Lib.hid (hs.newblk 89 #[.string nm, .slice ca n cc, .slice ka K.length kc, .slice fa F.length fc, .slice xa xn xc]);have HT:=Lib.hid (And.intro hts (And.intro htl hD));have HTM:=Lib.hid htm;have Hgk:=Lib.hid hgk;clear hs hts htl hD htm hgk ht0;go_upto_region 5 with (fail)
    have hsz:=World.size_alloc wr (.cells #[.string nm, .slice ca n cc, .slice ka K.length kc, .slice fa F.length fc, .slice xa xn xc] 89);generalize hW2:wr.alloc _=W2 at *;clear hW2 p0 p1 p2 p3 p4 hpl;obtain ⟨tb,htb⟩:∃tb,wr.heap.size=tb:=⟨_,rfl⟩
    rw [htb] at HS1 hsz ⊢;clear htb hsz;refine rNw5 (w0:=w0) (fp0:=fp0) b tb n (.slice (some ⟨b',o,none⟩) N sc) (.slice ta k tc) (.string nm) (.slice ca n cc) (.slice ka K.length kc) (.slice fa F.length fc) (.slice xa xn xc) (ts.map λ t=> ptrV t.S) ((K++F).foldl (addI n) []) (R:=schA (.slice (some ⟨b',o,none⟩) N sc) td2::(ts.map tbA++R)) (by rw [List.length_map,HT.out.2.1];omega) ?_ rfl (by kernel_rfl) rfl rfl rfl rfl ?_ ?_
    · intro w' h'
      have h2:St w0 fp0 (blkA b 104 #[.slice (some ⟨b',o,none⟩) N sc, .slice ta k tc]::blkA tb 89 #[.string nm, .slice ca n cc, .slice ka K.length kc, .slice fa F.length fc, .slice xa xn xc]::slA 46 (.slice ta k tc) (ts.map λ t=> ptrV t.S)::schA (.slice (some ⟨b',o,none⟩) N sc) td2::(ts.map tbA++R)) w':=(St_re (L:=[_,_,_,_,_]) h' [3,4,0,1,2] [] (by kernel_rfl)).drop.drop;have hk':=HTM.out;exact SNew_calls nm ca xa n cc xn xc _ _ K F kvs fvs hk'.kl hk'.fl (by have:=hk'.k;simp only at this;omega) (by have:=hk'.f;simp only at this;omega) w0 w' fp0 _ (Rd.of_piece 3 rfl λ w f h=> ((schA_at h).td _ HMem.out).keys) (Rd.of_piece 3 rfl λ w f h=> ((schA_at h).td _ HMem.out).fors) h2
    · refine (St.emp.2 (St.emp.2 HS1.out)).perm ?_
      classical exact List.perm_iff_count.2 λ a=> by simp only [List.cons_append,List.nil_append,List.count_append,List.count_cons];omega
    intro u25 u26 u27 w2 ⟨S,e25⟩ ⟨_,e26⟩ ⟨ya,yn,yc,e27⟩ h2;subst e25 e26 e27;have HI2:Hid (NwInv w0 fp0 R b (some ⟨b',o,none⟩) sc td2 (k+1) w2):=by
     have hyn:yn=k+1:=by obtain ⟨_,hsl⟩:=h2.has 2 rfl;obtain ⟨_,_,e, -⟩:=sl_get hsl;injection e with _ e;rw [e,List.length_append,List.length_map,HT.out.2.1];rfl
     subst hyn;refine ⟨ts++[⟨S,n,(K++F).foldl (addI n) [],[],1⟩],ya,yc,by rw [List.map_append,HT.out.1,HT.out.2.2];rfl,by rw [List.length_append,HT.out.2.1];rfl,?_⟩;rw [HN.out,List.map_append,List.map_append,List.append_assoc];have h3:=(h2.perm (List.Perm.swap _ _ _)).drop;have h4:St w0 fp0 ([blkA b 104 #[.slice (some ⟨b',o,none⟩) N sc, .slice ya (k+1) yc],slA 46 (.slice ya (k+1) yc) ((ts.map λ t=> ptrV t.S)++[ptrV S]),storeA S n ((K++F).foldl (addI n) []) [] 1,boxsA 46 _ _]++(schA (.slice (some ⟨b',o,none⟩) N sc) td2::(ts.map tbA++R))) w2:=h3;have h5:St w0 fp0 (blkA b 104 #[.slice (some ⟨b',o,none⟩) N sc, .slice ya (k+1) yc]::slA 46 (.slice ya (k+1) yc) ((ts.map λ t=> ptrV t.S)++[ptrV S])::storeA S n ((K++F).foldl (addI n) []) [] 1::(schA (.slice (some ⟨b',o,none⟩) N sc) td2::(ts.map tbA++R))) w2:=(St_re (L:=[_,_,_,_]) h4 [3,0,1,2] [] (by kernel_rfl)).drop;refine h5.perm ?_
     classical refine List.perm_iff_count.2 λ a=> ?_;simp only [List.map_cons,List.map_nil,tbA,List.cons_append,List.nil_append,List.count_append,List.count_cons];omega
    clear HS1 h2 HT HTM HMem;simp only [putL,List.foldl,Act.put,List.setIfInBounds_toArray,List.set_cons_succ,List.set_cons_zero];go_wp2;go_roundg (gk - 1)
    case rel=> exact ⟨k+1,by go_num,by have:=Hgk.out;omega,HI2⟩
    case measure=> have:=Hgk.out;omega
  · obtain rfl:k=N:=by omega
    have HF:Hid (St w0 fp0 (stA b D0::R) wr):=by
     obtain ⟨ts,ta,tc,hts,htl,hs⟩:=Hi.out;rw [List.take_of_length_le (by rw [HN.out];exact Nat.le_refl _),HD.out] at hts;refine St.shutD (q:=⟨sa,sc,ta,tc,td2,ts⟩) ⟨hts,?_,HSM2.out,by rw [HN.out];exact hlen⟩ ?_
     · show td2.map (·.n)=_
       rw [<-HD.out,newD,List.map_map];rfl
     · show St w0 fp0 (blkA b 104 #[.slice sa td2.length sc, .slice ta ts.length tc]::schA (.slice sa td2.length sc) td2::slA 46 (.slice ta ts.length tc) _::([]++(ts.map tbA++R))) wr
       rw [htl];exact hs
    clear Hi hgk hk;go_wp2;go_ret;exact ⟨_,rfl,HF.out⟩
end
end Go.Proofs.YtpdlkdoogojboaaGreat
