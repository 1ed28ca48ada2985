/- Part 7 of the proof: Rh2, Ri2, M0, M1, Mo, Ja, Jb, Jd, Jc, Je, Jz, Tg -/
import Derived.Test.YtpdlkdoogojboaaGreatY06
import Derived.Test.YtpdlkdoogojboaaGreatY01
import Derived.Test.YtpdlkdoogojboaaGreatY05
import Derived.Lib.Bytealg
import Derived.Lib.IndexLaws
import Derived.Test.YtpdlkdoogojboaaGreatY00
set_option maxHeartbeats 16000000
set_option maxRecDepth 100000
namespace Go.Proofs.YtpdlkdoogojboaaGreat
open Go Go.RowKit
noncomputable section
theorem limit_calls (w:World):Calls Tryz.prog 80 #[] w λ e w'=> e=.returned (.int .i64 4611686018427387904)/\w=w':=by
 go_enter Tryz.func80,Tryz.ntmps80;go_wp2;go_ret;exact ⟨rfl,rfl⟩
theorem cpRS {w0 w:World} {fp0:List Nat} {R:List Asn} {A:Asn} {vb rb:Nat} {c0 c1 c2 r0 r1 r2:Value} (h:St w0 fp0 (A::blkA vb 44 #[c0,c1,c2]::blkA rb 44 #[r0,r1,r2]::R) w):
 St w0 fp0 (A::R) (((w.setCell ⟨rb,0,none⟩ c0).setCell ⟨rb,1,none⟩ c1).setCell ⟨rb,2,none⟩ c2):=by
 have h2:=(h.perm (List.Perm.cons _ (List.Perm.swap _ _ _))).perm (List.Perm.swap _ _ _);have h3:=((h2.setB 0 (by simp) c0).setB 1 (by simp) c1).setB 2 (by simp) c2;exact (h3.drop.perm (List.Perm.swap _ _ _)).drop
theorem riA_snoc {w0 w:World} {fp0:List Nat} {R:List Asn} {v:Value} {l:List Ri} (x:Ri) (h:St w0 fp0 (rowA 109 2 v (l.length+1) (riV l++[.int .i64 x.id,x.v])::R) w):St w0 fp0 (riA v (l++[x])::R) w:=by
 unfold riA;rw [riV_append,List.length_append];exact h
theorem setRN {w0 w:World} {fp0:List Nat} {R:List Asn} {A:Asn} {vb rb cols:Nat} {o:Value} {next:Int} {r0 r1 r2:Value} (h:St w0 fp0 (A::blkA vb 44 #[.int .i64 cols,o, .int .i64 next]::blkA rb 44 #[r0,r1,r2]::R) w) (v:Value) (nx:Int):
 St w0 fp0 (A::R) (((((w.setCell ⟨vb,1,none⟩ v).setCell ⟨vb,2,none⟩ (.int .i64 nx)).setCell ⟨rb,0,none⟩ (.int .i64 cols)).setCell ⟨rb,1,none⟩ v).setCell ⟨rb,2,none⟩ (.int .i64 nx)):=by
 have h1:=((h.perm (List.Perm.swap _ _ _)).setB 1 (by simp) v).setB 2 (by simp) (.int .i64 nx);exact cpRS (h1.perm (List.Perm.swap _ _ _))
theorem rp_cells {w0 w:World} {fp0:List Nat} {R:List Asn} {A B Z:Asn} {vb lb lo n c i:Nat} {c0 c2:Value} {l:List Ri} {y:Ri} (hz:Rd w0 fp0 (Z::R) λ w=> SlX [] w 2 l.length (riV l) (.slice (some ⟨lb,lo,none⟩) n c)) (h:St w0 fp0 (A::blkA vb 44 #[c0, .slice (some ⟨lb,lo,none⟩) n c,c2]::B::Z::R) w) (hy:l[i]? =some y):
 w.cell? ⟨vb,1,none⟩=some (.slice (some ⟨lb,lo,none⟩) n c)/\vb < w.heap.size/\w.cell? ⟨lb,lo+i * 2,none⟩=some (.int .i64 y.id)/\w.cell? ⟨lb,lo+i * 2+1,none⟩=some y.v/\lb < w.heap.size:=by
 obtain ⟨_,hb⟩:=h.has 1 rfl;have hp:=hz.at (M:=[_,_,_]) h;obtain ⟨hi,rfl⟩:=List.getElem?_eq_some_iff.1 hy;obtain ⟨b,o,c',e1,q1,q2⟩:=ri_cells hp i hi;obtain ⟨e1, -, -⟩:=Value.slice.inj e1;injection e1 with e1;injection e1 with e1 e2;subst e1 e2;exact ⟨(blk_get hb).1 1,(blk_get hb).2.2,q1,q2,World.block_lt_of_cell? w _ q1⟩
def PutPostZ (Z:Asn) (w0:World) (fp0:List Nat) (R:List Asn) (q:Bool) (lv lv2:Value) (x:Ri) (l:List Ri) (w:World):Prop:=(q=true/\St w0 fp0 (riA lv2 (putR x.id x l)::Z::R) w)\/(q=false/\lv2=lv/\St w0 fp0 (Z::R) w)
theorem RPut_callsZ (Z:Asn) (cols:Nat) (lv:Value) (next:Int) (x:Ri) (l:List Ri) (hasc:l.Pairwise λ a b=> a.id < b.id) (hlen:l.length < 400000000000) (w0 w:World) (fp0:List Nat) (R:List Asn) (hv:Rd w0 fp0 R λ w=> ValsAt w x.r x.v) (hz:Rd w0 fp0 (Z::R) λ w=> SlX [] w 2 l.length (riV l) lv) (hS:St w0 fp0 (Z::R) w):
 Calls Tryz.prog 49 #[rsV cols lv next, .int .i64 x.id,x.v] w λ e w'=> ∃lv2,e=.returned (.tuple #[rsV cols lv2 (putN cols x.id x.r next),errV (putOk cols x.id x.r)])/\PutPostZ Z w0 fp0 R (putOk cols x.id x.r) lv lv2 x l w':=by
 obtain ⟨a,c,rfl⟩:=(hz.here hS).shape;obtain ⟨n,hn⟩:∃n,l.length=n:=⟨_,rfl⟩
 have hn63:n<=9223372036854775807:=by omega
 have HN:=Lib.hid hn;rw [hn] at hz;have HZ:=Lib.hid hz;have HL:=Lib.hid hlen;have H0:Hid (St w0 fp0 (Z::blkA w.heap.size 44 #[.int .i64 cols, .slice a n c, .int .i64 next]::blkA (w.heap.size+1) 44 #[.int .i64 0, .slice none 0 0, .int .i64 0]::R) ((w.alloc (.cells #[.int .i64 cols, .slice a n c, .int .i64 next] 44)).alloc (.cells #[.int .i64 0, .slice none 0 0, .int .i64 0] 44))):=by
  have h1:=((hS.newblk 44 #[.int .i64 cols, .slice a n c, .int .i64 next]).newblk 44 #[.int .i64 0, .slice none 0 0, .int .i64 0])
  simp only [World.size_alloc] at h1;exact St_re (L:=[_,_,_]) h1 [2,1,0] [] (by kernel_rfl)
 have HV:Hid (∀M w',St w0 fp0 (M++R) w'->ValsAt w' x.r x.v):=λ M w' h=> hv.at h;have HAL:=Lib.hid (stepP_all (k:=x.id) (x:=x) hasc);have HSL:=Lib.hid (λ m=> stepP_len x.id x (l.take m) ([],false));have HST:Hid (∀i (hi:i < l.length),(l.take (i+1)).foldl (stepP x.id x) ([],false)=stepP x.id x ((l.take i).foldl (stepP x.id x) ([],false)) l[i]):=λ i hi=> by rw [List.take_add_one,List.getElem?_eq_getElem hi,List.foldl_append];rfl
 unfold putN;obtain ⟨q,hq⟩:∃q,putOk cols x.id x.r=q:=⟨_,rfl⟩
 have HQ:Hid ((decide (1<=x.id/\x.id<=4611686018427387904) && storB cols x.r)=q):=hq;rw [hq,hn];clear hS hz hn hlen hv hasc hq;obtain ⟨k,xa,xn,xc,xr⟩:=x;unfold Ri.v at *;unfold rsV;simp only at *;obtain ⟨X,hX⟩:∃X:Ri,(⟨k,xa,xn,xc,xr⟩:Ri)=X:=⟨_,rfl⟩
 have HX:=Lib.hid hX;rw [hX] at HAL HSL HST ⊢;clear hX;obtain ⟨vb,hvb⟩:∃vb,w.heap.size=vb:=⟨_,rfl⟩
 have H0':Hid (∃W,(w.alloc (.cells #[.int .i64 cols, .slice a n c, .int .i64 next] 44)).alloc (.cells #[.int .i64 0, .slice none 0 0, .int .i64 0] 44)=W/\St w0 fp0 (Z::blkA vb 44 #[.int .i64 cols, .slice a n c, .int .i64 next]::blkA (vb+1) 44 #[.int .i64 0, .slice none 0 0, .int .i64 0]::R) W):=⟨_,rfl,by rw [<-hvb];exact H0.out⟩
 clear H0;go_enter Tryz.func49,Tryz.ntmps49;go_upto_region 1 with (fail)
 obtain ⟨W,hW,hs⟩:=H0'.out;rw [hW];have H1:=Lib.hid hs;obtain ⟨_,hb1⟩:=hs.has 1 rfl;obtain ⟨_,hb2⟩:=hs.has 2 rfl;have c0:=(blk_get hb1).1 0;have c1:=(blk_get hb1).1 1;have c2:=(blk_get hb1).1 2;have d0:=(blk_get hb2).1 0;have d1:=(blk_get hb2).1 1;have d2:=(blk_get hb2).1 2;have g0:=(blk_get hb2).2.1 0;have g1:=(blk_get hb2).2.1 1;have g2:=(blk_get hb2).2.1 2;have bl1:=(blk_get hb1).2.2;have bl2:=(blk_get hb2).2.2;simp only [List.getElem?_toArray,List.getElem?_cons_zero,List.getElem?_cons_succ] at c0 c1 c2 d0 d1 d2;have HEND:Hid (St w0 fp0 (Z::R) (((W.setCell ⟨vb+1,0,none⟩ (.int .i64 cols)).setCell ⟨vb+1,1,none⟩ (.slice a n c)).setCell ⟨vb+1,2,none⟩ (.int .i64 next))):=cpRS hs;clear hW hvb H0' hs hb1 hb2;by_cases h1:k < 1
 · have HE:Hid (q=false):=by show _=_;rw [<-HQ.out,decide_eq_false (by omega)];rfl
   obtain rfl:=HE.out;go_wp2;refine bodyPost_ret (v:=.tuple #[.agg #[.int .i64 cols, .slice a n c, .int .i64 next], .int .i64 1]) (by clear HV HAL HSL HST HEND;simp [results,Tryz.results49,go_sem, *]) rfl ?_;exact ⟨_,rfl, .inr ⟨rfl,rfl,HEND.out⟩⟩
 · by_cases h2:4611686018427387904 < k
   · have HE:Hid (q=false):=by show _=_;rw [<-HQ.out,decide_eq_false (by omega)];rfl
     obtain rfl:=HE.out;go_wp2_with (first | (go_at_call 80;(with_reducible refine (limit_calls _).mono ?_);rintro e w1 ⟨rfl,rfl⟩));refine bodyPost_ret (v:=.tuple #[.agg #[.int .i64 cols, .slice a n c, .int .i64 next], .int .i64 1]) (by clear HV HAL HSL HST HEND;simp [results,Tryz.results49,go_sem, *]) rfl ?_;exact ⟨_,rfl, .inr ⟨rfl,rfl,HEND.out⟩⟩
   · have HSTO:=Lib.hid (RStorable_calls cols xr (.slice xa xn xc) W (HV.out [_,_,_] W H1.out))
     have HQ2:Hid (storB cols xr=q):=by show _=_;rw [<-HQ.out,decide_eq_true (by omega),Bool.true_and]
     rw [HQ2.out] at HSTO;have HQ3:Hid (q=true->decide (1<=k/\k<=4611686018427387904)=true):=λ _=> decide_eq_true (by omega);cases q
     · go_wp2_with (first
        | (go_at_call 80;(with_reducible refine (limit_calls _).mono ?_);rintro e w1 ⟨rfl,rfl⟩))
       (with_reducible refine HSTO.out.mono ?_);rintro e w1 ⟨rfl,hb⟩;have hs:=H1.out.mono hb;clear HEND c0 c1 c2 d0 d1 d2 g0 g1 g2 bl1 bl2 hb;obtain ⟨_,hb1⟩:=hs.has 1 rfl;obtain ⟨_,hb2⟩:=hs.has 2 rfl;have c0:=(blk_get hb1).1 0;have c1:=(blk_get hb1).1 1;have c2:=(blk_get hb1).1 2;have f1:=(blk_get hb1).2.1 1;have f2:=(blk_get hb1).2.1 2;have d0:=(blk_get hb2).1 0;have d1:=(blk_get hb2).1 1;have d2:=(blk_get hb2).1 2;have g0:=(blk_get hb2).2.1 0;have g1:=(blk_get hb2).2.1 1;have g2:=(blk_get hb2).2.1 2;have bl1:=(blk_get hb1).2.2;have bl2:=(blk_get hb2).2.2;simp only [List.getElem?_toArray,List.getElem?_cons_zero,List.getElem?_cons_succ] at c0 c1 c2 d0 d1 d2;have HEND:Hid (St w0 fp0 (Z::R) (((w1.setCell ⟨vb+1,0,none⟩ (.int .i64 cols)).setCell ⟨vb+1,1,none⟩ (.slice a n c)).setCell ⟨vb+1,2,none⟩ (.int .i64 next))):=cpRS hs;clear hb1 hb2 hs H1 HSTO;go_wp2;refine bodyPost_ret (v:=.tuple #[.agg #[.int .i64 cols, .slice a n c, .int .i64 next], .int .i64 1]) (by clear HV HAL HSL HST HEND;simp [results,Tryz.results49,go_sem, *]) rfl ?_;exact ⟨_,rfl, .inr ⟨rfl,rfl,HEND.out⟩⟩
     · go_wp2_with (first
        | (go_at_call 80;(with_reducible refine (limit_calls _).mono ?_);rintro e w1 ⟨rfl,rfl⟩))
       (with_reducible refine HSTO.out.mono ?_);rintro e w1 ⟨rfl,hb⟩;have H2:Hid (∃s,s=(l.take 0).foldl (stepP k X) ([],false)/\St w0 fp0 (riA (.slice none 0 0) s.1::blkA vb 44 #[.int .i64 cols, .slice a n c, .int .i64 next]::blkA (vb+1) 44 #[.int .i64 0, .slice none 0 0, .int .i64 0]::Z::R) w1):=by refine ⟨_,rfl,?_⟩;rw [List.take_zero];have h:=(H1.out.mono hb).nilR 109 2;exact St_re (L:=[_,_,_,_]) h [0,2,3,1] [] (by kernel_rfl)
       clear HEND c0 c1 c2 d0 d1 d2 g0 g1 g2 bl1 bl2 hb H1 HSTO;obtain ⟨s0,hs0,hs⟩:=H2.out;obtain ⟨_,hb1⟩:=hs.has 1 rfl;have c1:=(blk_get hb1).1 1;have bl1:=(blk_get hb1).2.2;simp only [List.getElem?_toArray,List.getElem?_cons_zero,List.getElem?_cons_succ] at c1;clear hs hs0 hb1;go_wp2;go_loopg [8,9,10] n (λ g z8 z9 z wr=> ∃(i:Nat) (b:Bool),z=.int .i64 i/\z9=.bool b/\g+i=n/\Hid (∃s,s=(l.take i).foldl (stepP k X) ([],false)/\b=s.2/\St w0 fp0 (riA z8 s.1::blkA vb 44 #[.int .i64 cols, .slice a n c, .int .i64 next]::blkA (vb+1) 44 #[.int .i64 0, .slice none 0 0, .int .i64 0]::Z::R) wr))
       case atStart=>
        obtain ⟨s0,hs0,hs⟩:=H2.out;exact ⟨0,false,rfl,rfl,rfl,s0,hs0,by rw [hs0];rfl,hs⟩
       case round=>
        clear H2 c1 bl1;obtain ⟨i,b,rfl,rfl,hgi,Hs⟩:=hrel;obtain ⟨s,hs0,hbs,hs⟩:=Hs.out;obtain ⟨_,hb1⟩:=hs.has 1 rfl;obtain ⟨_,hb2⟩:=hs.has 2 rfl;have c0:=(blk_get hb1).1 0;have c1:=(blk_get hb1).1 1;have c2:=(blk_get hb1).1 2;have f1:=(blk_get hb1).2.1 1;have f2:=(blk_get hb1).2.1 2;have d0:=(blk_get hb2).1 0;have d1:=(blk_get hb2).1 1;have d2:=(blk_get hb2).1 2;have g0:=(blk_get hb2).2.1 0;have g1:=(blk_get hb2).2.1 1;have g2:=(blk_get hb2).2.1 2;have bl1:=(blk_get hb1).2.2;have bl2:=(blk_get hb2).2.2;simp only [List.getElem?_toArray,List.getElem?_cons_zero,List.getElem?_cons_succ] at c0 c1 c2 d0 d1 d2;by_cases hi:i < n
        · have hil:i < l.length:=by rw [HN.out];exact hi
          have hst:=HST.out i hil;rw [<-hs0] at hst;have hp:=HZ.out.at (M:=[_,_,_]) hs;obtain ⟨lb,lo,c',e1,q1,q2⟩:=ri_cells (by rw [HN.out];exact hp) i hil;obtain ⟨rfl, -,rfl⟩:=Value.slice.inj e1;have hql:=World.block_lt_of_cell? _ _ q1;have hi':(i:Int) < n:=by omega
          have hlen:s.1.length+2 < 1099511627776:=by have h1:=HSL.out i;rw [<-hs0,List.length_take,List.length_nil] at h1;have:=HL.out;omega
          have Hlen:=Lib.hid hlen;have Hgi:=Lib.hid hgi;have Hst:=Lib.hid hst;have HS:=Lib.hid hs;have HY:=Lib.hid (List.getElem?_eq_getElem hil);clear e1 hgi hst hp hlen hb1 hb2 hs hs0 Hs d0 d1 d2 g0 g1 g2 bl2 f1 f2;generalize l[i]=y at *;clear hil;obtain ⟨yid,ya,yn,yc,yr⟩:=y;obtain ⟨out,pl⟩:=s;unfold Ri.v at q2;simp only at q1 q2 Hst hbs HS Hlen;subst hbs;cases b
          · by_cases hge:k<=yid
            · by_cases hx:yid=k
              · have hxk:(yid !=k)=false:=by simp [hx]
                have hx2:=Lib.hid hx;have hge2:=Lib.hid hge;clear hx;go_wp2_with (first | (at_builtin;refine wpList_appR rfl _ _ _ _ rfl rfl rfl appRI (HS.out.mono ((Below.refl _ _).alloc (Nat.le_refl _) _)) (src_litk (e':=109) (by kernel_rfl) _ 2 _ 1 _ _ _ #[.int .i64 k, .slice xa xn xc] (heap_alloc_new _ _) rfl (by simp;exact ⟨rfl,rfl⟩)) (by have:=Hlen.out;omega) ?_;intro v3 w3 h3;obtain ⟨k1,k2,k3,k4,k5⟩:=rp_cells (by rw [HN.out];exact HZ.out) h3.out HY.out;unfold Ri.v at k4;simp only at k3 k4));go_roundg (gk - 1)
                case rel=> exact ⟨i+1,true,by go_num,rfl,by have:=Hgi.out;omega,(out++[X],true),by rw [Hst.out];simp [stepP,hx2.out],rfl,(by have h4:=riA_snoc (⟨k,xa,xn,xc,xr⟩:Ri) h3.out;rw [HX.out] at h4;exact h4)⟩
                case measure=> have:=Hgi.out;omega
              · have hxk:(yid !=k)=true:=by simp [hx]
                have hx2:=Lib.hid hx;have hge2:=Lib.hid hge;clear hx
                go_wp2_with (first
                 | (at_builtin;refine wpList_appR rfl _ _ _ _ rfl rfl rfl appRI (HS.out.mono ((Below.refl _ _).alloc (Nat.le_refl _) _)) (src_litk (e':=109) (by kernel_rfl) _ 2 _ 1 _ _ _ #[.int .i64 k, .slice xa xn xc] (heap_alloc_new _ _) rfl (by simp;exact ⟨rfl,rfl⟩)) (by have:=Hlen.out;omega) ?_;intro v3 w3 h3;obtain ⟨k1,k2,k3,k4,k5⟩:=rp_cells (by rw [HN.out];exact HZ.out) h3.out HY.out;unfold Ri.v at k4;simp only at k3 k4)
                 | (at_builtin;refine wpList_appR rfl _ _ _ _ rfl rfl rfl appRI ((riA_snoc (⟨k,xa,xn,xc,xr⟩:Ri) h3.out).mono ((Below.refl _ _).alloc (Nat.le_refl _) _)) (src_litk (e':=109) (by kernel_rfl) _ 2 _ 1 _ _ _ #[.int .i64 yid, .slice ya yn yc] (heap_alloc_new _ _) rfl (by simp;exact ⟨rfl,rfl⟩)) (by have:=Hlen.out;simp;omega) ?_;intro v4 w4 h4))
                go_roundg (gk - 1)
                case rel=> exact ⟨i+1,true,by go_num,rfl,by have:=Hgi.out;omega,(out++[X]++[⟨yid,ya,yn,yc,yr⟩],true),by rw [Hst.out];simp [stepP,hx2.out,hge2.out],rfl,(by have h5:=riA_snoc (⟨yid,ya,yn,yc,yr⟩:Ri) h4.out;rw [HX.out] at h5;exact h5)⟩
                case measure=> have:=Hgi.out;omega
            · have hx:¬ yid=k:=by omega
              have hxk:(yid !=k)=true:=by simp [hx]
              have hx2:=Lib.hid hx;have hge2:=Lib.hid hge;clear hx;go_wp2_with (first | (at_builtin;refine wpList_appR rfl _ _ _ _ rfl rfl rfl appRI (HS.out.mono ((Below.refl _ _).alloc (Nat.le_refl _) _)) (src_litk (e':=109) (by kernel_rfl) _ 2 _ 1 _ _ _ #[.int .i64 yid, .slice ya yn yc] (heap_alloc_new _ _) rfl (by simp;exact ⟨rfl,rfl⟩)) (by have:=Hlen.out;omega) ?_;intro v3 w3 h3;obtain ⟨k1,k2,k3,k4,k5⟩:=rp_cells (by rw [HN.out];exact HZ.out) h3.out HY.out;unfold Ri.v at k4;simp only at k3 k4));go_roundg (gk - 1)
              case rel=> exact ⟨i+1,false,by go_num,rfl,by have:=Hgi.out;omega,(out++[⟨yid,ya,yn,yc,yr⟩],false),by rw [Hst.out];have h9:¬ k<=yid:=(by have:=hge2.out;omega);simp [stepP,hx2.out,if_neg h9],rfl,riA_snoc (⟨yid,ya,yn,yc,yr⟩:Ri) h3.out⟩
              case measure=> have:=Hgi.out;omega
          · by_cases hx:yid=k
            · have hxk:(yid !=k)=false:=by simp [hx]
              have hx2:=Lib.hid hx;clear hx;go_wp2;go_roundg (gk - 1)
              case rel=> exact ⟨i+1,true,by go_num,rfl,by have:=Hgi.out;omega,(out,true),by rw [Hst.out];simp [stepP,hx2.out],rfl,HS.out⟩
              case measure=> have:=Hgi.out;omega
            · have hxk:(yid !=k)=true:=by simp [hx]
              have hx2:=Lib.hid hx;clear hx;go_wp2_with (first | (at_builtin;refine wpList_appR rfl _ _ _ _ rfl rfl rfl appRI (HS.out.mono ((Below.refl _ _).alloc (Nat.le_refl _) _)) (src_litk (e':=109) (by kernel_rfl) _ 2 _ 1 _ _ _ #[.int .i64 yid, .slice ya yn yc] (heap_alloc_new _ _) rfl (by simp;exact ⟨rfl,rfl⟩)) (by have:=Hlen.out;omega) ?_;intro v3 w3 h3;obtain ⟨k1,k2,k3,k4,k5⟩:=rp_cells (by rw [HN.out];exact HZ.out) h3.out HY.out;unfold Ri.v at k4;simp only at k3 k4));go_roundg (gk - 1)
              case rel=> exact ⟨i+1,true,by go_num,rfl,by have:=Hgi.out;omega,(out++[⟨yid,ya,yn,yc,yr⟩],true),by rw [Hst.out];simp [stepP,hx2.out],rfl,riA_snoc (⟨yid,ya,yn,yc,yr⟩:Ri) h3.out⟩
              case measure=> have:=Hgi.out;omega
        · obtain rfl:i=n:=by omega
          rw [List.take_of_length_le (by rw [HN.out];exact Nat.le_refl _)] at hs0;obtain ⟨out,pl⟩:=s;simp only at hbs hs;subst hbs;have hal:=HAL.out;rw [<-hs0] at hal;have hlen:out.length+2 < 1099511627776:=by have h1:=HSL.out i;rw [List.take_of_length_le (by rw [HN.out];exact Nat.le_refl _),<-hs0,List.length_nil] at h1;have:=HL.out;simp only at h1;omega
          have Hlen:=Lib.hid hlen;have HS:=Lib.hid hs;have hw:IntKind.i64.wrap (k+1)=k+1:=IntWalk.i64_in _ (by omega);simp only at hal;have HALL:=Lib.hid hal;clear hs0 hgi hi hlen Hs hal hs hb1 hb2;cases b
          · go_upto_region 15 with (first | (at_builtin;refine wpList_appR rfl _ _ _ _ rfl rfl rfl appRI (HS.out.mono ((Below.refl _ _).alloc (Nat.le_refl _) _)) (src_litk (e':=109) (by kernel_rfl) _ 2 _ 1 _ _ _ #[.int .i64 k, .slice xa xn xc] (heap_alloc_new _ _) rfl (by simp;exact ⟨rfl,rfl⟩)) (by have:=Hlen.out;omega) ?_;intro v3 w3 h3))
            have H3:Hid (St w0 fp0 (riA v3 (putR k X l)::blkA vb 44 #[.int .i64 cols, .slice a i c, .int .i64 next]::blkA (vb+1) 44 #[.int .i64 0, .slice none 0 0, .int .i64 0]::Z::R) w3):=by have h4:=riA_snoc (⟨k,xa,xn,xc,xr⟩:Ri) h3.out;rw [HX.out] at h4;have h5:=HALL.out;rw [if_neg (by simp)] at h5;rw [h5] at h4;exact h4
            clear HS h3 c0 c1 c2 d0 d1 d2 f1 f2 g0 g1 g2 bl1 bl2 Hlen;have hs:=H3.out;obtain ⟨_,hb1⟩:=hs.has 1 rfl;obtain ⟨_,hb2⟩:=hs.has 2 rfl;have c0:=(blk_get hb1).1 0;have c1:=(blk_get hb1).1 1;have c2:=(blk_get hb1).1 2;have f1:=(blk_get hb1).2.1 1;have f2:=(blk_get hb1).2.1 2;have d0:=(blk_get hb2).1 0;have d1:=(blk_get hb2).1 1;have d2:=(blk_get hb2).1 2;have g0:=(blk_get hb2).2.1 0;have g1:=(blk_get hb2).2.1 1;have g2:=(blk_get hb2).2.1 2;have bl1:=(blk_get hb1).2.2;have bl2:=(blk_get hb2).2.2;simp only [List.getElem?_toArray,List.getElem?_cons_zero,List.getElem?_cons_succ] at c0 c1 c2 d0 d1 d2;obtain ⟨_,hrow⟩:=hs.has 0 rfl;obtain ⟨ya,yc,hyy⟩:=(riA_sl hrow).shape;subst hyy;obtain ⟨m,hm⟩:∃m,(putR k X l).length=m:=⟨_,rfl⟩
            rw [hm] at hs;have HF1:=Lib.hid (setRS hs (.slice ya m yc));have HF2:=Lib.hid (setRN hs (.slice ya m yc) (k+1));rw [hm];clear hs hrow hb1 hb2 hm H3;by_cases hnx:next<=k
            · have hmx:max next (k+1)=k+1:=by omega
              have HMX:=Lib.hid hmx;clear hmx;go_wp2;refine bodyPost_ret (v:=.tuple #[.agg #[.int .i64 cols, .slice ya m yc, .int .i64 (k+1)], .int .i64 0]) (by clear HV HAL HSL HST HF1 HF2;simp [results,Tryz.results49,go_sem, *]) rfl ?_;refine ⟨.slice ya m yc,?_, .inl ⟨rfl,?_⟩⟩
              · rw [HMX.out];rfl
              · rw [show X.id=k by rw [<-HX.out]]
                exact HF2.out
            · have hmx:max next (k+1)=next:=by omega
              have HMX:=Lib.hid hmx;clear hmx;go_wp2;refine bodyPost_ret (v:=.tuple #[.agg #[.int .i64 cols, .slice ya m yc, .int .i64 next], .int .i64 0]) (by clear HV HAL HSL HST HF1 HF2;simp [results,Tryz.results49,go_sem, *]) rfl ?_;refine ⟨.slice ya m yc,?_, .inl ⟨rfl,?_⟩⟩
              · rw [HMX.out];rfl
              · rw [show X.id=k by rw [<-HX.out]]
                exact HF1.out
          · have H3:Hid (St w0 fp0 (riA u8 (putR k X l)::blkA vb 44 #[.int .i64 cols, .slice a i c, .int .i64 next]::blkA (vb+1) 44 #[.int .i64 0, .slice none 0 0, .int .i64 0]::Z::R) wr):=by
             have h5:=HALL.out;rw [if_pos rfl] at h5;have h4:=HS.out;rw [h5] at h4;exact h4
            clear HS c0 c1 c2 d0 d1 d2 f1 f2 g0 g1 g2 bl1 bl2 Hlen;have hs:=H3.out;obtain ⟨_,hb1⟩:=hs.has 1 rfl;obtain ⟨_,hb2⟩:=hs.has 2 rfl;have c0:=(blk_get hb1).1 0;have c1:=(blk_get hb1).1 1;have c2:=(blk_get hb1).1 2;have f1:=(blk_get hb1).2.1 1;have f2:=(blk_get hb1).2.1 2;have d0:=(blk_get hb2).1 0;have d1:=(blk_get hb2).1 1;have d2:=(blk_get hb2).1 2;have g0:=(blk_get hb2).2.1 0;have g1:=(blk_get hb2).2.1 1;have g2:=(blk_get hb2).2.1 2;have bl1:=(blk_get hb1).2.2;have bl2:=(blk_get hb2).2.2;simp only [List.getElem?_toArray,List.getElem?_cons_zero,List.getElem?_cons_succ] at c0 c1 c2 d0 d1 d2;obtain ⟨_,hrow⟩:=hs.has 0 rfl;obtain ⟨ya,yc,hyy⟩:=(riA_sl hrow).shape;subst hyy;obtain ⟨m,hm⟩:∃m,(putR k X l).length=m:=⟨_,rfl⟩
            rw [hm] at hs;have HF1:=Lib.hid (setRS hs (.slice ya m yc));have HF2:=Lib.hid (setRN hs (.slice ya m yc) (k+1));rw [hm];clear hs hrow hb1 hb2 hm H3;by_cases hnx:next<=k
            · have hmx:max next (k+1)=k+1:=by omega
              have HMX:=Lib.hid hmx;clear hmx;go_wp2;refine bodyPost_ret (v:=.tuple #[.agg #[.int .i64 cols, .slice ya m yc, .int .i64 (k+1)], .int .i64 0]) (by clear HV HAL HSL HST HF1 HF2;simp [results,Tryz.results49,go_sem, *]) rfl ?_;refine ⟨.slice ya m yc,?_, .inl ⟨rfl,?_⟩⟩
              · rw [HMX.out];rfl
              · rw [show X.id=k by rw [<-HX.out]]
                exact HF2.out
            · have hmx:max next (k+1)=next:=by omega
              have HMX:=Lib.hid hmx;clear hmx;go_wp2;refine bodyPost_ret (v:=.tuple #[.agg #[.int .i64 cols, .slice ya m yc, .int .i64 next], .int .i64 0]) (by clear HV HAL HSL HST HF1 HF2;simp [results,Tryz.results49,go_sem, *]) rfl ?_;refine ⟨.slice ya m yc,?_, .inl ⟨rfl,?_⟩⟩
              · rw [HMX.out];rfl
              · rw [show X.id=k by rw [<-HX.out]]
                exact HF1.out
def chkT (cols:Nat) (L:LL) (id:Int) (old new:Rw):Int:=
 if ¬ (1<=id/\id<=4611686018427387904)\/(old=[]/\new=[])\/(new≠[]/\storB cols new=false) then 1
 else if old=[] then (if (getL L id).isSome then 5 else 0) else if getL L id=some old then 0 else 4
def appT (cols:Nat) (id:Int) (new:Rw) (L:LL):LL:=if new=[] then delL id L else putLL cols id new L
def appN (cols:Nat) (id:Int) (new:Rw) (next:Int):Int:=if new=[] then next else putN cols id new next
theorem chkT_ok {cols:Nat} {L:LL} {id:Int} {old new:Rw} (h:chkT cols L id old new=0):(1<=id/\id<=4611686018427387904)/\¬ (old=[]/\new=[])/\(new≠[]->storB cols new=true)/\((old=[]/\getL L id=none)\/(old≠[]/\getL L id=some old)):=by
 unfold chkT at h;split at h
 · cases h
 rename_i h1
 refine ⟨Classical.byContradiction λ x=> h1 (.inl x),λ e=> h1 (.inr (.inl e)),λ e=> by
  cases q:storB cols new with
  | true=> rfl
  | false=> exact absurd (.inr (.inr ⟨e,q⟩)) h1,?_⟩
 split at h
 · rename_i e
   split at h
   · cases h
   · rename_i g
     exact .inl ⟨e,by simpa using g⟩
 · rename_i e
   split at h
   · rename_i g
     exact .inr ⟨e,g⟩
   · cases h
section
structure Td where
 nm:ByteArray
 ca:Option Addr
 n:Nat
 cc:Nat
 kv:Value
 fv:Value
 xa:Option Addr
 xn:Nat
 xc:Nat
 cvs:List Value
 kvs:List Value
 fvs:List Value
 K:List (List Int)
 F:List (List Int)
def Td.c (t:Td):List Value:=[.string t.nm, .slice t.ca t.n t.cc,t.kv,t.fv, .slice t.xa t.xn t.xc]
structure Td.X (w:World) (t:Td):Prop where
 cols:SlX [] w 6 t.n t.cvs (.slice t.ca t.n t.cc)
 one:∀u∈t.cvs,u.oneCell'=true
 keys:KeysX w t.kvs t.K t.kv
 fors:ForsX w t.fvs t.F t.fv
structure Td.Sm (t:Td):Prop where
 n:t.n<=1000
 k:t.K.length<=1000
 f:t.F.length<=1000
 kl:∀c∈t.K,c.length<=1000
 fl:∀c∈t.F,c.length<=1000
theorem KeysX.mono {w w':World} {vs:List Value} {ks:List (List Int)} {v:Value} (h:KeysX w vs ks v) (hb:Below w.heap.size w w'):KeysX w' vs ks v:=⟨h.1.mono hb,λ i hi=> by
 obtain ⟨u,h1,h2⟩:=h.2 i hi;exact ⟨u,h1,h2.mono hb⟩⟩
theorem ForsX.mono {w w':World} {vs:List Value} {ks:List (List Int)} {v:Value} (h:ForsX w vs ks v) (hb:Below w.heap.size w w'):ForsX w' vs ks v:=⟨h.1.mono hb,λ i hi=> by
 obtain ⟨u,a,b,h1,h2,h3,h4⟩:=h.2 i hi;exact ⟨u,a,b,h1,h2,h3,h4.mono hb⟩⟩
theorem Td.X.mono {w w':World} {t:Td} (h:t.X w) (hb:Below w.heap.size w w'):t.X w':=⟨h.cols.mono hb,h.one,h.keys.mono hb,h.fors.mono hb⟩
structure SchX (w:World) (l:List Td) (v:Value):Prop where
 sl:SlX [] w 5 l.length (l.flatMap Td.c) v
 td:∀t∈l,t.X w
theorem SchX.mono {w w':World} {l:List Td} {v:Value} (h:SchX w l v) (hb:Below w.heap.size w w'):SchX w' l v:=⟨h.sl.mono hb,λ t ht=> (h.td t ht).mono hb⟩
theorem tdc_len (t:Td):t.c.length=5:=rfl
theorem SchX.cells {w:World} {l:List Td} {v:Value} (h:SchX w l v) (i:Nat) (hi:i < l.length):∃b o c,v=.slice (some ⟨b,o,none⟩) l.length c/\b < w.heap.size/\w.cell? ⟨b,o+i * 5,none⟩=some (.string l[i].nm)/\w.cell? ⟨b,o+i * 5+1,none⟩=some (.slice l[i].ca l[i].n l[i].cc)/\w.cell? ⟨b,o+i * 5+2,none⟩=some l[i].kv/\w.cell? ⟨b,o+i * 5+3,none⟩=some l[i].fv/\w.cell? ⟨b,o+i * 5+4,none⟩=some (.slice l[i].xa l[i].xn l[i].xc):=by
 obtain ⟨b,o,c,e, -,hb,hc⟩:=rec_cells (by decide) tdc_len h.sl i hi;exact ⟨b,o,c,e,hb,hc 0 _ rfl,hc 1 _ rfl,hc 2 _ rfl,hc 3 _ rfl,hc 4 _ rfl⟩
structure Chg where
 tb:Int
 id:Int
 oa:Option Addr
 oc:Nat
 na:Option Addr
 nc:Nat
 old:Rw
 new:Rw
def Chg.ov (c:Chg):Value:=.slice c.oa c.old.length c.oc
def Chg.nv (c:Chg):Value:=.slice c.na c.new.length c.nc
def Chg.c (c:Chg):List Value:=[.int .i64 c.tb, .int .i64 c.id,c.ov,c.nv]
def Chg.v (c:Chg):Value:=.agg #[.int .i64 c.tb, .int .i64 c.id,c.ov,c.nv]
structure Chg.X (w:World) (c:Chg):Prop where
 old:ValsAt w c.old c.ov
 new:ValsAt w c.new c.nv
structure Chg.Ok (c:Chg):Prop where
 tb:I64 c.tb
 id:I64 c.id
 old:∀v∈c.old,I64 v.int
 new:∀v∈c.new,I64 v.int
structure ChsX (w:World) (l:List Chg) (v:Value):Prop where
 sl:SlX [] w 4 l.length (l.flatMap Chg.c) v
 ch:∀c∈l,c.X w
theorem chc_len (t:Chg):t.c.length=4:=rfl
theorem ChsX.cells {w:World} {l:List Chg} {v:Value} (h:ChsX w l v) (i:Nat) (hi:i < l.length):∃b o c,v=.slice (some ⟨b,o,none⟩) l.length c/\b < w.heap.size/\w.cell? ⟨b,o+i * 4,none⟩=some (.int .i64 l[i].tb)/\w.cell? ⟨b,o+i * 4+1,none⟩=some (.int .i64 l[i].id)/\w.cell? ⟨b,o+i * 4+2,none⟩=some l[i].ov/\w.cell? ⟨b,o+i * 4+3,none⟩=some l[i].nv:=by
 obtain ⟨b,o,c,e, -,hb,hc⟩:=rec_cells (by decide) chc_len h.sl i hi;exact ⟨b,o,c,e,hb,hc 0 _ rfl,hc 1 _ rfl,hc 2 _ rfl,hc 3 _ rfl⟩
structure Rs where
 cols:Nat
 la:Option Addr
 lc:Nat
 next:Int
 l:List Ri
def Rs.lv (m:Rs):Value:=.slice m.la m.l.length m.lc
def Rs.c (m:Rs):List Value:=[.int .i64 m.cols,m.lv, .int .i64 m.next]
structure RefX (w:World) (l:List Rs) (v:Value):Prop where
 sl:SlX [] w 3 l.length (l.flatMap Rs.c) v
 ri:∀m∈l,RiX w m.l m.lv
theorem rsc_len (t:Rs):t.c.length=3:=rfl
theorem RefX.cells {w:World} {l:List Rs} {v:Value} (h:RefX w l v) (i:Nat) (hi:i < l.length):∃b o c,v=.slice (some ⟨b,o,none⟩) l.length c/\b < w.heap.size/\w.cell? ⟨b,o+i * 3,none⟩=some (.int .i64 l[i].cols)/\w.cell? ⟨b,o+i * 3+1,none⟩=some l[i].lv/\w.cell? ⟨b,o+i * 3+2,none⟩=some (.int .i64 l[i].next):=by
 obtain ⟨b,o,c,e, -,hb,hc⟩:=rec_cells (by decide) rsc_len h.sl i hi;exact ⟨b,o,c,e,hb,hc 0 _ rfl,hc 1 _ rfl,hc 2 _ rfl⟩
theorem St.setR {w0 w:World} {fp0:List Nat} {R:List Asn} {t:TypeId} {size g n c:Nat} {xs:List Value} (h:St w0 fp0 (rowA t size (.slice (some ⟨g,0,none⟩) n c) n xs::R) w) (i:Nat) (v:Value):St w0 fp0 (rowA t size (.slice (some ⟨g,0,none⟩) n c) n (xs.set i v)::R) (w.setCell ⟨g,i,none⟩ v):=by
 obtain ⟨f,hf,hk⟩:=h.get 0 rfl;obtain ⟨h1,h2⟩:=hf;obtain ⟨h3,h4⟩:=h1.stored i v;refine hk _ _ [g] ⟨h3,rfl⟩ ?_;rw [h2];exact Tr.of_grown (o:=some g) (o':=some g) h4 (λ k hk=> .inl hk)
theorem St.addF {w0 w w':World} {fp0:List Nat} {L:List Asn} {A:Asn} {f:List Nat} (h:St w0 fp0 L w) (ha:A.p w' f) (hb:Below w.heap.size w w') (hn:∀k∈f,w.heap.size<=k):St w0 fp0 (A::L) w':=
 (h.add hb ha hn).perm List.perm_append_comm
abbrev Db:=List (Nat×LL×Int)
def Rs.d (m:Rs):Nat×LL×Int:=(m.cols,riL m.l,m.next)
structure Tb where
 S:Nat
 cols:Nat
 I:List (List Int)
 L:LL
 next:Int
def Tb.d (t:Tb):Nat×LL×Int:=(t.cols,t.L,t.next)
def tbA (t:Tb):Asn:=storeA t.S t.cols t.I t.L t.next
theorem map_pick {α β:Type} (f:α->β) (l:List α) (i:Nat) (h:i < l.length):(l.map f).Perm (f l[i]::(l.eraseIdx i).map f):=by
 induction l generalizing i with
 | nil=> simp at h
 | cons x l ih=>
  cases i with
  | zero=> exact List.Perm.refl _
  | succ i=>
   have:=ih i (by simpa using h);simp only [List.map_cons,List.getElem_cons_succ,List.eraseIdx_cons_succ];exact (List.Perm.cons _ this).trans (List.Perm.swap _ _ _)
theorem map_place {α β:Type} (f:α->β) (l:List α) (i:Nat) (y:α) (h:i < l.length):((l.set i y).map f).Perm (f y::(l.eraseIdx i).map f):=by
 induction l generalizing i with
 | nil=> simp at h
 | cons x l ih=>
  cases i with
  | zero=> exact List.Perm.refl _
  | succ i=>
   have:=ih i (by simpa using h);simp only [List.map_cons,List.set_cons_succ,List.eraseIdx_cons_succ];exact (List.Perm.cons _ this).trans (List.Perm.swap _ _ _)
def schA (v:Value) (td:List Td):Asn:=exA λ X:List Asn=> starA (pureA (∀w f,Star w X f->SchX w td v)::X)
theorem schA_at {v:Value} {td:List Td} {w:World} {f:List Nat} (h:(schA v td).p w f):SchX w td v:=by
 obtain ⟨X,g,f2,⟨h1,rfl⟩,h2, -,rfl⟩:=h;exact h1 w _ h2
theorem St.schA {w0 w:World} {fp0:List Nat} {R X:List Asn} {v:Value} {td:List Td} (h:∀w f,Star w X f->SchX w td v) (hs:St w0 fp0 (X++R) w):St w0 fp0 (schA v td::R) w:=by
 have h1:St w0 fp0 ((pureA (∀w f,Star w X f->SchX w td v)::X)++R) w:=St.pure.2 ⟨h,hs⟩;exact h1.fold λ f hf=> ⟨X,hf⟩
structure StQ where
 sa:Option Addr
 sc:Nat
 ta:Option Addr
 tc:Nat
 td:List Td
 ts:List Tb
def StQ.sv (q:StQ):Value:=.slice q.sa q.td.length q.sc
def StQ.tv (q:StQ):Value:=.slice q.ta q.ts.length q.tc
structure StQ.Ok (q:StQ) (D:Db):Prop where
 d:q.ts.map Tb.d=D
 n:q.td.map (·.n)=D.map (·.1)
 sm:∀t∈q.td,t.Sm
 len:q.td.length<=1000
def dbP (b:Nat) (q:StQ):List Asn:=blkA b 104 #[q.sv,q.tv]::schA q.sv q.td::slA 46 q.tv (q.ts.map λ t=> ptrV t.S)::[]
def stA (b:Nat) (D:Db):Asn:=exA λ q:StQ=> starA (pureA (q.Ok D)::(dbP b q++q.ts.map tbA))
section
variable {w0 w:World} {fp0:List Nat} {R:List Asn} {b:Nat} {D:Db}
theorem St.openD (hs:St w0 fp0 (stA b D::R) w):∃q:StQ,q.Ok D/\St w0 fp0 (dbP b q++(q.ts.map tbA++R)) w:=by
 obtain ⟨q,h1⟩:=hs.unfold (L1:=λ q:StQ=> pureA (q.Ok D)::(dbP b q++q.ts.map tbA)) λ f ⟨q,hq⟩=> ⟨q,hq⟩
 have h2:=St.pure.1 h1;exact ⟨q,h2.1,List.append_assoc (dbP b q) (q.ts.map tbA) R ▸ h2.2⟩
theorem St.shutD {q:StQ} (hk:q.Ok D) (hs:St w0 fp0 (dbP b q++(q.ts.map tbA++R)) w):St w0 fp0 (stA b D::R) w:=by
 have h1:St w0 fp0 ((pureA (q.Ok D)::(dbP b q++q.ts.map tbA))++R) w:=St.pure.2 ⟨hk,by have e:=List.append_assoc (dbP b q) (q.ts.map tbA) R;rw [<-e] at hs;exact hs⟩;exact h1.fold λ f hf=> ⟨q,hf⟩
theorem St.pickT {q:StQ} (hs:St w0 fp0 (dbP b q++(q.ts.map tbA++R)) w) (i:Nat) (hi:i < q.ts.length):St w0 fp0 (tbA q.ts[i]::(dbP b q++((q.ts.eraseIdx i).map tbA++R))) w:=
 hs.perm ((List.Perm.append_left _ (List.Perm.append_right R (map_pick tbA q.ts i hi))).trans List.perm_middle)
theorem St.placeT {q:StQ} {i:Nat} {t:Tb} (hi:i < q.ts.length) (hs:St w0 fp0 (tbA t::(dbP b q++((q.ts.eraseIdx i).map tbA++R))) w):St w0 fp0 (dbP b q++((q.ts.set i t).map tbA++R)) w:=
 hs.perm ((List.Perm.append_left _ (List.Perm.append_right R (map_place tbA q.ts i t hi))).trans List.perm_middle).symm
end
theorem StQ.Ok.tlen {q:StQ} {D:Db} (h:q.Ok D):q.ts.length=D.length:=by rw [<-h.d,List.length_map]
theorem StQ.Ok.dlen {q:StQ} {D:Db} (h:q.Ok D):q.td.length=D.length:=by
 have:=congrArg List.length h.n;simpa using this
theorem StQ.Ok.at {q:StQ} {D:Db} (h:q.Ok D) (i:Nat) (hi:i < q.ts.length):D[i]? =some (q.ts[i].cols,q.ts[i].L,q.ts[i].next):=by
 rw [<-h.d,List.getElem?_map,List.getElem?_eq_getElem hi];rfl
theorem StQ.Ok.tdn {q:StQ} {D:Db} (h:q.Ok D) (i:Nat) (hi:i < q.ts.length) (hd:i < q.td.length):q.td[i].n=q.ts[i].cols:=by
 have h1:=congrArg (λ l=> l[i]?) h.n;simp only [List.getElem?_map] at h1;rw [h.at i hi,List.getElem?_eq_getElem hd] at h1;simpa using h1
theorem StQ.Ok.put {q:StQ} {D:Db} (h:q.Ok D) (i:Nat) (hi:i < q.ts.length) (L:LL) (next:Int):StQ.Ok { q with ts:=q.ts.set i { q.ts[i] with L:=L,next:=next } } (D.set i (q.ts[i].cols,L,next)):=by
 refine ⟨?_,?_,h.sm,h.len⟩
 · rw [List.map_set,h.d]
   rfl
 · show q.td.map (·.n)=_
   rw [h.n,List.map_set];have h2:=h.at i hi;have h3:(D.map (·.1))[i]? =some q.ts[i].cols:=by rw [List.getElem?_map,h2];rfl
   obtain ⟨h4,h5⟩:=List.getElem?_eq_some_iff.1 h3;rw [<-h5,List.set_getElem_self]
end
section
open Go.ChangeShapes Go.ChangeAt Go.WideShapes
theorem cCOL:Tryz.prog.cellsOf 146=6:=by kernel_rfl
theorem cTABLE:Tryz.prog.cellsOf 89=5:=by kernel_rfl
theorem cFOR:Tryz.prog.cellsOf 92=3:=by kernel_rfl
theorem cCOLS:Tryz.prog.cellsOf 84=1:=by kernel_rfl
theorem cISS:Tryz.prog.cellsOf 85=1:=by kernel_rfl
theorem cFORS:Tryz.prog.cellsOf 86=1:=by kernel_rfl
theorem cEXPRS:Tryz.prog.cellsOf 87=1:=by kernel_rfl
theorem cEXPR:Tryz.prog.cellsOf 292=8:=by kernel_rfl
theorem cBOOL:Tryz.prog.cellsOf 4=1:=by kernel_rfl
structure Clm where
 nm:ByteArray
 ty:Int
 lo:Int
 hi:Int
 mx:Int
 nn:Bool
def Clm.c (c:Clm):List Value:=[.string c.nm, .int .i64 c.ty, .int .i64 c.lo, .int .i64 c.hi, .int .i64 c.mx, .bool c.nn]
instance:Inhabited Clm:=⟨⟨⟨#[]⟩,0,0,0,0,false⟩⟩
instance:Inhabited Td:=⟨⟨⟨#[]⟩,none,0,0, .slice none 0 0, .slice none 0 0,none,0,0,[],[],[],[],[]⟩⟩
instance:Inhabited Chg:=⟨⟨0,0,none,0,none,0,[],[]⟩⟩
section
variable {H:Type} {enc:TypeId×Value->H} {w:World}
theorem read_col {fuel:Nat} {cs:List Value} {x:DataW H×List MemPlace} (h:DataW.trod enc Tryz.prog w 0 (λ _=> true) true fuel 146 cs=some x):∃c:Clm,cs=c.c:=by
 obtain ⟨xs,n, -,rfl,hl,hxl,hx⟩:=DataW.trod_struct Tryz.underlying146 h;rw [cCOL] at hl
 match cs,hl,hx with
 | [a,b,c,d,e,f],_,hx=>
  match xs,hxl,hx with
  | [x0,x1,x2,x3,x4,x5],_,hx=>
   have h0:=hx 0 _ rfl;have h1:=hx 1 _ rfl;have h2:=hx 2 _ rfl;have h3:=hx 3 _ rfl;have h4:=hx 4 _ rfl;have h5:=hx 5 _ rfl;simp only [List.getElem_toArray,List.getElem_cons_zero,List.getElem_cons_succ,cINT,cI64,cSTR,cBOOL] at h0 h1 h2 h3 h4 h5;obtain ⟨t,e0, -, -⟩:=DataW.trod_string Tryz.underlying9 (by simpa using h0);obtain ⟨i1,e1, -, -⟩:=DataW.trod_int Tryz.underlying3 (by simpa using h1);obtain ⟨i2,e2, -, -⟩:=DataW.trod_int Tryz.underlying2 (by simpa using h2);obtain ⟨i3,e3, -, -⟩:=DataW.trod_int Tryz.underlying2 (by simpa using h3);obtain ⟨i4,e4, -, -⟩:=DataW.trod_int Tryz.underlying3 (by simpa using h4);obtain ⟨b5,e5, -⟩:=DataW.trod_bool Tryz.underlying4 (by simpa using h5);cases e0;cases e1;cases e2;cases e3;cases e4;cases e5;exact ⟨⟨t,i1,i2,i3,i4,b5⟩,rfl⟩
theorem clm_one (l:List Clm):∀u∈l.flatMap Clm.c,u.oneCell'=true:=by
 intro u hu;obtain ⟨m, -,hm⟩:=List.mem_flatMap.1 hu;unfold Clm.c at hm;simp only [List.mem_cons,List.not_mem_nil,or_false] at hm;rcases hm with rfl | rfl | rfl | rfl | rfl | rfl <;> rfl
theorem read_cols {fuel:Nat} {s:Value} {x:DataW H×List MemPlace} (h:DataW.trod enc Tryz.prog w 0 (λ _=> true) true fuel 84 [s]=some x):∃a n c cvs,s=.slice a n c/\SlX [] w 6 n cvs (.slice a n c)/\∀u∈cvs,u.oneCell'=true:=by
 rcases slice_read Tryz.underlying84 cCOL (by omega) h with ⟨a,e⟩ | ⟨b,o,len,cap,k,D,R,e,hb,hlc,hcm,rfl,hxD,hDl,hel⟩
 · cases e
   exact ⟨_,_,_,[],rfl,SlX.nil _ _ _ _ _,by simp⟩
 · cases e
   obtain ⟨l,h1, -⟩:=slx_read (w:=w) (cap:=cap) (sz:=6) (by omega) Clm.c (λ _=> rfl) (P:=λ _=> True) (b:=b) (o:=o) (len:=len) (Nat.le_trans hlc hcm) (λ i hi=> by obtain ⟨cs',pl, -,hc,ht⟩:=hel i (by rw [hDl];exact hi);obtain ⟨y,rfl⟩:=read_col ht;exact ⟨y,hc,trivial⟩);have e:=h1.len.1;rw [<-e] at h1;exact ⟨_,_,_,_,rfl,h1,clm_one l⟩
theorem read_slice {e t:TypeId} {fuel sz:Nat} {s:Value} {x:DataW H×List MemPlace} (ht:Tryz.prog.underlying t=some (.slice e)) (hsz:Tryz.prog.cellsOf e=sz) (h0:0 < sz) (h:DataW.trod enc Tryz.prog w 0 (λ _=> true) true fuel t [s]=some x):∃a n c,s=.slice a n c:=by
 rcases slice_read ht hsz h0 h with ⟨a,e⟩ | ⟨b,o,len,cap,k,D,R,e, -⟩
 · cases e
   exact ⟨_,_,_,rfl⟩
 · cases e
   exact ⟨_,_,_,rfl⟩
structure Il where
 v:Value
 l:List Int
structure Fl where
 v:Value
 a:Int
 b:Int
 l:List Int
instance:Inhabited Il:=⟨⟨.slice none 0 0,[]⟩⟩
instance:Inhabited Fl:=⟨⟨.slice none 0 0,0,0,[]⟩⟩
theorem read_keys {fuel:Nat} {s:Value} {x:DataW H×List MemPlace} (h:DataW.trod enc Tryz.prog w 0 (λ _=> true) true fuel 85 [s]=some x):∃vs K,KeysX w vs K s:=by
 rcases slice_read Tryz.underlying85 cIS (by omega) h with ⟨a,e⟩ | ⟨b,o,len,cap,k,D,R,e,hb,hlc,hcm,rfl,hxD,hDl,hel⟩
 · cases e
   exact ⟨[],[],SlX.nil _ _ _ _ _,λ i hi=> absurd hi (by simp)⟩
 · cases e
   obtain ⟨l,h1,h2⟩:=slx_read (w:=w) (cap:=cap) (sz:=1) (by omega) (λ y:Il=> [y.v]) (λ _=> rfl) (P:=λ y=> IntsX [] w y.l y.v) (b:=b) (o:=o) (len:=len) (Nat.le_trans hlc hcm) (λ i hi=> by
    obtain ⟨cs',pl, -,hc,ht⟩:=hel i (by rw [hDl];exact hi);have hl:cs'.length=1:=by
     rcases slice_read Tryz.underlying90 cINT (by omega) ht with ⟨a,e⟩ | ⟨_,_,_,_,_,_,_,e, -⟩
     · rw [e];rfl
     · rw [e];rfl
    match cs',hl with
    | [u],_=>
     obtain ⟨K,hK, -⟩:=read_ints (s:=u) ht;exact ⟨⟨u,K⟩,hc,hK⟩)
   refine ⟨_,l.map (·.l),by rw [List.length_map];exact h1,λ i hi=> ?_⟩;rw [List.length_map] at hi;refine ⟨l[i].v,?_,?_⟩
   · have:=flatMap_get (g:=λ y:Il=> [y.v]) (sz:=1) (λ _=> rfl) l i 0 (by omega)
     rw [List.getElem?_eq_getElem hi] at this;rw [Nat.mul_one,Nat.add_zero] at this;rw [this];rfl
   · rw [List.getElem_map]
     exact h2 _ (List.getElem_mem hi)
theorem read_for {fuel:Nat} {cs:List Value} {x:DataW H×List MemPlace} (h:DataW.trod enc Tryz.prog w 0 (λ _=> true) true fuel 92 cs=some x):∃y:Fl,cs=[y.v, .int .i64 y.a, .int .i64 y.b]/\IntsX [] w y.l y.v:=by
 obtain ⟨xs,n, -,rfl,hl,hxl,hx⟩:=DataW.trod_struct Tryz.underlying92 h;rw [cFOR] at hl
 match cs,hl,hx with
 | [a,b,c],_,hx=>
  match xs,hxl,hx with
  | [x0,x1,x2],_,hx=>
   have h0:=hx 0 _ rfl;have h1:=hx 1 _ rfl;have h2:=hx 2 _ rfl;simp only [List.getElem_toArray,List.getElem_cons_zero,List.getElem_cons_succ,cINT,cIS] at h0 h1 h2;obtain ⟨K,hK, -⟩:=read_ints (s:=a) (x:=x0) (by simpa using h0);obtain ⟨i1,e1, -, -⟩:=DataW.trod_int Tryz.underlying3 (by simpa using h1);obtain ⟨i2,e2, -, -⟩:=DataW.trod_int Tryz.underlying3 (by simpa using h2);cases e1;cases e2;exact ⟨⟨a,i1,i2,K⟩,rfl,hK⟩
theorem read_fors {fuel:Nat} {s:Value} {x:DataW H×List MemPlace} (h:DataW.trod enc Tryz.prog w 0 (λ _=> true) true fuel 86 [s]=some x):∃vs F,ForsX w vs F s:=by
 rcases slice_read Tryz.underlying86 cFOR (by omega) h with ⟨a,e⟩ | ⟨b,o,len,cap,k,D,R,e,hb,hlc,hcm,rfl,hxD,hDl,hel⟩
 · cases e
   exact ⟨[],[],SlX.nil _ _ _ _ _,λ i hi=> absurd hi (by simp)⟩
 · cases e
   obtain ⟨l,h1,h2⟩:=slx_read (w:=w) (cap:=cap) (sz:=3) (by omega) (λ y:Fl=> [y.v, .int .i64 y.a, .int .i64 y.b]) (λ _=> rfl) (P:=λ y=> IntsX [] w y.l y.v) (b:=b) (o:=o) (len:=len) (Nat.le_trans hlc hcm) (λ i hi=> by obtain ⟨cs',pl, -,hc,ht⟩:=hel i (by rw [hDl];exact hi);obtain ⟨y,rfl,hy⟩:=read_for ht;exact ⟨y,hc,hy⟩);refine ⟨_,l.map (·.l),by rw [List.length_map];exact h1,λ i hi=> ?_⟩;rw [List.length_map] at hi;have hg:=λ r hr=> flatMap_get (g:=λ y:Fl=> [y.v, .int .i64 y.a, .int .i64 y.b]) (sz:=3) (λ _=> rfl) l i r hr;rw [List.getElem?_eq_getElem hi] at hg;refine ⟨l[i].v,l[i].a,l[i].b,?_,?_,?_,?_⟩
   · rw [show i * 3=i * 3+0 by omega,hg 0 (by omega)];rfl
   · rw [hg 1 (by omega)];rfl
   · rw [hg 2 (by omega)];rfl
   · rw [List.getElem_map]
     exact h2 _ (List.getElem_mem hi)
theorem read_table {fuel:Nat} {cs:List Value} {x:DataW H×List MemPlace} (h:DataW.trod enc Tryz.prog w 0 (λ _=> true) true fuel 89 cs=some x):∃t:Td,cs=t.c/\t.X w:=by
 obtain ⟨xs,n, -,rfl,hl,hxl,hx⟩:=DataW.trod_struct Tryz.underlying89 h;rw [cTABLE] at hl
 match cs,hl,hx with
 | [a,b,c,d,e],_,hx=>
  match xs,hxl,hx with
  | [x0,x1,x2,x3,x4],_,hx=>
   have h0:=hx 0 _ rfl;have h1:=hx 1 _ rfl;have h2:=hx 2 _ rfl;have h3:=hx 3 _ rfl;have h4:=hx 4 _ rfl;simp only [List.getElem_toArray,List.getElem_cons_zero,List.getElem_cons_succ,cSTR,cCOLS,cISS,cFORS,cEXPRS] at h0 h1 h2 h3 h4;obtain ⟨t,e0, -, -⟩:=DataW.trod_string Tryz.underlying9 (by simpa using h0);obtain ⟨ca,cn,cc,cvs,rfl,hC,hC1⟩:=read_cols (s:=b) (x:=x1) (by simpa using h1);obtain ⟨kvs,K,hK⟩:=read_keys (s:=c) (x:=x2) (by simpa using h2);obtain ⟨fvs,F,hF⟩:=read_fors (s:=d) (x:=x3) (by simpa using h3);obtain ⟨xa,xn,xc,rfl⟩:=read_slice (s:=e) (x:=x4) Tryz.underlying87 cEXPR (by omega) (by simpa using h4);cases e0;exact ⟨⟨t,ca,cn,cc,c,d,xa,xn,xc,cvs,kvs,fvs,K,F⟩,rfl,hC,hC1,hK,hF⟩
theorem open_schema {W:World} {base:Nat} {v:Value} {d:DataW H} {p:List MemPlace} (hok:Value.okWide Tryz.prog W .any base 23 v) (h:DataW.Trod enc Tryz.prog W 0 (λ _=> true) true 23 v d p):∃td,SchX W td v:=by
 obtain ⟨fuel,h⟩:=h;rw [cell_of_one_slice W Tryz.underlying23 hok] at h;rcases slice_read Tryz.underlying23 cTABLE (by omega) h with ⟨a,e⟩ | ⟨b,o,len,cap,k,D,R,e,hb,hlc,hcm,rfl,hxD,hDl,hel⟩
 · cases e
   exact ⟨[],SlX.nil _ _ _ _ _,by simp⟩
 · cases e
   obtain ⟨l,h1,h2⟩:=slx_read (w:=W) (cap:=cap) (sz:=5) (by omega) Td.c (λ _=> rfl) (P:=λ t=> t.X W) (b:=b) (o:=o) (len:=len) (Nat.le_trans hlc hcm) (λ i hi=> by obtain ⟨cs',pl, -,hc,ht⟩:=hel i (by rw [hDl];exact hi);obtain ⟨y,rfl,hy⟩:=read_table ht;exact ⟨y,hc,hy⟩);exact ⟨l,h1,h2⟩
end
end
def unN (l:List UInt8):Nat:=l.foldl (λ u c=> u * 256+c.toNat) 0
theorem unN_snoc (l:List UInt8) (c:UInt8):unN (l++[c])=unN l * 256+c.toNat:=by simp [unN,List.foldl_append]
theorem unN_acc (l:List UInt8) (u:Nat):l.foldl (λ u c=> u * 256+c.toNat) u=u * 256 ^ l.length+unN l:=by
 induction l generalizing u with
 | nil=> simp [unN]
 | cons c l ih=>
  rw [unN,List.foldl_cons,List.foldl_cons,ih,ih (0 * 256+c.toNat),List.length_cons,Nat.pow_succ];rw [Nat.add_mul,Nat.zero_mul,Nat.zero_add,Nat.mul_assoc,Nat.mul_comm 256];omega
theorem unN_cons (c:UInt8) (l:List UInt8):unN (c::l)=c.toNat * 256 ^ l.length+unN l:=by
 rw [unN,List.foldl_cons,unN_acc];simp
theorem unN_lt (l:List UInt8):unN l < 256 ^ l.length:=by
 induction l with
 | nil=> simp [unN]
 | cons c l ih=>
  rw [unN_cons,List.length_cons,Nat.pow_succ];have h:=c.toNat_lt;have:c.toNat * 256 ^ l.length<=255 * 256 ^ l.length:=Nat.mul_le_mul_right _ (by omega);omega
theorem beL_len:∀(k u:Nat),(beL k u).length=k
 | 0,_=> rfl
 | k+1,u=> by rw [beL,List.length_cons,beL_len k u]
theorem unN_be:∀(k u:Nat),unN (beL k u)=u % 256 ^ k
 | 0,u=> by simp [beL,unN,Nat.mod_one]
 | k+1,u=> by have hl:(beL k u).length=k:=beL_len k u;have h:u / 256 ^ k % 256 < 256:=Nat.mod_lt _ (by decide);rw [beL,unN_cons,hl,unN_be k u,UInt8.toNat_ofNat_of_lt' h,Nat.pow_succ,Nat.mod_mul,Nat.mul_comm];omega
theorem be_unN:∀(l:List UInt8),beL l.length (unN l)=l
 | []=> rfl
 | c::l=> by
  have hc:=c.toNat_lt;have hl:=unN_lt l;have hp:0 < 256 ^ l.length:=Nat.pow_pos (by decide);have h1:unN (c::l) / 256 ^ l.length % 256=c.toNat:=by rw [unN_cons,Nat.mul_comm,Nat.mul_add_div hp,Nat.div_eq_of_lt hl];omega
  have h2:beL l.length (unN (c::l))=beL l.length (unN l):=by
   have key:∀(k a b:Nat),a % 256 ^ k=b % 256 ^ k->beL k a=beL k b:=by
    intro k
    induction k with
    | zero=> intro a b _;rfl
    | succ k ih=>
     intro a b h;rw [Nat.pow_succ,Nat.mod_mul,Nat.mod_mul] at h;have hq:0 < 256 ^ k:=Nat.pow_pos (by decide);have a1:=Nat.mod_lt a hq;have b1:=Nat.mod_lt b hq;have e1:a % 256 ^ k=b % 256 ^ k:=by have:=congrArg (· % 256 ^ k) h;simpa [Nat.add_mul_mod_self_left,Nat.mod_mod] using this
     have e2:a / 256 ^ k % 256=b / 256 ^ k % 256:=by rw [e1] at h;exact Nat.eq_of_mul_eq_mul_left hq (by omega)
     rw [beL,beL,e2,ih a b e1]
   refine key _ _ _ ?_;rw [unN_cons,Nat.mul_comm,Nat.mul_add_mod]
  rw [List.length_cons,beL,h1,h2,be_unN l];simp
def unL (l:List UInt8):Int:=(unN l:Int) - 9223372036854775808
theorem unL_i64 {l:List UInt8} (h:l.length=8):I64 (unL l):=by
 have:=unN_lt l;rw [h] at this;unfold unL I64;omega
theorem numL_unL {l:List UInt8} (h:l.length=8):numL (unL l)=l:=by
 have h1:=be_unN l;rw [h] at h1;rw [numL_be];have e:uN (unL l)=unN l:=by unfold uN unL;omega
 rw [e,h1]
theorem unL_numL {n:Int} (h:I64 n):unL (numL n)=n:=by
 have:=unN_be 8 (uN n);rw [<-numL_be,Nat.mod_eq_of_lt (uN_lt h)] at this;unfold unL;rw [this];obtain ⟨h1,h2⟩:=h;unfold uN;omega
theorem numL_take {l:List UInt8} {n:Int} {m:List UInt8} (h:l=numL n++m):l.take 8=numL n/\l.drop 8=m:=by
 subst h;rw [<-numL_length n,List.take_left,List.drop_left];exact ⟨rfl,rfl⟩
theorem num_split {l:List UInt8} (h:8<=l.length):l=numL (unL (l.take 8))++l.drop 8:=by
 rw [numL_unL (by rw [List.length_take];omega),List.take_append_drop]
def RowV (r:Rw):Prop:=∀v∈r,okV v=true/\I64 v.int
def fstL:List UInt8->Option (Vl×List UInt8)
 | []=> none
 | c::l=> if c=1 then some (nullV,l) else if c=2 then (if 8<=l.length then some (⟨1,unL (l.take 8),⟨#[]⟩⟩,l.drop 8) else none)
  else if c=3 then (if (l.drop (l.takeWhile prB).length).head? =some 0/\(l.takeWhile prB).length<=16 then some (⟨2,0,textOf (l.takeWhile prB)⟩,l.drop ((l.takeWhile prB).length+1)) else none) else none
theorem takeW_app {p:UInt8->Bool} {a:List UInt8} {c:UInt8} {m:List UInt8} (h:a.all p=true) (hc:p c=false):(a++c::m).takeWhile p=a:=by
 induction a with
 | nil=> simp [hc]
 | cons x a ih=>
  rw [List.all_cons,Bool.and_eq_true] at h;rw [List.cons_append,List.takeWhile_cons,h.1,if_pos rfl,ih h.2]
theorem fstL_enc {v:Vl} (h:okV v=true) (hi:I64 v.int) (m:List UInt8):fstL (encL v++m)=some (v,m):=by
 obtain ⟨K,I,T⟩:=v;rcases okV_cases h with ⟨a1,a2,a3⟩ | ⟨a1,a2⟩ | ⟨a1,a2,a3,a4⟩ <;> simp only at a1 a2 hi
 · simp only at a3
   subst a1 a2 a3;rfl
 · subst a1 a2
   have hl:(numL I).length=8:=numL_length I;have h8:8<=(numL I++m).length:=by rw [List.length_append];omega
   obtain ⟨t1,t2⟩:=numL_take (m:=m) (n:=I) rfl;show fstL (2::(numL I++m))=_;rw [fstL,if_neg (by decide),if_pos rfl,if_pos h8,t1,t2,unL_numL hi];rfl
 · simp only at a3 a4
   subst a1 a2;obtain ⟨e1, -⟩:=esc_ok a3;have e2:encL ⟨2,0,T⟩++m=3::(bytes T++0::m):=by simp [encL,e1]
   have e3:=takeW_app (p:=prB) (m:=m) (c:=0) (a:=bytes T) a3 (by decide);have hl:(bytes T).length=T.size:=by simp [bytes]
   rw [e2,fstL,if_neg (by decide),if_neg (by decide),if_pos rfl,e3,List.drop_left,if_pos ⟨rfl,by rw [hl];exact a4⟩];have e4:textOf (bytes T)=T:=bytes_inj (bytes_textOf _);rw [e4];congr 2;rw [List.drop_append,List.drop_of_length_le (by omega),List.nil_append];have:(bytes T).length+1 - (bytes T).length=1:=by omega
   rw [this];rfl
theorem fstL_some {l m:List UInt8} {v:Vl} (h:fstL l=some (v,m)):okV v=true/\I64 v.int/\l=encL v++m:=by
 have i0:I64 0:=by unfold I64;omega
 cases l with
 | nil=> cases h
 | cons c l=>
  rw [fstL] at h;by_cases h1:c=1
  · rw [if_pos h1] at h
    cases h;subst h1;exact ⟨rfl,i0,rfl⟩
  · rw [if_neg h1] at h
    by_cases h2:c=2
    · rw [if_pos h2] at h
      by_cases h3:8<=l.length
      · rw [if_pos h3] at h
        cases h;subst h2;exact ⟨rfl,unL_i64 (by rw [List.length_take];omega),by
         show _=2::(numL _++_)
         rw [<-num_split h3]⟩
      · rw [if_neg h3] at h
        cases h
    · rw [if_neg h2] at h
      by_cases h3:c=3
      · rw [if_pos h3] at h
        by_cases h4:(l.drop (l.takeWhile prB).length).head? =some 0/\(l.takeWhile prB).length<=16
        · rw [if_pos h4] at h
          cases h;subst h3;have ha:(l.takeWhile prB).all prB=true:=List.all_takeWhile;have hp:prS (textOf (l.takeWhile prB))=true:=by rw [prS,bytes_textOf];exact ha
          have hs:(textOf (l.takeWhile prB)).size<=16:=by show (l.takeWhile prB).toArray.size<=16;simpa using h4.2
          refine ⟨by simp [okV,hp,hs],i0,?_⟩;obtain ⟨e1, -⟩:=esc_ok hp;rw [bytes_textOf] at e1;have e2:encL ⟨2,0,textOf (l.takeWhile prB)⟩=3::(l.takeWhile prB++[0]):=by simp [encL,bytes_textOf,e1]
          rw [e2];have e3:l=l.takeWhile prB++l.drop (l.takeWhile prB).length:=by
           have h5:l.take (l.takeWhile prB).length=l.takeWhile prB:=by
            have:=List.takeWhile_append_dropWhile (p:=prB) (l:=l)
            conv=> lhs;arg 2;rw [<-this]
            rw [List.take_left]
           conv=> lhs;rw [<-List.take_append_drop (l.takeWhile prB).length l,h5]
          have e4:l.drop (l.takeWhile prB).length=0::l.drop ((l.takeWhile prB).length+1):=by
           rw [<-List.drop_drop];generalize l.drop (l.takeWhile prB).length=d at h4 ⊢;cases d with
           | nil=> simp at h4
           | cons x d=>
            have:x=0:=by simpa using h4.1
            rw [this];rfl
          rw [List.cons_append,List.append_assoc,List.singleton_append,<-e4,<-e3]
        · rw [if_neg h4] at h
          cases h
      · rw [if_neg h3] at h
        cases h
def DecP (l:List UInt8):Option Rw->Prop
 | some r=> RowV r/\encR r=l
 | none=> ∀r,RowV r->encR r≠l
theorem encR_cons (v:Vl) (r:Rw):encR (v::r)=encL v++encR r:=rfl
theorem encR_app (r s:Rw):encR (r++s)=encR r++encR s:=List.flatMap_append
theorem encR_pre:∀{d r:Rw} {rest:List UInt8},RowV d->RowV r->encR r=encR d++rest->∃r',r=d++r'/\encR r'=rest/\RowV r'
 | [],r,rest,_,hr,h=> ⟨r,rfl,h,hr⟩
 | v::d,r,rest,hd,hr,h=> by
  have hv:=hd v (by simp);rw [encR_cons,List.append_assoc] at h;have h1:=fstL_enc hv.1 hv.2 (encR d++rest);rw [<-h] at h1;cases r with
  | nil=> cases h1
  | cons u r=>
   have hu:=hr u (by simp);rw [encR_cons,fstL_enc hu.1 hu.2] at h1;obtain ⟨rfl,h2⟩:=Prod.mk.inj (Option.some.inj h1);obtain ⟨r',e1,e2,e3⟩:=encR_pre (d:=d) (r:=r) (λ x hx=> hd x (by simp [hx])) (λ x hx=> hr x (by simp [hx])) h2;exact ⟨r',by rw [e1];rfl,e2,e3⟩
theorem encR_inj {r s:Rw} (hr:RowV r) (hs:RowV s) (h:encR r=encR s):r=s:=by
 obtain ⟨r',e1,e2, -⟩:=encR_pre (d:=s) (r:=r) (rest:=[]) hs hr (by rw [h,List.append_nil]);cases r' with
 | nil=> rw [e1,List.append_nil]
 | cons v r'=> obtain ⟨c,l,e, -⟩:=encL_head v;rw [encR_cons,e] at e2;cases e2
theorem DecP.fail {d:Rw} {rest:List UInt8} (hd:RowV d) (hne:rest≠[]) (h:fstL rest=none):DecP (encR d++rest) none:=by
 intro r hr e;obtain ⟨r', -,e2,hr'⟩:=encR_pre hd hr e;cases r' with
 | nil=> exact hne e2.symm
 | cons v r'=> have hv:=hr' v (by simp);rw [<-e2,encR_cons,fstL_enc hv.1 hv.2] at h;cases h
theorem RowV.snoc {d:Rw} {v:Vl} (hd:RowV d) (h1:okV v=true) (h2:I64 v.int):RowV (d++[v]):=by
 intro x hx;rcases List.mem_append.1 hx with h | h
 · exact hd x h
 · rw [List.mem_singleton.1 h];exact ⟨h1,h2⟩
theorem run_ixb (s:ByteArray) (c:Int) (w:World):(callFunc 208 #[.string s, .int .u8 c]).run Tryz.prog w=.ok (.value (.int .i64 (Lib.indexByte (bytes s) c.toNat.toUInt8))) w:=by
 rw [run_callFunc_extern Tryz.func208 (by kernel_rfl) (by kernel_rfl) (by kernel_rfl) (e:=Extern.BytealgIndexByte.indexByte) (by kernel_rfl),Lib.run_indexByteString];rfl
theorem ixbL_calls (s:ByteArray) (c:Int) (w:World):Calls Tryz.prog 197 #[.string s, .int .u8 c] w λ e w'=> e=.returned (.int .i64 (Lib.indexByte (bytes s) c.toNat.toUInt8))/\w=w':=by
 have hr:=run_ixb s c;go_enter Tryz.func197,Tryz.ntmps197;go_wp2;go_ret;exact ⟨rfl,rfl⟩
theorem ixb_calls (s:ByteArray) (c:Int) (w:World):Calls Tryz.prog 168 #[.string s, .int .u8 c] w λ e w'=> e=.returned (.int .i64 (Lib.indexByte (bytes s) c.toNat.toUInt8))/\w=w':=by
 have H:=Lib.hid (ixbL_calls s c w);go_enter Tryz.func168,Tryz.ntmps168;go_wp2_with fail;(with_reducible refine H.out.mono ?_);rintro e w1 ⟨rfl,rfl⟩;go_wp2;go_ret;exact ⟨rfl,rfl⟩
theorem or_byte (u c:Nat) (hu:u < 2 ^ 56) (hc:c < 256):bits .or .u64 (((u * 256:Nat):Int)) (c:Int)=((u * 256+c:Nat):Int):=by
 have e1:(BitVec.ofInt 64 ((u * 256:Nat):Int)).toNat=u * 256:=by rw [BitVec.toNat_ofInt];omega
 have e2:(BitVec.ofInt 64 (c:Int)).toNat=c:=by rw [BitVec.toNat_ofInt];omega
 have e3:u * 256 ||| c=u * 256+c:=by have:=Nat.shiftLeft_add_eq_or_of_lt (i:=8) (b:=c) (by simpa using hc) u;rw [Nat.shiftLeft_eq] at this;exact this.symm
 show IntKind.u64.wrap ((((BitVec.ofInt 64 ((u * 256:Nat):Int)) ||| BitVec.ofInt 64 (c:Int)).toNat:Nat):Int)=_;rw [BitVec.toNat_or,e1,e2,e3];simp only [IntKind.wrap,IntKind.bits,IntKind.signed];simp;omega
theorem xor_un (u:Nat) (hu:u < 2 ^ 64):IntKind.i64.wrap (bits .xor .u64 (u:Int) 9223372036854775808)=(u:Int) - 9223372036854775808:=by
 have e1:(BitVec.ofInt 64 (9223372036854775808:Int)).toNat=2 ^ 63:=by decide
 have e2:(BitVec.ofInt 64 (u:Int)).toNat=u:=by rw [BitVec.toNat_ofInt];omega
 have e3:((BitVec.ofInt 64 (u:Int)) ^^^ BitVec.ofInt 64 (9223372036854775808:Int)).toNat=if u < 2 ^ 63 then 2 ^ 63+u else u - 2 ^ 63:=by
  rw [BitVec.toNat_xor,e1,e2];split
  · exact xor_hi (by assumption)
  · obtain ⟨r,rfl⟩:∃r,u=2 ^ 63+r:=⟨u - 2 ^ 63,by omega⟩
    have hr:r < 2 ^ 63:=by omega
    rw [<-xor_hi hr,Nat.xor_assoc,Nat.xor_self,Nat.xor_zero,xor_hi hr];omega
 show IntKind.i64.wrap (IntKind.u64.wrap ((((BitVec.ofInt 64 (u:Int)) ^^^ BitVec.ofInt 64 (9223372036854775808:Int)).toNat:Nat):Int))=_;rw [e3];simp only [IntKind.wrap,IntKind.bits,IntKind.signed];split <;> simp <;> omega
theorem wrapEq (x:Int):IntKind.i64.wrap x=wrap64 x:=by rw [IntKind.wrap_i64];unfold wrap64;omega
theorem unN_step {l:List UInt8} {k:Nat} (h:k < l.length):unN (l.take (k+1))=unN (l.take k) * 256+(l[k]'h).toNat:=by
 rw [List.take_add_one,List.getElem?_eq_getElem h];exact unN_snoc _ _
theorem parse_calls (l:List UInt8) (hl:l.length=8) (w:World):Calls Tryz.prog 97 #[.string (textOf l)] w λ e w'=> e=.returned (.tuple #[.int .i64 (unL l), .int .i64 0])/\w=w':=by
 have HL:=Lib.hid hl;have hz:(textOf l).size=8:=by rw [text_size,hl]
 obtain ⟨s,hs⟩:∃s,textOf l=s:=⟨_,rfl⟩
 have HG:Hid (∀(j:Nat) (h:j < s.size) (h2:j < l.length),s[j]'h=l[j]'h2):=by intro j h h2;subst hs;rfl
 rw [hs] at hz ⊢;clear hs;clear hl;go_enter Tryz.func97,Tryz.ntmps97;go_wp2;go_loopg [4,9] 8 (λ g z4 z9 wr=> ∃k:Nat,z9=.int .i64 k/\z4=.int .u64 (unN (l.take k):Nat)/\g+k=8/\wr=w)
 case atStart=> exact ⟨0,rfl,rfl,rfl,rfl⟩
 case round=>
  obtain ⟨k,rfl,rfl,hgk,rfl⟩:=hrel;by_cases hk:k < 8
  · have hk1:(k:Int) < 8:=by omega
    have hk2:(0:Int)<=k:=by omega
    have hks:(k:Int) < s.size:=by rw [hz];omega
    have hkl:k < l.length:=by rw [HL.out];exact hk
    have hu:unN (l.take k) < 2 ^ 56:=by have:=unN_lt (l.take k);rw [List.length_take] at this;refine Nat.lt_of_lt_of_le this ?_;have:(256:Nat) ^ min k l.length<=256 ^ 7:=Nat.pow_le_pow_right (by decide) (by omega);exact this
    have HST:=Lib.hid (unN_step hkl);have hkn:k < s.size:=by omega
    have HC:=Lib.hid (HG.out k hkn hkl);have HO:=Lib.hid (or_byte _ (l[k]'hkl).toNat hu (l[k]'hkl).toNat_lt);have Hgk:=Lib.hid hgk;generalize unN (l.take k)=u at *;clear hgk;go_wp2;go_roundg (gk - 1)
    case rel=>
     refine ⟨k+1,by go_num,?_,by have:=Hgk.out;omega,rfl⟩;have h1:IntKind.u64.wrap ((s[k]'hkn).toNat:Int)=((l[k]'hkl).toNat:Int):=by rw [HC.out];have:=(l[k]'hkl).toNat_lt;simp only [IntKind.wrap,IntKind.bits,IntKind.signed];simp;omega
     rw [h1,HST.out,<-HO.out];rfl
    case measure=> have:=Hgk.out;omega
  · obtain rfl:k=8:=by omega
    have hl:l.take 8=l:=List.take_of_length_le (by rw [HL.out];exact Nat.le_refl _);have hu:unN l < 2 ^ 64:=by have:=unN_lt l;rw [HL.out] at this;exact this
    have HX:=Lib.hid (xor_un _ hu);rw [hl];have HR:Hid (unL l=(unN l:Int) - 9223372036854775808):=rfl;generalize unN l=u at *;go_wp2;refine bodyPost_ret (v:=.tuple #[.int .i64 (unL l), .int .i64 0]) ?_ rfl ?_
    · rw [HR.out,<-HX.out]
      simp [results,Tryz.results97,go_sem];exact (wrapEq _).symm
    · exact ⟨rfl,rfl⟩
theorem text_ext (l:List UInt8) (i j:Nat):(textOf l).extract i j=textOf ((l.take j).drop i):=by
 apply ByteArray.ext;rw [ByteArray.data_extract];show l.toArray.extract i j=((l.take j).drop i).toArray;simp [List.drop_take]
theorem headD (l:List UInt8) (k:Nat):(l.drop k).head? =l[k]? :=by
 induction l generalizing k with
 | nil=> simp
 | cons c l ih=> cases k <;> simp
theorem fst3_none {l:List UInt8} (h:∀k:Nat,l[k]? ≠some 0):fstL (3::l)=none:=by
 rw [fstL,if_neg (by decide),if_neg (by decide),if_pos rfl,headD,if_neg];exact λ e=> h _ e.1
theorem takeW_pre {p:UInt8->Bool}:∀(a m:List UInt8),¬ a.all p=true->((a++m).takeWhile p).length < a.length
 | [],m,h=> absurd rfl h
 | c::a,m,h=> by
  rw [List.cons_append,List.takeWhile_cons];by_cases hc:p c=true
  · rw [if_pos hc,List.length_cons,List.length_cons]
    have:¬ a.all p=true:=λ e=> h (by rw [List.all_cons,hc,e];rfl);have:=takeW_pre a m this;omega
  · rw [if_neg hc]
    simp
theorem fst3_some {l:List UInt8} {k:Nat} (h0:l[k]? =some 0) (h1:∀j:Nat,j < k->l[j]? ≠some 0):fstL (3::l)=if (l.take k).all prB=true/\k<=16 then some (⟨2,0,textOf (l.take k)⟩,l.drop (k+1)) else none:=by
 obtain ⟨hk,hk0⟩:=List.getElem?_eq_some_iff.1 h0;have e:l=l.take k++0::l.drop (k+1):=by
  conv=> lhs;rw [<-List.take_append_drop k l,List.drop_eq_getElem_cons hk,hk0]
 have hl:(l.take k).length=k:=by rw [List.length_take];omega
 rw [fstL,if_neg (by decide),if_neg (by decide),if_pos rfl,headD];by_cases hp:(l.take k).all prB=true
 · have hw:l.takeWhile prB=l.take k:=by
    conv=> lhs;rw [e]
    exact takeW_app hp (by decide)
   rw [hw,hl,h0];simp only [hp,true_and]
 · have hq:¬ (l[(l.takeWhile prB).length]? =some 0/\(l.takeWhile prB).length<=16):=by
    intro h;have:=takeW_pre (l.take k) (0::l.drop (k+1)) hp;rw [<-e,hl] at this;exact h1 _ this h.1
   rw [if_neg hq,if_neg (λ h=> hp h.1)]
theorem okT_iff {t:List UInt8}:okV ⟨2,0,textOf t⟩=true↔t.all prB=true/\t.length<=16:=by
 have h:(textOf t).size=t.length:=text_size t;simp [okV,prS,bytes_textOf,h]
def FirstP (L:List UInt8) (e:Ending):Prop:=∃(v:Vl) (n:Nat),e=.returned (.tuple #[v.val, .int .i64 n])/\I64 v.int/\v.text.size<=L.length/\n<=L.length/\((n=0\/okV v=false)->fstL L=none)/\(n≠0->okV v=true->fstL L=some (v,L.drop n))
theorem i64_0:I64 0:=by unfold I64;omega
theorem FirstP.no {L:List UInt8} (h:fstL L=none):FirstP L (.returned (.tuple #[nullV.val, .int .i64 0])):=⟨nullV,0,rfl,i64_0,Nat.zero_le _,Nat.zero_le _,λ _=> h,λ h0=> absurd rfl h0⟩
theorem FirstP.one (l:List UInt8):FirstP (1::l) (.returned (.tuple #[nullV.val, .int .i64 1])):=⟨nullV,1,rfl,i64_0,Nat.zero_le _,(by simp),λ h=> (by rcases h with h | h <;> cases h),λ _ _=> rfl⟩
theorem FirstP.two {l:List UInt8} (h:8<=l.length):FirstP (2::l) (.returned (.tuple #[.agg #[.int .i64 1, .int .i64 (unL (l.take 8)), .string ⟨#[]⟩], .int .i64 9])):=
 ⟨⟨1,unL (l.take 8),⟨#[]⟩⟩,9,rfl,unL_i64 (by rw [List.length_take];omega),Nat.zero_le _,(by rw [List.length_cons];omega),λ h=> (by rcases h with h | h <;> cases h),λ _ _=> by rw [fstL,if_neg (by decide),if_pos rfl,if_pos h];rfl⟩
theorem FirstP.two0 {l:List UInt8} (h:l.length < 8):fstL (2::l)=none:=by
 rw [fstL,if_neg (by decide),if_pos rfl,if_neg (by omega)]
theorem FirstP.three {l:List UInt8} {k:Nat} (h0:l[k]? =some 0) (h1:∀j:Nat,j < k->l[j]? ≠some 0):FirstP (3::l) (.returned (.tuple #[.agg #[.int .i64 2, .int .i64 0, .string (textOf (l.take k))], .int .i64 ((k+2:Nat):Int)])):=by
 obtain ⟨hk, -⟩:=List.getElem?_eq_some_iff.1 h0;have hl:(l.take k).length=k:=by rw [List.length_take];omega
 refine ⟨⟨2,0,textOf (l.take k)⟩,k+2,rfl,i64_0,?_,?_,λ h=> ?_,λ _ h=> ?_⟩
 · show (textOf (l.take k)).size<=_
   rw [text_size,hl,List.length_cons];omega
 · rw [List.length_cons];omega
 · rcases h with h | h
   · cases h
   · rw [fst3_some h0 h1,if_neg]
     intro h2;have:=okT_iff.2 ⟨h2.1,by rw [hl];exact h2.2⟩;rw [h] at this;cases this
 · have h2:=okT_iff.1 h
   rw [fst3_some h0 h1,if_pos ⟨h2.1,by rw [<-hl];exact h2.2⟩];rfl
theorem fst3_one {l:List UInt8} {k j:Nat} (h0:l[k]? =some 0) (h1:∀j:Nat,j < k->l[j]? ≠some 0) (hj:(l.take k)[j]? =some 1):fstL (3::l)=none:=by
 rw [fst3_some h0 h1,if_neg];intro h;have:=List.all_eq_true.1 h.1 1 (List.mem_of_getElem? hj);exact absurd this (by decide)
theorem fst_other {c:UInt8} {l:List UInt8} (h1:c≠1) (h2:c≠2) (h3:c≠3):fstL (c::l)=none:=by
 rw [fstL,if_neg h1,if_neg h2,if_neg h3]
theorem byte_eq {c:UInt8} (n:Nat) (hn:n < 256):(((c.toNat:Int)==(n:Int))=decide (c=UInt8.ofNat n)):=by
 have h:(UInt8.ofNat n).toNat=n:=UInt8.toNat_ofNat_of_lt' hn;rw [Bool.eq_iff_iff,beq_iff_eq,decide_eq_true_iff,<-UInt8.toNat_inj,h];omega
theorem first_calls (c:UInt8) (l:List UInt8) (hl:l.length < 1099511627776) (w:World):Calls Tryz.prog 132 #[.string (textOf (c::l))] w λ e w'=> FirstP (c::l) e/\Below w.heap.size w w':=by
 obtain ⟨s,hs⟩:∃s,textOf (c::l)=s:=⟨_,rfl⟩
 have hz:s.size=l.length+1:=by rw [<-hs,text_size,List.length_cons]
 have h0:∀(h:0 < s.size),s[0]'h=c:=by intro h;subst hs;rfl
 have HX:Hid (∀i j,s.extract i j=textOf (((c::l).take j).drop i)):=by intro i j;rw [<-hs];exact text_ext _ _ _
 have HL:=Lib.hid hl;rw [hs];clear hs hl;have hz0:0 < s.size:=by omega
 have b1:=byte_eq (c:=c) 1 (by decide);have b2:=byte_eq (c:=c) 2 (by decide);have b3:=byte_eq (c:=c) 3 (by decide);have HC:=Lib.hid (h0 hz0);generalize s[0]'hz0=d at *;obtain rfl:=HC.out;have V:=VarIs.new w #[.int .i64 0, .int .i64 0, .string ⟨#[]⟩] 68;have hx1:s.extract 1 (l.length+1)=textOf l:=by rw [HX.out];simp
 have HB:Hid (Below w.heap.size w (w.alloc (.cells #[.int .i64 0, .int .i64 0, .string ⟨#[]⟩] 68))):=(Below.refl _ _).alloc (Nat.le_refl _) _;by_cases h1:d=1
 · subst h1
   have HF:=Lib.hid (FirstP.one l);clear hx1;go_enter Tryz.func132,Tryz.ntmps132;go_wp2;refine bodyPost_ret (v:=.tuple #[nullV.val, .int .i64 1]) (by simp [results,Tryz.results132,go_sem];rfl) rfl ⟨HF.out,HB.out⟩
 · by_cases h2:d=2
   · subst h2
     clear hx1;by_cases h8:8<=l.length
     · have HF:=Lib.hid (FirstP.two h8)
       have hx:s.extract 1 9=textOf (l.take 8):=HX.out 1 9;have HP:=Lib.hid (parse_calls (l.take 8) (by rw [List.length_take];omega));have h9:(9:Int)<=s.size:=by omega
       go_enter Tryz.func132,Tryz.ntmps132;go_wp2_with fail;(with_reducible refine (HP.out _).mono ?_);rintro e w1 ⟨rfl,rfl⟩;clear HP hx;generalize unL (l.take 8)=u at *;go_wp2;refine bodyPost_ret (v:=.tuple #[.agg #[.int .i64 1, .int .i64 u, .string ⟨#[]⟩], .int .i64 9]) (by simp [results,Tryz.results132,go_sem]) rfl ⟨HF.out,(Below.refl _ _).alloc (Nat.le_refl _) _⟩
     · have HF:=Lib.hid (FirstP.no (FirstP.two0 (l:=l) (by omega)))
       have h9:¬ (9:Int)<=s.size:=by omega
       go_enter Tryz.func132,Tryz.ntmps132;go_wp2;refine bodyPost_ret (v:=.tuple #[nullV.val, .int .i64 0]) (by simp [results,Tryz.results132,go_sem];rfl) rfl ⟨HF.out,HB.out⟩
   · by_cases h3:d=3
     · subst h3
       have HI:=Lib.hid (ixb_calls (textOf l) 0);rw [bytes_textOf] at HI;obtain ⟨q,hq⟩:∃q,Lib.indexByte l 0=q:=⟨_,rfl⟩
       rw [show (0:Int).toNat.toUInt8=0 from rfl,hq] at HI;have hge:=Lib.indexByte_ge l 0;rw [hq] at hge;by_cases hq0:q= -1
       · subst hq0
         have HF:=Lib.hid (FirstP.no (fst3_none (Lib.indexByte_none hq)));clear hq;go_enter Tryz.func132,Tryz.ntmps132;go_wp2_with fail;(with_reducible refine (HI.out _).mono ?_);rintro e w1 ⟨rfl,rfl⟩;clear HI;go_wp2;refine bodyPost_ret (v:=.tuple #[nullV.val, .int .i64 0]) (by simp [results,Tryz.results132,go_sem];rfl) rfl ⟨HF.out,HB.out⟩
       · obtain ⟨k,rfl⟩:∃k:Nat,q=k:=⟨q.toNat,by omega⟩
         obtain ⟨i0,i1⟩:=Lib.indexByte_some hq;obtain ⟨hk, -⟩:=List.getElem?_eq_some_iff.1 i0;have hw1:wrap64 ((k:Int)+1)=((k+1:Nat):Int):=by have:=HL.out;unfold wrap64;omega
         have hw2:wrap64 ((k:Int)+2)=((k+2:Nat):Int):=by have:=HL.out;unfold wrap64;omega
         have hx:s.extract 1 (k+1)=textOf (l.take k):=HX.out 1 (k+1);have hsz:k+1<=s.size:=by omega
         have HJ:=Lib.hid (ixb_calls (textOf (l.take k)) 1);rw [bytes_textOf] at HJ;obtain ⟨j,hj⟩:∃j,Lib.indexByte (l.take k) 1=j:=⟨_,rfl⟩
         rw [show (1:Int).toNat.toUInt8=1 from rfl,hj] at HJ;have hgj:=Lib.indexByte_ge (l.take k) 1;rw [hj] at hgj;by_cases hj0:j= -1
         · subst hj0
           have HF:=Lib.hid (FirstP.three i0 i1);clear hq hj i0 i1;go_enter Tryz.func132,Tryz.ntmps132;go_wp2_with fail;(with_reducible refine (HI.out _).mono ?_);rintro e w1 ⟨rfl,rfl⟩;clear HI;go_wp2_with fail;(with_reducible refine (HJ.out _).mono ?_);rintro e w1 ⟨rfl,rfl⟩;clear HJ;generalize textOf (l.take k)=u at *;go_wp2;refine bodyPost_ret (v:=.tuple #[.agg #[.int .i64 2, .int .i64 0, .string u], .int .i64 ((k+2:Nat):Int)]) (by simp [results,Tryz.results132,go_sem];omega) rfl ⟨HF.out,(Below.refl _ _).alloc (Nat.le_refl _) _⟩
         · have hjn:¬ j < 0:=by omega
           obtain ⟨m,rfl⟩:∃m:Nat,j=m:=⟨j.toNat,by omega⟩
           have HF:=Lib.hid (FirstP.no (fst3_one i0 i1 (Lib.indexByte_some hj).1));clear hq hj i0 i1;go_enter Tryz.func132,Tryz.ntmps132;go_wp2_with fail;(with_reducible refine (HI.out _).mono ?_);rintro e w1 ⟨rfl,rfl⟩;clear HI;go_wp2_with fail;(with_reducible refine (HJ.out _).mono ?_);rintro e w1 ⟨rfl,rfl⟩;clear HJ;go_wp2;refine bodyPost_ret (v:=.tuple #[nullV.val, .int .i64 0]) (by simp [results,Tryz.results132,go_sem];rfl) rfl ⟨HF.out,HB.out⟩
     · have HF:=Lib.hid (FirstP.no (fst_other (l:=l) h1 h2 h3))
       have g1:((d.toNat:Int)==1)=false:=by rw [show ((1:Int)=((1:Nat):Int)) from rfl,b1];simpa using h1
       have g2:((d.toNat:Int)==2)=false:=by rw [show ((2:Int)=((2:Nat):Int)) from rfl,b2];simpa using h2
       have g3:((d.toNat:Int)==3)=false:=by rw [show ((3:Int)=((3:Nat):Int)) from rfl,b3];simpa using h3
       clear b1 b2 b3 hx1;go_enter Tryz.func132,Tryz.ntmps132;go_wp2;refine bodyPost_ret (v:=.tuple #[nullV.val, .int .i64 0]) (by simp [results,Tryz.results132,go_sem];rfl) rfl ⟨HF.out,HB.out⟩
def NumG (l:List UInt8) (n:Int) (m:List UInt8):Prop:=I64 n/\l=numL n++m
theorem NumG.uniq {l m m':List UInt8} {n n':Int} (h:NumG l n m) (h':NumG l n' m'):n=n'/\m=m':=by
 have e:numL n++m=numL n'++m':=h.2.symm.trans h'.2;have:=List.append_inj e (by rw [numL_length,numL_length]);exact ⟨numL_inj h.1 h'.1 this.1,this.2⟩
theorem NumG.of {l:List UInt8} (h:8<=l.length):NumG l (unL (l.take 8)) (l.drop 8):=⟨unL_i64 (by rw [List.length_take];omega),num_split h⟩
theorem NumG.len {l m:List UInt8} {n:Int} (h:NumG l n m):l.length=m.length+8:=by rw [h.2,List.length_append,numL_length];omega
def rowB (r:Rw):List UInt8:=numL ((encR r).length:Int)++encR r
def RowG (l:List UInt8) (r:Rw) (m:List UInt8):Prop:=RowV r/\I64 (encR r).length/\l=rowB r++m
theorem RowG.num {l m:List UInt8} {r:Rw} (h:RowG l r m):NumG l (encR r).length (encR r++m):=⟨h.2.1,by rw [h.2.2,rowB,List.append_assoc]⟩
theorem RowG.uniq {l m m':List UInt8} {r r':Rw} (h:RowG l r m) (h':RowG l r' m'):r=r'/\m=m':=by
 obtain ⟨e1,e2⟩:=h.num.uniq h'.num;have:=List.append_inj e2 (by omega);exact ⟨encR_inj h.1 h'.1 this.1,this.2⟩
theorem RowG.of {l m:List UInt8} {n:Int} {k:Nat} {r:Rw} (h:NumG l n m) (hn:n=(k:Int)) (hk:k<=m.length) (hr:DecP (m.take k) (some r)):RowG l r (m.drop k):=by
 have e:(encR r).length=k:=by rw [hr.2,List.length_take];omega
 refine ⟨hr.1,by rw [e,<-hn];exact h.1,?_⟩;rw [rowB,e,<-hn,List.append_assoc,hr.2,List.take_append_drop];exact h.2
theorem RowG.not1 {l:List UInt8} (h:l.length < 8) (r:Rw) (m:List UInt8):¬ RowG l r m:=λ g=> by
 have:=g.num.len;omega
theorem RowG.not2 {l m:List UInt8} {n:Int} (h:NumG l n m) (hn:n < 0\/(m.length:Int) < n) (r:Rw) (q:List UInt8):¬ RowG l r q:=λ g=> by
 obtain ⟨e1,e2⟩:=h.uniq g.num;rw [e2,List.length_append] at hn;omega
theorem RowG.not3 {l m:List UInt8} {n:Int} {k:Nat} (h:NumG l n m) (hn:n=(k:Int)) (hr:DecP (m.take k) none) (r:Rw) (q:List UInt8):¬ RowG l r q:=λ g=> by
 obtain ⟨e1,e2⟩:=h.uniq g.num;refine hr r g.1 ?_;have e:k=(encR r).length:=by omega
 rw [e2,e,List.take_left]
def NumS:Option (List UInt8)->Int->Option (List UInt8)->Prop
 | none,_,o=> o=none
 | some l,n,o=> (∃m,NumG l n m/\o=some m)\/(o=none/\∀n m,¬ NumG l n m)
def RowS2:Option (List UInt8)->Rw->Option (List UInt8)->Prop
 | none,_,o=> o=none
 | some l,r,o=> (∃m,RowG l r m/\o=some m)\/(o=none/\∀r m,¬ RowG l r m)
def SlC (v:Value) (n:Nat):Prop:=∃a c,v=.slice a n c/\n<=c/\c<=maxLen
def RdrP (w0:World) (fp0:List Nat) (R:List Asn) (v:Value):Option (List UInt8)->Prop
 | some l=> SlC v l.length/\Rd w0 fp0 R λ w=> BytesX [] w l v
 | none=> True
def rdrA (p:Nat) (t:TypeId) (v:Value) (o:Option (List UInt8)):Asn:=blkA p t #[v, .bool o.isNone]
def TakeS:Option (List UInt8)->Int->List UInt8->Option (List UInt8)->Prop
 | none,_,x,o=> x=[]/\o=none
 | some l,n,x,o=> (∃k:Nat,n=k/\k<=l.length/\x=l.take k/\o=some (l.drop k))\/((n < 0\/(l.length:Int) < n)/\x=[]/\o=none)
def TakeP (w0:World) (fp0:List Nat) (R B:List Asn) (p:Nat) (t:TypeId) (o:Option (List UInt8)) (n:Int) (e:Ending) (w':World):Prop:=
 ∃u v o2 x,e=.returned u/\St w0 fp0 (rdrA p t v o2::R) w'/\RdrP w0 fp0 B v o2/\Rd w0 fp0 B (λ w=> BytesX [] w x u)/\TakeS o n x o2/\SlC u x.length
theorem BytesX.shape {w:World} {x:List UInt8} {u:Value} (h:BytesX [] w x u):∃a n c,u=.slice a n c/\n=x.length:=by
 obtain ⟨a,c,e⟩:=SlX.shape h;exact ⟨a,_,c,e,rfl⟩
theorem BytesX.has {w:World} {x:List UInt8} {a:Option Addr} {n c:Nat} (h:BytesX [] w x (.slice a n c)) (hx:0 < x.length):∃b o,a=some ⟨b,o,none⟩/\b < w.heap.size:=by
 obtain ⟨b,o,h1, -,h2⟩:=SlX.has h (by rwa [List.length_map]);exact ⟨b,o,h1,h2⟩
theorem BytesX.take {w:World} {l:List UInt8} {a:Option Addr} {n c:Nat} (h:BytesX [] w l (.slice a n c)) (k c2:Nat) (hk:k<=l.length):BytesX [] w (l.take k) (.slice a k c2):=by
 have hl:(l.take k).length=k:=by rw [List.length_take];omega
 obtain ⟨h1,h2,a',c',h3,h4⟩:=h;obtain ⟨rfl, -, -⟩:=Value.slice.inj h3;refine ⟨by rw [hl];exact Nat.le_trans hk h1,by simp,a,c2,by rw [hl],λ j hj=> ?_⟩;have hj':j < k:=by rw [List.length_map,hl] at hj;exact hj
 obtain ⟨b,o,e1,e2,e3⟩:=h4 j (by rw [List.length_map];omega);refine ⟨b,o,e1,e2,?_⟩;rw [e3];simp
theorem BytesX.drop {w:World} {l:List UInt8} {a:Option Addr} {n c:Nat} (h:BytesX [] w l (.slice a n c)) (k c2:Nat):BytesX [] w (l.drop k) (.slice (a.map λ x=> x.add k) (l.length - k) c2):=by
 obtain ⟨h1,h2,a',c',h3,h4⟩:=h;obtain ⟨rfl, -, -⟩:=Value.slice.inj h3;have hn:l.length - k=(l.drop k).length:=by rw [List.length_drop]
 refine ⟨by omega,by simp,_,c2,by rw [hn],λ j hj=> ?_⟩;have hj':j < l.length - k:=by rw [List.length_map] at hj;omega
 obtain ⟨b,o,e1,e2,e3⟩:=h4 (k+j) (by rw [List.length_map];omega);refine ⟨b,o+k,by rw [e1,Option.map_some,add_plain],e2,?_⟩;rw [Nat.add_assoc,e3];simp
theorem TakeP.none' {w0:World} {fp0:List Nat} {R B:List Asn} {p:Nat} {t:TypeId} {n:Int} {v:Value} {o:Option (List UInt8)} {w':World} (hS:St w0 fp0 (blkA p t #[v, .bool true]::R) w') (h:TakeS o n [] none):TakeP w0 fp0 R B p t o n (.returned (.slice none 0 0)) w':=
 ⟨_,v,none,[],rfl,hS,trivial,λ _ _ _=> SlX.nil _ _ _ _ _,h,_,_,rfl,Nat.le_refl _,Nat.zero_le _⟩
theorem TakeP.some' {w0:World} {fp0:List Nat} {R B:List Asn} {p:Nat} {t:TypeId} {l:List UInt8} {a b:Option Addr} {k c:Nat} {w':World} (hR:Rd w0 fp0 B λ w=> BytesX [] w l (.slice a l.length c)) (hk:k<=l.length) (hc:l.length<=c) (hm:c<=maxLen) (hb:b=(a.map λ x=> x.add k)\/k=l.length)
 (hS:St w0 fp0 (blkA p t #[.slice b (l.length - k) (c - k), .bool false]::R) w'):TakeP w0 fp0 R B p t (some l) k (.returned (.slice a k c)) w':=by
 refine ⟨_, .slice b (l.length - k) (c - k),some (l.drop k),l.take k,rfl,hS,⟨⟨b,c - k,by rw [List.length_drop],by rw [List.length_drop];omega,by omega⟩,hR.imp λ w h=> ?_⟩,hR.imp λ w h=> h.take k c hk, .inl ⟨k,rfl,hk,rfl,rfl⟩,a,c,by rw [List.length_take,Nat.min_eq_left hk],by rw [List.length_take];omega,hm⟩;rcases hb with rfl | hb
 · exact h.drop k _
 · have e:l.drop k=[]:=List.drop_of_length_le (by omega)
   have e2:l.length - k=0:=by omega
   rw [e,e2];exact SlX.nil _ _ _ _ _
section
open Go.ChangeShapes Go.ChangeAt Go.WideShapes
section
variable {H:Type} {enc:TypeId×Value->H}
theorem wf8 {n:Int} (h:(Lit.int .u8 n).wf=true):0<=n/\n < 256:=by
 unfold Lit.wf at h;simp [IntKind.min,IntKind.max,IntKind.bits,IntKind.signed] at h;omega
theorem open_bytes {W:World} {base:Nat} {v:Value} {d:DataW H} {p:List MemPlace} (hok:Value.okWide Tryz.prog W .any base 52 v) (h:DataW.Trod enc Tryz.prog W 0 (λ _=> true) true 52 v d p):∃l,BytesX [] W l v/\SlC v l.length:=by
 obtain ⟨fuel,h⟩:=h;rw [cell_of_one_slice W Tryz.underlying52 hok] at h;rcases slice_read Tryz.underlying52 cU8 (by omega) h with ⟨a,e⟩ | ⟨b,o,len,cap,k,D,R,e,hb,hlc,hcm,rfl,hxD,hDl,hel⟩
 · cases e
   exact ⟨[],SlX.nil _ _ _ _ _,_,_,rfl,Nat.le_refl _,Nat.zero_le _⟩
 · cases e
   obtain ⟨l,h1, -⟩:=slx_read (w:=W) (cap:=cap) (sz:=1) (by omega) (λ c:UInt8=> [u8C c]) (λ _=> rfl) (P:=λ _=> True) (b:=b) (o:=o) (len:=len) (Nat.le_trans hlc hcm) (λ i hi=> by
    obtain ⟨cs',pl, -,hc,ht⟩:=hel i (by rw [hDl];exact hi);obtain ⟨n,rfl, -,hn⟩:=DataW.trod_int Tryz.underlying5 ht;obtain ⟨n0,n1⟩:=wf8 hn;refine ⟨UInt8.ofNat n.toNat,λ j hj=> ?_,trivial⟩;have e:u8C (UInt8.ofNat n.toNat)=.int .u8 n:=by
     have h8:n.toNat < 256:=by omega
     rw [u8C,UInt8.toNat_ofNat_of_lt' h8];congr 1;omega
    rw [hc j hj,<-e])
   have hm:l.flatMap (λ c:UInt8=> [u8C c])=l.map u8C:=by
    clear h1
    induction l with
    | nil=> rfl
    | cons c l ih=> rw [List.flatMap_cons,ih];rfl
   rw [hm] at h1;have hl:l.length=len:=by have:=h1.2.1;rw [List.length_map] at this;have:=(SlX.len h1).1;omega
   refine ⟨l,h1,some ⟨b,o,none⟩,cap,by rw [hl],by rw [hl];exact hlc,hcm⟩
end
end
theorem Rg.Ob.callNew (G:Rg) (i k:Nat) {d:Nat} {A:(Nat->Value)->Asn} (B:Value->Asn) (hB:∀v w f,(B v).p w f->∃a n c,v=.slice a n c) {f:Nat} {args:Array Value} (hc:∀L w,St G.w0 G.fp0 (L++G.R) w->Calls G.P f args w λ e w2=> ∃v f',e=.returned v/\(B v).p w2 f'/\Below w.heap.size w w2/\∀k∈f',w.heap.size<=k)
 (hk:G.pcs[k]? =some (.new i [d] A):=by rfl) (hA:∀g v,A (rv [d] (sput g (some d) v))=B v:=by intro _ _;exact kr (by kernel_rfl)) (hr:∀a w,(execOp (G.env i a) (opAt G.ops i)).run G.P w=.ok (.enter f args) w:=by intro _ _;exact kr (by kernel_rfl))
 (hd:dstOf G.ops i=some d:=by exact kr (by kernel_rfl)) (hself:((closOf G.ops).getD i []).elem i=false:=by exact kr (by kernel_rfl)) (hsh:∀g a n c,G.shp i g (.slice a n c)=.slice a n c:=by intro _ _ _ _;exact kr (by kernel_rfl))
 (hq:G.quiet i k=true:=by exact kr (by kernel_rfl)) (hw:∀a,wantE G.ops (opAt G.ops i) (G.env i a)=some true:=by intro _;exact kr (by kernel_rfl)):G.Ob i:=
 Rg.Ob.call G i k (args:=λ _=> args) hr (λ L a w fp _ hS hp=> by rw [new_before hself] at hp;obtain rfl:fp=[]:=hp;refine (hc _ w hS).mono ?_;rintro e w2 ⟨v,f',rfl,h2,h3,h4⟩;obtain ⟨va,vn,vc,rfl⟩:=hB _ _ _ h2;refine ⟨_,rfl,hsh _ _ _ _,f',?_,⟨h3.os,h3.tape,h3.output,h3.size,λ k hk _=> h3.block k hk,λ k hk=> .inr (h4 k hk)⟩⟩;rw [new_after,hd,hA];exact h2) hk hq hw
theorem Rg.Ob.run1 (G:Rg) (i k:Nat) {p:Pc} (PB:(Nat->Value)->Asn) (PA:(Nat->Value)->Value->Asn)
 (h:∀L a w fp,stP G (lk (closOf G.ops) i L) (slots a) w->(PB (slots a)).p w fp->∃v w' f',(execOp (G.env i a) (opAt G.ops i)).run G.P w=.ok (.value v) w'/\G.shp i (slots a) v=v/\(PA (slots a) v).p w' f'/\Tr w w' fp f')
 (hk:G.pcs[k]? =some p:=by rfl) (hB:∀L g,p.at (lk (closOf G.ops) i L) g=PB g:=by intro _ _;exact kr (by kernel_rfl)) (hA:∀L g v,p.at (ln (closOf G.ops) i L) (sput g (dstOf G.ops i) v)=PA g v:=by intro _ _ _;exact kr (by kernel_rfl))
 (hq:G.quiet i k=true:=by exact kr (by kernel_rfl)) (hw:∀a,wantE G.ops (opAt G.ops i) (G.env i a)=some true:=by intro _;exact kr (by kernel_rfl)):G.Ob i:=
 Rg.Ob.eff G i k hk (λ L a w fp _ hS hp=> by rw [hB] at hp;obtain ⟨v,w',f',h1,h2,h3,h4⟩:=h L a w fp hS hp;rw [h1];exact ⟨G.shp_of h2,f',by rw [hA];exact h3,h4⟩) hq hw
theorem Rg.Ob.skip1 (G:Rg) (i k:Nat) {p:Pc} (PB PA:(Nat->Value)->Asn)
 (h:∀L a w fp,stP G (lk (closOf G.ops) i L) (slots a) w->(PB (slots a)).p w fp->∃w' f',(execOp (G.env i a) (opAt G.ops i)).run G.P w=.ok .skip w'/\(PA (slots a)).p w' f'/\Tr w w' fp f')
 (hk:G.pcs[k]? =some p:=by rfl) (hB:∀L g,p.at (lk (closOf G.ops) i L) g=PB g:=by intro _ _;exact kr (by kernel_rfl)) (hA:∀L g,p.at (ln (closOf G.ops) i L) g=PA g:=by intro _ _;exact kr (by kernel_rfl))
 (hd:dstOf G.ops i=none:=by exact kr (by kernel_rfl)) (hvo:(G.valOf i).isNone=true:=by exact kr (by kernel_rfl)) (hq:G.quiet i k=true:=by exact kr (by kernel_rfl)) (hw:∀a,wantE G.ops (opAt G.ops i) (G.env i a)=some true:=by intro _;exact kr (by kernel_rfl)):G.Ob i:=
 Rg.Ob.eff G i k hk (λ L a w fp _ hS hp=> by
  have hvo':G.valOf i=none:=by simpa using hvo
  rw [hB] at hp;obtain ⟨w',f',h1,h3,h4⟩:=h L a w fp hS hp;rw [h1,hd,hvo'];exact ⟨λ t h=> (nomatch h),f',by rw [sput_none,hA];exact h3,h4⟩) hq hw
theorem piece_of {w0 w:World} {A:Asn} (h:St w [] [A] w0):∃f,A.p w0 f/\Below w.heap.size w w0/\∀k∈f,w.heap.size<=k:=by
 obtain ⟨fp,⟨f,g,h3,hg, -,e⟩,ht⟩:=h;obtain rfl:g=[]:=hg;rw [List.append_nil] at e;subst e;exact ⟨_,h3,ht.below (Nat.le_refl _) (λ k hk=> nomatch hk),λ k hk=> (ht.new k hk).resolve_left (by simp)⟩
theorem exec_store {P:Program} {o:Oper} {env:Operand->Value} {w w':World} {ty:TypeId} {x y:Operand} {p u:Value} (hop:o.op=.store ty x y) (hx:env x=p) (hy:env y=u) (h:(Instr.storeAt ty p u).run P w=.ok () w'):(execOp env o).run P w=.ok .skip w':=by
 simp only [execOp,hop,hx,hy,Sem.run_bind,h,Result.andThen_ok,Sem.run_pure]
theorem slSelf {t:TypeId} {w:World} {v:Value} {xs:List Value} {f:List Nat} (h:(slA t v xs).p w f):(slA t (.slice (sa v) (sn v) (sc v)) xs).p w f:=by
 obtain ⟨a,n,c,rfl⟩:=sl_shape h;exact h
theorem one_int (l:List Int):∀u∈l.map intC,u.oneCell'=true:=by
 intro u hu;obtain ⟨z, -,rfl⟩:=List.mem_map.1 hu;rfl
theorem Rg.Ob.eqlS (G:Rg) (i:Nat) (k:IntKind) (p:Int) {ty r:TypeId} {x y:Operand} (hop:(opAt G.ops i).op=.binOp .eql ty x y r:=by rfl) (hx:∀a,G.env i a x=.int k p:=by intro _;exact kr (by kernel_rfl)) (hy:∀a,G.env i a y=.int k p:=by intro _;exact kr (by kernel_rfl)) (hv:∀g,G.valD i g=.bool true:=by intro _;exact kr (by kernel_rfl))
 (hq:(G.quiet i G.pcs.length && G.okV i)=true:=by exact kr (by kernel_rfl)) (hw:∀a,wantE G.ops (opAt G.ops i) (G.env i a)=some true:=by intro _;exact kr (by kernel_rfl)):G.Ob i:=Rg.Ob.read G i hq hw λ L a w _ _=> by
 simp [execOp,hop,hx,hy,go_sem,hv]
theorem newB {w0 w w':World} {fp0:List Nat} {L:List Asn} {A:Asn} (h:St w0 fp0 L w) (h2:St w [] [A] w'):St w0 fp0 (A::L) w':=by
 obtain ⟨fp,⟨f,g,h3,hg, -,e⟩,ht⟩:=h2;obtain rfl:g=[]:=hg;rw [List.append_nil] at e;subst e;have h4:=St.add h (ht.below (Nat.le_refl _) (λ k hk=> nomatch hk)) h3 (λ k hk=> (ht.new k hk).resolve_left (by simp));exact h4.perm List.perm_append_comm
theorem wp_of_value {P:Program} {o:Oper} {a:Act} {w w':World} {K:Act->World->Prop} {Q:Exit->Act->World->Prop} {v:Value} {d:Nat} (hd:o.dst=some d) (hr:(execOp a.eval o).run P w=.ok (.value v) w') (h:K (a.put (some d) v) w'):o.wp P a w K Q:=by
 unfold Oper.wp;rw [hr];show K (a.put o.dst v) w';rw [hd];exact h
theorem wp_of_call {P:Program} {o:Oper} {a:Act} {w:World} {K:Act->World->Prop} {Q:Exit->Act->World->Prop} {f:FuncId} {args:Array Value} {R:Ending->World->Prop} {d:Nat} (hd:o.dst=some d) (hr:(execOp a.eval o).run P w=.ok (.enter f args) w) (hR:Calls P f args w R)
 (h:∀e w',R e w'->∃v,e=.returned v/\K (a.put (some d) v) w'):o.wp P a w K Q:=by
 unfold Oper.wp;rw [hr];refine hR.mono λ e w' hr=> ?_;obtain ⟨v,rfl,h'⟩:=h e w' hr;show K (a.put o.dst v) w';rw [hd];exact h'
theorem exec_load1 {P:Program} {o:Oper} {a:Act} {w:World} {ty:TypeId} {d b j:Nat} {v:Value} (hop:o.op=.load ty (.tmp d)) (ha:(isAgg ty).run P w=.ok false w) (hx:a.eval (.tmp d)=.pointer (some ⟨b,j,none⟩)) (hc:w.cell? ⟨b,j,none⟩=some v):(execOp a.eval o).run P w=.ok (.value v) w:=by
 simp only [execOp,hop,hx,Sem.run_bind,run_load1 ha hc,Result.andThen_ok,Sem.run_pure]
theorem Rg.Ob.indexO (G:Rg) (i b o n c m s:Nat) (hm:m < n) {t e:TypeId} {x y:Operand} (hop:(opAt G.ops i).op=.indexAddr t x y:=by rfl) (hu:G.P.underlying t=some (.slice e):=by rfl) (hz:∀w,(sizeOf e).run G.P w=.ok s w:=by intro _;exact kr (by kernel_rfl)) (hx:∀a,G.env i a x=.slice (some ⟨b,o,none⟩) n c:=by intro _;exact kr (by kernel_rfl)) (hy:∀a,G.env i a y=.int .i64 m:=by intro _;exact kr (by kernel_rfl)) (hv:∀g,G.valD i g=.pointer (some ⟨b,o+m * s,none⟩):=by intro _;exact kr (by kernel_rfl))
 (hq:(G.quiet i G.pcs.length && G.okV i)=true:=by exact kr (by kernel_rfl)) (hw:∀a,wantE G.ops (opAt G.ops i) (G.env i a)=some true:=by intro _;exact kr (by kernel_rfl)):G.Ob i:=Rg.Ob.read G i hq hw λ L a w _ _=> by
 simp only [execOp,hop,hx,hy,Sem.run_bind,run_index1 hu (hz w) hm,Result.andThen_ok,Sem.run_pure,hv]
theorem exec_loads {P:Program} {o:Oper} {env:Operand->Value} {w:World} {ty:TypeId} {x:Operand} {b off:Nat} {cs:List Value} (hop:o.op=.load ty x) (ha:(isAgg ty).run P w=.ok true w) (hs:(sizeOf ty).run P w=.ok cs.length w) (hx:env x=.pointer (some ⟨b,off,none⟩)) (hc:∀j u,cs[j]? =some u->w.cell? ⟨b,off+j,none⟩=some u):(execOp env o).run P w=.ok (.value (.agg cs.toArray)) w:=by
 have h:=run_loadCells_list (P:=P) (w:=w) ⟨b,off,none⟩ cs (λ j v hj=> by rw [add_plain];exact hc j v hj);simp [execOp,hop,hx,Instr.loadAt,Instr.sureAddr,loadVar,ha,hs,h]
theorem Rg.Ob.loadR1 (G:Rg) (i:Nat) {b off:Nat} (u:Value) (hl:∀L w,St G.w0 G.fp0 (L++G.R) w->w.cell? ⟨b,off,none⟩=some u) {ty:TypeId} {d:Nat} (hop:(opAt G.ops i).op=.load ty (.tmp d):=by rfl) (ha:∀w,(isAgg ty).run G.P w=.ok false w:=by intro _;exact kr (by kernel_rfl)) (hx:∀a,G.env i a (.tmp d)=.pointer (some ⟨b,off,none⟩):=by intro _;exact kr (by kernel_rfl)) (hv:∀g,G.valD i g=u:=by intro _;exact kr (by kernel_rfl))
 (hq:(G.quiet i G.pcs.length && G.okV i)=true:=by exact kr (by kernel_rfl)) (hw:∀a,wantE G.ops (opAt G.ops i) (G.env i a)=some true:=by intro _;exact kr (by kernel_rfl)):G.Ob i:=Rg.Ob.read G i hq hw λ L a w _ hS=> by
 simp only [execOp,hop,hx,Sem.run_bind,run_load1 (ha w) (hl _ w hS),Result.andThen_ok,Sem.run_pure,hv]
theorem Rg.Ob.askR (G:Rg) (i:Nat) {f:Nat} {args:Array Value} {v:Value} (hc:∀L w,St G.w0 G.fp0 (L++G.R) w->Calls G.P f args w λ e w'=> e=.returned v/\Below w.heap.size w w') (hv:∀g,G.valD i g=v:=by intro _;exact kr (by kernel_rfl))
 (hr:∀a w,(execOp (G.env i a) (opAt G.ops i)).run G.P w=.ok (.enter f args) w:=by intro _ _;exact kr (by kernel_rfl))
 (hq:(G.quiet i G.pcs.length && G.okV i)=true:=by exact kr (by kernel_rfl)) (hw:∀a,wantE G.ops (opAt G.ops i) (G.env i a)=some true:=by intro _;exact kr (by kernel_rfl)):G.Ob i:=
 Rg.Ob.ask G i (args:=λ _=> args) hr (λ L a w _ hS=> by rw [hv];exact hc _ w hS) hq hw
end
end Go.Proofs.YtpdlkdoogojboaaGreat
