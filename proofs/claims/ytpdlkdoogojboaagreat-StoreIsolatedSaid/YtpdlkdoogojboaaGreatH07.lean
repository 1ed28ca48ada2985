/- Part 7 of the proof: Rg2, Rh2, Ri2, M0, M1, Mo, C2, W0, W1, W4, W6, W5 -/
import Derived.Test.YtpdlkdoogojboaaGreatH06
import Derived.Test.YtpdlkdoogojboaaGreatH01
import Derived.Laws.AppendOwn
import Derived.Laws.AppendOwnNone
import Derived.Lib.SliceRun
/- The reference's store: Storable, Put, Insert. -/
namespace Go.Proofs.YtpdlkdoogojboaaGreat
open Go Go.RowKit
set_option maxHeartbeats 4000000 in
theorem RStorable_calls (cols:Nat) (r:Rw) (v:Value) (w:World) (hv:ValsAt w r v):
 Calls Tryz.prog 45 #[.int .i64 cols,v] w fun e w'=> e=.returned (.bool (storB cols r))∧Below w.heap.size w w':=by
 obtain ⟨a,n,c,rfl,hn,hm⟩:=hv.shape
 have HV:=Lib.hid hv
 have HN:=Lib.hid hn
 have hm2:n≤9223372036854775807:=by unfold maxLen at hm;omega
 obtain ⟨q,hq⟩:∃q,storB cols r=q:=⟨_,rfl⟩
 have HQ:RowKit.Hid ((decide (r.length=cols) && r.all okV)=q):=hq
 rw [hq]
 clear hv hn hm hq
 go_enter Tryz.func45,Tryz.ntmps45
 go_wp2
 go_loopg [5] n (fun g z wr=> ∃k:Nat,z=.int .i64 k∧g+k=n∧RowKit.Hid (r.all okV=(r.drop k).all okV)∧RowKit.Hid (Below w.heap.size w wr))
 case atStart=> exact ⟨0,rfl,rfl,(by show _=_;rw [List.drop_zero]),Below.refl _ _⟩
 case round=>
  obtain ⟨k,rfl,hgk,Hp,Hb⟩:=hrel
  by_cases hk:k < n
  · have hkl:k < r.length:=by rw [←HN.out];exact hk
    obtain ⟨b,o,rfl⟩:=HV.out.has k hk
    obtain ⟨c0,c1,c2⟩:=(HV.out.mono Hb.out).cell k hkl
    have hlt:=World.block_lt_of_cell? wr _ c0
    have hk':(k:Int) < n:=by omega
    have HC:=Lib.hid (rvalid_calls r[k] wr (HV.out.txt _ (List.getElem_mem hkl)))
    have hst:(r.drop k).all okV=(okV r[k] && (r.drop (k+1)).all okV):=by rw [List.drop_eq_getElem_cons hkl,List.all_cons]
    have Hst:=Lib.hid hst
    have Hgk:=Lib.hid hgk
    clear hst hgk
    generalize r[k]=x at *
    clear hkl
    unfold Vl.val at HC
    cases hq:okV x
    · rw [hq] at HC Hst
      have HQF:RowKit.Hid (q=false):=by show _=_;rw [←HQ.out,Hp.out,Hst.out];simp
      obtain rfl:=HQF.out
      clear hq
      go_wp2_with fail
      (with_reducible refine HC.out.mono ?_)
      rintro e w1 ⟨rfl,hb1⟩
      have Hb1:=Lib.hid (Hb.out.trans (hb1.mono Hb.out.size))
      clear hb1
      go_wp2
      go_ret
      exact ⟨rfl,Hb1.out⟩
    · rw [hq] at HC Hst
      clear hq
      go_wp2_with fail
      (with_reducible refine HC.out.mono ?_)
      rintro e w1 ⟨rfl,hb1⟩
      have Hb1:=Lib.hid (Hb.out.trans (hb1.mono Hb.out.size))
      clear hb1
      go_wp2
      go_roundg (gk - 1)
      case rel=> exact ⟨k+1,by go_num,by have:=Hgk.out;omega,(by show _=_;rw [Hp.out,Hst.out,Bool.true_and]),Hb1⟩
      case measure=> have:=Hgk.out;omega
  · obtain rfl:k=n:=by omega
    have HE:RowKit.Hid (((k:Int)==cols)=q):=by
     show _=_
     rw [←HQ.out,Hp.out,List.drop_of_length_le (by rw [←HN.out];exact Nat.le_refl _),List.all_nil,Bool.and_true,←HN.out,Bool.eq_iff_iff]
     simp
     omega
    clear hgk hk
    go_wp2
    go_ret
    exact ⟨by rw [←HE.out];rfl,Hb.out⟩
/-- One item in Put's loop. -/
def stepP (k:Int) (x:Ri) (s:List Ri×Bool) (y:Ri):List Ri×Bool:=
 let s1:=if s.2=false∧k≤y.id then (s.1++[x],true) else s
 if y.id=k then s1 else (s1.1++[y],s1.2)
def putR (k:Int) (x:Ri) (l:List Ri):List Ri:=(l.filter fun e=> decide (e.id < k))++x::l.filter fun e=> decide (k < e.id)
theorem riL_putR (k:Int) (x:Ri) (hx:x.id=k) (l:List Ri):riL (putR k x l)=putL' k x.r (riL l):=by
 unfold riL putR putL'
 rw [List.map_append,List.map_cons,List.filter_map,List.filter_map,hx]
 rfl
theorem stepP_lt {k:Int} {x:Ri}:∀(A:List Ri) (o:List Ri),(∀a∈A,a.id < k)→A.foldl (stepP k x) (o,false)=(o++A,false)
 | [],o,_=> by simp
 | a::A,o,h=> by
  have ha:=h a (by simp)
  have h1:¬ k≤a.id:=by omega
  have h2:a.id≠k:=by omega
  rw [List.foldl_cons,show stepP k x (o,false) a=(o++[a],false) by simp [stepP,h1,h2],stepP_lt A _ (fun b hb=> h b (by simp [hb]))]
  simp
theorem stepP_gt {k:Int} {x:Ri}:∀(B:List Ri) (o:List Ri),(∀b∈B,k < b.id)→B.foldl (stepP k x) (o,true)=(o++B,true)
 | [],o,_=> by simp
 | b::B,o,h=> by
  have hb:=h b (by simp)
  have h2:b.id≠k:=by omega
  rw [List.foldl_cons,show stepP k x (o,true) b=(o++[b],true) by simp [stepP,h2],stepP_gt B _ (fun c hc=> h c (by simp [hc]))]
  simp
theorem filt_id {A B:List Ri} {k:Int} (hA:∀a∈A,a.id < k) (hB:∀b∈B,k < b.id):(A++B).filter (fun e=> decide (e.id < k))=A∧(A++B).filter (fun e=> decide (k < e.id))=B:=by
 constructor
 · rw [List.filter_append,List.filter_eq_self.2 (fun a ha=> decide_eq_true (hA a ha)),List.filter_eq_nil_iff.2 (fun b hb=> by have:=hB b hb;simp;omega),List.append_nil]
 · rw [List.filter_append,List.filter_eq_self.2 (fun b hb=> decide_eq_true (hB b hb)),List.filter_eq_nil_iff.2 (fun a ha=> by have:=hA a ha;simp;omega),List.nil_append]
/-- What Put's loop builds. -/
theorem stepP_all {k:Int} {x:Ri} {l:List Ri} (h:l.Pairwise fun a b=> a.id < b.id):(let s:=l.foldl (stepP k x) ([],false);if s.2 then s.1 else s.1++[x])=putR k x l:=by
 have key:∀(A B:List Ri),(∀a∈A,a.id < k)→(∀b∈B,k < b.id)→(let s:=B.foldl (stepP k x) (A,false);if s.2 then s.1 else s.1++[x])=A++x::B:=by
  intro A B hA hB
  cases B with
  | nil=> simp
  | cons b B=>
   have hb:=hB b (by simp)
   have h2:b.id≠k:=by omega
   have h3:k≤b.id:=by omega
   rw [List.foldl_cons,show stepP k x (A,false) b=(A++[x]++[b],true) by simp [stepP,h2,h3],stepP_gt B _ (fun c hc=> hB c (by simp [hc]))]
   simp
 rcases split_id (fun e:Ri=> e.id) l h k with ⟨A,e,B,rfl,he,hA,hB⟩ | ⟨A,B,rfl,hA,hB⟩
 · have h4:putR k x (A++e::B)=A++x::B:=by
    have:=filt_id hA hB
    unfold putR
    rw [List.filter_append,List.filter_append] at *
    rw [List.filter_cons,List.filter_cons,if_neg (by simp [he]),if_neg (by simp [he]),this.1,this.2]
   rw [h4,List.foldl_append,stepP_lt A [] hA,List.nil_append,List.foldl_cons]
   rw [show stepP k x (A,false) e=(A++[x],true) by simp [stepP,he],stepP_gt B _ hB]
   simp
 · have h4:putR k x (A++B)=A++x::B:=by
    unfold putR
    rw [(filt_id hA hB).1,(filt_id hA hB).2]
   rw [h4,List.foldl_append,stepP_lt A [] hA,List.nil_append]
   exact key A B hA hB
theorem stepP_len (k:Int) (x:Ri):∀(l:List Ri) (s:List Ri×Bool),(l.foldl (stepP k x) s).1.length≤s.1.length+2 * l.length
 | [],s=> by simp
 | y::l,s=> by
  have h1:=stepP_len k x l (stepP k x s y)
  have h2:(stepP k x s y).1.length≤s.1.length+2:=by
   unfold stepP
   split <;> split <;> simp
  simp only [List.foldl_cons,List.length_cons]
  omega
theorem asc_putR {k:Int} {x:Ri} (hx:x.id=k) {l:List Ri} (h:l.Pairwise fun a b=> a.id < b.id):(putR k x l).Pairwise fun a b=> a.id < b.id:=by
 unfold putR
 refine List.pairwise_append.2 ⟨h.sublist List.filter_sublist,List.pairwise_cons.2 ⟨fun b hb=> by rw [hx];simpa using (List.mem_filter.1 hb).2,h.sublist List.filter_sublist⟩,fun a ha b hb=> ?_⟩
 have h1:a.id < k:=by simpa using (List.mem_filter.1 ha).2
 rcases List.mem_cons.1 hb with rfl | hb
 · omega
 · have:k < b.id:=by simpa using (List.mem_filter.1 hb).2
   omega
/- The reference's store: Put. -/
theorem limit_calls (w:World):Calls Tryz.prog 80 #[] w fun e w'=> e=.returned (.int .i64 4611686018427387904)∧w=w':=by
 go_enter Tryz.func80,Tryz.ntmps80
 go_wp2
 go_ret
 exact ⟨rfl,rfl⟩
/-- A store is put into the result. -/
theorem cpRS {w0 w:World} {fp0:List Nat} {R:List Asn} {A:Asn} {vb rb:Nat} {c0 c1 c2 r0 r1 r2:Value} (h:St w0 fp0 (A::blkA vb 44 #[c0,c1,c2]::blkA rb 44 #[r0,r1,r2]::R) w):
 St w0 fp0 (A::R) (((w.setCell ⟨rb,0,none⟩ c0).setCell ⟨rb,1,none⟩ c1).setCell ⟨rb,2,none⟩ c2):=by
 have h2:=(h.perm (List.Perm.cons _ (List.Perm.swap _ _ _))).perm (List.Perm.swap _ _ _)
 have h3:=((h2.setB 0 (by simp) c0).setB 1 (by simp) c1).setB 2 (by simp) c2
 exact (h3.drop.perm (List.Perm.swap _ _ _)).drop
theorem riA_snoc {w0 w:World} {fp0:List Nat} {R:List Asn} {v:Value} {l:List Ri} (x:Ri) (h:St w0 fp0 (rowA 109 2 v (l.length+1) (riV l++[.int .i64 x.id,x.v])::R) w):St w0 fp0 (riA v (l++[x])::R) w:=by
 unfold riA
 rw [riV_append,List.length_append]
 exact h
/-- List and number are put into the store's variable, this one into the result. -/
theorem setRN {w0 w:World} {fp0:List Nat} {R:List Asn} {A:Asn} {vb rb cols:Nat} {o:Value} {next:Int} {r0 r1 r2:Value} (h:St w0 fp0 (A::blkA vb 44 #[.int .i64 cols,o, .int .i64 next]::blkA rb 44 #[r0,r1,r2]::R) w) (v:Value) (nx:Int):
 St w0 fp0 (A::R) (((((w.setCell ⟨vb,1,none⟩ v).setCell ⟨vb,2,none⟩ (.int .i64 nx)).setCell ⟨rb,0,none⟩ (.int .i64 cols)).setCell ⟨rb,1,none⟩ v).setCell ⟨rb,2,none⟩ (.int .i64 nx)):=by
 have h1:=((h.perm (List.Perm.swap _ _ _)).setB 1 (by simp) v).setB 2 (by simp) (.int .i64 nx)
 exact cpRS (h1.perm (List.Perm.swap _ _ _))
theorem rp_cells {w0 w:World} {fp0:List Nat} {R:List Asn} {A B Z:Asn} {vb lb lo n c i:Nat} {c0 c2:Value} {l:List Ri} {y:Ri} (hz:Rd w0 fp0 (Z::R) fun w=> SlX [] w 2 l.length (riV l) (.slice (some ⟨lb,lo,none⟩) n c)) (h:St w0 fp0 (A::blkA vb 44 #[c0, .slice (some ⟨lb,lo,none⟩) n c,c2]::B::Z::R) w) (hy:l[i]? =some y):
 w.cell? ⟨vb,1,none⟩=some (.slice (some ⟨lb,lo,none⟩) n c)∧vb < w.heap.size∧w.cell? ⟨lb,lo+i * 2,none⟩=some (.int .i64 y.id)∧w.cell? ⟨lb,lo+i * 2+1,none⟩=some y.v∧lb < w.heap.size:=by
 obtain ⟨_,hb⟩:=h.has 1 rfl
 have hp:=hz.at (M:=[_,_,_]) h
 obtain ⟨hi,rfl⟩:=List.getElem?_eq_some_iff.1 hy
 obtain ⟨b,o,c',e1,q1,q2⟩:=ri_cells hp i hi
 obtain ⟨e1, -, -⟩:=Value.slice.inj e1
 injection e1 with e1
 injection e1 with e1 e2
 subst e1 e2
 exact ⟨(blk_get hb).1 1,(blk_get hb).2.2,q1,q2,World.block_lt_of_cell? w _ q1⟩
/-- The lists behind Put. -/
def PutPostZ (Z:Asn) (w0:World) (fp0:List Nat) (R:List Asn) (q:Bool) (lv lv2:Value) (x:Ri) (l:List Ri) (w:World):Prop:=(q=true∧St w0 fp0 (riA lv2 (putR x.id x l)::Z::R) w)∨(q=false∧lv2=lv∧St w0 fp0 (Z::R) w)
set_option maxHeartbeats 8000000 in
set_option maxRecDepth 20000 in
theorem RPut_callsZ (Z:Asn) (cols:Nat) (lv:Value) (next:Int) (x:Ri) (l:List Ri) (hasc:l.Pairwise fun a b=> a.id < b.id) (hlen:l.length < 400000000000) (w0 w:World) (fp0:List Nat) (R:List Asn) (hv:Rd w0 fp0 R fun w=> ValsAt w x.r x.v) (hz:Rd w0 fp0 (Z::R) fun w=> SlX [] w 2 l.length (riV l) lv) (hS:St w0 fp0 (Z::R) w):
 Calls Tryz.prog 49 #[rsV cols lv next, .int .i64 x.id,x.v] w fun e w'=> ∃lv2,e=.returned (.tuple #[rsV cols lv2 (putN cols x.id x.r next),errV (putOk cols x.id x.r)])∧PutPostZ Z w0 fp0 R (putOk cols x.id x.r) lv lv2 x l w':=by
 obtain ⟨a,c,rfl⟩:=(hz.here hS).shape
 obtain ⟨n,hn⟩:∃n,l.length=n:=⟨_,rfl⟩
 have hn63:n≤9223372036854775807:=by omega
 have HN:=Lib.hid hn
 rw [hn] at hz
 have HZ:=Lib.hid hz
 have HL:=Lib.hid hlen
 have H0:RowKit.Hid (St w0 fp0 (Z::blkA w.heap.size 44 #[.int .i64 cols, .slice a n c, .int .i64 next]::blkA (w.heap.size+1) 44 #[.int .i64 0, .slice none 0 0, .int .i64 0]::R) ((w.alloc (.cells #[.int .i64 cols, .slice a n c, .int .i64 next] 44)).alloc (.cells #[.int .i64 0, .slice none 0 0, .int .i64 0] 44))):=by
  have h1:=((hS.newblk 44 #[.int .i64 cols, .slice a n c, .int .i64 next]).newblk 44 #[.int .i64 0, .slice none 0 0, .int .i64 0])
  simp only [World.size_alloc] at h1
  exact St_re (L:=[_,_,_]) h1 [2,1,0] [] (by kernel_rfl)
 have HV:RowKit.Hid (∀M w',St w0 fp0 (M++R) w'→ValsAt w' x.r x.v):=fun M w' h=> hv.at h
 have HAL:=Lib.hid (stepP_all (k:=x.id) (x:=x) hasc)
 have HSL:=Lib.hid (fun m=> stepP_len x.id x (l.take m) ([],false))
 have HST:RowKit.Hid (∀i (hi:i < l.length),(l.take (i+1)).foldl (stepP x.id x) ([],false)=stepP x.id x ((l.take i).foldl (stepP x.id x) ([],false)) l[i]):=fun i hi=> by
  rw [List.take_add_one,List.getElem?_eq_getElem hi,List.foldl_append]
  rfl
 unfold putN
 obtain ⟨q,hq⟩:∃q,putOk cols x.id x.r=q:=⟨_,rfl⟩
 have HQ:RowKit.Hid ((decide (1≤x.id∧x.id≤4611686018427387904) && storB cols x.r)=q):=hq
 rw [hq,hn]
 clear hS hz hn hlen hv hasc hq
 obtain ⟨k,xa,xn,xc,xr⟩:=x
 unfold Ri.v at *
 unfold rsV
 simp only at *
 obtain ⟨X,hX⟩:∃X:Ri,(⟨k,xa,xn,xc,xr⟩:Ri)=X:=⟨_,rfl⟩
 have HX:=Lib.hid hX
 rw [hX] at HAL HSL HST ⊢
 clear hX
 obtain ⟨vb,hvb⟩:∃vb,w.heap.size=vb:=⟨_,rfl⟩
 have H0':RowKit.Hid (∃W,(w.alloc (.cells #[.int .i64 cols, .slice a n c, .int .i64 next] 44)).alloc (.cells #[.int .i64 0, .slice none 0 0, .int .i64 0] 44)=W∧St w0 fp0 (Z::blkA vb 44 #[.int .i64 cols, .slice a n c, .int .i64 next]::blkA (vb+1) 44 #[.int .i64 0, .slice none 0 0, .int .i64 0]::R) W):=⟨_,rfl,by rw [←hvb];exact H0.out⟩
 clear H0
 go_enter Tryz.func49,Tryz.ntmps49
 go_upto_region 1 with (fail)
 obtain ⟨W,hW,hs⟩:=H0'.out
 rw [hW]
 have H1:=Lib.hid hs
 obtain ⟨_,hb1⟩:=hs.has 1 rfl
 obtain ⟨_,hb2⟩:=hs.has 2 rfl
 have c0:=(blk_get hb1).1 0
 have c1:=(blk_get hb1).1 1
 have c2:=(blk_get hb1).1 2
 have d0:=(blk_get hb2).1 0
 have d1:=(blk_get hb2).1 1
 have d2:=(blk_get hb2).1 2
 have g0:=(blk_get hb2).2.1 0
 have g1:=(blk_get hb2).2.1 1
 have g2:=(blk_get hb2).2.1 2
 have bl1:=(blk_get hb1).2.2
 have bl2:=(blk_get hb2).2.2
 simp only [List.getElem?_toArray,List.getElem?_cons_zero,List.getElem?_cons_succ] at c0 c1 c2 d0 d1 d2
 have HEND:RowKit.Hid (St w0 fp0 (Z::R) (((W.setCell ⟨vb+1,0,none⟩ (.int .i64 cols)).setCell ⟨vb+1,1,none⟩ (.slice a n c)).setCell ⟨vb+1,2,none⟩ (.int .i64 next))):=cpRS hs
 clear hW hvb H0' hs hb1 hb2
 by_cases h1:k < 1
 · have HE:RowKit.Hid (q=false):=by show _=_;rw [←HQ.out,decide_eq_false (by omega)];rfl
   obtain rfl:=HE.out
   go_wp2
   refine bodyPost_ret (v:=.tuple #[.agg #[.int .i64 cols, .slice a n c, .int .i64 next], .int .i64 1]) (by clear HV HAL HSL HST HEND;simp [results,Tryz.results49,go_sem, *]) rfl ?_
   exact ⟨_,rfl, .inr ⟨rfl,rfl,HEND.out⟩⟩
 · by_cases h2:4611686018427387904 < k
   · have HE:RowKit.Hid (q=false):=by show _=_;rw [←HQ.out,decide_eq_false (by omega)];rfl
     obtain rfl:=HE.out
     go_wp2_with (first | (go_at_call 80;(with_reducible refine (limit_calls _).mono ?_);rintro e w1 ⟨rfl,rfl⟩))
     refine bodyPost_ret (v:=.tuple #[.agg #[.int .i64 cols, .slice a n c, .int .i64 next], .int .i64 1]) (by clear HV HAL HSL HST HEND;simp [results,Tryz.results49,go_sem, *]) rfl ?_
     exact ⟨_,rfl, .inr ⟨rfl,rfl,HEND.out⟩⟩
   · have HSTO:=Lib.hid (RStorable_calls cols xr (.slice xa xn xc) W (HV.out [_,_,_] W H1.out))
     have HQ2:RowKit.Hid (storB cols xr=q):=by show _=_;rw [←HQ.out,decide_eq_true (by omega),Bool.true_and]
     rw [HQ2.out] at HSTO
     have HQ3:RowKit.Hid (q=true→decide (1≤k∧k≤4611686018427387904)=true):=fun _=> decide_eq_true (by omega)
     cases q
     · go_wp2_with (first
        | (go_at_call 80;(with_reducible refine (limit_calls _).mono ?_);rintro e w1 ⟨rfl,rfl⟩))
       (with_reducible refine HSTO.out.mono ?_)
       rintro e w1 ⟨rfl,hb⟩
       have hs:=H1.out.mono hb
       clear HEND c0 c1 c2 d0 d1 d2 g0 g1 g2 bl1 bl2 hb
       obtain ⟨_,hb1⟩:=hs.has 1 rfl
       obtain ⟨_,hb2⟩:=hs.has 2 rfl
       have c0:=(blk_get hb1).1 0
       have c1:=(blk_get hb1).1 1
       have c2:=(blk_get hb1).1 2
       have f1:=(blk_get hb1).2.1 1
       have f2:=(blk_get hb1).2.1 2
       have d0:=(blk_get hb2).1 0
       have d1:=(blk_get hb2).1 1
       have d2:=(blk_get hb2).1 2
       have g0:=(blk_get hb2).2.1 0
       have g1:=(blk_get hb2).2.1 1
       have g2:=(blk_get hb2).2.1 2
       have bl1:=(blk_get hb1).2.2
       have bl2:=(blk_get hb2).2.2
       simp only [List.getElem?_toArray,List.getElem?_cons_zero,List.getElem?_cons_succ] at c0 c1 c2 d0 d1 d2
       have HEND:RowKit.Hid (St w0 fp0 (Z::R) (((w1.setCell ⟨vb+1,0,none⟩ (.int .i64 cols)).setCell ⟨vb+1,1,none⟩ (.slice a n c)).setCell ⟨vb+1,2,none⟩ (.int .i64 next))):=cpRS hs
       clear hb1 hb2 hs H1 HSTO
       go_wp2
       refine bodyPost_ret (v:=.tuple #[.agg #[.int .i64 cols, .slice a n c, .int .i64 next], .int .i64 1]) (by clear HV HAL HSL HST HEND;simp [results,Tryz.results49,go_sem, *]) rfl ?_
       exact ⟨_,rfl, .inr ⟨rfl,rfl,HEND.out⟩⟩
     · go_wp2_with (first
        | (go_at_call 80;(with_reducible refine (limit_calls _).mono ?_);rintro e w1 ⟨rfl,rfl⟩))
       (with_reducible refine HSTO.out.mono ?_)
       rintro e w1 ⟨rfl,hb⟩
       have H2:RowKit.Hid (∃s,s=(l.take 0).foldl (stepP k X) ([],false)∧St w0 fp0 (riA (.slice none 0 0) s.1::blkA vb 44 #[.int .i64 cols, .slice a n c, .int .i64 next]::blkA (vb+1) 44 #[.int .i64 0, .slice none 0 0, .int .i64 0]::Z::R) w1):=by
        refine ⟨_,rfl,?_⟩
        rw [List.take_zero]
        have h:=(H1.out.mono hb).nilR 109 2
        exact St_re (L:=[_,_,_,_]) h [0,2,3,1] [] (by kernel_rfl)
       clear HEND c0 c1 c2 d0 d1 d2 g0 g1 g2 bl1 bl2 hb H1 HSTO
       obtain ⟨s0,hs0,hs⟩:=H2.out
       obtain ⟨_,hb1⟩:=hs.has 1 rfl
       have c1:=(blk_get hb1).1 1
       have bl1:=(blk_get hb1).2.2
       simp only [List.getElem?_toArray,List.getElem?_cons_zero,List.getElem?_cons_succ] at c1
       clear hs hs0 hb1
       go_wp2
       go_loopg [8,9,10] n (fun g z8 z9 z wr=> ∃(i:Nat) (b:Bool),z=.int .i64 i∧z9=.bool b∧g+i=n∧RowKit.Hid (∃s,s=(l.take i).foldl (stepP k X) ([],false)∧b=s.2∧St w0 fp0 (riA z8 s.1::blkA vb 44 #[.int .i64 cols, .slice a n c, .int .i64 next]::blkA (vb+1) 44 #[.int .i64 0, .slice none 0 0, .int .i64 0]::Z::R) wr))
       case atStart=>
        obtain ⟨s0,hs0,hs⟩:=H2.out
        exact ⟨0,false,rfl,rfl,rfl,s0,hs0,by rw [hs0];rfl,hs⟩
       case round=>
        clear H2 c1 bl1
        obtain ⟨i,b,rfl,rfl,hgi,Hs⟩:=hrel
        obtain ⟨s,hs0,hbs,hs⟩:=Hs.out
        obtain ⟨_,hb1⟩:=hs.has 1 rfl
        obtain ⟨_,hb2⟩:=hs.has 2 rfl
        have c0:=(blk_get hb1).1 0
        have c1:=(blk_get hb1).1 1
        have c2:=(blk_get hb1).1 2
        have f1:=(blk_get hb1).2.1 1
        have f2:=(blk_get hb1).2.1 2
        have d0:=(blk_get hb2).1 0
        have d1:=(blk_get hb2).1 1
        have d2:=(blk_get hb2).1 2
        have g0:=(blk_get hb2).2.1 0
        have g1:=(blk_get hb2).2.1 1
        have g2:=(blk_get hb2).2.1 2
        have bl1:=(blk_get hb1).2.2
        have bl2:=(blk_get hb2).2.2
        simp only [List.getElem?_toArray,List.getElem?_cons_zero,List.getElem?_cons_succ] at c0 c1 c2 d0 d1 d2
        by_cases hi:i < n
        · have hil:i < l.length:=by rw [HN.out];exact hi
          have hst:=HST.out i hil
          rw [←hs0] at hst
          have hp:=HZ.out.at (M:=[_,_,_]) hs
          obtain ⟨lb,lo,c',e1,q1,q2⟩:=ri_cells (by rw [HN.out];exact hp) i hil
          obtain ⟨rfl, -,rfl⟩:=Value.slice.inj e1
          have hql:=World.block_lt_of_cell? _ _ q1
          have hi':(i:Int) < n:=by omega
          have hlen:s.1.length+2 < 1099511627776:=by
           have h1:=HSL.out i
           rw [←hs0,List.length_take,List.length_nil] at h1
           have:=HL.out
           omega
          have Hlen:=Lib.hid hlen
          have Hgi:=Lib.hid hgi
          have Hst:=Lib.hid hst
          have HS:=Lib.hid hs
          have HY:=Lib.hid (List.getElem?_eq_getElem hil)
          clear e1 hgi hst hp hlen hb1 hb2 hs hs0 Hs d0 d1 d2 g0 g1 g2 bl2 f1 f2
          generalize l[i]=y at *
          clear hil
          obtain ⟨yid,ya,yn,yc,yr⟩:=y
          obtain ⟨out,pl⟩:=s
          unfold Ri.v at q2
          simp only at q1 q2 Hst hbs HS Hlen
          subst hbs
          cases b
          · by_cases hge:k≤yid
            · by_cases hx:yid=k
              · have hxk:(yid !=k)=false:=by simp [hx]
                have hx2:=Lib.hid hx
                have hge2:=Lib.hid hge
                clear hx
                go_wp2_with (first | (at_builtin;refine wpList_appR rfl _ _ _ _ rfl rfl rfl appRI (HS.out.mono ((Below.refl _ _).alloc (Nat.le_refl _) _)) (src_litk (e':=109) (by kernel_rfl) _ 2 _ 1 _ _ _ #[.int .i64 k, .slice xa xn xc] (heap_alloc_new _ _) rfl (by simp;exact ⟨rfl,rfl⟩)) (by have:=Hlen.out;omega) ?_;intro v3 w3 h3;obtain ⟨k1,k2,k3,k4,k5⟩:=rp_cells (by rw [HN.out];exact HZ.out) h3.out HY.out;unfold Ri.v at k4;simp only at k3 k4))
                go_roundg (gk - 1)
                case rel=> exact ⟨i+1,true,by go_num,rfl,by have:=Hgi.out;omega,(out++[X],true),by rw [Hst.out];simp [stepP,hx2.out],rfl,(by have h4:=riA_snoc (⟨k,xa,xn,xc,xr⟩:Ri) h3.out;rw [HX.out] at h4;exact h4)⟩
                case measure=> have:=Hgi.out;omega
              · have hxk:(yid !=k)=true:=by simp [hx]
                have hx2:=Lib.hid hx
                have hge2:=Lib.hid hge
                clear hx
                go_wp2_with (first
                 | (at_builtin;refine wpList_appR rfl _ _ _ _ rfl rfl rfl appRI (HS.out.mono ((Below.refl _ _).alloc (Nat.le_refl _) _)) (src_litk (e':=109) (by kernel_rfl) _ 2 _ 1 _ _ _ #[.int .i64 k, .slice xa xn xc] (heap_alloc_new _ _) rfl (by simp;exact ⟨rfl,rfl⟩)) (by have:=Hlen.out;omega) ?_;intro v3 w3 h3;obtain ⟨k1,k2,k3,k4,k5⟩:=rp_cells (by rw [HN.out];exact HZ.out) h3.out HY.out;unfold Ri.v at k4;simp only at k3 k4)
                 | (at_builtin;refine wpList_appR rfl _ _ _ _ rfl rfl rfl appRI ((riA_snoc (⟨k,xa,xn,xc,xr⟩:Ri) h3.out).mono ((Below.refl _ _).alloc (Nat.le_refl _) _)) (src_litk (e':=109) (by kernel_rfl) _ 2 _ 1 _ _ _ #[.int .i64 yid, .slice ya yn yc] (heap_alloc_new _ _) rfl (by simp;exact ⟨rfl,rfl⟩)) (by have:=Hlen.out;simp;omega) ?_;intro v4 w4 h4))
                go_roundg (gk - 1)
                case rel=> exact ⟨i+1,true,by go_num,rfl,by have:=Hgi.out;omega,(out++[X]++[⟨yid,ya,yn,yc,yr⟩],true),by rw [Hst.out];simp [stepP,hx2.out,hge2.out],rfl,(by have h5:=riA_snoc (⟨yid,ya,yn,yc,yr⟩:Ri) h4.out;rw [HX.out] at h5;exact h5)⟩
                case measure=> have:=Hgi.out;omega
            · have hx:¬ yid=k:=by omega
              have hxk:(yid !=k)=true:=by simp [hx]
              have hx2:=Lib.hid hx
              have hge2:=Lib.hid hge
              clear hx
              go_wp2_with (first | (at_builtin;refine wpList_appR rfl _ _ _ _ rfl rfl rfl appRI (HS.out.mono ((Below.refl _ _).alloc (Nat.le_refl _) _)) (src_litk (e':=109) (by kernel_rfl) _ 2 _ 1 _ _ _ #[.int .i64 yid, .slice ya yn yc] (heap_alloc_new _ _) rfl (by simp;exact ⟨rfl,rfl⟩)) (by have:=Hlen.out;omega) ?_;intro v3 w3 h3;obtain ⟨k1,k2,k3,k4,k5⟩:=rp_cells (by rw [HN.out];exact HZ.out) h3.out HY.out;unfold Ri.v at k4;simp only at k3 k4))
              go_roundg (gk - 1)
              case rel=> exact ⟨i+1,false,by go_num,rfl,by have:=Hgi.out;omega,(out++[⟨yid,ya,yn,yc,yr⟩],false),by rw [Hst.out];have h9:¬ k≤yid:=(by have:=hge2.out;omega);simp [stepP,hx2.out,if_neg h9],rfl,riA_snoc (⟨yid,ya,yn,yc,yr⟩:Ri) h3.out⟩
              case measure=> have:=Hgi.out;omega
          · by_cases hx:yid=k
            · have hxk:(yid !=k)=false:=by simp [hx]
              have hx2:=Lib.hid hx
              clear hx
              go_wp2
              go_roundg (gk - 1)
              case rel=> exact ⟨i+1,true,by go_num,rfl,by have:=Hgi.out;omega,(out,true),by rw [Hst.out];simp [stepP,hx2.out],rfl,HS.out⟩
              case measure=> have:=Hgi.out;omega
            · have hxk:(yid !=k)=true:=by simp [hx]
              have hx2:=Lib.hid hx
              clear hx
              go_wp2_with (first | (at_builtin;refine wpList_appR rfl _ _ _ _ rfl rfl rfl appRI (HS.out.mono ((Below.refl _ _).alloc (Nat.le_refl _) _)) (src_litk (e':=109) (by kernel_rfl) _ 2 _ 1 _ _ _ #[.int .i64 yid, .slice ya yn yc] (heap_alloc_new _ _) rfl (by simp;exact ⟨rfl,rfl⟩)) (by have:=Hlen.out;omega) ?_;intro v3 w3 h3;obtain ⟨k1,k2,k3,k4,k5⟩:=rp_cells (by rw [HN.out];exact HZ.out) h3.out HY.out;unfold Ri.v at k4;simp only at k3 k4))
              go_roundg (gk - 1)
              case rel=> exact ⟨i+1,true,by go_num,rfl,by have:=Hgi.out;omega,(out++[⟨yid,ya,yn,yc,yr⟩],true),by rw [Hst.out];simp [stepP,hx2.out],rfl,riA_snoc (⟨yid,ya,yn,yc,yr⟩:Ri) h3.out⟩
              case measure=> have:=Hgi.out;omega
        · obtain rfl:i=n:=by omega
          rw [List.take_of_length_le (by rw [HN.out];exact Nat.le_refl _)] at hs0
          obtain ⟨out,pl⟩:=s
          simp only at hbs hs
          subst hbs
          have hal:=HAL.out
          rw [←hs0] at hal
          have hlen:out.length+2 < 1099511627776:=by
           have h1:=HSL.out i
           rw [List.take_of_length_le (by rw [HN.out];exact Nat.le_refl _),←hs0,List.length_nil] at h1
           have:=HL.out
           simp only at h1
           omega
          have Hlen:=Lib.hid hlen
          have HS:=Lib.hid hs
          have hw:IntKind.i64.wrap (k+1)=k+1:=IntWalk.i64_in _ (by omega)
          simp only at hal
          have HALL:=Lib.hid hal
          clear hs0 hgi hi hlen Hs hal hs hb1 hb2
          cases b
          · go_upto_region 15 with (first | (at_builtin;refine wpList_appR rfl _ _ _ _ rfl rfl rfl appRI (HS.out.mono ((Below.refl _ _).alloc (Nat.le_refl _) _)) (src_litk (e':=109) (by kernel_rfl) _ 2 _ 1 _ _ _ #[.int .i64 k, .slice xa xn xc] (heap_alloc_new _ _) rfl (by simp;exact ⟨rfl,rfl⟩)) (by have:=Hlen.out;omega) ?_;intro v3 w3 h3))
            have H3:RowKit.Hid (St w0 fp0 (riA v3 (putR k X l)::blkA vb 44 #[.int .i64 cols, .slice a i c, .int .i64 next]::blkA (vb+1) 44 #[.int .i64 0, .slice none 0 0, .int .i64 0]::Z::R) w3):=by
             have h4:=riA_snoc (⟨k,xa,xn,xc,xr⟩:Ri) h3.out
             rw [HX.out] at h4
             have h5:=HALL.out
             rw [if_neg (by simp)] at h5
             rw [h5] at h4
             exact h4
            clear HS h3 c0 c1 c2 d0 d1 d2 f1 f2 g0 g1 g2 bl1 bl2 Hlen
            have hs:=H3.out
            obtain ⟨_,hb1⟩:=hs.has 1 rfl
            obtain ⟨_,hb2⟩:=hs.has 2 rfl
            have c0:=(blk_get hb1).1 0
            have c1:=(blk_get hb1).1 1
            have c2:=(blk_get hb1).1 2
            have f1:=(blk_get hb1).2.1 1
            have f2:=(blk_get hb1).2.1 2
            have d0:=(blk_get hb2).1 0
            have d1:=(blk_get hb2).1 1
            have d2:=(blk_get hb2).1 2
            have g0:=(blk_get hb2).2.1 0
            have g1:=(blk_get hb2).2.1 1
            have g2:=(blk_get hb2).2.1 2
            have bl1:=(blk_get hb1).2.2
            have bl2:=(blk_get hb2).2.2
            simp only [List.getElem?_toArray,List.getElem?_cons_zero,List.getElem?_cons_succ] at c0 c1 c2 d0 d1 d2
            obtain ⟨_,hrow⟩:=hs.has 0 rfl
            obtain ⟨ya,yc,hyy⟩:=(riA_sl hrow).shape
            subst hyy
            obtain ⟨m,hm⟩:∃m,(putR k X l).length=m:=⟨_,rfl⟩
            rw [hm] at hs
            have HF1:=Lib.hid (setRS hs (.slice ya m yc))
            have HF2:=Lib.hid (setRN hs (.slice ya m yc) (k+1))
            rw [hm]
            clear hs hrow hb1 hb2 hm H3
            by_cases hnx:next≤k
            · have hmx:max next (k+1)=k+1:=by omega
              have HMX:=Lib.hid hmx
              clear hmx
              go_wp2
              refine bodyPost_ret (v:=.tuple #[.agg #[.int .i64 cols, .slice ya m yc, .int .i64 (k+1)], .int .i64 0]) (by clear HV HAL HSL HST HF1 HF2;simp [results,Tryz.results49,go_sem, *]) rfl ?_
              refine ⟨.slice ya m yc,?_, .inl ⟨rfl,?_⟩⟩
              · rw [HMX.out];rfl
              · rw [show X.id=k by rw [←HX.out]]
                exact HF2.out
            · have hmx:max next (k+1)=next:=by omega
              have HMX:=Lib.hid hmx
              clear hmx
              go_wp2
              refine bodyPost_ret (v:=.tuple #[.agg #[.int .i64 cols, .slice ya m yc, .int .i64 next], .int .i64 0]) (by clear HV HAL HSL HST HF1 HF2;simp [results,Tryz.results49,go_sem, *]) rfl ?_
              refine ⟨.slice ya m yc,?_, .inl ⟨rfl,?_⟩⟩
              · rw [HMX.out];rfl
              · rw [show X.id=k by rw [←HX.out]]
                exact HF1.out
          · have H3:RowKit.Hid (St w0 fp0 (riA u8 (putR k X l)::blkA vb 44 #[.int .i64 cols, .slice a i c, .int .i64 next]::blkA (vb+1) 44 #[.int .i64 0, .slice none 0 0, .int .i64 0]::Z::R) wr):=by
             have h5:=HALL.out
             rw [if_pos rfl] at h5
             have h4:=HS.out
             rw [h5] at h4
             exact h4
            clear HS c0 c1 c2 d0 d1 d2 f1 f2 g0 g1 g2 bl1 bl2 Hlen
            have hs:=H3.out
            obtain ⟨_,hb1⟩:=hs.has 1 rfl
            obtain ⟨_,hb2⟩:=hs.has 2 rfl
            have c0:=(blk_get hb1).1 0
            have c1:=(blk_get hb1).1 1
            have c2:=(blk_get hb1).1 2
            have f1:=(blk_get hb1).2.1 1
            have f2:=(blk_get hb1).2.1 2
            have d0:=(blk_get hb2).1 0
            have d1:=(blk_get hb2).1 1
            have d2:=(blk_get hb2).1 2
            have g0:=(blk_get hb2).2.1 0
            have g1:=(blk_get hb2).2.1 1
            have g2:=(blk_get hb2).2.1 2
            have bl1:=(blk_get hb1).2.2
            have bl2:=(blk_get hb2).2.2
            simp only [List.getElem?_toArray,List.getElem?_cons_zero,List.getElem?_cons_succ] at c0 c1 c2 d0 d1 d2
            obtain ⟨_,hrow⟩:=hs.has 0 rfl
            obtain ⟨ya,yc,hyy⟩:=(riA_sl hrow).shape
            subst hyy
            obtain ⟨m,hm⟩:∃m,(putR k X l).length=m:=⟨_,rfl⟩
            rw [hm] at hs
            have HF1:=Lib.hid (setRS hs (.slice ya m yc))
            have HF2:=Lib.hid (setRN hs (.slice ya m yc) (k+1))
            rw [hm]
            clear hs hrow hb1 hb2 hm H3
            by_cases hnx:next≤k
            · have hmx:max next (k+1)=k+1:=by omega
              have HMX:=Lib.hid hmx
              clear hmx
              go_wp2
              refine bodyPost_ret (v:=.tuple #[.agg #[.int .i64 cols, .slice ya m yc, .int .i64 (k+1)], .int .i64 0]) (by clear HV HAL HSL HST HF1 HF2;simp [results,Tryz.results49,go_sem, *]) rfl ?_
              refine ⟨.slice ya m yc,?_, .inl ⟨rfl,?_⟩⟩
              · rw [HMX.out];rfl
              · rw [show X.id=k by rw [←HX.out]]
                exact HF2.out
            · have hmx:max next (k+1)=next:=by omega
              have HMX:=Lib.hid hmx
              clear hmx
              go_wp2
              refine bodyPost_ret (v:=.tuple #[.agg #[.int .i64 cols, .slice ya m yc, .int .i64 next], .int .i64 0]) (by clear HV HAL HSL HST HF1 HF2;simp [results,Tryz.results49,go_sem, *]) rfl ?_
              refine ⟨.slice ya m yc,?_, .inl ⟨rfl,?_⟩⟩
              · rw [HMX.out];rfl
              · rw [show X.id=k by rw [←HX.out]]
                exact HF1.out
/- The reference's store: Insert; Same. -/
/- Changes of a table's rows, plain: what a change answers, what it makes of the rows, and that its inverse takes it back. -/
/-- The answer to a change. -/
def chkT (cols:Nat) (L:LL) (id:Int) (old new:Rw):Int:=
 if ¬ (1≤id∧id≤4611686018427387904)∨(old=[]∧new=[])∨(new≠[]∧storB cols new=false) then 1
 else if old=[] then (if (getL L id).isSome then 5 else 0) else if getL L id=some old then 0 else 4
/-- The rows behind it. -/
def appT (cols:Nat) (id:Int) (new:Rw) (L:LL):LL:=if new=[] then delL id L else putLL cols id new L
def appN (cols:Nat) (id:Int) (new:Rw) (next:Int):Int:=if new=[] then next else putN cols id new next
theorem chkT_ok {cols:Nat} {L:LL} {id:Int} {old new:Rw} (h:chkT cols L id old new=0):(1≤id∧id≤4611686018427387904)∧¬ (old=[]∧new=[])∧(new≠[]→storB cols new=true)∧((old=[]∧getL L id=none)∨(old≠[]∧getL L id=some old)):=by
 unfold chkT at h
 split at h
 · cases h
 rename_i h1
 refine ⟨Classical.byContradiction fun x=> h1 (.inl x),fun e=> h1 (.inr (.inl e)),fun e=> by
  cases q:storB cols new with
  | true=> rfl
  | false=> exact absurd (.inr (.inr ⟨e,q⟩)) h1,?_⟩
 split at h
 · rename_i e
   split at h
   · cases h
   · rename_i g
     exact .inl ⟨e,by simpa using g⟩
 · rename_i e
   split at h
   · rename_i g
     exact .inr ⟨e,g⟩
   · cases h
/- Layer 40: the schema, the changes, the stores in memory. -/
/-- A table's definition as it is read. -/
structure Td where
 nm:ByteArray
 ca:Option Addr
 n:Nat
 cc:Nat
 kv:Value
 fv:Value
 xa:Option Addr
 xn:Nat
 xc:Nat
 cvs:List Value
 kvs:List Value
 fvs:List Value
 K:List (List Int)
 F:List (List Int)
def Td.c (t:Td):List Value:=[.string t.nm, .slice t.ca t.n t.cc,t.kv,t.fv, .slice t.xa t.xn t.xc]
structure Td.X (w:World) (t:Td):Prop where
 cols:SlX [] w 6 t.n t.cvs (.slice t.ca t.n t.cc)
 one:∀u∈t.cvs,u.oneCell'=true
 keys:KeysX w t.kvs t.K t.kv
 fors:ForsX w t.fvs t.F t.fv
/-- What is small about it. -/
structure Td.Sm (t:Td):Prop where
 n:t.n≤1000
 k:t.K.length≤1000
 f:t.F.length≤1000
 kl:∀c∈t.K,c.length≤1000
 fl:∀c∈t.F,c.length≤1000
theorem KeysX.mono {w w':World} {vs:List Value} {ks:List (List Int)} {v:Value} (h:KeysX w vs ks v) (hb:Below w.heap.size w w'):KeysX w' vs ks v:=⟨h.1.mono hb,fun i hi=> by
 obtain ⟨u,h1,h2⟩:=h.2 i hi
 exact ⟨u,h1,h2.mono hb⟩⟩
theorem ForsX.mono {w w':World} {vs:List Value} {ks:List (List Int)} {v:Value} (h:ForsX w vs ks v) (hb:Below w.heap.size w w'):ForsX w' vs ks v:=⟨h.1.mono hb,fun i hi=> by
 obtain ⟨u,a,b,h1,h2,h3,h4⟩:=h.2 i hi
 exact ⟨u,a,b,h1,h2,h3,h4.mono hb⟩⟩
theorem Td.X.mono {w w':World} {t:Td} (h:t.X w) (hb:Below w.heap.size w w'):t.X w':=⟨h.cols.mono hb,h.one,h.keys.mono hb,h.fors.mono hb⟩
structure SchX (w:World) (l:List Td) (v:Value):Prop where
 sl:SlX [] w 5 l.length (l.flatMap Td.c) v
 td:∀t∈l,t.X w
theorem SchX.mono {w w':World} {l:List Td} {v:Value} (h:SchX w l v) (hb:Below w.heap.size w w'):SchX w' l v:=⟨h.sl.mono hb,fun t ht=> (h.td t ht).mono hb⟩
theorem tdc_len (t:Td):t.c.length=5:=rfl
theorem SchX.cells {w:World} {l:List Td} {v:Value} (h:SchX w l v) (i:Nat) (hi:i < l.length):∃b o c,v=.slice (some ⟨b,o,none⟩) l.length c∧b < w.heap.size∧w.cell? ⟨b,o+i * 5,none⟩=some (.string l[i].nm)∧w.cell? ⟨b,o+i * 5+1,none⟩=some (.slice l[i].ca l[i].n l[i].cc)∧w.cell? ⟨b,o+i * 5+2,none⟩=some l[i].kv∧w.cell? ⟨b,o+i * 5+3,none⟩=some l[i].fv∧w.cell? ⟨b,o+i * 5+4,none⟩=some (.slice l[i].xa l[i].xn l[i].xc):=by
 obtain ⟨b,o,c,e, -,hb,hc⟩:=rec_cells (by decide) tdc_len h.sl i hi
 exact ⟨b,o,c,e,hb,hc 0 _ rfl,hc 1 _ rfl,hc 2 _ rfl,hc 3 _ rfl,hc 4 _ rfl⟩
/-- A change as it is read. -/
structure Chg where
 tb:Int
 id:Int
 oa:Option Addr
 oc:Nat
 na:Option Addr
 nc:Nat
 old:Rw
 new:Rw
def Chg.ov (c:Chg):Value:=.slice c.oa c.old.length c.oc
def Chg.nv (c:Chg):Value:=.slice c.na c.new.length c.nc
def Chg.c (c:Chg):List Value:=[.int .i64 c.tb, .int .i64 c.id,c.ov,c.nv]
def Chg.v (c:Chg):Value:=.agg #[.int .i64 c.tb, .int .i64 c.id,c.ov,c.nv]
structure Chg.X (w:World) (c:Chg):Prop where
 old:ValsAt w c.old c.ov
 new:ValsAt w c.new c.nv
theorem Chg.X.mono {w w':World} {c:Chg} (h:c.X w) (hb:Below w.heap.size w w'):c.X w':=⟨h.old.mono hb,h.new.mono hb⟩
/-- Its numbers fit. -/
structure Chg.Ok (c:Chg):Prop where
 tb:I64 c.tb
 id:I64 c.id
 old:∀v∈c.old,I64 v.int
 new:∀v∈c.new,I64 v.int
structure ChsX (w:World) (l:List Chg) (v:Value):Prop where
 sl:SlX [] w 4 l.length (l.flatMap Chg.c) v
 ch:∀c∈l,c.X w
theorem ChsX.mono {w w':World} {l:List Chg} {v:Value} (h:ChsX w l v) (hb:Below w.heap.size w w'):ChsX w' l v:=⟨h.sl.mono hb,fun t ht=> (h.ch t ht).mono hb⟩
theorem chc_len (t:Chg):t.c.length=4:=rfl
theorem ChsX.cells {w:World} {l:List Chg} {v:Value} (h:ChsX w l v) (i:Nat) (hi:i < l.length):∃b o c,v=.slice (some ⟨b,o,none⟩) l.length c∧b < w.heap.size∧w.cell? ⟨b,o+i * 4,none⟩=some (.int .i64 l[i].tb)∧w.cell? ⟨b,o+i * 4+1,none⟩=some (.int .i64 l[i].id)∧w.cell? ⟨b,o+i * 4+2,none⟩=some l[i].ov∧w.cell? ⟨b,o+i * 4+3,none⟩=some l[i].nv:=by
 obtain ⟨b,o,c,e, -,hb,hc⟩:=rec_cells (by decide) chc_len h.sl i hi
 exact ⟨b,o,c,e,hb,hc 0 _ rfl,hc 1 _ rfl,hc 2 _ rfl,hc 3 _ rfl⟩
/-- A store of the reference as it is read. -/
structure Rs where
 cols:Nat
 la:Option Addr
 lc:Nat
 next:Int
 l:List Ri
def Rs.lv (m:Rs):Value:=.slice m.la m.l.length m.lc
def Rs.c (m:Rs):List Value:=[.int .i64 m.cols,m.lv, .int .i64 m.next]
structure RefX (w:World) (l:List Rs) (v:Value):Prop where
 sl:SlX [] w 3 l.length (l.flatMap Rs.c) v
 ri:∀m∈l,RiX w m.l m.lv
theorem rsc_len (t:Rs):t.c.length=3:=rfl
theorem RefX.cells {w:World} {l:List Rs} {v:Value} (h:RefX w l v) (i:Nat) (hi:i < l.length):∃b o c,v=.slice (some ⟨b,o,none⟩) l.length c∧b < w.heap.size∧w.cell? ⟨b,o+i * 3,none⟩=some (.int .i64 l[i].cols)∧w.cell? ⟨b,o+i * 3+1,none⟩=some l[i].lv∧w.cell? ⟨b,o+i * 3+2,none⟩=some (.int .i64 l[i].next):=by
 obtain ⟨b,o,c,e, -,hb,hc⟩:=rec_cells (by decide) rsc_len h.sl i hi
 exact ⟨b,o,c,e,hb,hc 0 _ rfl,hc 1 _ rfl,hc 2 _ rfl⟩
theorem St.setR {w0 w:World} {fp0:List Nat} {R:List Asn} {t:TypeId} {size g n c:Nat} {xs:List Value} (h:St w0 fp0 (rowA t size (.slice (some ⟨g,0,none⟩) n c) n xs::R) w) (i:Nat) (v:Value):St w0 fp0 (rowA t size (.slice (some ⟨g,0,none⟩) n c) n (xs.set i v)::R) (w.setCell ⟨g,i,none⟩ v):=by
 obtain ⟨f,hf,hk⟩:=h.get 0 rfl
 obtain ⟨h1,h2⟩:=hf
 obtain ⟨h3,h4⟩:=h1.stored i v
 refine hk _ _ [g] ⟨h3,rfl⟩ ?_
 rw [h2]
 exact Tr.of_grown (o:=some g) (o':=some g) h4 (fun k hk=> .inl hk)
theorem St.addF {w0 w w':World} {fp0:List Nat} {L:List Asn} {A:Asn} {f:List Nat} (h:St w0 fp0 L w) (ha:A.p w' f) (hb:Below w.heap.size w w') (hn:∀k∈f,w.heap.size≤k):St w0 fp0 (A::L) w':=
 (h.add hb ha hn).perm List.perm_append_comm
/-- What both sides speak of: a table's columns, rows and next number. -/
abbrev Db:=List (Nat×LL×Int)
def Rs.d (m:Rs):Nat×LL×Int:=(m.cols,riL m.l,m.next)
/-- A table store. -/
structure Tb where
 S:Nat
 cols:Nat
 I:List (List Int)
 L:LL
 next:Int
def Tb.d (t:Tb):Nat×LL×Int:=(t.cols,t.L,t.next)
def tbA (t:Tb):Asn:=storeA t.S t.cols t.I t.L t.next
theorem map_pick {α β:Type} (f:α→β) (l:List α) (i:Nat) (h:i < l.length):(l.map f).Perm (f l[i]::(l.eraseIdx i).map f):=by
 induction l generalizing i with
 | nil=> simp at h
 | cons x l ih=>
  cases i with
  | zero=> exact List.Perm.refl _
  | succ i=>
   have:=ih i (by simpa using h)
   simp only [List.map_cons,List.getElem_cons_succ,List.eraseIdx_cons_succ]
   exact (List.Perm.cons _ this).trans (List.Perm.swap _ _ _)
theorem map_place {α β:Type} (f:α→β) (l:List α) (i:Nat) (y:α) (h:i < l.length):((l.set i y).map f).Perm (f y::(l.eraseIdx i).map f):=by
 induction l generalizing i with
 | nil=> simp at h
 | cons x l ih=>
  cases i with
  | zero=> exact List.Perm.refl _
  | succ i=>
   have:=ih i (by simpa using h)
   simp only [List.map_cons,List.set_cons_succ,List.eraseIdx_cons_succ]
   exact (List.Perm.cons _ this).trans (List.Perm.swap _ _ _)
/-- The schema that a store keeps. -/
def schA (v:Value) (td:List Td):Asn:=exA fun X:List Asn=> starA (pureA (∀w f,Star w X f→SchX w td v)::X)
theorem schA_at {v:Value} {td:List Td} {w:World} {f:List Nat} (h:(schA v td).p w f):SchX w td v:=by
 obtain ⟨X,g,f2,⟨h1,rfl⟩,h2, -,rfl⟩:=h
 exact h1 w _ h2
theorem St.schA {w0 w:World} {fp0:List Nat} {R X:List Asn} {v:Value} {td:List Td} (h:∀w f,Star w X f→SchX w td v) (hs:St w0 fp0 (X++R) w):St w0 fp0 (schA v td::R) w:=by
 have h1:St w0 fp0 ((pureA (∀w f,Star w X f→SchX w td v)::X)++R) w:=St.pure.2 ⟨h,hs⟩
 exact h1.fold fun f hf=> ⟨X,hf⟩
/-- A store of layer 40, open. -/
structure StQ where
 sa:Option Addr
 sc:Nat
 ta:Option Addr
 tc:Nat
 td:List Td
 ts:List Tb
def StQ.sv (q:StQ):Value:=.slice q.sa q.td.length q.sc
def StQ.tv (q:StQ):Value:=.slice q.ta q.ts.length q.tc
structure StQ.Ok (q:StQ) (D:Db):Prop where
 d:q.ts.map Tb.d=D
 n:q.td.map (·.n)=D.map (·.1)
 sm:∀t∈q.td,t.Sm
 len:q.td.length≤1000
def dbP (b:Nat) (q:StQ):List Asn:=blkA b 104 #[q.sv,q.tv]::schA q.sv q.td::slA 46 q.tv (q.ts.map fun t=> ptrV t.S)::[]
def stA (b:Nat) (D:Db):Asn:=exA fun q:StQ=> starA (pureA (q.Ok D)::(dbP b q++q.ts.map tbA))
section
variable {w0 w:World} {fp0:List Nat} {R:List Asn} {b:Nat} {D:Db}
theorem St.openD (hs:St w0 fp0 (stA b D::R) w):∃q:StQ,q.Ok D∧St w0 fp0 (dbP b q++(q.ts.map tbA++R)) w:=by
 obtain ⟨q,h1⟩:=hs.unfold (L1:=fun q:StQ=> pureA (q.Ok D)::(dbP b q++q.ts.map tbA)) fun f ⟨q,hq⟩=> ⟨q,hq⟩
 have h2:=St.pure.1 h1
 exact ⟨q,h2.1,List.append_assoc (dbP b q) (q.ts.map tbA) R ▸ h2.2⟩
theorem St.shutD {q:StQ} (hk:q.Ok D) (hs:St w0 fp0 (dbP b q++(q.ts.map tbA++R)) w):St w0 fp0 (stA b D::R) w:=by
 have h1:St w0 fp0 ((pureA (q.Ok D)::(dbP b q++q.ts.map tbA))++R) w:=St.pure.2 ⟨hk,by
  have e:=List.append_assoc (dbP b q) (q.ts.map tbA) R
  rw [←e] at hs
  exact hs⟩
 exact h1.fold fun f hf=> ⟨q,hf⟩
/-- One table in front. -/
theorem St.pickT {q:StQ} (hs:St w0 fp0 (dbP b q++(q.ts.map tbA++R)) w) (i:Nat) (hi:i < q.ts.length):St w0 fp0 (tbA q.ts[i]::(dbP b q++((q.ts.eraseIdx i).map tbA++R))) w:=
 hs.perm ((List.Perm.append_left _ (List.Perm.append_right R (map_pick tbA q.ts i hi))).trans List.perm_middle)
theorem St.placeT {q:StQ} {i:Nat} {t:Tb} (hi:i < q.ts.length) (hs:St w0 fp0 (tbA t::(dbP b q++((q.ts.eraseIdx i).map tbA++R))) w):St w0 fp0 (dbP b q++((q.ts.set i t).map tbA++R)) w:=
 hs.perm ((List.Perm.append_left _ (List.Perm.append_right R (map_place tbA q.ts i t hi))).trans List.perm_middle).symm
end
theorem StQ.Ok.tlen {q:StQ} {D:Db} (h:q.Ok D):q.ts.length=D.length:=by rw [←h.d,List.length_map]
theorem StQ.Ok.dlen {q:StQ} {D:Db} (h:q.Ok D):q.td.length=D.length:=by
 have:=congrArg List.length h.n
 simpa using this
theorem StQ.Ok.at {q:StQ} {D:Db} (h:q.Ok D) (i:Nat) (hi:i < q.ts.length):D[i]? =some (q.ts[i].cols,q.ts[i].L,q.ts[i].next):=by
 rw [←h.d,List.getElem?_map,List.getElem?_eq_getElem hi]
 rfl
theorem StQ.Ok.tdn {q:StQ} {D:Db} (h:q.Ok D) (i:Nat) (hi:i < q.ts.length) (hd:i < q.td.length):q.td[i].n=q.ts[i].cols:=by
 have h1:=congrArg (fun l=> l[i]?) h.n
 simp only [List.getElem?_map] at h1
 rw [h.at i hi,List.getElem?_eq_getElem hd] at h1
 simpa using h1
theorem StQ.Ok.put {q:StQ} {D:Db} (h:q.Ok D) (i:Nat) (hi:i < q.ts.length) (L:LL) (next:Int):StQ.Ok { q with ts:=q.ts.set i { q.ts[i] with L:=L,next:=next } } (D.set i (q.ts[i].cols,L,next)):=by
 refine ⟨?_,?_,h.sm,h.len⟩
 · rw [List.map_set,h.d]
   rfl
 · show q.td.map (·.n)=_
   rw [h.n,List.map_set]
   have h2:=h.at i hi
   have h3:(D.map (·.1))[i]? =some q.ts[i].cols:=by rw [List.getElem?_map,h2];rfl
   obtain ⟨h4,h5⟩:=List.getElem?_eq_some_iff.1 h3
   rw [←h5,List.set_getElem_self]
end Go.Proofs.YtpdlkdoogojboaaGreat
/- How schemas and changes that came in are read. -/
namespace Go.Proofs.YtpdlkdoogojboaaGreat
open Go Go.ChangeShapes Go.ChangeAt Go.RowKit Go.WideShapes
set_option maxRecDepth 100000
theorem cCOL:Tryz.prog.cellsOf 146=6:=by kernel_rfl
theorem cTABLE:Tryz.prog.cellsOf 89=5:=by kernel_rfl
theorem cFOR:Tryz.prog.cellsOf 92=3:=by kernel_rfl
theorem cCH:Tryz.prog.cellsOf 35=4:=by kernel_rfl
theorem cCOLS:Tryz.prog.cellsOf 84=1:=by kernel_rfl
theorem cISS:Tryz.prog.cellsOf 85=1:=by kernel_rfl
theorem cFORS:Tryz.prog.cellsOf 86=1:=by kernel_rfl
theorem cEXPRS:Tryz.prog.cellsOf 87=1:=by kernel_rfl
theorem cEXPR:Tryz.prog.cellsOf 292=8:=by kernel_rfl
theorem cBOOL:Tryz.prog.cellsOf 4=1:=by kernel_rfl
structure Clm where
 nm:ByteArray
 ty:Int
 lo:Int
 hi:Int
 mx:Int
 nn:Bool
def Clm.c (c:Clm):List Value:=[.string c.nm, .int .i64 c.ty, .int .i64 c.lo, .int .i64 c.hi, .int .i64 c.mx, .bool c.nn]
instance:Inhabited Clm:=⟨⟨⟨#[]⟩,0,0,0,0,false⟩⟩
instance:Inhabited Td:=⟨⟨⟨#[]⟩,none,0,0, .slice none 0 0, .slice none 0 0,none,0,0,[],[],[],[],[]⟩⟩
instance:Inhabited Chg:=⟨⟨0,0,none,0,none,0,[],[]⟩⟩
section
variable {H:Type} {enc:TypeId×Value→H} {w:World}
theorem read_col {fuel:Nat} {cs:List Value} {x:DataW H×List MemPlace} (h:DataW.trod enc Tryz.prog w 0 (fun _=> true) true fuel 146 cs=some x):∃c:Clm,cs=c.c:=by
 obtain ⟨xs,n, -,rfl,hl,hxl,hx⟩:=DataW.trod_struct Tryz.underlying146 h
 rw [cCOL] at hl
 match cs,hl,hx with
 | [a,b,c,d,e,f],_,hx=>
  match xs,hxl,hx with
  | [x0,x1,x2,x3,x4,x5],_,hx=>
   have h0:=hx 0 _ rfl
   have h1:=hx 1 _ rfl
   have h2:=hx 2 _ rfl
   have h3:=hx 3 _ rfl
   have h4:=hx 4 _ rfl
   have h5:=hx 5 _ rfl
   simp only [List.getElem_toArray,List.getElem_cons_zero,List.getElem_cons_succ,cINT,cI64,cSTR,cBOOL] at h0 h1 h2 h3 h4 h5
   obtain ⟨t,e0, -, -⟩:=DataW.trod_string Tryz.underlying9 (by simpa using h0)
   obtain ⟨i1,e1, -, -⟩:=DataW.trod_int Tryz.underlying3 (by simpa using h1)
   obtain ⟨i2,e2, -, -⟩:=DataW.trod_int Tryz.underlying2 (by simpa using h2)
   obtain ⟨i3,e3, -, -⟩:=DataW.trod_int Tryz.underlying2 (by simpa using h3)
   obtain ⟨i4,e4, -, -⟩:=DataW.trod_int Tryz.underlying3 (by simpa using h4)
   obtain ⟨b5,e5, -⟩:=DataW.trod_bool Tryz.underlying4 (by simpa using h5)
   cases e0
   cases e1
   cases e2
   cases e3
   cases e4
   cases e5
   exact ⟨⟨t,i1,i2,i3,i4,b5⟩,rfl⟩
theorem clm_one (l:List Clm):∀u∈l.flatMap Clm.c,u.oneCell'=true:=by
 intro u hu
 obtain ⟨m, -,hm⟩:=List.mem_flatMap.1 hu
 unfold Clm.c at hm
 simp only [List.mem_cons,List.not_mem_nil,or_false] at hm
 rcases hm with rfl | rfl | rfl | rfl | rfl | rfl <;> rfl
theorem read_cols {fuel:Nat} {s:Value} {x:DataW H×List MemPlace} (h:DataW.trod enc Tryz.prog w 0 (fun _=> true) true fuel 84 [s]=some x):∃a n c cvs,s=.slice a n c∧SlX [] w 6 n cvs (.slice a n c)∧∀u∈cvs,u.oneCell'=true:=by
 rcases slice_read Tryz.underlying84 cCOL (by omega) h with ⟨a,e⟩ | ⟨b,o,len,cap,k,D,R,e,hb,hlc,hcm,rfl,hxD,hDl,hel⟩
 · cases e
   exact ⟨_,_,_,[],rfl,SlX.nil _ _ _ _ _,by simp⟩
 · cases e
   obtain ⟨l,h1, -⟩:=slx_read (w:=w) (cap:=cap) (sz:=6) (by omega) Clm.c (fun _=> rfl) (P:=fun _=> True) (b:=b) (o:=o) (len:=len) (Nat.le_trans hlc hcm) (fun i hi=> by
    obtain ⟨cs',pl, -,hc,ht⟩:=hel i (by rw [hDl];exact hi)
    obtain ⟨y,rfl⟩:=read_col ht
    exact ⟨y,hc,trivial⟩)
   have e:=h1.len.1
   rw [←e] at h1
   exact ⟨_,_,_,_,rfl,h1,clm_one l⟩
theorem read_slice {e t:TypeId} {fuel sz:Nat} {s:Value} {x:DataW H×List MemPlace} (ht:Tryz.prog.underlying t=some (.slice e)) (hsz:Tryz.prog.cellsOf e=sz) (h0:0 < sz) (h:DataW.trod enc Tryz.prog w 0 (fun _=> true) true fuel t [s]=some x):∃a n c,s=.slice a n c:=by
 rcases slice_read ht hsz h0 h with ⟨a,e⟩ | ⟨b,o,len,cap,k,D,R,e, -⟩
 · cases e
   exact ⟨_,_,_,rfl⟩
 · cases e
   exact ⟨_,_,_,rfl⟩
/-- An element that is a list of integers. -/
structure Il where
 v:Value
 l:List Int
structure Fl where
 v:Value
 a:Int
 b:Int
 l:List Int
instance:Inhabited Il:=⟨⟨.slice none 0 0,[]⟩⟩
instance:Inhabited Fl:=⟨⟨.slice none 0 0,0,0,[]⟩⟩
theorem read_keys {fuel:Nat} {s:Value} {x:DataW H×List MemPlace} (h:DataW.trod enc Tryz.prog w 0 (fun _=> true) true fuel 85 [s]=some x):∃vs K,KeysX w vs K s:=by
 rcases slice_read Tryz.underlying85 cIS (by omega) h with ⟨a,e⟩ | ⟨b,o,len,cap,k,D,R,e,hb,hlc,hcm,rfl,hxD,hDl,hel⟩
 · cases e
   exact ⟨[],[],SlX.nil _ _ _ _ _,fun i hi=> absurd hi (by simp)⟩
 · cases e
   obtain ⟨l,h1,h2⟩:=slx_read (w:=w) (cap:=cap) (sz:=1) (by omega) (fun y:Il=> [y.v]) (fun _=> rfl) (P:=fun y=> IntsX [] w y.l y.v) (b:=b) (o:=o) (len:=len) (Nat.le_trans hlc hcm) (fun i hi=> by
    obtain ⟨cs',pl, -,hc,ht⟩:=hel i (by rw [hDl];exact hi)
    have hl:cs'.length=1:=by
     rcases slice_read Tryz.underlying90 cINT (by omega) ht with ⟨a,e⟩ | ⟨_,_,_,_,_,_,_,e, -⟩
     · rw [e];rfl
     · rw [e];rfl
    match cs',hl with
    | [u],_=>
     obtain ⟨K,hK, -⟩:=read_ints (s:=u) ht
     exact ⟨⟨u,K⟩,hc,hK⟩)
   refine ⟨_,l.map (·.l),by rw [List.length_map];exact h1,fun i hi=> ?_⟩
   rw [List.length_map] at hi
   refine ⟨l[i].v,?_,?_⟩
   · have:=flatMap_get (g:=fun y:Il=> [y.v]) (sz:=1) (fun _=> rfl) l i 0 (by omega)
     rw [List.getElem?_eq_getElem hi] at this
     rw [Nat.mul_one,Nat.add_zero] at this
     rw [this]
     rfl
   · rw [List.getElem_map]
     exact h2 _ (List.getElem_mem hi)
theorem read_for {fuel:Nat} {cs:List Value} {x:DataW H×List MemPlace} (h:DataW.trod enc Tryz.prog w 0 (fun _=> true) true fuel 92 cs=some x):∃y:Fl,cs=[y.v, .int .i64 y.a, .int .i64 y.b]∧IntsX [] w y.l y.v:=by
 obtain ⟨xs,n, -,rfl,hl,hxl,hx⟩:=DataW.trod_struct Tryz.underlying92 h
 rw [cFOR] at hl
 match cs,hl,hx with
 | [a,b,c],_,hx=>
  match xs,hxl,hx with
  | [x0,x1,x2],_,hx=>
   have h0:=hx 0 _ rfl
   have h1:=hx 1 _ rfl
   have h2:=hx 2 _ rfl
   simp only [List.getElem_toArray,List.getElem_cons_zero,List.getElem_cons_succ,cINT,cIS] at h0 h1 h2
   obtain ⟨K,hK, -⟩:=read_ints (s:=a) (x:=x0) (by simpa using h0)
   obtain ⟨i1,e1, -, -⟩:=DataW.trod_int Tryz.underlying3 (by simpa using h1)
   obtain ⟨i2,e2, -, -⟩:=DataW.trod_int Tryz.underlying3 (by simpa using h2)
   cases e1
   cases e2
   exact ⟨⟨a,i1,i2,K⟩,rfl,hK⟩
theorem read_fors {fuel:Nat} {s:Value} {x:DataW H×List MemPlace} (h:DataW.trod enc Tryz.prog w 0 (fun _=> true) true fuel 86 [s]=some x):∃vs F,ForsX w vs F s:=by
 rcases slice_read Tryz.underlying86 cFOR (by omega) h with ⟨a,e⟩ | ⟨b,o,len,cap,k,D,R,e,hb,hlc,hcm,rfl,hxD,hDl,hel⟩
 · cases e
   exact ⟨[],[],SlX.nil _ _ _ _ _,fun i hi=> absurd hi (by simp)⟩
 · cases e
   obtain ⟨l,h1,h2⟩:=slx_read (w:=w) (cap:=cap) (sz:=3) (by omega) (fun y:Fl=> [y.v, .int .i64 y.a, .int .i64 y.b]) (fun _=> rfl) (P:=fun y=> IntsX [] w y.l y.v) (b:=b) (o:=o) (len:=len) (Nat.le_trans hlc hcm) (fun i hi=> by
    obtain ⟨cs',pl, -,hc,ht⟩:=hel i (by rw [hDl];exact hi)
    obtain ⟨y,rfl,hy⟩:=read_for ht
    exact ⟨y,hc,hy⟩)
   refine ⟨_,l.map (·.l),by rw [List.length_map];exact h1,fun i hi=> ?_⟩
   rw [List.length_map] at hi
   have hg:=fun r hr=> flatMap_get (g:=fun y:Fl=> [y.v, .int .i64 y.a, .int .i64 y.b]) (sz:=3) (fun _=> rfl) l i r hr
   rw [List.getElem?_eq_getElem hi] at hg
   refine ⟨l[i].v,l[i].a,l[i].b,?_,?_,?_,?_⟩
   · rw [show i * 3=i * 3+0 by omega,hg 0 (by omega)];rfl
   · rw [hg 1 (by omega)];rfl
   · rw [hg 2 (by omega)];rfl
   · rw [List.getElem_map]
     exact h2 _ (List.getElem_mem hi)
theorem read_table {fuel:Nat} {cs:List Value} {x:DataW H×List MemPlace} (h:DataW.trod enc Tryz.prog w 0 (fun _=> true) true fuel 89 cs=some x):∃t:Td,cs=t.c∧t.X w:=by
 obtain ⟨xs,n, -,rfl,hl,hxl,hx⟩:=DataW.trod_struct Tryz.underlying89 h
 rw [cTABLE] at hl
 match cs,hl,hx with
 | [a,b,c,d,e],_,hx=>
  match xs,hxl,hx with
  | [x0,x1,x2,x3,x4],_,hx=>
   have h0:=hx 0 _ rfl
   have h1:=hx 1 _ rfl
   have h2:=hx 2 _ rfl
   have h3:=hx 3 _ rfl
   have h4:=hx 4 _ rfl
   simp only [List.getElem_toArray,List.getElem_cons_zero,List.getElem_cons_succ,cSTR,cCOLS,cISS,cFORS,cEXPRS] at h0 h1 h2 h3 h4
   obtain ⟨t,e0, -, -⟩:=DataW.trod_string Tryz.underlying9 (by simpa using h0)
   obtain ⟨ca,cn,cc,cvs,rfl,hC,hC1⟩:=read_cols (s:=b) (x:=x1) (by simpa using h1)
   obtain ⟨kvs,K,hK⟩:=read_keys (s:=c) (x:=x2) (by simpa using h2)
   obtain ⟨fvs,F,hF⟩:=read_fors (s:=d) (x:=x3) (by simpa using h3)
   obtain ⟨xa,xn,xc,rfl⟩:=read_slice (s:=e) (x:=x4) Tryz.underlying87 cEXPR (by omega) (by simpa using h4)
   cases e0
   exact ⟨⟨t,ca,cn,cc,c,d,xa,xn,xc,cvs,kvs,fvs,K,F⟩,rfl,hC,hC1,hK,hF⟩
theorem read_change {fuel:Nat} {cs:List Value} {x:DataW H×List MemPlace} (h:DataW.trod enc Tryz.prog w 0 (fun _=> true) true fuel 35 cs=some x):∃c:Chg,cs=c.c∧c.X w∧c.Ok:=by
 obtain ⟨xs,n, -,rfl,hl,hxl,hx⟩:=DataW.trod_struct Tryz.underlying35 h
 rw [cCH] at hl
 match cs,hl,hx with
 | [a,b,c,d],_,hx=>
  match xs,hxl,hx with
  | [x0,x1,x2,x3],_,hx=>
   have h0:=hx 0 _ rfl
   have h1:=hx 1 _ rfl
   have h2:=hx 2 _ rfl
   have h3:=hx 3 _ rfl
   simp only [List.getElem_toArray,List.getElem_cons_zero,List.getElem_cons_succ,cINT,cI64,cRW] at h0 h1 h2 h3
   obtain ⟨t,e0, -,ht⟩:=DataW.trod_int Tryz.underlying3 (by simpa using h0)
   obtain ⟨i,e1, -,hi⟩:=DataW.trod_int Tryz.underlying2 (by simpa using h1)
   obtain ⟨old,hO,hOi⟩:=read_row (s:=c) (x:=x2) (by simpa using h2)
   obtain ⟨new,hN,hNi⟩:=read_row (s:=d) (x:=x3) (by simpa using h3)
   obtain ⟨oa,on,oc,rfl,hon, -⟩:=hO.shape
   obtain ⟨na,nn,nc,rfl,hnn, -⟩:=hN.shape
   subst hon hnn
   cases e0
   cases e1
   exact ⟨⟨t,i,oa,oc,na,nc,old,new⟩,rfl,⟨hO,hN⟩,wf64 ht,wf64 hi,fun v hv=> (hOi v hv).1,fun v hv=> (hNi v hv).1⟩
theorem open_schema {W:World} {base:Nat} {v:Value} {d:DataW H} {p:List MemPlace} (hok:Value.okWide Tryz.prog W .any base 23 v) (h:DataW.Trod enc Tryz.prog W 0 (fun _=> true) true 23 v d p):∃td,SchX W td v:=by
 obtain ⟨fuel,h⟩:=h
 rw [cell_of_one_slice W Tryz.underlying23 hok] at h
 rcases slice_read Tryz.underlying23 cTABLE (by omega) h with ⟨a,e⟩ | ⟨b,o,len,cap,k,D,R,e,hb,hlc,hcm,rfl,hxD,hDl,hel⟩
 · cases e
   exact ⟨[],SlX.nil _ _ _ _ _,by simp⟩
 · cases e
   obtain ⟨l,h1,h2⟩:=slx_read (w:=W) (cap:=cap) (sz:=5) (by omega) Td.c (fun _=> rfl) (P:=fun t=> t.X W) (b:=b) (o:=o) (len:=len) (Nat.le_trans hlc hcm) (fun i hi=> by
    obtain ⟨cs',pl, -,hc,ht⟩:=hel i (by rw [hDl];exact hi)
    obtain ⟨y,rfl,hy⟩:=read_table ht
    exact ⟨y,hc,hy⟩)
   exact ⟨l,h1,h2⟩
theorem open_changes {W:World} {base:Nat} {v:Value} {d:DataW H} {p:List MemPlace} (hok:Value.okWide Tryz.prog W .any base 24 v) (h:DataW.Trod enc Tryz.prog W 0 (fun _=> true) true 24 v d p):∃l,ChsX W l v∧∀c∈l,c.Ok:=by
 obtain ⟨fuel,h⟩:=h
 rw [cell_of_one_slice W Tryz.underlying24 hok] at h
 rcases slice_read Tryz.underlying24 cCH (by omega) h with ⟨a,e⟩ | ⟨b,o,len,cap,k,D,R,e,hb,hlc,hcm,rfl,hxD,hDl,hel⟩
 · cases e
   exact ⟨[],⟨SlX.nil _ _ _ _ _,by simp⟩,by simp⟩
 · cases e
   obtain ⟨l,h1,h2⟩:=slx_read (w:=W) (cap:=cap) (sz:=4) (by omega) Chg.c (fun _=> rfl) (P:=fun c=> c.X W∧c.Ok) (b:=b) (o:=o) (len:=len) (Nat.le_trans hlc hcm) (fun i hi=> by
    obtain ⟨cs',pl, -,hc,ht⟩:=hel i (by rw [hDl];exact hi)
    obtain ⟨y,rfl,hy⟩:=read_change ht
    exact ⟨y,hc,hy⟩)
   exact ⟨l,⟨h1,fun c hc=> (h2 c hc).1⟩,fun c hc=> (h2 c hc).2⟩
end
end Go.Proofs.YtpdlkdoogojboaaGreat
/- The program's comparison of rows. -/
namespace Go.Proofs.YtpdlkdoogojboaaGreat
open Go Go.RowKit
set_option maxHeartbeats 2000000 in
/-- slices.CompareFunc at value.Compare. -/
theorem compareFunc_calls (R S:Rw) (r s:Value) (w:World) (hr:ValsAt w R r) (hs:ValsAt w S s):Calls Tryz.prog 118 #[r,s, .func (.func 119) #[] #[]] w fun e w'=> e=.returned (.int .i64 (cmpR R S))∧Below w.heap.size w w':=by
 obtain ⟨a,n,c,rfl,hn,hm⟩:=hr.shape
 obtain ⟨a',n',c',rfl,hn',hm'⟩:=hs.shape
 unfold maxLen at hm hm'
 have Hr:=Lib.hid hr
 have Hs:=Lib.hid hs
 have Hn:=Lib.hid hn
 have Hn':=Lib.hid hn'
 clear hr hs hn hn'
 go_enter Tryz.func118,Tryz.ntmps118
 go_wp2
 go_loopw [13] (fun i wr=> ∃k:Nat,k≤n∧k≤n'∧i=.int .i64 k∧RowKit.Hid (cmpR R S=cmpR (R.drop k) (S.drop k))∧RowKit.Hid (Below w.heap.size w wr)) (fun i _=> n - (intOf i).toNat)
 case atStart=> exact ⟨0,Nat.zero_le _,Nat.zero_le _,rfl,rfl,Below.refl _ _⟩
 case round=>
  obtain ⟨k,hk,hk',rfl,He,Hb⟩:=hrel
  by_cases hlt:k < n
  · have hk1:k < R.length:=by have:=Hn.out;omega
    obtain ⟨b,o,rfl⟩:=Hr.out.has k hlt
    obtain ⟨c0,c1,c2⟩:=(Hr.out.mono Hb.out).cell k hk1
    have hbl:=World.block_lt_of_cell? _ _ c0
    by_cases hlt':k < n'
    · have hk2:k < S.length:=by have:=Hn'.out;omega
      obtain ⟨b',o',rfl⟩:=Hs.out.has k hlt'
      obtain ⟨d0,d1,d2⟩:=(Hs.out.mono Hb.out).cell k hk2
      have hbl':=World.block_lt_of_cell? _ _ d0
      have Hst:=Lib.hid (cmpR_step hk1 hk2)
      have HC:=Lib.hid (fun w'=> cmpV_calls R[k] S[k] w')
      have Hb0:RowKit.Hid (∀o o',Below w.heap.size w ((wr.alloc o).alloc o')):=fun o o'=> (Hb.out.alloc Hb.out.size o).alloc (by have:=Hb.out.size;simp;omega) o'
      have V1:RowKit.Hid (∀c,VarIs (wr.alloc (.cells c 68)) wr.heap.size c):=fun c=> VarIs.new wr c 68
      generalize R[k]=x at *
      generalize S[k]=y at *
      clear hk1 hk2
      go_wp2_with fail
      refine (HC.out _).mono ?_
      rintro e w1 ⟨rfl,hb1⟩
      have Hb1:=Lib.hid ((Hb0.out _ _).trans (hb1.mono (Hb0.out _ _).size))
      clear hb1 c0 c1 c2 d0 d1 d2
      by_cases h0:cmpV x y=0
      · have b0:(cmpV x y !=0)=false:=by simp [h0]
        have Hnext:RowKit.Hid (cmpR R S=cmpR (R.drop (k+1)) (S.drop (k+1))):=by show _=_;rw [He.out,Hst.out,if_pos h0]
        clear h0
        go_wp2
        go_roundw
        case rel=> exact ⟨k+1,by omega,by omega,by go_num,Hnext,Hb1⟩
        case measure=> simp [intOf];omega
      · have b0:(cmpV x y !=0)=true:=by simp [h0]
        have Hnext:RowKit.Hid (cmpR R S=cmpV x y):=by show _=_;rw [He.out,Hst.out,if_neg h0]
        clear h0
        go_wp2
        go_ret
        exact ⟨by rw [Hnext.out];rfl,Hb1.out⟩
    · have Hres:RowKit.Hid (cmpR R S=1):=by show _=_;rw [He.out,cmpR_long hk1 (by have:=Hn'.out;omega)]
      have hge:n'≤k:=by omega
      have Hb0:RowKit.Hid (∀o,Below w.heap.size w (wr.alloc o)):=fun o=> Hb.out.alloc Hb.out.size o
      generalize R[k]=x at *
      clear hk1 hlt'
      go_wp2
      go_ret
      exact ⟨by rw [Hres.out];rfl,Hb0.out _⟩
  · obtain rfl:k=n:=by omega
    by_cases hlt':k < n'
    · have Hres:RowKit.Hid (cmpR R S= -1):=by show _=_;rw [He.out,cmpR_short (by have:=Hn.out;omega) (by have:=Hn'.out;omega)]
      go_wp2
      go_ret
      exact ⟨by rw [Hres.out];rfl,Hb.out⟩
    · have Hres:RowKit.Hid (cmpR R S=0):=by show _=_;rw [He.out,cmpR_both (by have:=Hn.out;omega) (by have:=Hn'.out;omega)]
      go_wp2
      go_ret
      exact ⟨by rw [Hres.out];rfl,Hb.out⟩
/-- value.CompareRows. -/
theorem compareRows_calls (R S:Rw) (r s:Value) (w:World) (hr:ValsAt w R r) (hs:ValsAt w S s):Calls Tryz.prog 82 #[r,s] w fun e w'=> e=.returned (.int .i64 (cmpR R S))∧Below w.heap.size w w':=by
 have H:=Lib.hid (compareFunc_calls R S r s w hr hs)
 clear hr hs
 go_enter Tryz.func82,Tryz.ntmps82
 go_wp2_with fail
 refine H.out.mono ?_
 rintro e w1 ⟨rfl,hb1⟩
 have Hb1:=Lib.hid hb1
 clear hb1
 go_wp2
 go_ret
 exact ⟨rfl,Hb1.out⟩
/- Plain: rows in ascending order, bags. -/
def ltR (a b:Rw):Prop:=cmpR a b < 0
instance (a b:Rw):Decidable (ltR a b):=inferInstanceAs (Decidable (_ < _))
theorem ltR_irrefl (a:Rw):¬ ltR a a:=by unfold ltR;rw [cmpR_zero.2 rfl];omega
theorem ltR_trans {a b c:Rw} (h1:ltR a b) (h2:ltR b c):ltR a c:=cmpR_trans h1 h2
theorem ltR_asymm {a b:Rw} (h:ltR a b):¬ ltR b a:=fun h'=> ltR_irrefl _ (ltR_trans h h')
theorem ltR_tri (a b:Rw):ltR a b∨a=b∨ltR b a:=by
 unfold ltR
 rw [cmpR_swap a b]
 rcases cmpR_range a b with h | h | h
 · left;omega
 · right;left;exact cmpR_zero.1 h
 · right;right;omega
theorem ltR_of_not {a b:Rw} (h:¬ ltR a b) (hne:a≠b):ltR b a:=by
 rcases ltR_tri a b with h1 | h1 | h1
 · exact absurd h1 h
 · exact absurd h1 hne
 · exact h1
/-- Ascending. -/
def AscW (l:List Rw):Prop:=l.Pairwise fun a b=> ¬ ltR b a
theorem ascW_ext:∀{l l':List Rw},AscW l→AscW l'→(∀r,l.count r=l'.count r)→l=l'
 | [],[],_,_,_=> rfl
 | [],x::l',_,_,h=> by have:=h x;simp at this
 | x::l,[],_,_,h=> by have:=h x;simp at this
 | x::l,y::l',h1,h2,h=> by
  have hx:x=y:=by
   have a1:x∈y::l':=by
    apply Classical.byContradiction
    intro hn
    have:=h x
    rw [List.count_eq_zero.2 hn] at this
    simp at this
   have a2:y∈x::l:=by
    apply Classical.byContradiction
    intro hn
    have:=h y
    rw [List.count_eq_zero.2 hn] at this
    simp at this
   rcases List.mem_cons.1 a1 with e | e
   · exact e
   · rcases List.mem_cons.1 a2 with e2 | e2
     · exact e2.symm
     · have p1:=(List.pairwise_cons.1 h2).1 x e
       have p2:=(List.pairwise_cons.1 h1).1 y e2
       apply Classical.byContradiction
       intro hne
       exact p1 (ltR_of_not p2 (fun e=> hne e.symm))
  subst hx
  congr 1
  refine ascW_ext (List.pairwise_cons.1 h1).2 (List.pairwise_cons.1 h2).2 fun r=> ?_
  have:=h r
  simp only [List.count_cons] at this
  omega
/-! The reference's lists. -/
/-- Put. -/
def insW:List Rw→Rw→List Rw
 | [],r=> [r]
 | x::l,r=> if ltR r x then r::x::l else x::insW l r
def ofL (l:List Rw):List Rw:=l.foldl insW []
theorem count_insW (l:List Rw) (r x:Rw):(insW l r).count x=l.count x+(if r=x then 1 else 0):=by
 induction l with
 | nil=> simp [insW,List.count_cons]
 | cons y l ih=>
  rw [insW]
  split
  · simp [List.count_cons]
  · simp only [List.count_cons,ih];omega
theorem mem_insW {l:List Rw} {r x:Rw}:x∈insW l r↔x=r∨x∈l:=by
 induction l with
 | nil=> simp [insW]
 | cons y l ih=>
  rw [insW]
  split
  · simp
  · simp only [List.mem_cons,ih]
    constructor
    · rintro (h | h | h)
      · exact .inr (.inl h)
      · exact .inl h
      · exact .inr (.inr h)
    · rintro (h | h | h)
      · exact .inr (.inl h)
      · exact .inl h
      · exact .inr (.inr h)
theorem asc_insW {l:List Rw} (h:AscW l) (r:Rw):AscW (insW l r):=by
 induction l with
 | nil=> simp [insW,AscW]
 | cons y l ih=>
  have hy:=List.pairwise_cons.1 h
  rw [insW]
  split
  · rename_i hlt
    refine List.pairwise_cons.2 ⟨fun z hz=> ?_,h⟩
    rcases List.mem_cons.1 hz with rfl | hz
    · exact ltR_asymm hlt
    · intro hzr
      exact hy.1 z hz (ltR_trans hzr hlt)
  · rename_i hn
    refine List.pairwise_cons.2 ⟨fun z hz=> ?_,ih hy.2⟩
    rcases mem_insW.1 hz with rfl | hz
    · exact hn
    · exact hy.1 z hz
theorem length_insW (l:List Rw) (r:Rw):(insW l r).length=l.length+1:=by
 induction l with
 | nil=> rfl
 | cons y l ih=> rw [insW];split <;> simp [ih]
abbrev Ent:=Rw×Nat
/-- Entries in strictly ascending order, each at least once. -/
structure Wf (b:List Ent):Prop where
 asc:b.Pairwise fun x y=> ltR x.1 y.1
 pos:∀x∈b,0 < x.2
def rowsB (b:List Ent):List Rw:=b.flatMap fun e=> List.replicate e.2 e.1
def lenB (b:List Ent):Nat:=(rowsB b).length
theorem wf_nil:Wf []:=⟨List.Pairwise.nil,by simp⟩
theorem wf_tail {x:Ent} {b:List Ent} (h:Wf (x::b)):Wf b:=⟨(List.pairwise_cons.1 h.asc).2,fun y hy=> h.pos y (List.mem_cons_of_mem _ hy)⟩
theorem rowsB_cons (x:Ent) (b:List Ent):rowsB (x::b)=List.replicate x.2 x.1++rowsB b:=by simp [rowsB]
theorem mem_rowsB {b:List Ent} {r:Rw} (h:r∈rowsB b):∃x∈b,x.1=r:=by
 simp only [rowsB,List.mem_flatMap] at h
 obtain ⟨x,hx,hr⟩:=h
 exact ⟨x,hx,(List.mem_replicate.1 hr).2.symm⟩
theorem asc_rowsB {b:List Ent} (h:Wf b):AscW (rowsB b):=by
 induction b with
 | nil=> simp [rowsB,AscW]
 | cons x b ih=>
  rw [rowsB_cons]
  refine List.pairwise_append.2 ⟨?_,ih (wf_tail h),?_⟩
  · refine List.pairwise_replicate.2 (.inr (ltR_irrefl _))
  · intro y hy z hz
    obtain rfl:=(List.mem_replicate.1 hy).2
    obtain ⟨e,he,rfl⟩:=mem_rowsB hz
    exact ltR_asymm ((List.pairwise_cons.1 h.asc).1 e he)
/-- How often. -/
def cntB:List Ent→Rw→Nat
 | [],_=> 0
 | x::b,r=> if x.1=r then x.2 else cntB b r
theorem cntB_none {b:List Ent} {r:Rw} (h:∀x∈b,x.1≠r):cntB b r=0:=by
 induction b with
 | nil=> rfl
 | cons x b ih=> rw [cntB,if_neg (h x (by simp))];exact ih fun y hy=> h y (List.mem_cons_of_mem _ hy)
theorem count_rowsB {b:List Ent} (h:Wf b) (r:Rw):(rowsB b).count r=cntB b r:=by
 induction b with
 | nil=> simp [rowsB,cntB]
 | cons x b ih=>
  rw [rowsB_cons,List.count_append,ih (wf_tail h),cntB]
  split
  · rename_i e
    subst e
    rw [List.count_replicate_self,cntB_none]
    · omega
    · intro y hy e
      have:=(List.pairwise_cons.1 h.asc).1 y hy
      rw [e] at this
      exact ltR_irrefl _ this
  · rename_i e
    rw [List.count_replicate]
    simp [e]
/-- How many entries come before a row. -/
def posB (b:List Ent) (r:Rw):Nat:=(b.takeWhile fun x=> decide (ltR x.1 r)).length
/-- n more occurrences of a row. -/
def putB:List Ent→Rw→Nat→List Ent
 | [],r,n=> [(r,n)]
 | x::b,r,n=> if ltR x.1 r then x::putB b r n else if x.1=r then (r,x.2+n)::b else (r,n)::x::b
theorem mem_putB {b:List Ent} {r:Rw} {n:Nat} {y:Ent} (h:y∈putB b r n):y.1=r∨y∈b:=by
 induction b with
 | nil=> simp [putB] at h;exact .inl (by rw [h])
 | cons x b ih=>
  rw [putB] at h
  split at h
  · rcases List.mem_cons.1 h with rfl | h
    · exact .inr (by simp)
    · rcases ih h with h | h
      · exact .inl h
      · exact .inr (List.mem_cons_of_mem _ h)
  · split at h
    · rcases List.mem_cons.1 h with rfl | h
      · exact .inl rfl
      · exact .inr (List.mem_cons_of_mem _ h)
    · rcases List.mem_cons.1 h with rfl | h
      · exact .inl rfl
      · exact .inr h
theorem wf_putB {b:List Ent} (h:Wf b) (r:Rw) {n:Nat} (hn:0 < n):Wf (putB b r n):=by
 induction b with
 | nil=> exact ⟨List.pairwise_singleton _ _,by simp [putB,hn]⟩
 | cons x b ih=>
  have hx:=List.pairwise_cons.1 h.asc
  rw [putB]
  split
  · rename_i hlt
    have:=ih (wf_tail h)
    refine ⟨List.pairwise_cons.2 ⟨fun y hy=> ?_,this.asc⟩,fun y hy=> ?_⟩
    · rcases mem_putB hy with e | e
      · rw [e];exact hlt
      · exact hx.1 y e
    · rcases List.mem_cons.1 hy with rfl | hy
      · exact h.pos _ (by simp)
      · exact this.pos y hy
  · split
    · rename_i e
      refine ⟨List.pairwise_cons.2 ⟨fun y hy=> by rw [←e];exact hx.1 y hy,hx.2⟩,fun y hy=> ?_⟩
      rcases List.mem_cons.1 hy with rfl | hy
      · show 0 < x.2+n
        omega
      · exact h.pos y (List.mem_cons_of_mem _ hy)
    · rename_i h1 h2
      have hlt:ltR r x.1:=ltR_of_not h1 h2
      refine ⟨List.pairwise_cons.2 ⟨fun y hy=> ?_,h.asc⟩,fun y hy=> ?_⟩
      · rcases List.mem_cons.1 hy with rfl | hy
        · exact hlt
        · exact ltR_trans hlt (hx.1 y hy)
      · rcases List.mem_cons.1 hy with rfl | hy
        · exact hn
        · exact h.pos y hy
theorem cnt_putB {b:List Ent} (h:Wf b) (r:Rw) (n:Nat) (q:Rw):cntB (putB b r n) q=cntB b q+(if r=q then n else 0):=by
 induction b with
 | nil=> simp [putB,cntB]
 | cons x b ih=>
  rw [putB]
  split
  · rename_i hlt
    rw [cntB,cntB,ih (wf_tail h)]
    split
    · rename_i e
      have:¬ r=q:=fun e2=> by rw [e,e2] at hlt;exact ltR_irrefl _ hlt
      simp [this]
    · rfl
  · split
    · rename_i e
      rw [cntB,cntB]
      simp only
      by_cases hq:r=q
      · simp [hq,e]
      · have:¬ x.1=q:=fun e2=> hq (e ▸ e2)
        simp [hq,this]
    · rename_i h1 h2
      rw [cntB]
      simp only
      by_cases hq:r=q
      · subst hq
        rw [if_pos rfl,if_pos rfl,cntB_none]
        · omega
        · intro y hy e
          have hlt:ltR r x.1:=ltR_of_not h1 h2
          rcases List.mem_cons.1 hy with rfl | hy
          · exact h2 e
          · have:=ltR_trans hlt ((List.pairwise_cons.1 h.asc).1 y hy)
            rw [e] at this
            exact ltR_irrefl _ this
      · simp [hq]
theorem rows_putB {b:List Ent} (h:Wf b) (r:Rw):rowsB (putB b r 1)=insW (rowsB b) r:=by
 refine ascW_ext (asc_rowsB (wf_putB h r (by omega))) (asc_insW (asc_rowsB h) r) fun q=> ?_
 rw [count_rowsB (wf_putB h r (by omega)),cnt_putB h,count_insW,count_rowsB h]
theorem len_putB {b:List Ent} (r:Rw) (n:Nat):lenB (putB b r n)=lenB b+n:=by
 unfold lenB
 induction b with
 | nil=> simp [putB,rowsB]
 | cons x b ih=>
  rw [putB]
  split
  · rw [rowsB_cons,rowsB_cons,List.length_append,List.length_append,ih];omega
  · split
    · rw [rowsB_cons,rowsB_cons,List.length_append,List.length_append];simp;omega
    · rw [rowsB_cons,List.length_append];simp;omega
/-- The bag of a list of rows. -/
def bagB (l:List Rw):List Ent:=l.foldl (fun b r=> putB b r 1) []
theorem bagB_all (l:List Rw):Wf (bagB l)∧rowsB (bagB l)=ofL l:=by
 unfold bagB ofL
 have:∀(l:List Rw) (b:List Ent),Wf b→Wf (l.foldl (fun b r=> putB b r 1) b)∧rowsB (l.foldl (fun b r=> putB b r 1) b)=l.foldl insW (rowsB b):=by
  intro l
  induction l with
  | nil=> intro b h;exact ⟨h,rfl⟩
  | cons x l ih=>
   intro b h
   have:=ih (putB b x 1) (wf_putB h x (by omega))
   rw [rows_putB h] at this
   exact this
 exact this l [] wf_nil
/- Lists of rows in memory. -/
/-- The values are slices of the rows. -/
inductive RowVs (w:World):List Rw→List Value→Prop
 | nil:RowVs w [] []
 | cons {r:Rw} {x:Value} {L:List Rw} {xs:List Value}:ValsAt w r x→RowVs w L xs→RowVs w (r::L) (x::xs)
theorem RowVs.length {w:World} {L:List Rw} {xs:List Value} (h:RowVs w L xs):xs.length=L.length:=by
 induction h with
 | nil=> rfl
 | cons _ _ ih=> simp [ih]
theorem RowVs.one' {w:World} {L:List Rw} {xs:List Value} (h:RowVs w L xs):∀u∈xs,u.oneCell'=true:=by
 induction h with
 | nil=> simp
 | cons h1 _ ih=>
  intro u hu
  rcases List.mem_cons.1 hu with rfl | hu
  · obtain ⟨a,n,c,rfl,_⟩:=h1.shape
    rfl
  · exact ih u hu
/-- A list of rows lies at the slice. -/
inductive RowsAt (w:World):List Rw→Value→Prop where
 | mt {a:Option Addr}:RowsAt w [] (.slice a 0 0)
 | lie (L:List Rw) (xs:List Value) (b o n cap:Nat) (hn:n=L.length) (hlt:b < w.heap.size) (hm:n≤maxLen)
  (hc:∀i x,xs[i]? =some x→w.cell? ⟨b,o+i,none⟩=some x) (hx:RowVs w L xs):RowsAt w L (.slice (some ⟨b,o,none⟩) n cap)
theorem RowsAt.shape {w:World} {L:List Rw} {s:Value} (h:RowsAt w L s):∃a n c,s=.slice a n c∧n=L.length∧n≤maxLen:=by
 cases h with
 | mt=> exact ⟨_,_,_,rfl,rfl,by simp⟩
 | lie _ xs b o n cap hn hlt hm hc=> exact ⟨_,_,_,rfl,hn,hm⟩
/-- A row lies below B or in a block of values: no append to a list of rows that is not older than B turns it. -/
def Far (w:World) (B:Nat) (x:Value):Prop:=∀(ad:Addr) (n c:Nat),x=.slice (some ad) n c→0 < n→ad.block < B∨∃cur fr,w.heap[ad.block]? =some (.cells cur 68 fr)
/-- A list of rows lies in a block of its own, none older than B. -/
def RowsOwn (w:World) (B:Nat) (L:List Rw) (s:Value):Prop:=∃xs,w.ownsRow B 33 1 s L.length xs∧RowVs w L xs∧∀x∈xs,Far w B x
theorem RowsOwn.at {w:World} {B:Nat} {L:List Rw} {s:Value} (h:RowsOwn w B L s):RowsAt w L s:=by
 obtain ⟨xs,⟨_,⟨rfl,h0⟩ | ⟨g,cap,cur,rfl,hb,hg,hn,hc,hs,ht⟩⟩,hx,_⟩:=h
 · cases L with
   | nil=> exact .mt
   | cons=> simp at h0
 · refine .lie L xs g 0 _ cap rfl (Array.getElem?_eq_some_iff.1 hg).1 (Nat.le_trans hn hc) (fun i x hi=> ?_) hx
   have hl:i < L.length:=by
    have:=(List.getElem?_eq_some_iff.1 hi).1
    rw [hx.length] at this
    exact this
   have h0:=cell_of_row w g (i * 1) cur 33 (0,0) hg
   simp only [Nat.mul_one] at h0
   rw [Nat.zero_add,h0]
   rw [←ht,List.getElem?_take,if_pos (by omega)] at hi
   simpa using hi
theorem RowsOwn.shape {w:World} {B:Nat} {L:List Rw} {s:Value} (h:RowsOwn w B L s):∃a c,s=.slice a L.length c:=by
 obtain ⟨a,n,c,rfl,rfl,_⟩:=h.at.shape
 exact ⟨a,c,rfl⟩
theorem Tryz.info33':(Tryz.prog.info? 33).map (fun i=> (i.zero,i.size,i.bytes))=some (some (.slice none 0 0),1,24):=by kernel_rfl
/- Bags in memory. -/
variable {G:Nat→Prop}
/-- A row lies in a block of its own. -/
def RowO (G:Nat→Prop) (w:World) (B:Nat) (r:Rw) (x:Value):Prop:=w.ownsRow B 68 3 x r.length (flat r)∧(∀v∈r,v.text.size≤maxLen)∧∀k,x.ownBlock=some k→G k
theorem RowO.vals {w:World} {B:Nat} {r:Rw} {x:Value} (h:RowO G w B r x):ValsAt w r x:=vals_of_own h.1 rfl h.2.1
theorem RowO.far {w:World} {B C:Nat} {r:Rw} {x:Value} (h:RowO G w B r x):Far w C x:=by
 intro ad n c hx hn
 obtain ⟨⟨_,⟨h1,h2⟩ | ⟨g,cap,cur,rfl,hb,hg,_⟩⟩,_⟩:=h
 · rw [h1] at hx
   injection hx with hx
   cases hx
 · injection hx with hx
   injection hx with hx
   subst hx
   exact .inr ⟨cur,_,hg⟩
/-- Only the blocks pb and g (and new ones) may have changed. -/
structure ChgB (w w':World) (pb:Nat) (g:Option Nat):Prop where
 os:w'.os=w.os
 tape:w'.tape=w.tape
 output:w'.output=w.output
 size:w.heap.size≤w'.heap.size
 block:∀k,k < w.heap.size→k≠pb→some k≠g→w'.heap[k]? =w.heap[k]?
theorem ChgB.of_below {w w':World} (h:Below w.heap.size w w') (pb:Nat) (g:Option Nat):ChgB w w' pb g:=⟨h.os,h.tape,h.output,h.size,fun k hk _ _=> h.block k hk⟩
theorem ChgB.of_grown {w w':World} {g:Option Nat} (h:w.grownBy w' g) (pb:Nat):ChgB w w' pb g:=⟨h.os,h.tape,h.output,h.size,fun k hk _ hg=> h.block k hk hg⟩
theorem ChgB.trans {w w1 w2:World} {pb:Nat} {g g1:Option Nat} (h:ChgB w w1 pb g) (h1:ChgB w1 w2 pb g1) (hg:∀k,g1=some k→g=some k∨w.heap.size≤k):ChgB w w2 pb g:=by
 refine ⟨h1.os.trans h.os,h1.tape.trans h.tape,h1.output.trans h.output,Nat.le_trans h.size h1.size,fun k hk hp hg'=> ?_⟩
 refine (h1.block k (Nat.lt_of_lt_of_le hk h.size) hp fun e=> ?_).trans (h.block k hk hp hg')
 rcases hg k e.symm with h2 | h2
 · exact hg' h2.symm
 · omega
/-- A block of values (type 68) is not among the changed ones. -/
theorem RowO.chg {w w':World} {B pb:Nat} {r:Rw} {x:Value} {g:Option Nat} (h:RowO G w B r x) (hc:ChgB w w' pb g)
 (hp:∀cur fr,w.heap[pb]? ≠some (.cells cur 68 fr)) (hg:∀k,g=some k→∀cur fr,w.heap[k]? ≠some (.cells cur 68 fr)):RowO G w' B r x:=by
 obtain ⟨⟨hl,h1⟩,h2⟩:=h
 refine ⟨⟨hl,?_⟩,h2⟩
 rcases h1 with h1 | ⟨g',cap,cur,hv,hb,hg',rest⟩
 · exact .inl h1
 · refine .inr ⟨g',cap,cur,hv,hb,?_,rest⟩
   rw [hc.block g' (Array.getElem?_eq_some_iff.1 hg').1 (fun e=> hp cur _ (e ▸ hg')) (fun e=> hg g' e.symm cur _ hg')]
   exact hg'
/-- The entries' cells. -/
inductive EntVs (G:Nat→Prop) (w:World) (B:Nat):List Ent→List Value→Prop
 | nil:EntVs G w B [] []
 | cons {r:Rw} {n:Nat} {x:Value} {b:List Ent} {cs:List Value}:RowO G w B r x→EntVs G w B b cs→EntVs G w B ((r,n)::b) (x::.int .i64 n::cs)
theorem EntVs.one {w:World} {B:Nat} {b:List Ent} {cs:List Value} (h:EntVs G w B b cs):∀u∈cs,u.oneCell'=true:=by
 induction h with
 | nil=> simp
 | cons h1 _ ih=>
  intro u hu
  rcases List.mem_cons.1 hu with rfl | hu
  · obtain ⟨a,n,c,rfl,_⟩:=h1.vals.shape
    rfl
  · rcases List.mem_cons.1 hu with rfl | hu
    · rfl
    · exact ih u hu
theorem EntVs.get {w:World} {B:Nat} {b:List Ent} {cs:List Value} (h:EntVs G w B b cs) (i:Nat) (hi:i < b.length):∃x,cs[i * 2]? =some x∧cs[i * 2+1]? =some (.int .i64 b[i].2)∧RowO G w B b[i].1 x:=by
 induction h generalizing i with
 | nil=> simp at hi
 | cons h1 _ ih=>
  cases i with
  | zero=> exact ⟨_,rfl,rfl,h1⟩
  | succ i=>
   obtain ⟨x,e1,e2,e3⟩:=ih i (by simpa using hi)
   refine ⟨x,?_,?_,e3⟩
   · rw [show (i+1) * 2=i * 2+1+1 by omega];simpa using e1
   · rw [show (i+1) * 2+1=i * 2+1+1+1 by omega];simpa using e2
theorem EntVs.chg {w w':World} {B pb:Nat} {b:List Ent} {cs:List Value} {g:Option Nat} (h:EntVs G w B b cs) (hc:ChgB w w' pb g)
 (hp:∀cur fr,w.heap[pb]? ≠some (.cells cur 68 fr)) (hg:∀k,g=some k→∀cur fr,w.heap[k]? ≠some (.cells cur 68 fr)):EntVs G w' B b cs:=by
 induction h with
 | nil=> exact .nil
 | cons h1 _ ih=> exact .cons (h1.chg hc hp hg) ih
theorem EntVs.mono {w w':World} {B:Nat} {b:List Ent} {cs:List Value} (h:EntVs G w B b cs) (hb:Below w.heap.size w w'):EntVs G w' B b cs:=by
 induction h with
 | nil=> exact .nil
 | cons h1 _ ih=> exact .cons ⟨own_below h1.1 hb,h1.2⟩ ih
/-- A bag lies at block pb; its entries at the slice s. -/
structure BagAt (G:Nat→Prop) (w:World) (B pb:Nat) (s:Value) (b:List Ent):Prop where
 ge:B≤pb
 ptr:w.heap[pb]? =some (.cells #[s, .int .i64 (lenB b)] 137 (0,0))
 ent:∃cs,w.ownsRow B 139 2 s b.length cs∧EntVs G w B b cs
 wf:Wf b
theorem BagAt.mono {w w':World} {B pb:Nat} {s:Value} {b:List Ent} (h:BagAt G w B pb s b) (hb:Below w.heap.size w w'):BagAt G w' B pb s b:=by
 obtain ⟨h1,h2,⟨cs,h3,h4⟩,h5⟩:=h
 exact ⟨h1,(hb.block pb (Array.getElem?_eq_some_iff.1 h2).1).trans h2,⟨cs,own_below h3 hb,h4.mono hb⟩,h5⟩
theorem BagAt.lt {w:World} {B pb:Nat} {s:Value} {b:List Ent} (h:BagAt G w B pb s b):pb < w.heap.size:=(Array.getElem?_eq_some_iff.1 h.ptr).1
theorem BagAt.cell {w:World} {B pb:Nat} {s:Value} {b:List Ent} (h:BagAt G w B pb s b):w.cell? ⟨pb,0,none⟩=some s∧w.cell? ⟨pb,1,none⟩=some (.int .i64 (lenB b)):=by
 have e0:=cell_of_row w pb 0 _ 137 (0,0) h.ptr
 have e1:=cell_of_row w pb 1 _ 137 (0,0) h.ptr
 simpa using And.intro e0 e1
theorem BagAt.shape {w:World} {B pb:Nat} {s:Value} {b:List Ent} (h:BagAt G w B pb s b):∃a c,s=.slice a b.length c∧(0 < b.length→∃g,a=some ⟨g,0,none⟩)∧b.length≤maxLen:=by
 obtain ⟨cs,⟨_,⟨h1,h2⟩ | ⟨g,cap,cur,hv,hb,hg,hn,hc,_⟩⟩,_⟩:=h.ent
 · exact ⟨none,0,by rw [h1,h2],by omega,by omega⟩
 · exact ⟨_,cap,hv,fun _=> ⟨g,rfl⟩,Nat.le_trans hn hc⟩
end Go.Proofs.YtpdlkdoogojboaaGreat
/- Clone of a row; new lists of rows. -/
namespace Go.Proofs.YtpdlkdoogojboaaGreat
open Go Go.RowKit
def AllB:Nat→Prop:=fun _=> True
variable {G:Nat→Prop}
set_option maxHeartbeats 1000000 in
theorem own_base {w:World} {t:TypeId} {size n B:Nat} {v:Value} {xs:List Value} {f:List Nat} (h:(rowA t size v n xs).p w f) (hB:∀k∈f,B≤k):w.ownsRow B t size v n xs:=by
 obtain ⟨ho,rfl⟩:=h
 obtain ⟨hl,h⟩:=ho
 rcases h with ⟨rfl,h0⟩ | ⟨g,cap,cur,rfl,hb,hg,hn,hc,hs,ht⟩
 · exact ⟨hl, .inl ⟨rfl,h0⟩⟩
 · exact ⟨hl, .inr ⟨g,cap,cur,rfl,hB g (by simp [Value.ownBlock]),hg,hn,hc,hs,ht⟩⟩
theorem clone_calls (R:Rw) (r:Value) (w:World) (hr:ValsAt w R r) (hlen:R.length < 1099511627776) (hG:∀k,w.heap.size≤k→G k):
 Calls Tryz.prog 71 #[r] w fun e w'=> ∃v,e=.returned v∧RowO G w' w.heap.size R v∧Below w.heap.size w w':=by
 refine (cloneW (flat R) R.length r w hr.1 (one_flat _) hlen).mono ?_
 rintro e w' ⟨v',f',rfl,h1,h2,h3⟩
 exact ⟨v',rfl,⟨own_base h1 h3,hr.txt,fun k hk=> hG k (h3 k (by rw [h1.2,hk];simp))⟩,h2⟩
theorem RowO.mono {w w':World} {B:Nat} {r:Rw} {x:Value} (h:RowO G w B r x) (hb:Below w.heap.size w w'):RowO G w' B r x:=⟨own_below h.1 hb,h.2⟩
theorem RowO.base {w:World} {B C:Nat} {r:Rw} {x:Value} (h:RowO G w B r x) (hb:C≤B):RowO G w C r x:=by
 obtain ⟨⟨h1,h2 | ⟨g,cap,cur,hv,hg,rest⟩⟩,h3⟩:=h
 · exact ⟨⟨h1, .inl h2⟩,h3⟩
 · exact ⟨⟨h1, .inr ⟨g,cap,cur,hv,Nat.le_trans hb hg,rest⟩⟩,h3⟩
theorem RowO.grown {w w':World} {B C n:Nat} {r:Rw} {x v:Value} {xs:List Value} (h:RowO G w B r x) (hv:w.ownsRow C 33 1 v n xs) (hg:w.grownBy w' v.ownBlock):RowO G w' B r x:=by
 refine h.chg (pb:=w.heap.size) (ChgB.of_grown hg _) (fun cur fr=> by simp) (fun k hk cur fr e=> ?_)
 obtain ⟨_,⟨rfl,_⟩ | ⟨g,cap,cur',rfl,_,hg',_⟩⟩:=hv
 · simp [Value.ownBlock] at hk
 · simp only [Value.ownBlock,Option.some.injEq] at hk
   subst hk
   rw [hg'] at e
   injection e with e
   injection e with e1 e2
   exact absurd e2 (by decide)
/-- Rows in blocks of their own. -/
inductive RowVsO (G:Nat→Prop) (w:World) (B:Nat):List Rw→List Value→Prop
 | nil:RowVsO G w B [] []
 | cons {r:Rw} {x:Value} {L:List Rw} {xs:List Value}:RowO G w B r x→RowVsO G w B L xs→RowVsO G w B (r::L) (x::xs)
theorem RowVsO.vals {w:World} {B:Nat} {L:List Rw} {xs:List Value} (h:RowVsO G w B L xs):RowVs w L xs:=by
 induction h with
 | nil=> exact .nil
 | cons h1 _ ih=> exact .cons h1.vals ih
theorem RowVsO.far {w:World} {B C:Nat} {L:List Rw} {xs:List Value} (h:RowVsO G w B L xs):∀x∈xs,Far w C x:=by
 induction h with
 | nil=> simp
 | cons h1 _ ih=>
  intro x hx
  rcases List.mem_cons.1 hx with rfl | hx
  · exact h1.far
  · exact ih x hx
theorem RowVsO.mono {w w':World} {B:Nat} {L:List Rw} {xs:List Value} (h:RowVsO G w B L xs) (hb:Below w.heap.size w w'):RowVsO G w' B L xs:=by
 induction h with
 | nil=> exact .nil
 | cons h1 _ ih=> exact .cons (h1.mono hb) ih
theorem RowVsO.append {w:World} {B:Nat} {L M:List Rw} {xs ys:List Value} (h:RowVsO G w B L xs) (h':RowVsO G w B M ys):RowVsO G w B (L++M) (xs++ys):=by
 induction h with
 | nil=> exact h'
 | cons h1 _ ih=> exact .cons h1 ih
theorem RowVsO.grown {w w':World} {B C n:Nat} {L:List Rw} {ys:List Value} {v:Value} {xs:List Value} (h:RowVsO G w B L ys) (hv:w.ownsRow C 33 1 v n xs) (hg:w.grownBy w' v.ownBlock):RowVsO G w' B L ys:=by
 induction h with
 | nil=> exact .nil
 | cons h1 _ ih=> exact .cons (h1.grown hv hg) ih
/-- A list of rows, it and its rows in blocks of their own. -/
def RowsNew (G:Nat→Prop) (w:World) (B:Nat) (L:List Rw) (s:Value):Prop:=∃xs,w.ownsRow B 33 1 s L.length xs∧RowVsO G w B L xs
theorem RowsNew.own {w:World} {B:Nat} {L:List Rw} {s:Value} (h:RowsNew G w B L s):RowsOwn w B L s:=by
 obtain ⟨xs,h1,h2⟩:=h
 exact ⟨xs,h1,h2.vals,h2.far⟩
theorem RowsNew.mono {w w':World} {B:Nat} {L:List Rw} {s:Value} (h:RowsNew G w B L s) (hb:Below w.heap.size w w'):RowsNew G w' B L s:=by
 obtain ⟨xs,h1,h2⟩:=h
 exact ⟨xs,own_below h1 hb,h2.mono hb⟩
theorem RowsNew.nil (w:World) (B:Nat):RowsNew G w B [] (.slice none 0 0):=⟨[],World.ownsRow_nil _ _ _ _, .nil⟩
theorem RowsNew.alloc {w:World} {B:Nat} {L:List Rw} {s:Value} (h:RowsNew G w B L s) (o:Obj):RowsNew G (w.alloc o) B L s:=h.mono ((Below.refl _ _).alloc (Nat.le_refl _) o)
theorem RowO.alloc {w:World} {B:Nat} {r:Rw} {s:Value} (h:RowO G w B r s) (o:Obj):RowO G (w.alloc o) B r s:=h.mono ((Below.refl _ _).alloc (Nat.le_refl _) o)
/-- append of one fresh row. -/
theorem wpList_rowN {w:World} {ops:Array Oper} {rest:List Oper} {o:Oper} {a:Act} {Q:Exit→Act→World→Prop} (hgd:o.guard=none) (s x:Operand)
 (ho:o.op=.call { callee:=.builtin .append,args:=#[s,x],argTypes:=#[63,63] })
 (B:Nat) (L:List Rw) (R:Rw) (v:Value) (hs:a.eval s=v) (hown:RowsNew G w B L v) (g:Nat) (c:Nat) (y:Value) (hx:a.eval x=.slice (some ⟨g,0,none⟩) 1 c)
 (hc:w.cell? ⟨g,0,none⟩=some y) (hy:RowO G w B R y)
 (hlen:L.length+1≤1099511627776) (hB:B≤w.heap.size)
 (h:∀v' w',RowsNew G w' B (L++[R]) v'→Below B w w'→w.grownBy w' v.ownBlock→wpList Tryz.prog ops Q rest (a.put o.dst v') w'):wpList Tryz.prog ops Q (o::rest) a w:=by
 obtain ⟨i0,ii,iz0,iz1,iz2⟩:=info_parts Tryz.info33'
 obtain ⟨xs,h1,h2⟩:=hown
 have hy1:RowVsO G w B [R] [y]:=.cons hy .nil
 refine wpList_append_own w hgd s x 63 ho B 33 i0 (.slice none 0 0) 1 24 Tryz.underlying63 ii iz0 iz1 iz2 rfl (by decide) v _ xs hs h1 ⟨g,0,none⟩ 1 c [y] hx rfl (fun j u hj=> ?_) hy1.vals.one' (by unfold maxLen;omega) (by omega) hB ?_
 · match j,hj with
   | 0,hj=> simp at hj;subst hj;simpa [Addr.add] using hc
 intro v' w' ho' hg _
 refine h v' w' ⟨xs++[y],by rw [List.length_append];exact ho',(h2.grown h1 hg).append (hy1.grown h1 hg)⟩ ((Below.refl _ _).grown hg hB fun g hg'=> (h1.lt g hg').1) hg
end Go.Proofs.YtpdlkdoogojboaaGreat
/- The search in a bag. -/
namespace Go.Proofs.YtpdlkdoogojboaaGreat
open Go Go.RowKit
variable {G:Nat→Prop}
/-- Entries as they are read. -/
inductive EntsAt (w:World):List Ent→Value→Prop where
 | mt {a:Option Addr}:EntsAt w [] (.slice a 0 0)
 | lie (es:List Ent) (b o n cap:Nat) (hn:n=es.length) (hlt:b < w.heap.size) (hm:n≤maxLen)
  (hc:∀i (h:i < es.length),∃x,w.cell? ⟨b,o+i * 2,none⟩=some x∧w.cell? ⟨b,o+i * 2+1,none⟩=some (.int .i64 es[i].2)∧ValsAt w es[i].1 x):EntsAt w es (.slice (some ⟨b,o,none⟩) n cap)
theorem EntsAt.shape {w:World} {es:List Ent} {s:Value} (h:EntsAt w es s):∃a n c,s=.slice a n c∧n=es.length∧n≤maxLen:=by
 cases h with
 | mt=> exact ⟨_,_,_,rfl,rfl,by simp⟩
 | lie _ b o n cap hn hlt hm hc=> exact ⟨_,_,_,rfl,hn,hm⟩
theorem EntsAt.has {w:World} {es:List Ent} {a:Option Addr} {n c:Nat} (h:EntsAt w es (.slice a n c)) (i:Nat) (hi:i < n):∃b o,a=some ⟨b,o,none⟩:=by
 cases h with
 | mt=> omega
 | lie _ b o=> exact ⟨b,o,rfl⟩
theorem EntsAt.entry {w:World} {es:List Ent} {b o n c:Nat} (h:EntsAt w es (.slice (some ⟨b,o,none⟩) n c)) (k:Nat) (hk:k < es.length):
 ∃ax nx cx,RowKit.Hid (∀w',Below w.heap.size w w'→w'.cell? ⟨b,o+k * 2,none⟩=some (.slice ax nx cx)∧w'.cell? ⟨b,o+k * 2+1,none⟩=some (.int .i64 es[k].2)∧ValsAt w' es[k].1 (.slice ax nx cx)∧b < w'.heap.size):=by
 cases h with
 | mt=> simp at hk
 | lie _ _ _ _ _ hn hlt hm hc=>
  obtain ⟨x,h1,h2,h3⟩:=hc k hk
  obtain ⟨ax,nx,cx,rfl,_,_⟩:=h3.shape
  exact ⟨ax,nx,cx,fun w' hb=> ⟨(hb.cell (p:=⟨b,o+k * 2,none⟩) hlt).trans h1,(hb.cell (p:=⟨b,o+k * 2+1,none⟩) hlt).trans h2,h3.mono hb,Nat.lt_of_lt_of_le hlt hb.size⟩⟩
theorem BagAt.ents {w:World} {B pb:Nat} {s:Value} {b:List Ent} (h:BagAt G w B pb s b):EntsAt w b s:=by
 obtain ⟨cs,⟨hl,⟨rfl,h0⟩ | ⟨g,cap,cur,rfl,hb,hg,hn,hc,hs,ht⟩⟩,he⟩:=h.ent
 · cases b with
   | nil=> exact .mt
   | cons=> simp at h0
 · refine .lie b g 0 _ cap rfl (Array.getElem?_eq_some_iff.1 hg).1 (Nat.le_trans hn hc) fun i hi=> ?_
   obtain ⟨x,e1,e2,e3⟩:=he.get i hi
   refine ⟨x,?_,?_,e3.vals⟩
   · rw [Nat.zero_add,cell_of_row w g (i * 2) cur 139 (0,0) hg]
     rw [←ht,List.getElem?_take,if_pos (by omega)] at e1
     simpa using e1
   · rw [Nat.zero_add,cell_of_row w g (i * 2+1) cur 139 (0,0) hg]
     rw [←ht,List.getElem?_take,if_pos (by omega)] at e2
     simpa using e2
/-- The closure of find. -/
theorem bfind1_calls (X R:Rw) (n:Int) (x r:Value) (w:World) (hx:ValsAt w X x) (hr:ValsAt w R r):
 Calls Tryz.prog 171 #[.agg #[x, .int .i64 n],r] w fun e w'=> e=.returned (.int .i64 (cmpR X R))∧Below w.heap.size w w':=by
 obtain ⟨ax,nx,cx,rfl,p1,p2⟩:=hx.shape
 obtain ⟨ar,nr,cr,rfl,p3,p4⟩:=hr.shape
 clear p1 p2 p3 p4
 have hb0:∀o,Below w.heap.size w (w.alloc o):=fun o=> (Below.refl _ _).alloc (Nat.le_refl _) o
 have HC:=Lib.hid (fun o=> compareRows_calls X R _ _ (w.alloc o) (hx.mono (hb0 o)) (hr.mono (hb0 o)))
 have Hb0:=Lib.hid hb0
 clear hx hr hb0
 go_enter Tryz.func171,Tryz.ntmps171
 go_wp2_with fail
 (with_reducible refine (HC.out _).mono ?_)
 rintro e w1 ⟨rfl,hb1⟩
 have Hb1:=Lib.hid ((Hb0.out _).trans (hb1.mono (Hb0.out _).size))
 clear hb1
 go_wp2
 go_ret
 exact ⟨rfl,Hb1.out⟩
/-! Where the row goes. -/
def hasB (b:List Ent) (r:Rw):Bool:=b.any fun x=> decide (x.1=r)
theorem posB_eq {b:List Ent} {r:Rw} {i:Nat} (hi:i≤b.length) (h1:∀j (h:j < b.length),j < i→ltR b[j].1 r) (h2:∀h:i < b.length,¬ ltR b[i].1 r):posB b r=i:=by
 unfold posB
 induction b generalizing i with
 | nil=> simp at hi;simp [hi]
 | cons x b ih=>
  cases i with
  | zero=>
   have:=h2 (by simp)
   simp only [List.getElem_cons_zero] at this
   simp [this]
  | succ i=>
   have h0:=h1 0 (by simp) (by omega)
   simp only [List.getElem_cons_zero] at h0
   simp only [List.takeWhile_cons,h0,decide_true,if_true,List.length_cons]
   rw [ih (i:=i) (by simpa using hi) (fun j h hj=> by have:=h1 (j+1) (by simpa using h) (by omega);simpa using this) (fun h=> by have:=h2 (by simpa using h);simpa using this)]
theorem hasB_eq {b:List Ent} (hw:Wf b) {r:Rw} {i:Nat} (hi:i≤b.length) (h1:∀j (h:j < b.length),j < i→ltR b[j].1 r) (h2:∀h:i < b.length,¬ ltR b[i].1 r):
 hasB b r=if h:i < b.length then decide (cmpR b[i].1 r=0) else false:=by
 unfold hasB
 rw [Bool.eq_iff_iff]
 simp only [List.any_eq_true,decide_eq_true_eq]
 constructor
 · rintro ⟨x,hx,rfl⟩
   obtain ⟨j,hj,rfl⟩:=List.mem_iff_getElem.1 hx
   by_cases hji:j < i
   · exact absurd (h1 j hj hji) (ltR_irrefl _)
   · have hil:i < b.length:=by omega
     rw [dif_pos hil]
     by_cases e:i=j
     · subst e;simp [cmpR_zero.2 rfl]
     · have:=(List.pairwise_iff_getElem.1 hw.asc) i j hil hj (by omega)
       exact absurd this (h2 hil)
 · intro h
   split at h
   · rename_i hil
     exact ⟨_,List.getElem_mem hil,cmpR_zero.1 (by simpa using h)⟩
   · cases h
set_option maxHeartbeats 2000000 in
/-- slices.BinarySearchFunc at find's closure. -/
theorem search_calls (b:List Ent) (R:Rw) (s r:Value) (w:World) (hs:EntsAt w b s) (hr:ValsAt w R r) (hw:Wf b) (hlen:b.length < 1099511627776):
 Calls Tryz.prog 170 #[s,r, .func (.func 171) #[] #[]] w fun e w'=> e=.returned (.tuple #[.int .i64 (posB b R), .bool (hasB b R)])∧Below w.heap.size w w':=by
 obtain ⟨a,n,c,rfl,hn,hm⟩:=hs.shape
 obtain ⟨ar,nr,cr,rfl,p3,p4⟩:=hr.shape
 have Hs:=Lib.hid hs
 have Hr:=Lib.hid hr
 have Hn:=Lib.hid hn
 have Hw:=Lib.hid hw
 clear hs hr hn hm p3 p4 hw
 have hn40:n < 1099511627776:=by have:=Hn.out;omega
 clear hlen
 go_enter Tryz.func170,Tryz.ntmps170
 go_wp2
 go_loopw [9,10] (fun i j wr=> ∃(lo hi:Nat),lo≤hi∧hi≤n∧i=.int .i64 lo∧j=.int .i64 hi∧RowKit.Hid (Below w.heap.size w wr)∧RowKit.Hid (∀j (h:j < b.length),j < lo→ltR b[j].1 R)∧RowKit.Hid (∀j (h:j < b.length),hi≤j→¬ ltR b[j].1 R)) (fun i j _=> (intOf j).toNat - (intOf i).toNat)
 case atStart=> exact ⟨0,n,Nat.zero_le _,Nat.le_refl _,rfl,rfl,Below.refl _ _,fun j h h0=> by omega,fun j h h0=> by have:=Hn.out;omega⟩
 case round=>
  obtain ⟨lo,hi,hlh,hhn,rfl,rfl,Hb,H1,H2⟩:=hrel
  by_cases hlt:lo < hi
  · obtain ⟨m,hm⟩:∃m:Nat,m=(lo+hi) / 2:=⟨_,rfl⟩
    have hm1:lo≤m:=by omega
    have hm2:m < hi:=by omega
    have hk1:m < b.length:=by have:=Hn.out;omega
    have hmn:m < n:=by omega
    obtain ⟨g,o,rfl⟩:=Hs.out.has m hmn
    obtain ⟨ax,nx,cx,Hcell⟩:=Hs.out.entry m hk1
    obtain ⟨hc0,hc1,hx,hbl⟩:=Hcell.out _ Hb.out
    have HC:=Lib.hid (bfind1_calls b[m].1 R b[m].2 _ _ wr hx (Hr.out.mono Hb.out))
    have Hup:RowKit.Hid (ltR b[m].1 R→∀j (h:j < b.length),j < m+1→ltR b[j].1 R):=by
     intro h j hj hjm
     by_cases e:j=m
     · subst e;exact h
     · exact ltR_trans ((List.pairwise_iff_getElem.1 Hw.out.asc) j m hj hk1 (by omega)) h
    have Hdn:RowKit.Hid (¬ ltR b[m].1 R→∀j (h:j < b.length),m≤j→¬ ltR b[j].1 R):=by
     intro h j hj hjm h2
     by_cases e:j=m
     · subst e;exact h h2
     · exact h (ltR_trans ((List.pairwise_iff_getElem.1 Hw.out.asc) m j hk1 hj (by omega)) h2)
    clear hx
    generalize b[m].1=X at *
    generalize b[m].2=N at *
    have i1:(0:Int)≤m:=by omega
    have i2:(m:Int) < n:=by omega
    clear hk1
    have Hm:=Lib.hid hm
    clear hm
    go_upto_region 4 with (fail)
    go_cut [11] (fun z wx=> z=.int .i64 m∧wx=wr)
    case first=>
     go_wp2_with fail
     go_meet
     exact ⟨by have:=Hm.out;congr 1;omega,rfl⟩
    obtain ⟨rfl,rfl⟩:=hcut
    go_upto_region 5 with (fail)
    go_cut [31] (fun z wx=> ∃q:Bool,z=.bool q∧RowKit.Hid (q=decide (ltR X R))∧RowKit.Hid (Below w.heap.size w wx))
    case first=>
     go_wp2_with (go_at_call 171;(with_reducible refine HC.out.mono ?_);rintro e w1 ⟨rfl,hb1⟩)
     all_goals
      have Hb1:=Lib.hid (Hb.out.trans (hb1.mono Hb.out.size))
      go_meet
      exact ⟨_,rfl,by show _=_;exact decide_eq_decide.2 Iff.rfl,Hb1⟩
    obtain ⟨q,rfl,Hq,Hb1⟩:=hcut
    clear hc0 hc1 hbl HC Hb
    cases q
    · have Hd1:=Lib.hid (Hdn.out (by have:=Hq.out;simpa using this))
      clear Hup Hdn Hq
      go_wp2
      go_roundw
      case rel=> exact ⟨lo,m,hm1,by omega,rfl,rfl,Hb1,H1,Hd1⟩
      case measure=> simp [intOf];omega
    · have Hd1:=Lib.hid (Hup.out (by have:=Hq.out;simpa using this))
      clear Hup Hdn Hq
      go_wp2
      go_roundw
      case rel=> exact ⟨m+1,hi,by omega,hhn,by go_num,rfl,Hb1,Hd1,H2⟩
      case measure=> simp [intOf];omega
  · obtain rfl:lo=hi:=by omega
    have Hp:RowKit.Hid (posB b R=lo):=posB_eq (by have:=Hn.out;omega) H1.out (fun h=> H2.out lo h (Nat.le_refl _))
    have Hh:RowKit.Hid (hasB b R=if h:lo < b.length then decide (cmpR b[lo].1 R=0) else false):=hasB_eq Hw.out (by have:=Hn.out;omega) H1.out (fun h=> H2.out lo h (Nat.le_refl _))
    by_cases hlt':lo < n
    · have hk1:lo < b.length:=by have:=Hn.out;omega
      obtain ⟨g,o,rfl⟩:=Hs.out.has lo hlt'
      obtain ⟨ax,nx,cx,Hcell⟩:=Hs.out.entry lo hk1
      obtain ⟨hc0,hc1,hx,hbl⟩:=Hcell.out _ Hb.out
      have HC:=Lib.hid (bfind1_calls b[lo].1 R b[lo].2 _ _ wr hx (Hr.out.mono Hb.out))
      have Hres:RowKit.Hid (hasB b R=(cmpR b[lo].1 R==0)):=by show _=_;rw [Hh.out,dif_pos hk1];rfl
      clear hx Hh H1 H2
      generalize b[lo].1=X at *
      generalize b[lo].2=N at *
      have i1:(0:Int)≤lo:=by omega
      have i2:(lo:Int) < n:=by omega
      clear hk1
      go_wp2_with (go_at_call 171;(with_reducible refine HC.out.mono ?_);rintro e w1 ⟨rfl,hb1⟩)
      all_goals
       have Hb1:=Lib.hid (Hb.out.trans (hb1.mono Hb.out.size))
       exact bodyPost_ret (v:=.tuple #[.int .i64 lo, .bool (cmpR X R==0)]) (by simp [results,Tryz.results170,go_sem, *]) rfl ⟨by rw [Hp.out,Hres.out],Hb1.out⟩
    · have Hres:RowKit.Hid (hasB b R=false):=by show _=_;rw [Hh.out,dif_neg (by have:=Hn.out;omega)]
      clear Hh H1 H2
      go_wp2
      exact bodyPost_ret (v:=.tuple #[.int .i64 lo, .bool false]) (by simp [results,Tryz.results170,go_sem, *]) rfl ⟨by rw [Hp.out,Hres.out],Hb.out⟩
theorem bfind_calls (B pb:Nat) (s:Value) (b:List Ent) (R:Rw) (r:Value) (w:World) (hb:BagAt G w B pb s b) (hr:ValsAt w R r) (hlen:b.length < 1099511627776):
 Calls Tryz.prog 135 #[.pointer (some ⟨pb,0,none⟩),r] w fun e w'=> e=.returned (.tuple #[.int .i64 (posB b R), .bool (hasB b R)])∧Below w.heap.size w w':=by
 obtain ⟨a,c,rfl,_,_⟩:=hb.shape
 obtain ⟨c0,c1⟩:=hb.cell
 have hlt:=hb.lt
 have HC:=Lib.hid (search_calls b R _ r w hb.ents hr hb.wf hlen)
 obtain ⟨ar,nr,cr,rfl,p3,p4⟩:=hr.shape
 clear hb hr hlen p3 p4 c1
 generalize b.length=n at *
 go_enter Tryz.func135,Tryz.ntmps135
 go_wp2_with fail
 (with_reducible refine HC.out.mono ?_)
 rintro e w1 ⟨rfl,hb1⟩
 have Hb1:=Lib.hid hb1
 clear hb1 c0 hlt
 go_wp2
 exact bodyPost_ret (v:=.tuple #[.int .i64 (posB b R), .bool (hasB b R)]) (by simp [results,Tryz.results135,go_sem]) rfl ⟨rfl,Hb1.out⟩
theorem posB_le (b:List Ent) (R:Rw):posB b R≤b.length:=by
 unfold posB
 exact (List.takeWhile_sublist _).length_le
theorem hasB_pos {b:List Ent} (hw:Wf b) {R:Rw} (h:hasB b R=true):∃h:posB b R < b.length,b[posB b R].1=R∧b[posB b R].2=cntB b R:=by
 induction b with
 | nil=> simp [hasB] at h
 | cons x b ih=>
  have hx:=List.pairwise_cons.1 hw.asc
  by_cases e:x.1=R
  · have h0:posB (x::b) R=0:=by
     have:¬ ltR x.1 R:=by rw [e];exact ltR_irrefl _
     simp [posB,this]
    simp [h0,e,cntB]
  · have h1:hasB b R=true:=by simpa [hasB,e] using h
    obtain ⟨h2,h3,h4⟩:=ih (wf_tail hw) h1
    have hlt:ltR x.1 R:=by rw [←h3];exact hx.1 _ (List.getElem_mem h2)
    have h0:posB (x::b) R=posB b R+1:=by simp [posB,hlt]
    refine ⟨by rw [h0];simpa using h2,?_,?_⟩
    · simp only [h0,List.getElem_cons_succ];exact h3
    · simp only [h0,List.getElem_cons_succ,cntB,e,if_false];exact h4
end Go.Proofs.YtpdlkdoogojboaaGreat
