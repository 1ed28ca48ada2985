/- Part 11 of the proof: Jm, Jn, Mk, Jo, Jr, Mlr, Ml, Mn, Js, Ju, Jv -/
import Derived.Test.YtpdlkdoogojboaaGreatZ10
import Derived.Test.YtpdlkdoogojboaaGreatZ08
import Derived.Test.YtpdlkdoogojboaaGreatZ07
/- The encoders of rows. -/
namespace Go.Proofs.YtpdlkdoogojboaaGreat
open Go Go.RowKit
set_option maxHeartbeats 4000000 in
set_option maxRecDepth 20000 in
theorem rrow05_calls (r:Rw) (rv:Value) (hr:RowS r) (hc:r.length≤100000) (w:World) (hrv:ValsAt w r rv):
 Calls Tryz.prog 96 #[rv] w fun e w'=> ∃b,e=.returned b∧St w [] [slA 5 b ((encR r).map u8C)] w':=by
 obtain ⟨ra,n,rc,rfl,hn,hm⟩:=hrv.shape
 have HR:=Lib.hid hrv
 have HN:=Lib.hid hn
 have HRS:=Lib.hid hr
 have HCL:=Lib.hid hc
 have hn2:n≤100000:=by omega
 have H0:RowKit.Hid (St w [] [slA 5 (.slice none 0 0) ((encR (r.take 0)).map u8C)] w):=St.nilA (t:=5) (St.start (L:=[]) (fp:=[]) rfl)
 clear hrv hn hr hc hm
 go_enter Tryz.func96,Tryz.ntmps96
 go_upto_region 3 with (fail)
 go_loopg [3,4] n (fun g z3 z4 wr=> ∃k:Nat,z4=.int .i64 k∧g+k=n∧RowKit.Hid (St w [] [slA 5 z3 ((encR (r.take k)).map u8C)] wr))
 case atStart=> exact ⟨0,rfl,by omega,H0⟩
 case round=>
  clear H0
  obtain ⟨k,rfl,hgk,Hs⟩:=hrel
  by_cases hk:k < n
  · have hlt:k < r.length:=by rw [←HN.out];exact hk
    have hb0:=Hs.out.below0
    obtain ⟨rb,ro,rfl⟩:=HR.out.has k hk
    obtain ⟨v0,v1,v2⟩:=(HR.out.mono hb0).cell k hlt
    have hrl:=World.block_lt_of_cell? wr _ v0
    have hst:encR (r.take (k+1))=encR (r.take k)++encL r[k]:=by
     rw [encR,encR,List.take_add_one,List.getElem?_eq_getElem hlt,List.flatMap_append]
     simp only [Option.toList,List.flatMap_cons,List.flatMap_nil,List.append_nil]
    have hrs:=HRS.out r[k] (List.getElem_mem hlt)
    have hlen:((encR (r.take k)).map u8C).length+((encL r[k]).map u8C).length < 1099511627776:=by
     rw [List.length_map,List.length_map]
     have h1:=encR_len (r:=r.take k) (fun v hv=> HRS.out v (List.mem_of_mem_take hv))
     have h3:(r.take k).length≤100000:=by rw [List.length_take];have:=HCL.out;omega
     have:(r.take k).length * 2097161≤100000 * 2097161:=Nat.mul_le_mul_right _ h3
     have h4:=encL_len r[k]
     omega
    have HA:RowKit.Hid (∀w',Calls Tryz.prog 131 #[.agg #[.int .i64 r[k].kind, .int .i64 r[k].int, .string r[k].text]] w' fun e w''=> ∃b',e=.returned b'∧St w' [] [slA 5 b' ((encL r[k]).map u8C)] w''):=
     fun w'=> rvalue05_calls r[k] hrs.1 (by omega) w'
    have Hgk:=Lib.hid hgk
    have HST:=Lib.hid hst
    have HLN:=Lib.hid hlen
    have hkm:(k:Int) < n:=by omega
    clear hst hlen hgk hb0 hrs
    obtain ⟨V,hV⟩:∃V,r[k]=V:=⟨_,rfl⟩
    rw [hV] at v0 v1 v2 HA HST HLN
    clear hV hlt
    obtain ⟨K,I,T⟩:=V
    simp only at v0 v1 v2 HA
    go_wp2_with fail
    (with_reducible refine (HA.out _).mono ?_)
    rintro e w1 ⟨b',rfl,h3⟩
    have h4:=newB Hs.out h3
    obtain ⟨_,hr⟩:=h4.has 0 rfl
    have HSRC:=Lib.hid (src_sl hr)
    have HS1:=Lib.hid (h4.perm (List.Perm.swap _ _ _))
    clear h3 h4 hr HA Hs
    go_wp2_with (first
     | (at_builtin;go_loud (refine wpList_appSl rfl _ _ _ _ rfl rfl rfl appBS HS1.out HSRC.out HLN.out ?_);intro v3 w3 h3))
    go_roundg (gk - 1)
    case rel=> exact ⟨k+1,by go_num,by have:=Hgk.out;omega,by rw [HST.out];exact ((h3.out.snoc8 rfl).perm (List.Perm.swap _ _ _)).drop⟩
    case measure=> have:=Hgk.out;omega
  · obtain rfl:k=n:=by omega
    have hl:r.take k=r:=List.take_of_length_le (by rw [←HN.out];exact Nat.le_refl _)
    rw [hl] at Hs
    clear hgk hk hl
    go_wp2
    go_ret
    exact ⟨_,rfl,Hs.out⟩
theorem rowB_len {r:Rw} (hr:RowS r) (hc:r.length≤100000):(encR r).length≤209716100000:=by
 have h1:=encR_len hr
 have:r.length * 2097161≤100000 * 2097161:=Nat.mul_le_mul_right _ hc
 omega
set_option maxHeartbeats 4000000 in
set_option maxRecDepth 20000 in
theorem rrow40_calls (b:Value) (xs:List UInt8) (r:Rw) (rv:Value) (hr:RowS r) (hc:r.length≤100000) (hl:xs.length < 500000000000) (w0 w:World) (fp0:List Nat) (R:List Asn) (hS:St w0 fp0 (slA 5 b (xs.map u8C)::R) w) (hrv:ValsAt w r rv):
 Calls Tryz.prog 63 #[b,rv] w fun e w'=> ∃b',e=.returned b'∧St w0 fp0 (slA 5 b' ((xs++rowB r).map u8C)::R) w':=by
 have hel:=rowB_len hr hc
 have HC:=Lib.hid (rrow05_calls r rv hr hc w hrv)
 have HS:=Lib.hid hS
 have HL:=Lib.hid hl
 have HEL:=Lib.hid hel
 clear hS hr hc hrv hl hel
 go_enter Tryz.func63,Tryz.ntmps63
 go_wp2_with fail
 (with_reducible refine HC.out.mono ?_)
 rintro e w1 ⟨v,rfl,h1⟩
 obtain ⟨_,hr⟩:=h1.has 0 rfl
 obtain ⟨va,vn,vc,rfl⟩:=sl_shape hr
 have hvn:vn=(encR r).length:=by
  obtain ⟨_,_,e, -⟩:=sl_get hr
  obtain ⟨-,e, -⟩:=Value.slice.inj e
  rw [e,List.length_map]
 have h2:=(newB HS.out h1).perm (List.Perm.swap _ _ _)
 have HN:=Lib.hid (rnum40_calls b xs vn (by unfold I64;have:=HEL.out;omega) (by have:=HL.out;omega) w0 w1 fp0 _ h2)
 have HVN:=Lib.hid hvn
 clear HC HS h1 h2 hr hvn
 go_wp2_with fail
 (with_reducible refine HN.out.mono ?_)
 rintro e w2 ⟨b',rfl,h3⟩
 obtain ⟨_,hr⟩:=h3.has 1 rfl
 have HSRC:=Lib.hid (src_sl hr)
 have HS1:=Lib.hid h3
 have HLN:RowKit.Hid (((xs++numL vn).map u8C).length+((encR r).map u8C).length < 1099511627776):=by
  show _ < _
  rw [List.length_map,List.length_map,List.length_append,numL_length]
  have:=HL.out
  have:=HEL.out
  omega
 clear h3 hr HN
 go_wp2_with (first
  | (at_builtin;go_loud (refine wpList_appSl rfl _ _ _ _ rfl rfl rfl appBS HS1.out HSRC.out HLN.out ?_);intro v3 w3 h3))
 go_ret
 refine ⟨v3,rfl,?_⟩
 have h4:=((h3.out.snoc8 rfl).perm (List.Perm.swap _ _ _)).drop
 rw [HVN.out,List.append_assoc] at h4
 exact h4
set_option maxHeartbeats 4000000 in
set_option maxRecDepth 20000 in
theorem wRow_calls (b:Nat) (xs:List UInt8) (r:Rw) (rv:Value) (hr:RowS r) (hc:r.length≤100000) (hl:xs.length < 500000000000) (w0 w:World) (fp0:List Nat) (R:List Asn) (hS:St w0 fp0 (wrA b xs::R) w) (hrv:ValsAt w r rv):
 Calls Tryz.prog 60 #[.pointer (some ⟨b,0,none⟩),rv] w fun e w'=> e=.returned (.tuple #[])∧St w0 fp0 (wrA b (xs++rowB r)::R) w':=by
 have hel:=rowB_len hr hc
 have HC:=Lib.hid (encodeRow_calls r rv hr hc w hrv)
 have HS:=Lib.hid hS
 have HL:=Lib.hid hl
 have HEL:=Lib.hid hel
 clear hS hr hc hrv hl hel
 go_enter Tryz.func60,Tryz.ntmps60
 go_wp2_with fail
 (with_reducible refine HC.out.mono ?_)
 rintro e w1 ⟨v,rfl,h1⟩
 obtain ⟨_,hr⟩:=h1.has 0 rfl
 obtain ⟨va,vn,vc,rfl⟩:=sl_shape hr
 have hvn:vn=(encR r).length:=by
  obtain ⟨_,_,e, -⟩:=sl_get hr
  obtain ⟨-,e, -⟩:=Value.slice.inj e
  rw [e,List.length_map]
 have h2:=(newB HS.out h1).perm (List.Perm.swap _ _ _)
 have HN:=Lib.hid (wNumber_calls b xs vn (by unfold I64;have:=HEL.out;omega) (by have:=HL.out;omega) w0 w1 fp0 _ h2)
 have HVN:=Lib.hid hvn
 clear HC HS h1 h2 hr hvn
 go_wp2_with fail
 (with_reducible refine HN.out.mono ?_)
 rintro e w2 ⟨rfl,h3⟩
 obtain ⟨v,h4⟩:=St.wr.1 h3
 obtain ⟨_,hr⟩:=h4.has 2 rfl
 have HSRC:=Lib.hid (src_sl hr)
 obtain ⟨_,hb⟩:=h4.has 0 rfl
 have c0:=(blk_get hb).1 0
 have cl:=(blk_get hb).2.2
 have f0:=(blk_get hb).2.1 0
 simp only [List.getElem?_toArray,List.getElem?_cons_zero] at c0
 have HS1:=Lib.hid (h4.perm (List.Perm.swap _ _ _))
 have HLN:RowKit.Hid (((xs++numL vn).map u8C).length+((encR r).map u8C).length < 1099511627776):=by
  show _ < _
  rw [List.length_map,List.length_map,List.length_append,numL_length]
  have:=HL.out
  have:=HEL.out
  omega
 clear h3 h4 hr hb HN
 go_wp2_with (first
  | (at_builtin;go_loud (refine wpList_appSl rfl _ _ _ _ rfl rfl rfl appBS HS1.out HSRC.out HLN.out ?_);intro v3 w3 h3;obtain ⟨_,hr⟩:=h3.out.has 0 rfl;obtain ⟨ya,yn,yc,rfl⟩:=sl_shape hr;obtain ⟨_,hb⟩:=h3.out.has 1 rfl;have c3:=(blk_get hb).1 0;have l3:=(blk_get hb).2.2;have f3:=(blk_get hb).2.1 0;simp only [List.getElem?_toArray,List.getElem?_cons_zero] at c3;clear hr hb))
 go_end0
 refine ⟨rfl,?_⟩
 have h4:=St.setB ((h3.out.snoc8 rfl).perm (List.Perm.swap _ _ _)) 0 (by simp) (.slice ya yn yc)
 have h5:=(St_re (L:=[_,_,_]) h4 [2,0,1] [] (by kernel_rfl)).drop
 rw [HVN.out,List.append_assoc] at h5
 exact St.wr.2 ⟨_,h5⟩
/- slices.Grow of nil, slices.Concat at rows. -/
section
variable {P:Program}
theorem wpList_append_zeros_nil {w:World} {ops:Array Oper} {rest:List Oper} {o:Oper} {a:Act} {Q:Exit→Act→World→Prop} (hgd:o.guard=none) (s x:Operand) (t tn:TypeId)
 (ho:o.op=.call { callee:=.builtin .append,args:=#[s,x],argTypes:=#[t,tn] })
 (e:TypeId) (i:TypeInfo) (z:Value) (size bytes:Nat) (kq kn:IntKind) (ht:P.underlying t=some (.slice e)) (htn:P.underlying tn=some (.int kn)) (hi:P.info? e=some i) (hz:i.zero=some z)
 (hsize:i.size=size) (hby:i.bytes=bytes) (hzs:z.cells.size=size) (hsz:0 < size)
 (hs:a.eval s=.slice none 0 0) (k:Nat) (hx:a.eval x=.int kq k)
 (h0:0 < k) (h63:k≤1099511627776) (hbytes:k * bytes≤140737488355328)
 (h:∀w' G cur,RowKit.Hid (w'.heap[w.heap.size]? =some (.cells cur e (0,0)))→RowKit.Hid (cur.size=G * size)→k≤G→RowKit.Hid (G≤maxLen)→RowKit.Hid (w.grownBy w' none)→
  wpList P ops Q rest (a.put o.dst (.slice (some ⟨w.heap.size,0,none⟩) k G)) w'):wpList P ops Q (o::rest) a w:=by
 refine wpList_plain hgd fun K hK=> ?_
 subst hsize
 subst hby
 have hold:(Builtin.firstCells i.size 0 (.slice none 0 0)).run P w.drew=.ok ([]:List Value).toArray w.drew:=run_firstCells_none w.drew i.size 0 0 0
 have hfit:Builtin.nextslicecap (0+k) 0 * i.bytes≤281474976710656:=growslice_fits (by omega) (by rw [Nat.zero_add];exact hbytes)
 have hrun:=Lib.run_append_grow_zeros (P:=P) w t tn o.type e i z kq kn ht htn hi hz none 0 0 [] hold k h0 hsz (by omega) (by omega) (by omega) hfit
 rw [Nat.zero_add] at hrun
 have hG1:=grownCap_ge w k 0 e
 have hG2:=grownCap_le_maxLen w k 0 e (by unfold maxLen;omega)
 unfold Oper.wp execOp
 simp only [ho,resolve,invoke,builtin,Sem.run_bind,Sem.run_pure,Result.andThen_ok,List.map_toArray,List.map_cons,List.map_nil,hs,hx,hrun]
 refine hK _ _ (h _ _ _ (heap_alloc_new w.drew _) ?_ hG1 hG2 ?_)
 · show _=_
   simp only [Array.size_append,List.size_toArray,List.length_nil,Nat.zero_add,size_zeroCells,hzs]
   rw [←Nat.add_mul]
   congr 1
   omega
 · show World.grownBy _ _ _
   exact ⟨rfl,rfl,rfl,by simp,fun j hj _=> Below.heap_alloc w.drew _ _ hj⟩
end
theorem grow_calls (n:Nat) (hn:n≤1000000000) (w:World):Calls Tryz.prog 93 #[.slice none 0 0, .int .i64 n] w fun e w'=> ∃a c,e=.returned (.slice a 0 c)∧St w [] [rowA 68 3 (.slice a 0 c) 0 []] w':=by
 by_cases h0:n=0
 · subst h0
   have HS:=Lib.hid (St.nilR 68 3 (St.start (w:=w) (L:=[]) (fp:=[]) rfl))
   go_enter Tryz.func93,Tryz.ntmps93
   go_wp2
   go_ret
   exact ⟨none,0,rfl,HS.out⟩
 · obtain ⟨i0,ii,ie⟩:∃i0,Tryz.prog.info? 68=some i0∧(i0.zero,i0.size,i0.bytes)=(some (.agg #[.int .i64 0, .int .i64 0, .string ⟨#[]⟩]),3,32):=by
    have h:(Tryz.prog.info? 68).map (fun i=> (i.zero,i.size,i.bytes))=some (some (.agg #[.int .i64 0, .int .i64 0, .string ⟨#[]⟩]),3,32):=by kernel_rfl
    cases h1:Tryz.prog.info? 68 with
    | none=> rw [h1] at h;cases h
    | some i0=> rw [h1] at h;exact ⟨i0,rfl,by simpa using h⟩
   obtain ⟨iz0,iz1,iz2⟩:i0.zero=some (.agg #[.int .i64 0, .int .i64 0, .string ⟨#[]⟩])∧i0.size=3∧i0.bytes=32:=by simpa using ie
   have h1:¬ (n:Int) < 0:=by omega
   have h2:(0:Int) < n:=by omega
   have hn0:0 < n:=by omega
   clear ie
   go_enter Tryz.func93,Tryz.ntmps93
   go_wp2_with (at_builtin;go_loud (refine wpList_append_zeros_nil rfl _ _ _ _ rfl 68 i0 _ 3 32 .i64 .i64 (by kernel_rfl) (by kernel_rfl) ii iz0 iz1 iz2 rfl (by decide) rfl n rfl hn0 (by omega) (by omega) ?_);intro w1 G cur hg hsz hGn hGm hgr)
   have HF:RowKit.Hid (St w [] [rowA 68 3 (.slice (some ⟨w.heap.size,0,none⟩) 0 G) 0 []] w1):=by
    refine (St.start (w:=w) (L:=[]) (fp:=[]) rfl).addF (f:=[w.heap.size]) ⟨⟨rfl, .inr ⟨w.heap.size,G,cur,rfl,Nat.zero_le _,hg.out,Nat.zero_le _,hGm.out,hsz.out,rfl⟩⟩,rfl⟩ ⟨hgr.out.os,hgr.out.tape,hgr.out.output,hgr.out.size,fun k hk=> hgr.out.block k hk (by simp)⟩ (fun k hk=> by rw [List.mem_singleton.1 hk];exact Nat.le_refl _)
   go_ret
   exact ⟨_,_,rfl,HF.out⟩
/-- How many values the first k rows have. -/
def sumL (rs:List Rw):Nat:=(rs.flatten).length
theorem sumL_step {rs:List Rw} {k:Nat} (h:k < rs.length):sumL (rs.take (k+1))=sumL (rs.take k)+(rs[k]'h).length:=by
 unfold sumL
 rw [List.take_add_one,List.getElem?_eq_getElem h,List.flatten_append,List.length_append]
 simp
theorem sumL_le {rs:List Rw} (k:Nat):sumL (rs.take k)≤sumL rs:=by
 unfold sumL
 conv=> rhs;rw [←List.take_append_drop k rs]
 rw [List.flatten_append,List.length_append]
 omega
set_option maxHeartbeats 4000000 in
set_option maxRecDepth 20000 in
theorem concat_calls (rs:List Rw) (vs:List Value) (v:Value) (hs:sumL rs≤1000000000) (w:World) (hv:SlX [] w 1 rs.length vs v) (hr:∀i (h:i < rs.length),∃u,vs[i]? =some u∧ValsAt w (rs[i]'h) u):
 Calls Tryz.prog 57 #[v] w fun e w'=> ∃u,e=.returned u∧St w [] [rowA 68 3 u (sumL rs) (flat rs.flatten)] w':=by
 obtain ⟨a,c,rfl⟩:=hv.shape
 obtain ⟨n,hn⟩:∃n,rs.length=n:=⟨_,rfl⟩
 have hvl:=hv.2.1
 have hm:=hv.1
 rw [hn] at hm hv ⊢
 have HV:=Lib.hid hv
 have HR:=Lib.hid hr
 have HN:=Lib.hid hn
 have HVL:=Lib.hid hvl
 have HSUM:=Lib.hid hs
 unfold maxLen at hm
 clear hv hr hn hvl
 go_enter Tryz.func57,Tryz.ntmps57
 go_upto_region 3 with (fail)
 go_loopg [3,5,11] n (fun g z3 z5 z11 wr=> ∃k:Nat,z11=.int .i64 k∧z3=.int .i64 (sumL (rs.take k):Nat)∧g+k=n∧wr=w)
 case atStart=> exact ⟨0,rfl,rfl,rfl,rfl⟩
 case round=>
  obtain ⟨k,rfl,rfl,hgk,rfl⟩:=hrel
  by_cases hk:k < n
  · have hkr:k < rs.length:=by rw [HN.out];exact hk
    obtain ⟨u,hu,hvu⟩:=HR.out k hkr
    have hkv:k < vs.length:=(List.getElem?_eq_some_iff.1 hu).1
    obtain ⟨b,o,rfl, -,hbl⟩:=HV.out.has (by omega)
    have hc:=HV.out.cell k hkv
    rw [(List.getElem?_eq_some_iff.1 hu).2] at hc
    obtain ⟨ua,un,uc,rfl,hun, -⟩:=hvu.shape
    have HST:=Lib.hid (sumL_step hkr)
    have h1:=sumL_le (rs:=rs) (k+1)
    rw [HST.out,←hun] at h1
    have h2:=HSUM.out
    have hkn:(k:Int) < n:=by omega
    rw [←hun] at HST
    have Hgk:=Lib.hid hgk
    obtain ⟨S,hS⟩:∃S,sumL (rs.take k)=S:=⟨_,rfl⟩
    rw [hS] at HST h1 ⊢
    have hS1:S+un≤1000000000:=by omega
    have hS0:¬ (S:Int)+un < 0:=by omega
    clear hgk hS hkr hkv h1 h2 hvu hu hun
    go_wp2
    go_roundg (gk - 1)
    case rel=> exact ⟨k+1,by go_num,congrArg (Value.int .i64) (by rw [HST.out];omega),by have:=Hgk.out;omega,rfl⟩
    case measure=> have:=Hgk.out;omega
  · obtain rfl:k=n:=by omega
    have hall:rs.take k=rs:=List.take_of_length_le (by rw [HN.out];exact Nat.le_refl _)
    rw [hall]
    have HG:=Lib.hid (grow_calls (sumL rs) HSUM.out wr)
    obtain ⟨S,hS⟩:∃S,sumL rs=S:=⟨_,rfl⟩
    rw [hS] at HG ⊢
    have HS:=Lib.hid hS
    clear hgk hall hS
    go_wp2_with fail
    (with_reducible refine HG.out.mono ?_)
    rintro e w1 ⟨ga,gc,rfl,h1⟩
    have H1:RowKit.Hid (St wr [] [rowA 68 3 (.slice ga 0 gc) (sumL (rs.take 0)) (flat (rs.take 0).flatten)] w1):=h1
    obtain ⟨wr0,rfl⟩:∃x,x=wr:=⟨_,rfl⟩
    clear HG h1
    go_upto_region 11 with (fail)
    go_loopg [6,8,27] k (fun g z6 z8 z27 wr=> ∃i:Nat,z27=.int .i64 i∧g+i=k∧RowKit.Hid (St wr0 [] [rowA 68 3 z6 (sumL (rs.take i)) (flat (rs.take i).flatten)] wr))
    case atStart=> exact ⟨0,rfl,rfl,H1⟩
    case round=>
     clear H1
     obtain ⟨i,rfl,hgi,Hs⟩:=hrel
     by_cases hi:i < k
     · have hkr:i < rs.length:=by rw [HN.out];exact hi
       obtain ⟨u,hu,hvu⟩:=HR.out i hkr
       have hb0:=Hs.out.below0
       have hkv:i < vs.length:=(List.getElem?_eq_some_iff.1 hu).1
       have hvw:=HV.out.mono hb0
       obtain ⟨b,o,rfl, -,hbl⟩:=hvw.has (by omega)
       have hc:=hvw.cell i hkv
       rw [(List.getElem?_eq_some_iff.1 hu).2] at hc
       have hvu:=hvu.mono hb0
       obtain ⟨ua,un,uc,rfl,hun, -⟩:=hvu.shape
       have HST:=Lib.hid (sumL_step hkr)
       have hsl:=hvu.1
       rw [←hun] at hsl
       have HSRC:RowKit.Hid (Go.Src Tryz.prog 3 33 (.slice ua un uc) un (flat (rs[i]'hkr)) wr):=hsl.src (tx:=33) (e':=68) (by kernel_rfl) (by decide) (one_flat _)
       have h1:=sumL_le (rs:=rs) (i+1)
       rw [←hun] at HST
       rw [HST.out] at h1
       have HLN:RowKit.Hid (sumL (rs.take i)+un < 1099511627776):=by have:=HSUM.out;show _ < _;omega
       have hin:(i:Int) < k:=by omega
       have Hgi:=Lib.hid hgi
       have HNX:RowKit.Hid (flat (rs.take i).flatten++flat (rs[i]'hkr)=flat (rs.take (i+1)).flatten):=by
        show _=_
        rw [←flat_append,List.take_add_one,List.getElem?_eq_getElem hkr,List.flatten_append]
        simp
       clear hgi hkv h1 hvu hu hun hb0 hvw hsl
       generalize rs[i]'hkr=ri at *
       clear hkr
       go_wp2_with (at_builtin;go_loud (refine wpList_appR rfl _ _ _ _ rfl rfl rfl appW Hs.out HSRC.out HLN.out ?_);intro v3 w3 h3)
       go_roundg (gk - 1)
       case rel=> exact ⟨i+1,by go_num,by have:=Hgi.out;omega,by rw [HST.out,←HNX.out];exact h3.out⟩
       case measure=> have:=Hgi.out;omega
     · obtain rfl:i=k:=by omega
       have hall:rs.take i=rs:=List.take_of_length_le (by rw [HN.out];exact Nat.le_refl _)
       rw [hall] at Hs
       clear hgi hall
       go_wp2
       go_ret
       exact ⟨_,rfl,Hs.out⟩
end Go.Proofs.YtpdlkdoogojboaaGreat
/- one, num; EncodeChanges of no changes. -/
namespace Go.Proofs.YtpdlkdoogojboaaGreat
open Go Go.RowKit
def tdOne (h:Nat):Td:=⟨⟨#[116]⟩,some ⟨h,0,none⟩,1,1, .slice none 0 0, .slice none 0 0,none,0,0,[.string ⟨#[120]⟩, .int .i64 1, .int .i64 0, .int .i64 9, .int .i64 0, .bool false],[],[],[],[]⟩
def oneL (g h:Nat):List Asn:=[blkA g 89 #[.string ⟨#[116]⟩, .slice (some ⟨h,0,none⟩) 1 1, .slice none 0 0, .slice none 0 0, .slice none 0 0],blkA h 146 #[.string ⟨#[120]⟩, .int .i64 1, .int .i64 0, .int .i64 9, .int .i64 0, .bool false]]
theorem one_calls (w:World):Calls Tryz.prog 39 #[] w fun e w'=> ∃g h,e=.returned (.slice (some ⟨g,0,none⟩) 1 1)∧St w [] (oneL g h) w':=by
 have h1:=((St.start (w:=w) (L:=[]) (fp:=[]) rfl).newblk 146 #[.string ⟨#[120]⟩, .int .i64 1, .int .i64 0, .int .i64 9, .int .i64 0, .bool false]).newblk 89 #[.string ⟨#[116]⟩, .slice (some ⟨w.heap.size,0,none⟩) 1 1, .slice none 0 0, .slice none 0 0, .slice none 0 0]
 have HS:=Lib.hid h1
 simp only [World.size_alloc] at HS
 clear h1
 go_enter Tryz.func39,Tryz.ntmps39
 go_wp2
 go_ret
 exact ⟨_,_,rfl,HS.out⟩
theorem one_sch {w0:World} {fp0:List Nat} {R:List Asn} (g h i:Nat) (h1:R[i]? =some (blkA g 89 #[.string ⟨#[116]⟩, .slice (some ⟨h,0,none⟩) 1 1, .slice none 0 0, .slice none 0 0, .slice none 0 0])) (h2:R[i+1]? =some (blkA h 146 #[.string ⟨#[120]⟩, .int .i64 1, .int .i64 0, .int .i64 9, .int .i64 0, .bool false])):
 Rd w0 fp0 R fun w=> SchX w [tdOne h] (.slice (some ⟨g,0,none⟩) 1 1):=fun M w hs=> by
 have r1:=(Rd.of_piece i h1 fun w f hb=> SlX.of_blk (X:=[]) (size:=5) (n:=1) (c:=1) hb.1 (by simp) (by decide) rfl) M w hs
 have r2:=(Rd.of_piece (i+1) h2 fun w f hb=> SlX.of_blk (X:=[]) (size:=6) (n:=1) (c:=1) hb.1 (by simp) (by decide) rfl) M w hs
 exact ⟨r1,fun t ht=> by
  rw [List.mem_singleton.1 ht]
  exact ⟨r2,(by intro u hu;simp only [tdOne,List.mem_cons,List.not_mem_nil,or_false] at hu;rcases hu with rfl | rfl | rfl | rfl | rfl | rfl <;> rfl),⟨SlX.nil _ _ _ _ _,fun i hi=> absurd hi (by simp [tdOne])⟩,⟨SlX.nil _ _ _ _ _,fun i hi=> absurd hi (by simp [tdOne])⟩⟩⟩
theorem one_sm (h:Nat):∀t∈[tdOne h],t.Sm:=fun t ht=> by
 rw [List.mem_singleton.1 ht]
 exact ⟨by simp [tdOne],by simp [tdOne],by simp [tdOne],by simp [tdOne],by simp [tdOne]⟩
def numR (n:Int):Rw:=[⟨1,n,⟨#[]⟩⟩]
theorem num_calls (n:Int) (w:World):Calls Tryz.prog 40 #[.int .i64 n] w fun e w'=> ∃g,e=.returned (.slice (some ⟨g,0,none⟩) 1 1)∧St w [] [blkA g 68 #[.int .i64 1, .int .i64 n, .string ⟨#[]⟩]] w':=by
 have HS:=Lib.hid ((St.start (w:=w) (L:=[]) (fp:=[]) rfl).newblk 68 #[.int .i64 1, .int .i64 n, .string ⟨#[]⟩])
 go_enter Tryz.func40,Tryz.ntmps40
 go_wp2
 go_ret
 exact ⟨_,rfl,HS.out⟩
theorem num_vals {w:World} {n:Int} {g:Nat} {f:List Nat} (h:(blkA g 68 #[.int .i64 1, .int .i64 n, .string ⟨#[]⟩]).p w f):ValsAt w (numR n) (.slice (some ⟨g,0,none⟩) 1 1):=⟨SlX.of_blk (X:=[]) (size:=3) (n:=1) (c:=1) h.1 (by simp) (by decide) rfl,by
 intro x hx
 rw [numR,List.mem_singleton] at hx
 subst hx
 exact Nat.zero_le _⟩
set_option maxHeartbeats 4000000 in
theorem enc0_calls (w:World):Calls Tryz.prog 24 #[.slice none 0 0] w fun e w'=> ∃a n c,e=.returned (.slice a n c)∧St w [] [slA 5 (.slice a n c) ((numL 0).map u8C)] w':=by
 have h1:St w [] (wrA w.heap.size []::[]) (w.alloc (.cells #[.slice none 0 0] 116)):=St.wr.2 ⟨_,(((St.start (w:=w) (L:=[]) (fp:=[]) rfl).newblk 116 #[.slice none 0 0]).nilA 5).perm (List.Perm.swap _ _ _)⟩
 have HN:=Lib.hid (wNumber_calls w.heap.size [] 0 (by unfold I64;omega) (by simp) w _ [] _ h1)
 clear h1
 go_enter Tryz.func24,Tryz.ntmps24
 go_wp2_with fail
 (with_reducible refine HN.out.mono ?_)
 rintro e w1 ⟨rfl,h2⟩
 obtain ⟨v,h3⟩:=St.wr.1 h2
 obtain ⟨_,hr⟩:=h3.has 1 rfl
 obtain ⟨a,n,c,rfl⟩:=sl_shape hr
 obtain ⟨_,hb⟩:=h3.has 0 rfl
 have c0:=(blk_get hb).1 0
 have cl:=(blk_get hb).2.2
 simp only [List.getElem?_toArray,List.getElem?_cons_zero] at c0
 have HF:RowKit.Hid (St w [] [slA 5 (.slice a n c) ((numL 0).map u8C)] w1):=h3.drop
 clear HN h2 h3 hr hb
 go_upto_region 4 with (fail)
 go_loopg [14] 0 (fun g z wr=> z=.int .i64 0∧wr=w1)
 case atStart=> exact ⟨rfl,rfl⟩
 case round=>
  obtain ⟨rfl,rfl⟩:=hrel
  go_wp2
  go_ret
  exact ⟨_,_,_,rfl,HF.out⟩
/- EncodeChanges. -/
/-- A change, plainly. -/
def Chg.cp (c:Chg):Cp:=⟨c.tb,c.id,c.old,c.new⟩
/-- All its values are valid. -/
def Chg.val (c:Chg):Bool:=c.old.all okV && c.new.all okV
/-- The bytes of changes: none if a value is not valid. -/
def chBt (l:List Chg):List UInt8:=if l.all Chg.val=true then numL l.length++encCs (l.map Chg.cp) else []
/-- What is small about a change. -/
structure Chg.S (c:Chg):Prop where
 ol:c.old.length≤10
 nl:c.new.length≤10
 ot:∀v∈c.old,v.text.size≤40
 nt:∀v∈c.new,v.text.size≤40
theorem encR_small {r:Rw} (h1:r.length≤10) (h2:∀v∈r,v.text.size≤40):(encR r).length≤890:=by
 have:∀r:Rw,(∀v∈r,v.text.size≤40)→(encR r).length≤r.length * 89:=by
  intro r
  induction r with
  | nil=> intro _;simp [encR]
  | cons v r ih=>
   intro h
   have e1:=encL_len v
   have e2:=h v (by simp)
   have e3:=ih (fun u hu=> h u (by simp [hu]))
   simp only [encR,List.flatMap_cons,List.length_append,List.length_cons] at e3 ⊢
   omega
 have:=this r h2
 omega
theorem encC_small {c:Chg} (h:c.S):(encC c.cp).length≤1812:=by
 have h1:=encR_small h.ol h.ot
 have h2:=encR_small h.nl h.nt
 simp only [encC,rowB,List.length_append,numL_length,Chg.cp]
 omega
theorem encCs_small {l:List Chg} (h:∀c∈l,c.S):(encCs (l.map Chg.cp)).length≤l.length * 1812:=by
 induction l with
 | nil=> simp [encCs]
 | cons c l ih=>
  have h1:=encC_small (h c (by simp))
  have h2:=ih (fun x hx=> h x (by simp [hx]))
  rw [List.map_cons,encCs_cons,List.length_append,List.length_cons]
  omega
theorem Chg.S.rowS {c:Chg} (h:c.S) (ho:c.Ok):RowS c.old∧RowS c.new:=
 ⟨fun v hv=> ⟨ho.old v hv,by have:=h.ot v hv;omega⟩,fun v hv=> ⟨ho.new v hv,by have:=h.nt v hv;omega⟩⟩
theorem ench1_calls (v:Vl) (w:World) (hs:v.text.size≤maxLen):Calls Tryz.prog 58 #[v.val] w fun e w'=> e=.returned (.bool (!okV v))∧Below w.heap.size w w':=by
 have HC:=Lib.hid (valid_calls v (w.alloc (.cells #[.int .i64 v.kind, .int .i64 v.int, .string v.text] 68)) hs)
 have HB:=Lib.hid ((Below.refl _ w).alloc (Nat.le_refl _) (.cells #[.int .i64 v.kind, .int .i64 v.int, .string v.text] 68))
 unfold Vl.val at *
 generalize okV v=q at *
 clear hs
 go_enter Tryz.func58,Tryz.ntmps58
 go_wp2_with fail
 (with_reducible refine HC.out.mono ?_)
 rintro e w1 ⟨rfl,hb⟩
 have Hb:=Lib.hid (HB.out.trans (hb.mono HB.out.size))
 clear hb HC
 go_wp2
 go_ret
 exact ⟨rfl,Hb.out⟩
theorem chBt_good {l:List Chg} (h:∀c∈l,c.val=true):chBt l=numL l.length++encCs (l.map Chg.cp):=by rw [chBt,if_pos (List.all_eq_true.2 h)]
theorem chBt_bad {l:List Chg} {c:Chg} (hc:c∈l) (h:c.val=false):chBt l=[]:=by
 rw [chBt,if_neg]
 intro e
 have:=List.all_eq_true.1 e c hc
 rw [h] at this
 cases this
theorem encCs_step {l:List Chg} {k:Nat} (h:k < l.length):encCs ((l.take (k+1)).map Chg.cp)=encCs ((l.take k).map Chg.cp)++encC (l[k]'h).cp:=by
 rw [List.take_add_one,List.getElem?_eq_getElem h,List.map_append,encCs_app]
 simp [encCs]
theorem val_any (c:Chg):(c.old++c.new).any (fun v=> !okV v)=!c.val:=by
 unfold Chg.val
 rw [List.any_append,List.all_eq_not_any_not,List.all_eq_not_any_not]
 simp
set_option maxHeartbeats 8000000 in
set_option maxRecDepth 20000 in
theorem encCh_calls (l:List Chg) (lv:Value) (hln:l.length≤40) (hsm:∀c∈l,c.S) (hok:∀c∈l,c.Ok) (w:World) (hl:ChsX w l lv):
 Calls Tryz.prog 24 #[lv] w fun e w'=> ∃a m c,e=.returned (.slice a m c)∧St w [] [slA 5 (.slice a m c) ((chBt l).map u8C)] w':=by
 obtain ⟨la,lc,rfl⟩:=hl.sl.shape
 obtain ⟨n,hn⟩:∃n,l.length=n:=⟨_,rfl⟩
 have h1:St w [] (wrA w.heap.size []::[]) (w.alloc (.cells #[.slice none 0 0] 116)):=St.wr.2 ⟨_,(((St.start (w:=w) (L:=[]) (fp:=[]) rfl).newblk 116 #[.slice none 0 0]).nilA 5).perm (List.Perm.swap _ _ _)⟩
 have HN:=Lib.hid (wNumber_calls w.heap.size [] n (by unfold I64;omega) (by simp) w _ [] _ h1)
 obtain ⟨wb,hwb⟩:∃wb,w.heap.size=wb:=⟨_,rfl⟩
 have HWB:=Lib.hid hwb
 have HL:=Lib.hid hl
 have HSM:=Lib.hid hsm
 have HOK:=Lib.hid hok
 rw [hn]
 have HNN:=Lib.hid hn
 have HLN:=Lib.hid hln
 have hnn:n≤40:=by omega
 clear h1 hl hsm hok hn hln
 clear hwb
 go_enter Tryz.func24,Tryz.ntmps24
 go_wp2_with fail
 (with_reducible refine HN.out.mono ?_)
 rintro e w1 ⟨rfl,h2⟩
 rw [HWB.out] at h2 ⊢
 have HS1:RowKit.Hid (St w [] [wrA wb (numL n++encCs ((l.take 0).map Chg.cp))] w1):=by
  show St _ _ _ _
  have e:numL (n:Int)++encCs ((l.take 0).map Chg.cp)=[]++numL n:=by simp [encCs]
  rw [e]
  exact h2
 clear h2 HN
 go_upto_region 4 with (fail)
 go_loopg [5,14] n (fun g z5 z14 wr=> ∃k:Nat,z14=.int .i64 k∧g+k=n∧RowKit.Hid (∀c∈l.take k,c.val=true)∧RowKit.Hid (St w [] [wrA wb (numL n++encCs ((l.take k).map Chg.cp))] wr))
 case atStart=> exact ⟨0,rfl,rfl,fun c hc=> absurd hc (by simp),HS1⟩
 case round=>
  clear HS1
  obtain ⟨k,rfl,hgk,Hv,Hs⟩:=hrel
  by_cases hk:k < n
  · have hkl:k < l.length:=by rw [HNN.out];exact hk
    have hmem:=List.getElem_mem hkl
    have hb0:=Hs.out.below0
    have hlw:=HL.out.mono hb0
    obtain ⟨b,o,c',e0,hbl,c0,c1,c2,c3⟩:=hlw.cells k hkl
    rw [HNN.out] at e0
    obtain ⟨rfl, -,rfl⟩:=Value.slice.inj e0
    have HX:=Lib.hid (HL.out.ch _ hmem)
    have HCS:=Lib.hid (HSM.out _ hmem)
    have HCO:=Lib.hid (HOK.out _ hmem)
    have HST:=Lib.hid (encCs_step hkl)
    have HBAD:RowKit.Hid ((l[k]'hkl).val=false→chBt l=[]):=fun h=> chBt_bad hmem h
    have HVN:RowKit.Hid ((l[k]'hkl).val=true→∀c∈l.take (k+1),c.val=true):=fun h=> take_snoc hkl Hv.out h
    have HLEN:RowKit.Hid ((encCs ((l.take k).map Chg.cp)).length≤72480):=by
     have h1:=encCs_small (l:=l.take k) fun c hc=> HSM.out c (List.mem_of_mem_take hc)
     have h2:(l.take k).length≤40:=by rw [List.length_take];have:=HLN.out;omega
     have:(l.take k).length * 1812≤40 * 1812:=Nat.mul_le_mul_right _ h2
     show _≤_
     omega
    have hkn:(k:Int) < n:=by omega
    have Hgk:=Lib.hid hgk
    generalize encCs ((l.take k).map Chg.cp)=xs at *
    generalize l[k]'hkl=C at *
    clear hgk hb0 hlw e0 hmem hkl
    unfold Chg.ov at c2
    unfold Chg.nv at c3
    obtain ⟨tb,id,oa,oc,na,nc,old,new⟩:=C
    simp only at c0 c1 c2 c3
    have HB1:=Lib.hid (Hs.out.newblk 35 #[.int .i64 tb, .int .i64 id, .slice oa old.length oc, .slice na new.length nc])
    have HB2:=Lib.hid (HB1.out.newblk 33 #[.slice oa old.length oc, .slice na new.length nc])
    simp only [World.size_alloc] at HB2
    have hb2:=HB2.out.below0
    have HCAT:=Lib.hid (concat_calls [old,new] [.slice oa old.length oc, .slice na new.length nc] (.slice (some ⟨wr.heap.size+1,0,none⟩) 2 2) (by
     have a1:=HCS.out.ol
     have a2:=HCS.out.nl
     simp only [sumL,List.flatten_cons,List.flatten_nil,List.append_nil,List.length_append] at a1 a2 ⊢
     omega) _ (by
     obtain ⟨_,hg⟩:=HB2.out.has 0 rfl
     exact SlX.of_blk (X:=[]) (size:=1) (n:=2) (c:=2) hg.1 (by simp) (by decide) rfl) (fun i hi=> by
     match i,hi with
     | 0,_=> exact ⟨_,rfl,HX.out.old.mono hb2⟩
     | 1,_=> exact ⟨_,rfl,HX.out.new.mono hb2⟩))
    have HW2:RowKit.Hid (St w [] [wrA wb (numL n++xs),blkA wr.heap.size 35 #[.int .i64 tb, .int .i64 id, .slice oa old.length oc, .slice na new.length nc]] _):=HB2.out.drop.perm (List.Perm.swap _ _ _)
    clear HB1 HB2 hb2 Hs
    go_wp2_with fail
    (with_reducible refine HCAT.out.mono ?_)
    rintro e w3 ⟨u,rfl,h3⟩
    have HW3:=Lib.hid (HW2.out.mono h3.below0)
    have hfl:flat [old,new].flatten=flat (old++new):=by simp
    have hsl:sumL [old,new]=(old++new).length:=by simp [sumL]
    rw [hfl,hsl] at h3
    obtain ⟨_,hrw⟩:=h3.has 0 rfl
    have hva:ValsAt w3 (old++new) u:=⟨SlX.of_row (X:=[]) hrw (length_flat _) (by simp),fun v hv=> by
     rcases List.mem_append.1 hv with h | h
     · exact HX.out.old.txt v h
     · exact HX.out.new.txt v h⟩
    have HCT:=Lib.hid (containsV_calls (old++new) u 58 (fun v=> !okV v) w3 (enters_own Tryz.func58 (by kernel_rfl) rfl) hva fun x hx w' hb=> ench1_calls x w' (hva.txt x hx))
    have hvany:=val_any ⟨tb,id,oa,oc,na,nc,old,new⟩
    simp only at hvany
    rw [hvany] at HCT
    obtain ⟨ua,um,uc,rfl, -, -⟩:=hva.shape
    clear hfl hsl h3 hrw hva hvany HW2 HCAT
    cases hq:(⟨tb,id,oa,oc,na,nc,old,new⟩:Chg).val
    · rw [hq] at HCT
      have HF:=Lib.hid (HBAD.out hq)
      clear hq
      go_wp2_with fail
      (with_reducible refine HCT.out.mono ?_)
      rintro e w4 ⟨rfl,hb4⟩
      have HS:=Lib.hid (((HW3.out.mono hb4).drop.drop).nilA 5)
      clear hb4 HCT HW3
      go_wp2
      go_ret
      exact ⟨none,0,0,rfl,by rw [HF.out];exact HS.out⟩
    · rw [hq] at HCT
      have HVQ:=Lib.hid (HVN.out hq)
      clear hq
      go_wp2_with fail
      (with_reducible refine HCT.out.mono ?_)
      rintro e w4 ⟨rfl,hb4⟩
      have hs4:=HW3.out.mono hb4
      obtain ⟨vb,hvb⟩:∃vb,wr.heap.size=vb:=⟨_,rfl⟩
      rw [hvb] at hs4 ⊢
      have HX4:=Lib.hid fun (W:World) (h:St w [] [] W)=> HX.out.mono h.below0
      have hrs:=HCS.out.rowS HCO.out
      have HRO:=Lib.hid hrs.1
      have HRN:=Lib.hid hrs.2
      have hol:=HCS.out.ol
      have hnl:=HCS.out.nl
      simp only at hol hnl
      have HN1:=Lib.hid (wNumber_calls wb _ tb HCO.out.tb (by have:=HLEN.out;rw [List.length_append,numL_length];omega) w w4 [] _ hs4)
      obtain ⟨_,hb⟩:=hs4.has 1 rfl
      have d0:=(blk_get hb).1 0
      have dl:=(blk_get hb).2.2
      simp only [List.getElem?_toArray,List.getElem?_cons_zero] at d0
      clear hs4 hb4 HCT HW3 hb hvb hrs
      go_wp2_with fail
      (with_reducible refine HN1.out.mono ?_)
      rintro e w5 ⟨rfl,hs5⟩
      have HN2:=Lib.hid (wNumber_calls wb _ id HCO.out.id (by have:=HLEN.out;rw [List.length_append,List.length_append,numL_length,numL_length];omega) w w5 [] _ hs5)
      obtain ⟨_,hb⟩:=hs5.has 1 rfl
      have e1:=(blk_get hb).1 1
      have el:=(blk_get hb).2.2
      simp only [List.getElem?_toArray,List.getElem?_cons_zero,List.getElem?_cons_succ] at e1
      clear hs5 hb HN1 d0 dl
      go_wp2_with fail
      (with_reducible refine HN2.out.mono ?_)
      rintro e w6 ⟨rfl,hs6⟩
      have HN3:=Lib.hid (wRow_calls wb _ old (.slice oa old.length oc) HRO.out (by omega) (by have:=HLEN.out;rw [List.length_append,List.length_append,List.length_append,numL_length,numL_length,numL_length];omega) w w6 [] _ hs6 (HX4.out w6 hs6.drop.drop).old)
      obtain ⟨_,hb⟩:=hs6.has 1 rfl
      have f2:=(blk_get hb).1 2
      have fl:=(blk_get hb).2.2
      simp only [List.getElem?_toArray,List.getElem?_cons_zero,List.getElem?_cons_succ] at f2
      clear hs6 hb HN2 e1 el
      go_wp2_with fail
      (with_reducible refine HN3.out.mono ?_)
      rintro e w7 ⟨rfl,hs7⟩
      have HN4:=Lib.hid (wRow_calls wb _ new (.slice na new.length nc) HRN.out (by omega) (by have:=HLEN.out;have:=encR_small hol HCS.out.ot;rw [List.length_append,List.length_append,List.length_append,List.length_append,rowB,List.length_append,numL_length,numL_length,numL_length,numL_length];omega) w w7 [] _ hs7 (HX4.out w7 hs7.drop.drop).new)
      obtain ⟨_,hb⟩:=hs7.has 1 rfl
      have g3:=(blk_get hb).1 3
      have gl:=(blk_get hb).2.2
      simp only [List.getElem?_toArray,List.getElem?_cons_zero,List.getElem?_cons_succ] at g3
      clear hs7 hb HN3 f2 fl
      go_wp2_with fail
      (with_reducible refine HN4.out.mono ?_)
      rintro e w8 ⟨rfl,hs8⟩
      have HS8:RowKit.Hid (St w [] [wrA wb (numL n++encCs ((l.take (k+1)).map Chg.cp))] w8):=by
       show St _ _ _ _
       have h:=(hs8.perm (List.Perm.swap _ _ _)).drop
       rw [HST.out]
       simp only [encC,Chg.cp,List.append_assoc] at h ⊢
       exact h
      clear hs8 HN4 g3 gl
      go_wp2
      go_roundg (gk - 1)
      case rel=> exact ⟨k+1,by go_num,by have:=Hgk.out;omega,HVQ,HS8⟩
      case measure=> have:=Hgk.out;omega
  · obtain rfl:k=n:=by omega
    have hall:l.take k=l:=List.take_of_length_le (by rw [HNN.out];exact Nat.le_refl _)
    rw [hall] at Hv Hs
    have HE:RowKit.Hid (numL k++encCs (l.map Chg.cp)=chBt l):=by
     show _=_
     rw [chBt_good Hv.out,HNN.out]
    rw [HE.out] at Hs
    obtain ⟨v,h3⟩:=St.wr.1 Hs.out
    obtain ⟨_,hr⟩:=h3.has 1 rfl
    obtain ⟨a,m,c,rfl⟩:=sl_shape hr
    obtain ⟨_,hb⟩:=h3.has 0 rfl
    have c0:=(blk_get hb).1 0
    have cl:=(blk_get hb).2.2
    simp only [List.getElem?_toArray,List.getElem?_cons_zero] at c0
    have HF:RowKit.Hid (St w [] [slA 5 (.slice a m c) ((chBt l).map u8C)] wr):=h3.drop
    clear h3 hr hb hgk Hs hall
    go_wp2
    go_ret
    exact ⟨_,_,_,rfl,HF.out⟩
/- DecodeChanges. -/
theorem appCHs:AppSrc Tryz.prog 24 24 35 4:=appSrc (z:=.agg #[.int .i64 0, .int .i64 0, .slice none 0 0, .slice none 0 0]) (bytes:=64) (by kernel_rfl) (by kernel_rfl) rfl (by decide) (by decide)
/-- What a decoder of changes promises. -/
def DecChP (b:List UInt8) (yes no:Value) (w:World) (e:Ending) (w':World):Prop:=
 ∃(q:Option (List Cp)) (cs:List Chg) (a:Option Addr) (c:Nat),e=.returned (.tuple #[.slice a cs.length c,if q.isSome then yes else no])∧Below w.heap.size w w'∧ChsX w' cs (.slice a cs.length c)∧DecC b q∧(q=some (cs.map Chg.cp)∨q=none∧cs=[])
theorem ChsX.nil (w:World):ChsX w [] (.slice none 0 0):=⟨SlX.nil _ _ _ _ _,fun _c hc=> nomatch hc⟩
theorem DecChP.bad {b:List UInt8} {yes no:Value} {w w':World} (h:DecC b none) (hb:Below w.heap.size w w'):DecChP b yes no w (.returned (.tuple #[.slice none 0 0,no])) w':=
 ⟨none,[],none,0,rfl,hb,ChsX.nil w',h, .inr ⟨rfl,rfl⟩⟩
theorem DecChP.good {b:List UInt8} {yes no:Value} {w w':World} {cs:List Chg} {a:Option Addr} {c:Nat} {P:List Asn} (h:DecC b (some (cs.map Chg.cp))) (hs:St w [] (rowA 35 4 (.slice a cs.length c) cs.length (cs.flatMap Chg.c)::P) w') (hx:∀c∈cs,c.X w'):DecChP b yes no w (.returned (.tuple #[.slice a cs.length c,yes])) w':=by
 obtain ⟨_,hr⟩:=hs.has 0 rfl
 refine ⟨_,cs,a,c,rfl,hs.below0,⟨SlX.of_row (X:=[]) hr ?_ (by simp),hx⟩,h, .inl rfl⟩
 have:∀l:List Chg,(l.flatMap Chg.c).length=l.length * 4:=by
  intro l
  induction l with
  | nil=> rfl
  | cons x l ih=> rw [List.flatMap_cons,List.length_append,chc_len,ih,List.length_cons];omega
 exact this cs
theorem encCs_len (l:List Cp):l.length≤(encCs l).length:=by
 induction l with
 | nil=> simp
 | cons c l ih=>
  rw [encCs_cons,List.length_append,List.length_cons]
  simp only [encC,List.length_append,numL_length]
  omega
theorem Mid.lens {b l:List UInt8} {N:Int} {cs:List Cp} (h:Mid b N cs l):cs.length+l.length≤b.length:=by
 have h1:=encCs_len cs
 have h2:=congrArg List.length h.e
 rw [List.length_append,List.length_append] at h2
 omega
theorem ChG.less {l m:List UInt8} {c:Cp} (h:ChG l c m):m.length < l.length:=by
 rw [h.2,List.length_append]
 simp only [encC,List.length_append,numL_length]
 omega
theorem RowV.txt {r:Rw} (h:RowV r):∀v∈r,v.text.size≤maxLen:=fun v hv=> by
 have h0:(ByteArray.empty).size=0:=rfl
 rcases okV_cases (h v hv).1 with ⟨-, -,e⟩ | ⟨-,e⟩ | ⟨-, -, -,e⟩
 · rw [e,h0];exact Nat.zero_le _
 · rw [e,h0];exact Nat.zero_le _
 · unfold maxLen;omega
/-- A change that was read. -/
theorem chg_rd {w:World} {P:List Asn} (i j:Nat) {tb id:Int} {oa na:Option Addr} {oc nc:Nat} {old new:Rw} (ho:RowV old) (hn:RowV new) (h1:P[i]? =some (rowA 68 3 (.slice oa old.length oc) old.length (flat old))) (h2:P[j]? =some (rowA 68 3 (.slice na new.length nc) new.length (flat new))):
 Rd w [] P fun W=> (⟨tb,id,oa,oc,na,nc,old,new⟩:Chg).X W:=fun M W hs=>
 ⟨Rd.of_piece i h1 (fun w f hb=> (⟨SlX.of_row (X:=[]) hb (length_flat _) (by simp),ho.txt⟩:ValsAt w old _)) M W hs,Rd.of_piece j h2 (fun w f hb=> (⟨SlX.of_row (X:=[]) hb (length_flat _) (by simp),hn.txt⟩:ValsAt w new _)) M W hs⟩
/-- How far the bytes have been read. -/
def MidO (b:List UInt8) (N:Int) (cs:List Cp):Option (List UInt8)→Prop
 | some l=> Mid b N cs l
 | none=> DecC b none
theorem MidO.step {b l:List UInt8} {N:Int} {cs:List Cp} {c:Cp} {o:Option (List UInt8)} (h:Mid b N cs l) (hN:N≠(cs.length:Int)) (hc:ChS (some l) c o):MidO b N (cs++[c]) o:=by
 rcases hc with ⟨m,g,rfl⟩ | ⟨rfl,g⟩
 · exact h.step g
 · exact h.bad hN g
def remO:Option (List UInt8)→Nat
 | some l=> l.length+1
 | none=> 0
theorem remO_less {l:List UInt8} {c:Cp} {o:Option (List UInt8)} (hc:ChS (some l) c o):remO o < l.length+1:=by
 rcases hc with ⟨m,g,rfl⟩ | ⟨rfl,g⟩
 · have:=g.less
   simp only [remO]
   omega
 · simp [remO]
/- awake: its drawn regions. -/
set_option maxRecDepth 100000
theorem conv1 {P:Program} {o:Oper} {env:Operand→Value} {w:World} {t u:TypeId} {x:Operand} {v r:Value} (hop:o.op=.convert t u x) (hx:env x=v) (hr:(convert t u v).run P w=.ok r w):(execOp env o).run P w=.ok (.value r) w:=by
 simp only [execOp,hop,hx,Sem.run_bind,hr,Result.andThen_ok,Sem.run_pure]
/-- Strings that are equal. -/
theorem Rg.Ob.eqlStr (G:Rg) (i:Nat) (s:ByteArray) {ty r:TypeId} {x y:Operand} (hop:(opAt G.ops i).op=.binOp .eql ty x y r:=by rfl) (hx:∀a,G.env i a x=.string s:=by intro _;exact kr (by kernel_rfl)) (hy:∀a,G.env i a y=.string s:=by intro _;exact kr (by kernel_rfl)) (hv:∀g,G.valD i g=.bool true:=by intro _;exact kr (by kernel_rfl))
 (hq:(G.quiet i G.pcs.length && G.okV i)=true:=by exact kr (by kernel_rfl)) (hw:∀a,wantE G.ops (opAt G.ops i) (G.env i a)=some true:=by intro _;exact kr (by kernel_rfl)):G.Ob i:=Rg.Ob.read G i hq hw fun L a w _ _=> by
 simp [execOp,hop,hx,hy,go_sem,hv]
noncomputable def gAw5 (b cb:Nat) (x0 x1 x2 x3:Value) (e1 e2:Int) (A B C:Asn):=rgx Tryz.prog Tryz.f12 5 50 [13,14,15,16,17,18,3,4] [(1,pV b 0),(2,pV cb 0)] (Vq 0 13 [Kp b 0,Kv (.agg #[x0,x1,x2,x3]),Kv (.int .i64 e1),Kp b 0,Kv (.agg #[x0,x1,x2,x3]),Kv (.int .i64 e2)]++Vq 6 3 [Kv (.int .i64 e1),Kv (.int .i64 e2)]) [Bk cb (35) [x0,x1,x2,x3], .gen [2,5] [] fun L _g=> match L 5 with | true=> C | false=> match L 2 with | true=> B | false=> A]
theorem rAw5 (b cb:Nat) (x0 x1 x2 x3:Value) (e1 e2:Int) (A B C:Asn) (w0:World) (fp0:List Nat) (R:List Asn) (h1:∀w,St w0 fp0 ([blkA cb 35 #[x0,x1,x2,x3],A]++R) w→Calls Tryz.prog 19 #[.pointer (some ⟨b,0,none⟩), .agg #[x0,x1,x2,x3]] w fun e w2=> e=.returned (.int .i64 e1)∧St w0 fp0 ([blkA cb 35 #[x0,x1,x2,x3],B]++R) w2) (h2:∀w,St w0 fp0 ([blkA cb 35 #[x0,x1,x2,x3],B]++R) w→Calls Tryz.prog 19 #[.pointer (some ⟨b,0,none⟩), .agg #[x0,x1,x2,x3]] w fun e w2=> e=.returned (.int .i64 e2)∧St w0 fp0 ([blkA cb 35 #[x0,x1,x2,x3],C]++R) w2) {w:World} {c:Code} {a:Act} {Q:Exit→Act→World→Prop} (c1:isReg c=true) (c2:cops c=opsR Tryz.f12 5) (c3:a.tmps.size=50) (_c4:a.defers=a.defers) (i1:a.eval (.tmp 1)=.pointer (some ⟨b,0,none⟩)) (i2:a.eval (.tmp 2)=.pointer (some ⟨cb,0,none⟩))
 (hS:St w0 fp0 ([blkA cb (35) #[x0,x1,x2,x3],A]++R) w)
 (hQ:∀(w1:World),St w0 fp0 ([blkA cb (35) #[x0,x1,x2,x3],C]++R) w1→Q .normal (putL a [(13, .pointer (some ⟨b,0,none⟩)),(14, .agg #[x0,x1,x2,x3]),(15, .int .i64 e1),(16, .pointer (some ⟨b,0,none⟩)),(17, .agg #[x0,x1,x2,x3]),(18, .int .i64 e2),(3, .int .i64 e1),(4, .int .i64 e2)]) w1):c.wp Tryz.prog Q a w:=by
 have ok:(gAw5 b cb x0 x1 x2 x3 e1 e2 A B C w0 fp0 R).Ok 8:=Rg.ok _ 8 [1,2,4,5] ⟨.run1 _ 1 0 (fun _=> blkA cb 35 #[x0,x1,x2,x3]) (fun _ _=> blkA cb 35 #[x0,x1,x2,x3]) (fun L a w fp _ hp=> (by obtain ⟨h1, -, -⟩:=blk_get hp;exact ⟨.agg #[x0,x1,x2,x3],w,fp,exec_loads (cs:=[x0,x1,x2,x3]) (off:=0) rfl (kr (by kernel_rfl)) (kr (by kernel_rfl)) (kr (by kernel_rfl)) (fun j u hj=> (by rw [Nat.zero_add,h1 j];simpa using hj)),kr (by kernel_rfl),hp,Tr.refl _ _⟩)), .callG _ 2 (f:=19) (args:=fun _=> #[.pointer (some ⟨b,0,none⟩), .agg #[x0,x1,x2,x3]]) (fun _=> [blkA cb 35 #[x0,x1,x2,x3],A]) (fun _ _=> [blkA cb 35 #[x0,x1,x2,x3],B]) (fun g w h=> (h1 w h).mono fun e w2 ⟨e1,h2⟩=> ⟨_,e1,kr (by kernel_rfl),h2⟩), .run1 _ 4 0 (fun _=> blkA cb 35 #[x0,x1,x2,x3]) (fun _ _=> blkA cb 35 #[x0,x1,x2,x3]) (fun L a w fp _ hp=> (by obtain ⟨h1, -, -⟩:=blk_get hp;exact ⟨.agg #[x0,x1,x2,x3],w,fp,exec_loads (cs:=[x0,x1,x2,x3]) (off:=0) rfl (kr (by kernel_rfl)) (kr (by kernel_rfl)) (kr (by kernel_rfl)) (fun j u hj=> (by rw [Nat.zero_add,h1 j];simpa using hj)),kr (by kernel_rfl),hp,Tr.refl _ _⟩)), .callG _ 5 (f:=19) (args:=fun _=> #[.pointer (some ⟨b,0,none⟩), .agg #[x0,x1,x2,x3]]) (fun _=> [blkA cb 35 #[x0,x1,x2,x3],B]) (fun _ _=> [blkA cb 35 #[x0,x1,x2,x3],C]) (fun g w h=> (h2 w h).mono fun e w2 ⟨e1,h2⟩=> ⟨_,e1,kr (by kernel_rfl),h2⟩),trivial⟩
 refine wp_regD ok (by kernel_rfl) ⟨c1,c2⟩ ⟨c3,fun p hp=> ?_⟩ hS fun A1 w1 N1 H1=> ?_
 · simp only [gAw5,rgx,List.map_nil,List.append_nil,List.mem_cons,List.not_mem_nil,or_false] at hp
   rcases hp with rfl | rfl
   · exact i1
   · exact i2
 have e13:=N1.val 0 rfl
 have e14:=N1.val 1 rfl
 have e15:=N1.val 2 rfl
 have e16:=N1.val 3 rfl
 have e17:=N1.val 4 rfl
 have e18:=N1.val 5 rfl
 have e3:=N1.val 6 rfl
 have e4:=N1.val 7 rfl
 have h:=hQ  w1  H1
 rw [frame_eq N1.frame (cons_eq e13 (cons_eq e14 (cons_eq e15 (cons_eq e16 (cons_eq e17 (cons_eq e18 (cons_eq e3 (cons_eq e4 rfl))))))))]
 exact h
noncomputable def gAw8 (S:Nat) (A:Asn):=rgx Tryz.prog Tryz.f12 8 50 [25,26,27,28,29,30,31,32,33,34,35,36,37,38,39,40,41,42,43,44,45,46,47,48,49,0] [(3, .int .i64 0),(4, .int .i64 5),(5, .int .i64 4),(6,pV S 0)] (Vq 0 25 [Kv (.int .i64 0),Kv (.bool true),Kv (.bool true),Kv (.int .i64 5),Kv (.bool true),Kv (.bool true),Kv (.bool true),Kv (.int .i64 4),Kv (.bool true),Kv (.bool true),Kv (.bool true),Kp S 0,Kv (.bool true),Kv (.bool true),Kv (.bool true),Kp S 0,Kv (.int .i64 4),Kv (.bool true),Kv (.bool true),Kv (.bool true),Vf.slice,Kv (.string (textOf (numL 0))),Kv (.string (textOf (numL 0))),Kv (.bool true),Kv (.bool true)]++Vq 25 0 [Kv (.bool true)]) [.all (A), .new 20 [45] fun g=> slA 5 (g 45) ((numL 0).map u8C)]
theorem rAw8 (S:Nat) (A:Asn) (w0:World) (fp0:List Nat) (R:List Asn) (hnext:∀w f,A.p w f→Calls Tryz.prog 41 #[.pointer (some ⟨S,0,none⟩)] w fun e w'=> e=.returned (.int .i64 4)∧Below w.heap.size w w') (henc:∀(L:List Asn) (w:World),St w0 fp0 (L++R) w→Calls Tryz.prog 24 #[.slice none 0 0] w fun e w2=> ∃v f,e=.returned v∧(slA 5 (v) ((numL 0).map u8C)).p w2 f∧Below w.heap.size w w2∧∀k∈f,w.heap.size≤k) (hrn:∀(L:List Asn) (w:World),St w0 fp0 (L++R) w→Calls Tryz.prog 42 #[.int .i64 0] w fun e w'=> e=.returned (.string (textOf (numL 0)))∧Below w.heap.size w w') {w:World} {c:Code} {a:Act} {Q:Exit→Act→World→Prop} (c1:isReg c=true) (c2:cops c=opsR Tryz.f12 8) (c3:a.tmps.size=50) (_c4:a.defers=a.defers) (i3:a.eval (.tmp 3)=.int .i64 0) (i4:a.eval (.tmp 4)=.int .i64 5) (i5:a.eval (.tmp 5)=.int .i64 4) (i6:a.eval (.tmp 6)=.pointer (some ⟨S,0,none⟩))
 (hS:St w0 fp0 ([A,emp]++R) w)
 (hQ:∀(u45:Value) (w1:World),(∃a n c,u45=.slice a n c)→St w0 fp0 ([A,slA 5 (u45) ((numL 0).map u8C)]++R) w1→Q .normal (putL a [(25, .int .i64 0),(26, .bool true),(27, .bool true),(28, .int .i64 5),(29, .bool true),(30, .bool true),(31, .bool true),(32, .int .i64 4),(33, .bool true),(34, .bool true),(35, .bool true),(36, .pointer (some ⟨S,0,none⟩)),(37, .bool true),(38, .bool true),(39, .bool true),(40, .pointer (some ⟨S,0,none⟩)),(41, .int .i64 4),(42, .bool true),(43, .bool true),(44, .bool true),(45,u45),(46, .string (textOf (numL 0))),(47, .string (textOf (numL 0))),(48, .bool true),(49, .bool true),(0, .bool true)]) w1):c.wp Tryz.prog Q a w:=by
 have ok:(gAw8 S A w0 fp0 R).Ok 26:=Rg.ok _ 26 [1,4,8,16,17,20,21,22,23] ⟨.eqlS _ 1 .i64 0, .eqlS _ 4 .i64 5, .eqlS _ 8 .i64 4, .ask1 _ 16 0 (f:=41) (args:=#[.pointer (some ⟨S,0,none⟩)]) (v:=.int .i64 4) hnext, .eqlS _ 17 .i64 4, .callNew _ 20 1 (fun v=> slA 5 (v) ((numL 0).map u8C)) (fun _ _ _ h=> sl_shape h) henc, .run1 _ 21 1 (fun g=> slA 5 (g 45) ((numL 0).map u8C)) (fun g _=> slA 5 (g 45) ((numL 0).map u8C)) (fun L a w fp _ hp=> ⟨.string (textOf (numL 0)),w,fp,conv1 (v:=.slice (sa (slots a 45)) (sn (slots a 45)) (sc (slots a 45))) rfl (kr (by kernel_rfl)) (run_back (slSelf hp)),kr (by kernel_rfl),hp,Tr.refl _ _⟩), .askR _ 22 hrn, .eqlStr _ 23 (textOf (numL 0)),trivial⟩
 refine wp_regD ok (by kernel_rfl) ⟨c1,c2⟩ ⟨c3,fun p hp=> ?_⟩ hS fun A1 w1 N1 H1=> ?_
 · simp only [gAw8,rgx,List.map_nil,List.append_nil,List.mem_cons,List.not_mem_nil,or_false] at hp
   rcases hp with rfl | rfl | rfl | rfl
   · exact i3
   · exact i4
   · exact i5
   · exact i6
 have e25:=N1.val 0 rfl
 have e26:=N1.val 1 rfl
 have e27:=N1.val 2 rfl
 have e28:=N1.val 3 rfl
 have e29:=N1.val 4 rfl
 have e30:=N1.val 5 rfl
 have e31:=N1.val 6 rfl
 have e32:=N1.val 7 rfl
 have e33:=N1.val 8 rfl
 have e34:=N1.val 9 rfl
 have e35:=N1.val 10 rfl
 have e36:=N1.val 11 rfl
 have e37:=N1.val 12 rfl
 have e38:=N1.val 13 rfl
 have e39:=N1.val 14 rfl
 have e40:=N1.val 15 rfl
 have e41:=N1.val 16 rfl
 have e42:=N1.val 17 rfl
 have e43:=N1.val 18 rfl
 have e44:=N1.val 19 rfl
 have e45:=N1.val 20 rfl
 have e46:=N1.val 21 rfl
 have e47:=N1.val 22 rfl
 have e48:=N1.val 23 rfl
 have e49:=N1.val 24 rfl
 have e0:=N1.val 25 rfl
 have h:=hQ (slots A1 45) w1 ⟨_,_,_,e45⟩ H1
 rw [frame_eq N1.frame (cons_eq e25 (cons_eq e26 (cons_eq e27 (cons_eq e28 (cons_eq e29 (cons_eq e30 (cons_eq e31 (cons_eq e32 (cons_eq e33 (cons_eq e34 (cons_eq e35 (cons_eq e36 (cons_eq e37 (cons_eq e38 (cons_eq e39 (cons_eq e40 (cons_eq e41 (cons_eq e42 (cons_eq e43 (cons_eq e44 (cons_eq rfl (cons_eq e46 (cons_eq e47 (cons_eq e48 (cons_eq e49 (cons_eq e0 rfl))))))))))))))))))))))))))]
 exact h
end Go.Proofs.YtpdlkdoogojboaaGreat
/- awake. -/
namespace Go.Proofs.YtpdlkdoogojboaaGreat
open Go Go.RowKit
def chA (g:Nat):Chg:=⟨0,3,none,0,some ⟨g,0,none⟩,1,[],numR 5⟩
def chB (g:Nat):Chg:=⟨0,3,some ⟨g,0,none⟩,1,none,0,numR 6,[]⟩
def D1:Db:=[(1,[(3,numR 5)],4)]
theorem awA (h g:Nat):chkD (newD [tdOne h]) (chA g)=0∧appD (newD [tdOne h]) (chA g)=D1:=⟨by kernel_rfl,by kernel_rfl⟩
theorem awB (g:Nat):chkD D1 (chA g)=5∧appD D1 (chA g)=D1:=⟨by kernel_rfl,by kernel_rfl⟩
theorem awC (g:Nat):chkD D1 (chB g)=4∧appD D1 (chB g)=D1:=⟨by kernel_rfl,by kernel_rfl⟩
theorem numR_ok (n:Int) (h:I64 n):∀v∈numR n,I64 v.int:=by
 intro v hv
 rw [numR,List.mem_singleton] at hv
 subst hv
 exact h
theorem chA_ok (g:Nat):(chA g).Ok:=⟨by unfold I64 chA;simp,by unfold I64 chA;simp,by simp [chA],numR_ok 5 (by unfold I64;omega)⟩
theorem chB_ok (g:Nat):(chB g).Ok:=⟨by unfold I64 chB;simp,by unfold I64 chB;simp,numR_ok 6 (by unfold I64;omega),by simp [chB]⟩
theorem D1_len:∀t∈D1,t.2.1.length < 1000000:=by
 intro t ht
 rw [D1,List.mem_singleton] at ht
 subst ht
 show 1 < 1000000
 omega
theorem D0_len (h:Nat):∀t∈newD [tdOne h],t.2.1.length < 1000000:=fun t ht=> by
 have:=newD_max _ t ht
 omega
set_option maxHeartbeats 8000000 in
set_option maxRecDepth 20000 in
theorem awake40_calls (w:World):Calls Tryz.prog 12 #[] w fun e w'=> e=.returned (.bool true)∧Below w.heap.size w w':=by
 have HO:=Lib.hid (one_calls w)
 go_enter Tryz.func12,Tryz.ntmps12
 go_wp2_with fail
 (with_reducible refine HO.out.mono ?_)
 rintro e w1 ⟨og,oh,rfl,h1⟩
 have HN:=Lib.hid (StNew_calls [tdOne oh] _ (one_sm oh) (by simp) w w1 [] (oneL og oh) (one_sch og oh 0 rfl rfl) h1)
 clear HO h1
 go_wp2_with fail
 (with_reducible refine HN.out.mono ?_)
 rintro e w2 ⟨b,rfl,h2⟩
 have H2:=Lib.hid h2
 have HNU:=Lib.hid (num_calls 5 w2)
 clear HN h2
 go_wp2_with fail
 (with_reducible refine HNU.out.mono ?_)
 rintro e w3 ⟨ng,rfl,h3⟩
 have h4:=newB H2.out h3
 have h5:=h4.newblk 35 #[.int .i64 0, .int .i64 3, .slice none 0 0, .slice (some ⟨ng,0,none⟩) 1 1]
 have H5:=Lib.hid h5
 clear HNU H2 h3 h4 h5
 go_upto_region 5 with (fail)
 generalize hW:w3.alloc _=W at *
 clear hW
 obtain ⟨cb,hcb⟩:∃cb,w3.heap.size=cb:=⟨_,rfl⟩
 rw [hcb] at H5 ⊢
 clear hcb
 obtain ⟨R1,hR1⟩:∃R1,blkA ng 68 #[.int .i64 1, .int .i64 5, .string ⟨#[]⟩]::oneL og oh=R1:=⟨_,rfl⟩
 have HS5:RowKit.Hid (St w [] ([blkA cb 35 #[.int .i64 0, .int .i64 3, .slice none 0 0, .slice (some ⟨ng,0,none⟩) 1 1],stA b (newD [tdOne oh])]++R1) W):=by
  rw [←hR1]
  exact St_re (L:=[_,_,_]) H5.out [0,2,1] [] (by kernel_rfl)
 have hcx:∀A,Rd w [] ([A]++R1) fun w=> (chA ng).X w:=fun A M w' hs=> by
  rw [←hR1] at hs
  exact ⟨ValsX.nil _ _ _ _,(Rd.of_piece (R:=[A]++(blkA ng 68 #[.int .i64 1, .int .i64 5, .string ⟨#[]⟩]::oneL og oh)) 1 rfl fun w f h=> num_vals h) M w' hs⟩
 refine rAw5 (w0:=w) (fp0:=[]) (R:=R1) b cb (.int .i64 0) (.int .i64 3) (.slice none 0 0) (.slice (some ⟨ng,0,none⟩) 1 1) 0 5 (stA b (newD [tdOne oh])) (stA b D1) (stA b D1) ?_ ?_ rfl (by kernel_rfl) rfl rfl rfl rfl HS5.out ?_
 · intro w' h'
   have h:=Apply_calls b _ (chA ng) (chA_ok ng) (D0_len oh) w w' [] _ (hcx _) (h'.perm (List.Perm.swap _ _ _))
   rw [(awA oh ng).1,(awA oh ng).2] at h
   refine h.mono ?_
   rintro e w4 ⟨rfl,h4⟩
   exact ⟨rfl,h4.perm (List.Perm.swap _ _ _)⟩
 · intro w' h'
   have h:=Apply_calls b _ (chA ng) (chA_ok ng) D1_len w w' [] _ (hcx _) (h'.perm (List.Perm.swap _ _ _))
   rw [(awB ng).1,(awB ng).2] at h
   refine h.mono ?_
   rintro e w4 ⟨rfl,h4⟩
   exact ⟨rfl,h4.perm (List.Perm.swap _ _ _)⟩
 intro w4 h4
 have H4:RowKit.Hid (St w [] (stA b D1::R1) w4):=St.drop h4
 clear h4 H5 HS5 hcx hR1
 simp only [putL,List.foldl,Act.put,List.setIfInBounds_toArray,List.set_cons_succ,List.set_cons_zero]
 have HNU:=Lib.hid (num_calls 6 w4)
 go_wp2_with fail
 (with_reducible refine HNU.out.mono ?_)
 rintro e w5 ⟨nh,rfl,h5⟩
 have h6:=newB H4.out h5
 have h7:St w [] (stA b D1::blkA nh 68 #[.int .i64 1, .int .i64 6, .string ⟨#[]⟩]::R1) w5:=h6.perm (List.Perm.swap _ _ _)
 have HA:=Lib.hid (Apply_calls b D1 (chB nh) (chB_ok nh) D1_len w w5 [] _ (fun M w' hs=> ⟨(Rd.of_piece (R:=blkA nh 68 #[.int .i64 1, .int .i64 6, .string ⟨#[]⟩]::R1) 0 rfl fun w f h=> num_vals h) M w' hs,ValsX.nil _ _ _ _⟩) h7)
 rw [(awC nh).1,(awC nh).2] at HA
 unfold chB Chg.v Chg.ov Chg.nv numR at HA
 simp only [List.length_cons,List.length_nil,Nat.zero_add] at HA
 clear HNU H4 h5 h6 h7
 go_wp2_with fail
 (with_reducible refine HA.out.mono ?_)
 rintro e w6 ⟨rfl,h6⟩
 obtain ⟨q,hq,hs⟩:=h6.openD
 have hq1:q.ts.length=1:=hq.tlen
 obtain ⟨T,hT⟩:∃T,q.ts=[T]:=by
  match e:q.ts,hq1 with
  | [T],_=> exact ⟨T,rfl⟩
 have hd:=hq.d
 rw [hT] at hd
 have hnx:T.next=4:=by
  have h1:=List.cons.inj hd
  have h2:=h1.1
  unfold Tb.d at h2
  injection h2 with _ h2
  injection h2
 have hdb:=db_get hs
 have HT:=Lib.hid (table_in b 0 _ q.tv (ptrV T.S) w6 hdb.2.1 hdb.2.2.2.2 (by rw [hT];rfl))
 obtain ⟨R2,hR2⟩:∃R2,dbP b q++(blkA nh 68 #[.int .i64 1, .int .i64 6, .string ⟨#[]⟩]::R1)=R2:=⟨_,rfl⟩
 have HS6:RowKit.Hid (St w [] ([tbA T,emp]++R2) w6):=by
  rw [hT] at hs
  rw [←hR2]
  have h:=St.emp.2 hs
  refine h.perm ?_
  classical
  refine List.perm_iff_count.2 fun a=> ?_
  simp only [List.map_cons,List.map_nil,List.cons_append,List.nil_append,List.count_append,List.count_cons]
  omega
 have HNX:=Lib.hid hnx
 obtain ⟨S,cols,I,LL0,next⟩:=T
 simp only at HNX HT
 clear HA h6 hq hs hq1 hT hd hnx hdb hR2
 unfold ptrV at HT
 rw [show ((0:Nat):Int)=0 from rfl] at HT
 go_wp2_with fail
 (with_reducible refine HT.out.mono ?_)
 rintro e w7 ⟨rfl,rfl⟩
 clear HT
 go_upto_region 8 with (fail)
 refine rAw8 (w0:=w) (fp0:=[]) (R:=R2) S (tbA ⟨S,cols,I,LL0,next⟩) ?_ ?_ ?_ rfl (by kernel_rfl) rfl rfl rfl rfl rfl rfl HS6.out ?_
 · intro w' f h'
   refine (Next_calls h').mono ?_
   rintro e w8 ⟨rfl,rfl⟩
   exact ⟨by rw [HNX.out],Below.refl _ _⟩
 · intro M w' _
   refine (enc0_calls w').mono ?_
   rintro e w8 ⟨a,n,c,rfl,h8⟩
   obtain ⟨f,h1,h2,h3⟩:=piece_of h8
   exact ⟨_,f,rfl,h1,h2,h3⟩
 · intro M w' _
   exact RNumber_calls 0 (by unfold I64;omega) w'
 intro u45 w8 ⟨ya,yn,yc,e45⟩ h8
 subst e45
 have HF:=Lib.hid (St.below0 h8)
 clear h8 HS6
 simp only [putL,List.foldl,Act.put,List.setIfInBounds_toArray,List.set_cons_succ,List.set_cons_zero]
 go_wp2
 go_ret
 exact ⟨rfl,HF.out⟩
/- StoreMatchesModel. -/
theorem rd_below {w0:World} {R:List Asn} {Q:World→Prop} (h:∀w,Below w0.heap.size w0 w→Q w):Rd w0 [] R Q:=Rd.of_tr fun w _fp ht=> h w (ht.below (Nat.le_refl _) fun _k hk=> nomatch hk)
/- DecodeChanges: its walk. -/
theorem MidO.of {b:List UInt8} {N:Int} {o:Option (List UInt8)} (h:NumS (some b) N o):MidO b N [] o:=by
 rcases h with ⟨m,g,rfl⟩ | ⟨rfl,g⟩
 · exact Mid.start g
 · refine DecC.short ?_
   apply Classical.byContradiction
   intro h
   exact g _ _ (NumG.of (by omega))
theorem MidO.ln {b:List UInt8} {N:Int} {cs:List Cp} {o:Option (List UInt8)} (h:MidO b N cs o):∀l,o=some l→l.length≤b.length:=by
 rintro l rfl
 have:=Mid.lens h
 omega
set_option maxHeartbeats 8000000 in
set_option maxRecDepth 20000 in
theorem decCh_calls (b:List UInt8) (bv:Value) (hl:b.length < 100000000000) (w:World) (hb:BytesX [] w b bv) (hcp:SlC bv b.length):
 Calls Tryz.prog 26 #[bv] w fun e w'=> DecChP b (.int .i64 0) (.int .i64 2) w e w':=by
 obtain ⟨rb,hrb⟩:∃rb,w.heap.size=rb:=⟨_,rfl⟩
 have h1:St w [] [rdrA rb 126 bv (some b)] (w.alloc (.cells #[bv, .bool false] 126)):=by
  rw [←hrb]
  exact (St.start (w:=w) (L:=[]) (fp:=[]) rfl).newblk 126 #[bv, .bool false]
 have hrd:RdrP w [] [] bv (some b):=⟨hcp,rd_below fun W h=> SlX.mono hb h⟩
 have HN:=Lib.hid (rdNumber_calls rb bv (some b) w _ [] [] [] ⟨[],rfl⟩ h1 hrd)
 rw [←hrb] at HN
 have HRB:=Lib.hid hrb
 have HL:=Lib.hid hl
 obtain ⟨ba,bc,rfl, -, -⟩:=hcp
 clear h1 hrd hl hb hrb
 obtain ⟨bn,hbn⟩:∃bn,b.length=bn:=⟨_,rfl⟩
 rw [hbn] at HN ⊢
 have HBN:=Lib.hid hbn
 clear hbn
 go_enter Tryz.func26,Tryz.ntmps26
 go_wp2_with fail
 (with_reducible refine HN.out.mono ?_)
 rintro e w1 ⟨N,v,o,rfl,hN,h1,h2,h3⟩
 rw [HRB.out] at h1 ⊢
 have H1:RowKit.Hid (St w [] (rdrA rb 126 v o::rowA 35 4 (.slice none 0 0) ([]:List Chg).length (([]:List Chg).flatMap Chg.c)::[]) w1):=(h1.nilR 35 4).perm (List.Perm.swap _ _ _)
 have H2:=Lib.hid h2
 have H3:RowKit.Hid (MidO b (([]:List Chg).length+N) (([]:List Chg).map Chg.cp) o):=by
  show MidO _ _ _ _
  have e:((([]:List Chg).length:Nat):Int)+N=N:=by simp
  rw [e]
  exact MidO.of h3
 have HX0:RowKit.Hid (Rd w [] [] fun W=> ∀c∈([]:List Chg),c.X W):=fun M W hs c hc=> (by cases hc)
 clear h1 h2 h3 HN
 go_upto_region 4 with (fail)
 go_loopg [5,6] (remO o) (fun g z5 z6 wr=> ∃(nn:Int) (cs:List Chg) (v:Value) (o:Option (List UInt8)) (P:List Asn),z6=.int .i64 nn∧I64 nn∧g=remO o∧RowKit.Hid (0≤nn∨cs.length=0)∧RowKit.Hid (St w [] (rdrA rb 126 v o::rowA 35 4 z5 cs.length (cs.flatMap Chg.c)::P) wr)∧RowKit.Hid (RdrP w [] [] v o)∧RowKit.Hid (Rd w [] P fun W=> ∀c∈cs,c.X W)∧RowKit.Hid (MidO b (cs.length+nn) (cs.map Chg.cp) o))
 case atStart=> exact ⟨N,[],v,o,[],rfl,hN,rfl, .inr rfl,H1,H2,HX0,H3⟩
 case round=>
  clear H1 H2 H3 hN HX0
  obtain ⟨nn,cs,v,o,P,rfl,hnn,hgo,Hz,Hs,Hr,Hx,Hm⟩:=hrel
  have Hgo:=Lib.hid hgo
  clear hgo
  obtain ⟨_,hp⟩:=Hs.out.has 0 rfl
  have c0:=(blk_get hp).1 0
  have c1:=(blk_get hp).1 1
  have cl:=(blk_get hp).2.2
  have f1:=(blk_get hp).2.1 1
  simp only [List.getElem?_toArray,List.getElem?_cons_zero,List.getElem?_cons_succ] at c0 c1
  have HSET:=Lib.hid (fun i hi u=> St.setB Hs.out i hi u)
  clear hp
  cases o with
  | none=>
   have c1:wr.cell? ⟨rb,1,none⟩=some (.bool true):=c1
   have HF:RowKit.Hid (DecChP b (.int .i64 0) (.int .i64 2) w (.returned (.tuple #[.slice none 0 0, .int .i64 2])) wr):=DecChP.bad Hm.out Hs.out.below0
   clear HSET
   by_cases h0:nn=0
   · subst h0
     go_wp2
     refine bodyPost_ret (v:=.tuple #[.slice none 0 0, .int .i64 2]) (by simp [results,Tryz.results26,go_sem]) rfl HF.out
   · go_wp2
     refine bodyPost_ret (v:=.tuple #[.slice none 0 0, .int .i64 2]) (by simp [results,Tryz.results26,go_sem]) rfl HF.out
  | some l=>
   have c1:wr.cell? ⟨rb,1,none⟩=some (.bool false):=c1
   obtain ⟨⟨va,vc,rfl,hvl,hvm⟩, -⟩:=Hr.out
   by_cases h0:nn=0
   · subst h0
     clear HSET
     cases l with
     | nil=>
      obtain ⟨_,hrw⟩:=Hs.out.has 1 rfl
      obtain ⟨ya,yc,rfl, -⟩:=row_shape hrw
      have HF:RowKit.Hid (DecChP b (.int .i64 0) (.int .i64 2) w (.returned (.tuple #[.slice ya cs.length yc, .int .i64 0])) wr):=DecChP.good (Mid.done Hm.out (by rw [List.length_map];simp)) Hs.out.drop (Hx.out.at (M:=[_,_]) Hs.out)
      have c0:wr.cell? ⟨rb,0,none⟩=some (.slice va 0 vc):=c0
      obtain ⟨m,hm⟩:∃m,cs.length=m:=⟨_,rfl⟩
      rw [hm] at HF ⊢
      clear hm hrw
      go_wp2
      refine bodyPost_ret (v:=.tuple #[.slice ya m yc, .int .i64 0]) (by simp [results,Tryz.results26,go_sem]) rfl HF.out
     | cons x l=>
      have HF:RowKit.Hid (DecChP b (.int .i64 0) (.int .i64 2) w (.returned (.tuple #[.slice none 0 0, .int .i64 2])) wr):=DecChP.bad (Mid.more Hm.out (by rw [List.length_map];simp) (by simp)) Hs.out.below0
      obtain ⟨m,hm⟩:∃m,(x::l).length=m:=⟨_,rfl⟩
      have hm0:0 < m:=by rw [←hm,List.length_cons];omega
      rw [hm] at c0
      go_wp2
      refine bodyPost_ret (v:=.tuple #[.slice none 0 0, .int .i64 2]) (by simp [results,Tryz.results26,go_sem]) rfl HF.out
   · have hne:((nn:Int) !=0)=true:=by simpa using h0
     by_cases hneg:nn < 0
     · have HF:RowKit.Hid (DecChP b (.int .i64 0) (.int .i64 2) w (.returned (.tuple #[.slice none 0 0, .int .i64 2])) (wr.setCell ⟨rb,1,none⟩ (.bool true))):=by
        refine DecChP.bad (Mid.neg Hm.out ?_) (HSET.out 1 (by simp) (.bool true)).below0
        have:=Hz.out
        omega
       clear HSET
       go_wp2
       refine bodyPost_ret (v:=.tuple #[.slice none 0 0, .int .i64 2]) (by simp [results,Tryz.results26,go_sem]) rfl HF.out
     · have hpos:0 < nn:=by omega
       have hw1:wrap64 (nn - 1)=nn - 1:=by obtain ⟨a1,a2⟩:=hnn;unfold wrap64;omega
       have HNN:=Lib.hid hnn
       have HLN:=Lib.hid (MidO.ln Hm.out)
       have HT1:=Lib.hid (rdNumber_calls rb _ (some l) w wr [] _ [] ⟨_,(List.append_nil _).symm⟩ Hs.out Hr.out)
       clear HSET hnn hvl hvm c0
       go_wp2_with fail
       (with_reducible refine HT1.out.mono ?_)
       rintro e w1 ⟨tb,v1,o1,rfl,htb,h1,h2,h3⟩
       have HT2:=Lib.hid (rdNumber_calls rb _ o1 w w1 [] _ [] ⟨_,(List.append_nil _).symm⟩ h1 h2)
       have HTB:=Lib.hid htb
       have HS1:=Lib.hid h3
       clear HT1 htb h1 h2 h3 c1 cl f1
       go_wp2_with fail
       (with_reducible refine HT2.out.mono ?_)
       rintro e w2 ⟨id,v2,o2,rfl,hid,h1,h2,h3⟩
       have hO2:∀x,o2=some x→x.length < 1099511627776:=NumS.len h3 (NumS.len HS1.out (fun x hx=> by have:=HLN.out x hx;have:=HL.out;omega))
       have HT3:=Lib.hid (rdRow_calls rb _ o2 hO2 w w2 [] _ [] ⟨_,(List.append_nil _).symm⟩ h1 h2)
       have HO2:=Lib.hid hO2
       have HID:=Lib.hid hid
       have HS2:=Lib.hid h3
       clear HT2 hid h1 h2 h3 hO2
       go_wp2_with fail
       (with_reducible refine HT3.out.mono ?_)
       rintro e w3 ⟨ov,old,v3,o3,rfl,h1,h2,h3,hrv,oa,on,oc,rfl⟩
       have hO3:=RowS2.len h3 HO2.out
       have HT4:=Lib.hid (rdRow_calls rb _ o3 hO3 w w3 [] _ [] ⟨_,(List.append_nil _).symm⟩ h1 h2)
       have HOV:=Lib.hid hrv
       have HS3:=Lib.hid h3
       clear HT3 hrv h1 h2 h3 hO3 HO2
       go_wp2_with fail
       (with_reducible refine HT4.out.mono ?_)
       rintro e w4 ⟨nv,new,v4,o4,rfl,h1,h2,h3,hrv,na,nn2,nc,rfl⟩
       have HNV:=Lib.hid hrv
       have HCH:RowKit.Hid (ChS (some l) ⟨tb,id,old,new⟩ o4):=ChS.of HS1.out HS2.out HS3.out h3
       obtain ⟨_,hr1⟩:=h1.has 1 rfl
       obtain ⟨_,_,e1, -⟩:=row_shape hr1
       obtain ⟨rfl,rfl,rfl⟩:=Value.slice.inj e1
       obtain ⟨_,hr2⟩:=h1.has 2 rfl
       obtain ⟨_,_,e2, -⟩:=row_shape hr2
       obtain ⟨rfl,rfl,rfl⟩:=Value.slice.inj e2
       have hs5:=St_re (L:=[_,_,_,_]) h1 [3,0,1,2] [] (by kernel_rfl)
       have HM5:=Lib.hid (fun o=> St.mono hs5 (w':=w4.alloc o) ((Below.refl _ _).alloc (Nat.le_refl _) _))
       have HR4:=Lib.hid h2
       have HC5:RowKit.Hid (cs.length+1 < 1099511627776):=by
        have:=Mid.lens Hm.out
        have:=HL.out
        rw [List.length_map] at *
        show _ < _
        omega
       have HX5:RowKit.Hid (Rd w [] (rowA 68 3 (.slice na new.length nc) new.length (flat new)::rowA 68 3 (.slice oa old.length oc) old.length (flat old)::P) fun W=> ∀c∈cs++[(⟨tb,id,oa,oc,na,nc,old,new⟩:Chg)],c.X W):=fun M W hs c hc=> by
        rcases List.mem_append.1 hc with hc | hc
        · exact (Hx.out.app [_,_]) M W hs c hc
        · rw [List.mem_singleton.1 hc]
          exact chg_rd 1 0 HOV.out HNV.out rfl rfl M W hs
       have HMN:RowKit.Hid (MidO b ((cs++[(⟨tb,id,oa,oc,na,nc,old,new⟩:Chg)]).length+(nn - 1)) ((cs++[(⟨tb,id,oa,oc,na,nc,old,new⟩:Chg)]).map Chg.cp) o4):=by
        have h:=MidO.step Hm.out (by rw [List.length_map];omega) HCH.out
        have e:(((cs++[(⟨tb,id,oa,oc,na,nc,old,new⟩:Chg)]).length:Nat):Int)+(nn - 1)=cs.length+nn:=by
         rw [List.length_append,List.length_singleton]
         omega
        show MidO _ _ _ _
        rw [e,List.map_append]
        exact h
       have HLS:=Lib.hid (remO_less HCH.out)
       have HPO:=Lib.hid hpos
       clear h1 h2 h3 hrv hr1 hr2 e1 e2 hs5 HT4 c1 h0 hneg
       go_wp2_with (first
        | (at_builtin;go_loud (refine wpList_appR rfl _ _ _ _ rfl rfl rfl appCHs (HM5.out _) (src_litk (e':=35) (by kernel_rfl) _ 4 _ 1 _ _ _ #[.int .i64 tb, .int .i64 id, .slice oa old.length oc, .slice na new.length nc] (heap_alloc_new _ _) rfl (by intro u hu;simp only [List.mem_cons,List.not_mem_nil,or_false] at hu;rcases hu with rfl | rfl | rfl | rfl <;> rfl)) HC5.out ?_);intro v3 w5 h5))
       go_roundg (remO o4)
       case rel=>
        refine ⟨nn - 1,cs++[⟨tb,id,oa,oc,na,nc,old,new⟩],v4,o4,_,by go_num,by have:=HNN.out;have:=HPO.out;unfold I64 at *;omega,rfl, .inl (by have:=HPO.out;omega),?_,HR4,HX5,HMN⟩
        show St _ _ _ _
        rw [List.length_append,List.flatMap_append,List.flatMap_singleton]
        exact St_re (L:=[_,_,_,_]) h5.out [1,0,2,3] [] (by kernel_rfl)
       case measure=> have:=Hgo.out;have:=HLS.out;simp only [remO] at *;omega
/- ReadChanges. -/
set_option maxHeartbeats 8000000 in
set_option maxRecDepth 20000 in
theorem readCh_calls (b:List UInt8) (bv:Value) (hl:b.length < 100000000000) (w:World) (hb:BytesX [] w b bv) (hcp:SlC bv b.length):
 Calls Tryz.prog 28 #[bv] w fun e w'=> DecChP b (.bool true) (.bool false) w e w':=by
 obtain ⟨rb,hrb⟩:∃rb,w.heap.size=rb:=⟨_,rfl⟩
 have h1:St w [] [rdrA rb 130 bv (some b)] (w.alloc (.cells #[bv, .bool false] 130)):=by
  rw [←hrb]
  exact (St.start (w:=w) (L:=[]) (fp:=[]) rfl).newblk 130 #[bv, .bool false]
 have hrd:RdrP w [] [] bv (some b):=⟨hcp,rd_below fun W h=> SlX.mono hb h⟩
 have HN:=Lib.hid (RdNumber_calls rb bv (some b) w _ [] [] [] ⟨[],rfl⟩ h1 hrd)
 rw [←hrb] at HN
 have HRB:=Lib.hid hrb
 have HL:=Lib.hid hl
 obtain ⟨ba,bc,rfl, -, -⟩:=hcp
 clear h1 hrd hl hb hrb
 obtain ⟨bn,hbn⟩:∃bn,b.length=bn:=⟨_,rfl⟩
 rw [hbn] at HN ⊢
 have HBN:=Lib.hid hbn
 clear hbn
 go_enter Tryz.func28,Tryz.ntmps28
 go_wp2_with fail
 (with_reducible refine HN.out.mono ?_)
 rintro e w1 ⟨N,v,o,rfl,hN,h1,h2,h3⟩
 rw [HRB.out] at h1 ⊢
 have H1:RowKit.Hid (St w [] (rdrA rb 130 v o::rowA 35 4 (.slice none 0 0) ([]:List Chg).length (([]:List Chg).flatMap Chg.c)::[]) w1):=(h1.nilR 35 4).perm (List.Perm.swap _ _ _)
 have H2:=Lib.hid h2
 have H3:RowKit.Hid (MidO b N (([]:List Chg).map Chg.cp) o):=MidO.of h3
 have HX0:RowKit.Hid (Rd w [] [] fun W=> ∀c∈([]:List Chg),c.X W):=fun M W hs c hc=> (by cases hc)
 have HNI:=Lib.hid hN
 clear h1 h2 h3 HN hN
 go_upto_region 5 with (fail)
 go_loopg [5,7] (remO o) (fun g z5 z7 wr=> ∃(cs:List Chg) (v:Value) (o:Option (List UInt8)) (P:List Asn),z7=.int .i64 (cs.length:Nat)∧g=remO o∧RowKit.Hid ((cs.length:Int)≤N∨cs.length=0)∧RowKit.Hid (St w [] (rdrA rb 130 v o::rowA 35 4 z5 cs.length (cs.flatMap Chg.c)::P) wr)∧RowKit.Hid (RdrP w [] [] v o)∧RowKit.Hid (Rd w [] P fun W=> ∀c∈cs,c.X W)∧RowKit.Hid (MidO b N (cs.map Chg.cp) o))
 case atStart=> exact ⟨[],v,o,[],rfl,rfl, .inr rfl,H1,H2,HX0,H3⟩
 case round=>
  clear H1 H2 H3 HX0
  obtain ⟨cs,v,o,P,rfl,hgo,Hz,Hs,Hr,Hx,Hm⟩:=hrel
  have Hgo:=Lib.hid hgo
  clear hgo
  obtain ⟨_,hp⟩:=Hs.out.has 0 rfl
  have c0:=(blk_get hp).1 0
  have c1:=(blk_get hp).1 1
  have cl:=(blk_get hp).2.2
  simp only [List.getElem?_toArray,List.getElem?_cons_zero,List.getElem?_cons_succ] at c0 c1
  clear hp
  obtain ⟨i,hi⟩:∃i,cs.length=i:=⟨_,rfl⟩
  have HI:=Lib.hid hi
  rw [hi]
  cases o with
  | none=>
   have c1:wr.cell? ⟨rb,1,none⟩=some (.bool true):=c1
   have HF:RowKit.Hid (DecChP b (.bool true) (.bool false) w (.returned (.tuple #[.slice none 0 0, .bool false])) wr):=DecChP.bad Hm.out Hs.out.below0
   clear hi
   by_cases h0:(i:Int) < N
   · go_wp2
     refine bodyPost_ret (v:=.tuple #[.slice none 0 0, .bool false]) (by simp [results,Tryz.results28,go_sem]) rfl HF.out
   · go_wp2
     refine bodyPost_ret (v:=.tuple #[.slice none 0 0, .bool false]) (by simp [results,Tryz.results28,go_sem]) rfl HF.out
  | some l=>
   have c1:wr.cell? ⟨rb,1,none⟩=some (.bool false):=c1
   obtain ⟨⟨va,vc,rfl,hvl,hvm⟩, -⟩:=Hr.out
   by_cases h0:(i:Int) < N
   · have HLN:=Lib.hid (MidO.ln Hm.out)
     have HT1:=Lib.hid (RdNumber_calls rb _ (some l) w wr [] _ [] ⟨_,(List.append_nil _).symm⟩ Hs.out Hr.out)
     have hib:i < 100000000000:=by
      have:=Mid.lens Hm.out
      have:=HL.out
      rw [List.length_map] at *
      omega
     clear hvl hvm c0 hi
     go_wp2_with fail
     (with_reducible refine HT1.out.mono ?_)
     rintro e w1 ⟨tb,v1,o1,rfl,htb,h1,h2,h3⟩
     obtain ⟨cb,hcb⟩:∃cb,w1.heap.size=cb:=⟨_,rfl⟩
     have hs1:=h1.newblk 35 #[.int .i64 tb, .int .i64 0, .slice none 0 0, .slice none 0 0]
     rw [hcb] at hs1
     have hs1':=hs1.perm (List.Perm.swap _ _ _)
     have HT2:=Lib.hid (RdNumber_calls rb _ o1 w _ [] _ [] ⟨_,(List.append_nil _).symm⟩ hs1' h2)
     have HTB:=Lib.hid htb
     have HS1:=Lib.hid h3
     have HCB:=Lib.hid hcb
     clear HT1 htb h1 h2 h3 c1 cl hs1 hs1'
     go_wp2_with fail
     (with_reducible refine HT2.out.mono ?_)
     rintro e w2 ⟨id,v2,o2,rfl,hid,h1,h2,h3⟩
     have hs2:St w [] (rdrA rb 130 v2 o2::blkA cb 35 #[.int .i64 tb, .int .i64 id, .slice none 0 0, .slice none 0 0]::rowA 35 4 u5 cs.length (cs.flatMap Chg.c)::P) (w2.setCell ⟨cb,1,none⟩ (.int .i64 id)):=(St.setB (h1.perm (List.Perm.swap _ _ _)) 1 (by simp) (.int .i64 id)).perm (List.Perm.swap _ _ _)
     obtain ⟨_,hp⟩:=h1.has 1 rfl
     have d1:=(blk_get hp).1 1
     have dl:=(blk_get hp).2.2
     have df:=(blk_get hp).2.1 1
     simp only [List.getElem?_toArray,List.getElem?_cons_zero,List.getElem?_cons_succ] at d1
     have hO2:∀x,o2=some x→x.length < 1099511627776:=NumS.len h3 (NumS.len HS1.out (fun x hx=> by have:=HLN.out x hx;have:=HL.out;omega))
     have HT3:=Lib.hid (RdRow_calls rb _ o2 hO2 w _ [] _ [] ⟨_,(List.append_nil _).symm⟩ hs2 h2)
     have HO2:=Lib.hid hO2
     have HID:=Lib.hid hid
     have HS2:=Lib.hid h3
     clear HT2 hid h1 h2 h3 hO2 hp hs2 hcb
     go_wp2_with fail
     (with_reducible refine HT3.out.mono ?_)
     rintro e w3 ⟨ov,old,v3,o3,rfl,h1,h2,h3,hrv,oa,on,oc,rfl⟩
     have hs3:St w [] (rdrA rb 130 v3 o3::blkA cb 35 #[.int .i64 tb, .int .i64 id, .slice oa on oc, .slice none 0 0]::rowA 68 3 (.slice oa on oc) old.length (flat old)::rowA 35 4 u5 cs.length (cs.flatMap Chg.c)::P) (w3.setCell ⟨cb,2,none⟩ (.slice oa on oc)):=St_re (L:=[_,_,_,_]) (St.setB (St_re (L:=[_,_,_,_]) h1 [2,0,1,3] [] (by kernel_rfl)) 2 (by simp) (.slice oa on oc)) [1,0,2,3] [] (by kernel_rfl)
     obtain ⟨_,hp⟩:=h1.has 2 rfl
     have e2:=(blk_get hp).1 2
     have el:=(blk_get hp).2.2
     have ef:=(blk_get hp).2.1 2
     simp only [List.getElem?_toArray,List.getElem?_cons_zero,List.getElem?_cons_succ] at e2
     have hO3:=RowS2.len h3 HO2.out
     have HT4:=Lib.hid (RdRow_calls rb _ o3 hO3 w _ [] _ [] ⟨_,(List.append_nil _).symm⟩ hs3 h2)
     have HOV:=Lib.hid hrv
     have HS3:=Lib.hid h3
     clear HT3 hrv h1 h2 h3 hO3 HO2 hp hs3 d1 dl df
     go_wp2_with fail
     (with_reducible refine HT4.out.mono ?_)
     rintro e w4 ⟨nv,new,v4,o4,rfl,h1,h2,h3,hrv,na,nn2,nc,rfl⟩
     have hs4:St w [] (blkA cb 35 #[.int .i64 tb, .int .i64 id, .slice oa on oc, .slice na nn2 nc]::rowA 35 4 u5 cs.length (cs.flatMap Chg.c)::rdrA rb 130 v4 o4::rowA 68 3 (.slice na nn2 nc) new.length (flat new)::rowA 68 3 (.slice oa on oc) old.length (flat old)::P) (w4.setCell ⟨cb,3,none⟩ (.slice na nn2 nc)):=St_re (L:=[_,_,_,_,_]) (St.setB (St_re (L:=[_,_,_,_,_]) h1 [2,0,1,3,4] [] (by kernel_rfl)) 3 (by simp) (.slice na nn2 nc)) [0,4,1,2,3] [] (by kernel_rfl)
     have HNV:=Lib.hid hrv
     have HCH:RowKit.Hid (ChS (some l) ⟨tb,id,old,new⟩ o4):=ChS.of HS1.out HS2.out HS3.out h3
     obtain ⟨_,hr1⟩:=h1.has 1 rfl
     obtain ⟨_,_,e1, -⟩:=row_shape hr1
     obtain ⟨rfl,rfl,rfl⟩:=Value.slice.inj e1
     obtain ⟨_,hr2⟩:=h1.has 3 rfl
     obtain ⟨_,_,e2', -⟩:=row_shape hr2
     obtain ⟨rfl,rfl,rfl⟩:=Value.slice.inj e2'
     obtain ⟨_,hp⟩:=h1.has 2 rfl
     have g3:=(blk_get hp).1 3
     have gl:=(blk_get hp).2.2
     have gf:=(blk_get hp).2.1 3
     simp only [List.getElem?_toArray,List.getElem?_cons_zero,List.getElem?_cons_succ] at g3
     obtain ⟨_,hp2⟩:=hs4.has 0 rfl
     have k0:=(blk_get hp2).1 0
     have k1:=(blk_get hp2).1 1
     have k2:=(blk_get hp2).1 2
     have k3:=(blk_get hp2).1 3
     have kl:=(blk_get hp2).2.2
     simp only [List.getElem?_toArray,List.getElem?_cons_zero,List.getElem?_cons_succ] at k0 k1 k2 k3
     have HM5:=Lib.hid (fun o=> St.mono hs4.drop (w':=(w4.setCell ⟨cb,3,none⟩ (.slice na new.length nc)).alloc o) ((Below.refl _ _).alloc (Nat.le_refl _) _))
     have HNEW:RowKit.Hid (∀o,((w4.setCell ⟨cb,3,none⟩ (.slice na new.length nc)).alloc o).heap[w4.heap.size]? =some o):=fun o=> by
      have e:(w4.setCell ⟨cb,3,none⟩ (.slice na new.length nc)).heap.size=w4.heap.size:=by simp
      rw [←e]
      exact heap_alloc_new _ _
     have HR4:=Lib.hid h2
     have HC5:RowKit.Hid (cs.length+1 < 1099511627776):=by
      show _ < _
      rw [HI.out]
      omega
     have HX5:RowKit.Hid (Rd w [] (rowA 68 3 (.slice na new.length nc) new.length (flat new)::rowA 68 3 (.slice oa old.length oc) old.length (flat old)::P) fun W=> ∀c∈cs++[(⟨tb,id,oa,oc,na,nc,old,new⟩:Chg)],c.X W):=fun M W hs c hc=> by
      rcases List.mem_append.1 hc with hc | hc
      · exact (Hx.out.app [_,_]) M W hs c hc
      · rw [List.mem_singleton.1 hc]
        exact chg_rd 1 0 HOV.out HNV.out rfl rfl M W hs
     have HMN:RowKit.Hid (MidO b N ((cs++[(⟨tb,id,oa,oc,na,nc,old,new⟩:Chg)]).map Chg.cp) o4):=by
      have h:=MidO.step Hm.out (by rw [List.length_map,HI.out];omega) HCH.out
      show MidO _ _ _ _
      rw [List.map_append]
      exact h
     have HLS:=Lib.hid (remO_less HCH.out)
     clear h1 h2 h3 hrv hr1 hr2 e1 e2' hs4 HT4 hp hp2 e2 el ef
     go_wp2_with (first
      | (at_builtin;go_loud (refine wpList_appR rfl _ _ _ _ rfl rfl rfl appCHs (HM5.out _) (src_litk (e':=35) (by kernel_rfl) _ 4 _ 1 _ _ _ #[.int .i64 tb, .int .i64 id, .slice oa old.length oc, .slice na new.length nc] (HNEW.out _) rfl (by intro u hu;simp only [List.mem_cons,List.not_mem_nil,or_false] at hu;rcases hu with rfl | rfl | rfl | rfl <;> rfl)) HC5.out ?_);intro v3 w5 h5))
     go_roundg (remO o4)
     case rel=>
      refine ⟨cs++[⟨tb,id,oa,oc,na,nc,old,new⟩],v4,o4,_,?_,rfl, .inl (by rw [List.length_append,List.length_singleton,HI.out];omega),?_,HR4,HX5,HMN⟩
      · rw [List.length_append,List.length_singleton,HI.out]
        go_num
      · show St _ _ _ _
        rw [List.length_append,List.flatMap_append,List.flatMap_singleton]
        exact St_re (L:=[_,_,_,_]) h5.out [1,0,2,3] [] (by kernel_rfl)
     case measure=> have:=Hgo.out;have:=HLS.out;simp only [remO] at *;omega
   · have hge:N≤(i:Int):=by omega
     by_cases hneg:N < 0
     · have HF:RowKit.Hid (DecChP b (.bool true) (.bool false) w (.returned (.tuple #[.slice none 0 0, .bool false])) wr):=DecChP.bad (Mid.neg Hm.out hneg) Hs.out.below0
       clear hi
       go_wp2
       refine bodyPost_ret (v:=.tuple #[.slice none 0 0, .bool false]) (by simp [results,Tryz.results28,go_sem]) rfl HF.out
     · have hNi:N=(cs.length:Int):=by have:=Hz.out;omega
       cases l with
       | nil=>
        obtain ⟨_,hrw⟩:=Hs.out.has 1 rfl
        obtain ⟨ya,yc,rfl, -⟩:=row_shape hrw
        have HF:RowKit.Hid (DecChP b (.bool true) (.bool false) w (.returned (.tuple #[.slice ya cs.length yc, .bool true])) wr):=DecChP.good (Mid.done Hm.out (by rw [List.length_map];exact hNi)) Hs.out.drop (Hx.out.at (M:=[_,_]) Hs.out)
        have c0:wr.cell? ⟨rb,0,none⟩=some (.slice va 0 vc):=c0
        rw [hi] at HF ⊢
        clear hi hrw hNi
        go_wp2
        refine bodyPost_ret (v:=.tuple #[.slice ya i yc, .bool true]) (by simp [results,Tryz.results28,go_sem]) rfl HF.out
       | cons x l=>
        have HF:RowKit.Hid (DecChP b (.bool true) (.bool false) w (.returned (.tuple #[.slice none 0 0, .bool false])) wr):=DecChP.bad (Mid.more Hm.out (by rw [List.length_map];exact hNi) (by simp)) Hs.out.below0
        obtain ⟨m,hm⟩:∃m,(x::l).length=m:=⟨_,rfl⟩
        have hm0:0 < m:=by rw [←hm,List.length_cons];omega
        rw [hm] at c0
        clear hi hNi
        go_wp2
        refine bodyPost_ret (v:=.tuple #[.slice none 0 0, .bool false]) (by simp [results,Tryz.results28,go_sem]) rfl HF.out
/- Changes: its drawn region, way by way. -/
set_option maxRecDepth 100000
theorem Rg.Ob.neqB (G:Rg) (i:Nat) (p q:Int) (r:Bool) (h:decide (p≠q)=r) {ty t:TypeId} {x y:Operand} (hop:(opAt G.ops i).op=.binOp .neq ty x y t:=by rfl) (hx:∀a,G.env i a x=.int .i64 p:=by intro _;exact kr (by kernel_rfl)) (hy:∀a,G.env i a y=.int .i64 q:=by intro _;exact kr (by kernel_rfl)) (hv:∀g,G.valD i g=.bool r:=by intro _;exact kr (by kernel_rfl))
 (hq:(G.quiet i G.pcs.length && G.okV i)=true:=by exact kr (by kernel_rfl)) (hw:∀a,wantE G.ops (opAt G.ops i) (G.env i a)=some true:=by intro _;exact kr (by kernel_rfl)):G.Ob i:=Rg.Ob.read G i hq hw fun L a w _ _=> by
 have e:decide (p≠q)=(p !=q):=by by_cases h:p=q <;> simp [h]
 simp [execOp,hop,hx,hy,go_sem,hv,←h,e]
noncomputable def gCc1 (b o n lc b2 o2 lc2 k:Nat) (t1 t2 _x1 _x2:Int) (_p1 _p2 _r1 _r2:Value):=rgx Tryz.prog Tryz.f27 6 69 [17,18,19,20,21,22,23,24,25,26,27,28,29,30,31,32,33,34,35,36,37,38,39,40,41,42,43,44,45,46,47,48,49,50,51,52,53,54,55,56,57,58,59,60,61,62,63,64,65,66,67,68] [(0, .slice (some ⟨b,o,none⟩) n lc),(1, .slice (some ⟨b2,o2,none⟩) n lc2),(5, .int .i64 (k:Int))] (Vq 0 17 [Kv (.slice (some ⟨b,o,none⟩) n lc),Kv (.int .i64 (k:Int)),Kp b (o+k * 4),Kp b (o+k * 4),Kv (.int .i64 t1),Kv (.slice (some ⟨b2,o2,none⟩) n lc2),Kv (.int .i64 (k:Int)),Kp b2 (o2+k * 4),Kp b2 (o2+k * 4),Kv (.int .i64 t2),Kv (.bool true),Kv (.bool true),Kv undef,Kv undef,Kv undef,Kv undef,Kv undef,Kv undef,Kv undef,Kv undef,Kv undef,Kv undef,Kv undef,Kv (.bool true),Kv (.bool true),Kv undef,Kv undef,Kv undef,Kv undef,Kv undef,Kv undef,Kv undef,Kv undef,Kv undef,Kv undef,Kv undef,Kv undef,Kv (.bool true),Kv (.bool true),Kv undef,Kv undef,Kv undef,Kv undef,Kv undef,Kv undef,Kv undef,Kv undef,Kv undef,Kv undef,Kv undef,Kv undef,Kv (.bool true)]) []
theorem rCc1 (b o n lc b2 o2 lc2 k:Nat) (t1 t2 x1 x2:Int) (p1 p2 r1 r2:Value) (w0:World) (fp0:List Nat) (R:List Asn) (hk:k < n) (ha0:∀L w,St w0 fp0 (L++R) w→w.cell? ⟨b,o+k * 4,none⟩=some (.int .i64 t1)) (hb0:∀L w,St w0 fp0 (L++R) w→w.cell? ⟨b2,o2+k * 4,none⟩=some (.int .i64 t2)) (h10:decide (t1≠t2)=true) {w:World} {c:Code} {a:Act} {Q:Exit→Act→World→Prop} (c1:isReg c=true) (c2:cops c=opsR Tryz.f27 6) (c3:a.tmps.size=69) (_c4:a.defers=a.defers) (i0:a.eval (.tmp 0)=.slice (some ⟨b,o,none⟩) n lc) (i1:a.eval (.tmp 1)=.slice (some ⟨b2,o2,none⟩) n lc2) (i5:a.eval (.tmp 5)=.int .i64 (k:Int))
 (hS:St w0 fp0 ([]++R) w)
 (hQ:∀(w1:World),St w0 fp0 ([]++R) w1→Q .normal (putL a [(17, .slice (some ⟨b,o,none⟩) n lc),(18, .int .i64 (k:Int)),(19, .pointer (some ⟨b,o+k * 4,none⟩)),(20, .pointer (some ⟨b,o+k * 4,none⟩)),(21, .int .i64 t1),(22, .slice (some ⟨b2,o2,none⟩) n lc2),(23, .int .i64 (k:Int)),(24, .pointer (some ⟨b2,o2+k * 4,none⟩)),(25, .pointer (some ⟨b2,o2+k * 4,none⟩)),(26, .int .i64 t2),(27, .bool true),(28, .bool true),(29,undef),(30,undef),(31,undef),(32,undef),(33,undef),(34,undef),(35,undef),(36,undef),(37,undef),(38,undef),(39,undef),(40, .bool true),(41, .bool true),(42,undef),(43,undef),(44,undef),(45,undef),(46,undef),(47,undef),(48,undef),(49,undef),(50,undef),(51,undef),(52,undef),(53,undef),(54, .bool true),(55, .bool true),(56,undef),(57,undef),(58,undef),(59,undef),(60,undef),(61,undef),(62,undef),(63,undef),(64,undef),(65,undef),(66,undef),(67,undef),(68, .bool true)]) w1):c.wp Tryz.prog Q a w:=by
 have ok:(gCc1 b o n lc b2 o2 lc2 k t1 t2 x1 x2 p1 p2 r1 r2 w0 fp0 R).Ok 52:=Rg.ok _ 52 [2,4,7,9,10,12,13,14,15,16,17,18,19,20,21,22,25,26,27,28,29,30,31,32,33,34,35,36,39,40,41,42,43,44,45,46,47,48,49,50] ⟨.indexO _ 2 b o n lc k 4 hk, .loadR1 _ 4 (.int .i64 t1) ha0, .indexO _ 7 b2 o2 n lc2 k 4 hk, .loadR1 _ 9 (.int .i64 t2) hb0, .neqB _ 10 t1 t2 true h10, .skip _ 12, .skip _ 13, .skip _ 14, .skip _ 15, .skip _ 16, .skip _ 17, .skip _ 18, .skip _ 19, .skip _ 20, .skip _ 21, .skip _ 22, .skip _ 25, .skip _ 26, .skip _ 27, .skip _ 28, .skip _ 29, .skip _ 30, .skip _ 31, .skip _ 32, .skip _ 33, .skip _ 34, .skip _ 35, .skip _ 36, .skip _ 39, .skip _ 40, .skip _ 41, .skip _ 42, .skip _ 43, .skip _ 44, .skip _ 45, .skip _ 46, .skip _ 47, .skip _ 48, .skip _ 49, .skip _ 50,trivial⟩
 refine wp_regD ok (by kernel_rfl) ⟨c1,c2⟩ ⟨c3,fun p hp=> ?_⟩ hS fun A1 w1 N1 H1=> ?_
 · simp only [gCc1,rgx,List.map_nil,List.append_nil,List.mem_cons,List.not_mem_nil,or_false] at hp
   rcases hp with rfl | rfl | rfl
   · exact i0
   · exact i1
   · exact i5
 have e17:=N1.val 0 rfl
 have e18:=N1.val 1 rfl
 have e19:=N1.val 2 rfl
 have e20:=N1.val 3 rfl
 have e21:=N1.val 4 rfl
 have e22:=N1.val 5 rfl
 have e23:=N1.val 6 rfl
 have e24:=N1.val 7 rfl
 have e25:=N1.val 8 rfl
 have e26:=N1.val 9 rfl
 have e27:=N1.val 10 rfl
 have e28:=N1.val 11 rfl
 have e29:=N1.val 12 rfl
 have e30:=N1.val 13 rfl
 have e31:=N1.val 14 rfl
 have e32:=N1.val 15 rfl
 have e33:=N1.val 16 rfl
 have e34:=N1.val 17 rfl
 have e35:=N1.val 18 rfl
 have e36:=N1.val 19 rfl
 have e37:=N1.val 20 rfl
 have e38:=N1.val 21 rfl
 have e39:=N1.val 22 rfl
 have e40:=N1.val 23 rfl
 have e41:=N1.val 24 rfl
 have e42:=N1.val 25 rfl
 have e43:=N1.val 26 rfl
 have e44:=N1.val 27 rfl
 have e45:=N1.val 28 rfl
 have e46:=N1.val 29 rfl
 have e47:=N1.val 30 rfl
 have e48:=N1.val 31 rfl
 have e49:=N1.val 32 rfl
 have e50:=N1.val 33 rfl
 have e51:=N1.val 34 rfl
 have e52:=N1.val 35 rfl
 have e53:=N1.val 36 rfl
 have e54:=N1.val 37 rfl
 have e55:=N1.val 38 rfl
 have e56:=N1.val 39 rfl
 have e57:=N1.val 40 rfl
 have e58:=N1.val 41 rfl
 have e59:=N1.val 42 rfl
 have e60:=N1.val 43 rfl
 have e61:=N1.val 44 rfl
 have e62:=N1.val 45 rfl
 have e63:=N1.val 46 rfl
 have e64:=N1.val 47 rfl
 have e65:=N1.val 48 rfl
 have e66:=N1.val 49 rfl
 have e67:=N1.val 50 rfl
 have e68:=N1.val 51 rfl
 have h:=hQ  w1  H1
 rw [frame_eq N1.frame (cons_eq e17 (cons_eq e18 (cons_eq e19 (cons_eq e20 (cons_eq e21 (cons_eq e22 (cons_eq e23 (cons_eq e24 (cons_eq e25 (cons_eq e26 (cons_eq e27 (cons_eq e28 (cons_eq e29 (cons_eq e30 (cons_eq e31 (cons_eq e32 (cons_eq e33 (cons_eq e34 (cons_eq e35 (cons_eq e36 (cons_eq e37 (cons_eq e38 (cons_eq e39 (cons_eq e40 (cons_eq e41 (cons_eq e42 (cons_eq e43 (cons_eq e44 (cons_eq e45 (cons_eq e46 (cons_eq e47 (cons_eq e48 (cons_eq e49 (cons_eq e50 (cons_eq e51 (cons_eq e52 (cons_eq e53 (cons_eq e54 (cons_eq e55 (cons_eq e56 (cons_eq e57 (cons_eq e58 (cons_eq e59 (cons_eq e60 (cons_eq e61 (cons_eq e62 (cons_eq e63 (cons_eq e64 (cons_eq e65 (cons_eq e66 (cons_eq e67 (cons_eq e68 rfl))))))))))))))))))))))))))))))))))))))))))))))))))))]
 exact h
noncomputable def gCc2 (b o n lc b2 o2 lc2 k:Nat) (t1 t2 x1 x2:Int) (_p1 _p2 _r1 _r2:Value):=rgx Tryz.prog Tryz.f27 6 69 [17,18,19,20,21,22,23,24,25,26,27,28,29,30,31,32,33,34,35,36,37,38,39,40,41,42,43,44,45,46,47,48,49,50,51,52,53,54,55,56,57,58,59,60,61,62,63,64,65,66,67,68] [(0, .slice (some ⟨b,o,none⟩) n lc),(1, .slice (some ⟨b2,o2,none⟩) n lc2),(5, .int .i64 (k:Int))] (Vq 0 17 [Kv (.slice (some ⟨b,o,none⟩) n lc),Kv (.int .i64 (k:Int)),Kp b (o+k * 4),Kp b (o+k * 4),Kv (.int .i64 t1),Kv (.slice (some ⟨b2,o2,none⟩) n lc2),Kv (.int .i64 (k:Int)),Kp b2 (o2+k * 4),Kp b2 (o2+k * 4),Kv (.int .i64 t2),Kv (.bool false),Kv (.bool false),Kv (.slice (some ⟨b,o,none⟩) n lc),Kv (.int .i64 (k:Int)),Kp b (o+k * 4),Kp b (o+k * 4+1),Kv (.int .i64 x1),Kv (.slice (some ⟨b2,o2,none⟩) n lc2),Kv (.int .i64 (k:Int)),Kp b2 (o2+k * 4),Kp b2 (o2+k * 4+1),Kv (.int .i64 x2),Kv (.bool true),Kv (.bool true),Kv (.bool true),Kv undef,Kv undef,Kv undef,Kv undef,Kv undef,Kv undef,Kv undef,Kv undef,Kv undef,Kv undef,Kv undef,Kv undef,Kv (.bool true),Kv (.bool true),Kv undef,Kv undef,Kv undef,Kv undef,Kv undef,Kv undef,Kv undef,Kv undef,Kv undef,Kv undef,Kv undef,Kv undef,Kv (.bool true)]) []
theorem rCc2 (b o n lc b2 o2 lc2 k:Nat) (t1 t2 x1 x2:Int) (p1 p2 r1 r2:Value) (w0:World) (fp0:List Nat) (R:List Asn) (hk:k < n) (ha0:∀L w,St w0 fp0 (L++R) w→w.cell? ⟨b,o+k * 4,none⟩=some (.int .i64 t1)) (hb0:∀L w,St w0 fp0 (L++R) w→w.cell? ⟨b2,o2+k * 4,none⟩=some (.int .i64 t2)) (h10:decide (t1≠t2)=false) (ha1:∀L w,St w0 fp0 (L++R) w→w.cell? ⟨b,o+k * 4+1,none⟩=some (.int .i64 x1)) (hb1:∀L w,St w0 fp0 (L++R) w→w.cell? ⟨b2,o2+k * 4+1,none⟩=some (.int .i64 x2)) (h22:decide (x1≠x2)=true) {w:World} {c:Code} {a:Act} {Q:Exit→Act→World→Prop} (c1:isReg c=true) (c2:cops c=opsR Tryz.f27 6) (c3:a.tmps.size=69) (_c4:a.defers=a.defers) (i0:a.eval (.tmp 0)=.slice (some ⟨b,o,none⟩) n lc) (i1:a.eval (.tmp 1)=.slice (some ⟨b2,o2,none⟩) n lc2) (i5:a.eval (.tmp 5)=.int .i64 (k:Int))
 (hS:St w0 fp0 ([]++R) w)
 (hQ:∀(w1:World),St w0 fp0 ([]++R) w1→Q .normal (putL a [(17, .slice (some ⟨b,o,none⟩) n lc),(18, .int .i64 (k:Int)),(19, .pointer (some ⟨b,o+k * 4,none⟩)),(20, .pointer (some ⟨b,o+k * 4,none⟩)),(21, .int .i64 t1),(22, .slice (some ⟨b2,o2,none⟩) n lc2),(23, .int .i64 (k:Int)),(24, .pointer (some ⟨b2,o2+k * 4,none⟩)),(25, .pointer (some ⟨b2,o2+k * 4,none⟩)),(26, .int .i64 t2),(27, .bool false),(28, .bool false),(29, .slice (some ⟨b,o,none⟩) n lc),(30, .int .i64 (k:Int)),(31, .pointer (some ⟨b,o+k * 4,none⟩)),(32, .pointer (some ⟨b,o+k * 4+1,none⟩)),(33, .int .i64 x1),(34, .slice (some ⟨b2,o2,none⟩) n lc2),(35, .int .i64 (k:Int)),(36, .pointer (some ⟨b2,o2+k * 4,none⟩)),(37, .pointer (some ⟨b2,o2+k * 4+1,none⟩)),(38, .int .i64 x2),(39, .bool true),(40, .bool true),(41, .bool true),(42,undef),(43,undef),(44,undef),(45,undef),(46,undef),(47,undef),(48,undef),(49,undef),(50,undef),(51,undef),(52,undef),(53,undef),(54, .bool true),(55, .bool true),(56,undef),(57,undef),(58,undef),(59,undef),(60,undef),(61,undef),(62,undef),(63,undef),(64,undef),(65,undef),(66,undef),(67,undef),(68, .bool true)]) w1):c.wp Tryz.prog Q a w:=by
 have ok:(gCc2 b o n lc b2 o2 lc2 k t1 t2 x1 x2 p1 p2 r1 r2 w0 fp0 R).Ok 52:=Rg.ok _ 52 [2,4,7,9,10,14,16,19,21,22,25,26,27,28,29,30,31,32,33,34,35,36,39,40,41,42,43,44,45,46,47,48,49,50] ⟨.indexO _ 2 b o n lc k 4 hk, .loadR1 _ 4 (.int .i64 t1) ha0, .indexO _ 7 b2 o2 n lc2 k 4 hk, .loadR1 _ 9 (.int .i64 t2) hb0, .neqB _ 10 t1 t2 false h10, .indexO _ 14 b o n lc k 4 hk, .loadR1 _ 16 (.int .i64 x1) ha1, .indexO _ 19 b2 o2 n lc2 k 4 hk, .loadR1 _ 21 (.int .i64 x2) hb1, .neqB _ 22 x1 x2 true h22, .skip _ 25, .skip _ 26, .skip _ 27, .skip _ 28, .skip _ 29, .skip _ 30, .skip _ 31, .skip _ 32, .skip _ 33, .skip _ 34, .skip _ 35, .skip _ 36, .skip _ 39, .skip _ 40, .skip _ 41, .skip _ 42, .skip _ 43, .skip _ 44, .skip _ 45, .skip _ 46, .skip _ 47, .skip _ 48, .skip _ 49, .skip _ 50,trivial⟩
 refine wp_regD ok (by kernel_rfl) ⟨c1,c2⟩ ⟨c3,fun p hp=> ?_⟩ hS fun A1 w1 N1 H1=> ?_
 · simp only [gCc2,rgx,List.map_nil,List.append_nil,List.mem_cons,List.not_mem_nil,or_false] at hp
   rcases hp with rfl | rfl | rfl
   · exact i0
   · exact i1
   · exact i5
 have e17:=N1.val 0 rfl
 have e18:=N1.val 1 rfl
 have e19:=N1.val 2 rfl
 have e20:=N1.val 3 rfl
 have e21:=N1.val 4 rfl
 have e22:=N1.val 5 rfl
 have e23:=N1.val 6 rfl
 have e24:=N1.val 7 rfl
 have e25:=N1.val 8 rfl
 have e26:=N1.val 9 rfl
 have e27:=N1.val 10 rfl
 have e28:=N1.val 11 rfl
 have e29:=N1.val 12 rfl
 have e30:=N1.val 13 rfl
 have e31:=N1.val 14 rfl
 have e32:=N1.val 15 rfl
 have e33:=N1.val 16 rfl
 have e34:=N1.val 17 rfl
 have e35:=N1.val 18 rfl
 have e36:=N1.val 19 rfl
 have e37:=N1.val 20 rfl
 have e38:=N1.val 21 rfl
 have e39:=N1.val 22 rfl
 have e40:=N1.val 23 rfl
 have e41:=N1.val 24 rfl
 have e42:=N1.val 25 rfl
 have e43:=N1.val 26 rfl
 have e44:=N1.val 27 rfl
 have e45:=N1.val 28 rfl
 have e46:=N1.val 29 rfl
 have e47:=N1.val 30 rfl
 have e48:=N1.val 31 rfl
 have e49:=N1.val 32 rfl
 have e50:=N1.val 33 rfl
 have e51:=N1.val 34 rfl
 have e52:=N1.val 35 rfl
 have e53:=N1.val 36 rfl
 have e54:=N1.val 37 rfl
 have e55:=N1.val 38 rfl
 have e56:=N1.val 39 rfl
 have e57:=N1.val 40 rfl
 have e58:=N1.val 41 rfl
 have e59:=N1.val 42 rfl
 have e60:=N1.val 43 rfl
 have e61:=N1.val 44 rfl
 have e62:=N1.val 45 rfl
 have e63:=N1.val 46 rfl
 have e64:=N1.val 47 rfl
 have e65:=N1.val 48 rfl
 have e66:=N1.val 49 rfl
 have e67:=N1.val 50 rfl
 have e68:=N1.val 51 rfl
 have h:=hQ  w1  H1
 rw [frame_eq N1.frame (cons_eq e17 (cons_eq e18 (cons_eq e19 (cons_eq e20 (cons_eq e21 (cons_eq e22 (cons_eq e23 (cons_eq e24 (cons_eq e25 (cons_eq e26 (cons_eq e27 (cons_eq e28 (cons_eq e29 (cons_eq e30 (cons_eq e31 (cons_eq e32 (cons_eq e33 (cons_eq e34 (cons_eq e35 (cons_eq e36 (cons_eq e37 (cons_eq e38 (cons_eq e39 (cons_eq e40 (cons_eq e41 (cons_eq e42 (cons_eq e43 (cons_eq e44 (cons_eq e45 (cons_eq e46 (cons_eq e47 (cons_eq e48 (cons_eq e49 (cons_eq e50 (cons_eq e51 (cons_eq e52 (cons_eq e53 (cons_eq e54 (cons_eq e55 (cons_eq e56 (cons_eq e57 (cons_eq e58 (cons_eq e59 (cons_eq e60 (cons_eq e61 (cons_eq e62 (cons_eq e63 (cons_eq e64 (cons_eq e65 (cons_eq e66 (cons_eq e67 (cons_eq e68 rfl))))))))))))))))))))))))))))))))))))))))))))))))))))]
 exact h
noncomputable def gCc3 (b o n lc b2 o2 lc2 k:Nat) (t1 t2 x1 x2:Int) (p1 p2 _r1 _r2:Value):=rgx Tryz.prog Tryz.f27 6 69 [17,18,19,20,21,22,23,24,25,26,27,28,29,30,31,32,33,34,35,36,37,38,39,40,41,42,43,44,45,46,47,48,49,50,51,52,53,54,55,56,57,58,59,60,61,62,63,64,65,66,67,68] [(0, .slice (some ⟨b,o,none⟩) n lc),(1, .slice (some ⟨b2,o2,none⟩) n lc2),(5, .int .i64 (k:Int))] (Vq 0 17 [Kv (.slice (some ⟨b,o,none⟩) n lc),Kv (.int .i64 (k:Int)),Kp b (o+k * 4),Kp b (o+k * 4),Kv (.int .i64 t1),Kv (.slice (some ⟨b2,o2,none⟩) n lc2),Kv (.int .i64 (k:Int)),Kp b2 (o2+k * 4),Kp b2 (o2+k * 4),Kv (.int .i64 t2),Kv (.bool false),Kv (.bool false),Kv (.slice (some ⟨b,o,none⟩) n lc),Kv (.int .i64 (k:Int)),Kp b (o+k * 4),Kp b (o+k * 4+1),Kv (.int .i64 x1),Kv (.slice (some ⟨b2,o2,none⟩) n lc2),Kv (.int .i64 (k:Int)),Kp b2 (o2+k * 4),Kp b2 (o2+k * 4+1),Kv (.int .i64 x2),Kv (.bool false),Kv (.bool false),Kv (.bool false),Kv (.slice (some ⟨b,o,none⟩) n lc),Kv (.int .i64 (k:Int)),Kp b (o+k * 4),Kp b (o+k * 4+2),Kv p1,Kv (.slice (some ⟨b2,o2,none⟩) n lc2),Kv (.int .i64 (k:Int)),Kp b2 (o2+k * 4),Kp b2 (o2+k * 4+2),Kv p2,Kv (.bool false),Kv (.bool true),Kv (.bool true),Kv (.bool true),Kv undef,Kv undef,Kv undef,Kv undef,Kv undef,Kv undef,Kv undef,Kv undef,Kv undef,Kv undef,Kv undef,Kv undef,Kv (.bool true)]) []
theorem rCc3 (b o n lc b2 o2 lc2 k:Nat) (t1 t2 x1 x2:Int) (p1 p2 r1 r2:Value) (w0:World) (fp0:List Nat) (R:List Asn) (hk:k < n) (ha0:∀L w,St w0 fp0 (L++R) w→w.cell? ⟨b,o+k * 4,none⟩=some (.int .i64 t1)) (hb0:∀L w,St w0 fp0 (L++R) w→w.cell? ⟨b2,o2+k * 4,none⟩=some (.int .i64 t2)) (h10:decide (t1≠t2)=false) (ha1:∀L w,St w0 fp0 (L++R) w→w.cell? ⟨b,o+k * 4+1,none⟩=some (.int .i64 x1)) (hb1:∀L w,St w0 fp0 (L++R) w→w.cell? ⟨b2,o2+k * 4+1,none⟩=some (.int .i64 x2)) (h22:decide (x1≠x2)=false) (ha2:∀L w,St w0 fp0 (L++R) w→w.cell? ⟨b,o+k * 4+2,none⟩=some (p1)) (hb2:∀L w,St w0 fp0 (L++R) w→w.cell? ⟨b2,o2+k * 4+2,none⟩=some (p2)) (h35:∀L w,St w0 fp0 (L++R) w→Calls Tryz.prog 47 #[p1,p2] w fun e w'=> e=.returned (.bool false)∧Below w.heap.size w w') {w:World} {c:Code} {a:Act} {Q:Exit→Act→World→Prop} (c1:isReg c=true) (c2:cops c=opsR Tryz.f27 6) (c3:a.tmps.size=69) (_c4:a.defers=a.defers) (i0:a.eval (.tmp 0)=.slice (some ⟨b,o,none⟩) n lc) (i1:a.eval (.tmp 1)=.slice (some ⟨b2,o2,none⟩) n lc2) (i5:a.eval (.tmp 5)=.int .i64 (k:Int))
 (hS:St w0 fp0 ([]++R) w)
 (hQ:∀(w1:World),St w0 fp0 ([]++R) w1→Q .normal (putL a [(17, .slice (some ⟨b,o,none⟩) n lc),(18, .int .i64 (k:Int)),(19, .pointer (some ⟨b,o+k * 4,none⟩)),(20, .pointer (some ⟨b,o+k * 4,none⟩)),(21, .int .i64 t1),(22, .slice (some ⟨b2,o2,none⟩) n lc2),(23, .int .i64 (k:Int)),(24, .pointer (some ⟨b2,o2+k * 4,none⟩)),(25, .pointer (some ⟨b2,o2+k * 4,none⟩)),(26, .int .i64 t2),(27, .bool false),(28, .bool false),(29, .slice (some ⟨b,o,none⟩) n lc),(30, .int .i64 (k:Int)),(31, .pointer (some ⟨b,o+k * 4,none⟩)),(32, .pointer (some ⟨b,o+k * 4+1,none⟩)),(33, .int .i64 x1),(34, .slice (some ⟨b2,o2,none⟩) n lc2),(35, .int .i64 (k:Int)),(36, .pointer (some ⟨b2,o2+k * 4,none⟩)),(37, .pointer (some ⟨b2,o2+k * 4+1,none⟩)),(38, .int .i64 x2),(39, .bool false),(40, .bool false),(41, .bool false),(42, .slice (some ⟨b,o,none⟩) n lc),(43, .int .i64 (k:Int)),(44, .pointer (some ⟨b,o+k * 4,none⟩)),(45, .pointer (some ⟨b,o+k * 4+2,none⟩)),(46,p1),(47, .slice (some ⟨b2,o2,none⟩) n lc2),(48, .int .i64 (k:Int)),(49, .pointer (some ⟨b2,o2+k * 4,none⟩)),(50, .pointer (some ⟨b2,o2+k * 4+2,none⟩)),(51,p2),(52, .bool false),(53, .bool true),(54, .bool true),(55, .bool true),(56,undef),(57,undef),(58,undef),(59,undef),(60,undef),(61,undef),(62,undef),(63,undef),(64,undef),(65,undef),(66,undef),(67,undef),(68, .bool true)]) w1):c.wp Tryz.prog Q a w:=by
 have ok:(gCc3 b o n lc b2 o2 lc2 k t1 t2 x1 x2 p1 p2 r1 r2 w0 fp0 R).Ok 52:=Rg.ok _ 52 [2,4,7,9,10,14,16,19,21,22,27,29,32,34,35,39,40,41,42,43,44,45,46,47,48,49,50] ⟨.indexO _ 2 b o n lc k 4 hk, .loadR1 _ 4 (.int .i64 t1) ha0, .indexO _ 7 b2 o2 n lc2 k 4 hk, .loadR1 _ 9 (.int .i64 t2) hb0, .neqB _ 10 t1 t2 false h10, .indexO _ 14 b o n lc k 4 hk, .loadR1 _ 16 (.int .i64 x1) ha1, .indexO _ 19 b2 o2 n lc2 k 4 hk, .loadR1 _ 21 (.int .i64 x2) hb1, .neqB _ 22 x1 x2 false h22, .indexO _ 27 b o n lc k 4 hk, .loadR1 _ 29 (p1) ha2, .indexO _ 32 b2 o2 n lc2 k 4 hk, .loadR1 _ 34 (p2) hb2, .askR _ 35 h35, .skip _ 39, .skip _ 40, .skip _ 41, .skip _ 42, .skip _ 43, .skip _ 44, .skip _ 45, .skip _ 46, .skip _ 47, .skip _ 48, .skip _ 49, .skip _ 50,trivial⟩
 refine wp_regD ok (by kernel_rfl) ⟨c1,c2⟩ ⟨c3,fun p hp=> ?_⟩ hS fun A1 w1 N1 H1=> ?_
 · simp only [gCc3,rgx,List.map_nil,List.append_nil,List.mem_cons,List.not_mem_nil,or_false] at hp
   rcases hp with rfl | rfl | rfl
   · exact i0
   · exact i1
   · exact i5
 have e17:=N1.val 0 rfl
 have e18:=N1.val 1 rfl
 have e19:=N1.val 2 rfl
 have e20:=N1.val 3 rfl
 have e21:=N1.val 4 rfl
 have e22:=N1.val 5 rfl
 have e23:=N1.val 6 rfl
 have e24:=N1.val 7 rfl
 have e25:=N1.val 8 rfl
 have e26:=N1.val 9 rfl
 have e27:=N1.val 10 rfl
 have e28:=N1.val 11 rfl
 have e29:=N1.val 12 rfl
 have e30:=N1.val 13 rfl
 have e31:=N1.val 14 rfl
 have e32:=N1.val 15 rfl
 have e33:=N1.val 16 rfl
 have e34:=N1.val 17 rfl
 have e35:=N1.val 18 rfl
 have e36:=N1.val 19 rfl
 have e37:=N1.val 20 rfl
 have e38:=N1.val 21 rfl
 have e39:=N1.val 22 rfl
 have e40:=N1.val 23 rfl
 have e41:=N1.val 24 rfl
 have e42:=N1.val 25 rfl
 have e43:=N1.val 26 rfl
 have e44:=N1.val 27 rfl
 have e45:=N1.val 28 rfl
 have e46:=N1.val 29 rfl
 have e47:=N1.val 30 rfl
 have e48:=N1.val 31 rfl
 have e49:=N1.val 32 rfl
 have e50:=N1.val 33 rfl
 have e51:=N1.val 34 rfl
 have e52:=N1.val 35 rfl
 have e53:=N1.val 36 rfl
 have e54:=N1.val 37 rfl
 have e55:=N1.val 38 rfl
 have e56:=N1.val 39 rfl
 have e57:=N1.val 40 rfl
 have e58:=N1.val 41 rfl
 have e59:=N1.val 42 rfl
 have e60:=N1.val 43 rfl
 have e61:=N1.val 44 rfl
 have e62:=N1.val 45 rfl
 have e63:=N1.val 46 rfl
 have e64:=N1.val 47 rfl
 have e65:=N1.val 48 rfl
 have e66:=N1.val 49 rfl
 have e67:=N1.val 50 rfl
 have e68:=N1.val 51 rfl
 have h:=hQ  w1  H1
 rw [frame_eq N1.frame (cons_eq e17 (cons_eq e18 (cons_eq e19 (cons_eq e20 (cons_eq e21 (cons_eq e22 (cons_eq e23 (cons_eq e24 (cons_eq e25 (cons_eq e26 (cons_eq e27 (cons_eq e28 (cons_eq e29 (cons_eq e30 (cons_eq e31 (cons_eq e32 (cons_eq e33 (cons_eq e34 (cons_eq e35 (cons_eq e36 (cons_eq e37 (cons_eq e38 (cons_eq e39 (cons_eq e40 (cons_eq e41 (cons_eq e42 (cons_eq e43 (cons_eq e44 (cons_eq e45 (cons_eq e46 (cons_eq e47 (cons_eq e48 (cons_eq e49 (cons_eq e50 (cons_eq e51 (cons_eq e52 (cons_eq e53 (cons_eq e54 (cons_eq e55 (cons_eq e56 (cons_eq e57 (cons_eq e58 (cons_eq e59 (cons_eq e60 (cons_eq e61 (cons_eq e62 (cons_eq e63 (cons_eq e64 (cons_eq e65 (cons_eq e66 (cons_eq e67 (cons_eq e68 rfl))))))))))))))))))))))))))))))))))))))))))))))))))))]
 exact h
noncomputable def gCc4 (b o n lc b2 o2 lc2 k:Nat) (t1 t2 x1 x2:Int) (p1 p2 r1 r2:Value) (q:Bool):=rgx Tryz.prog Tryz.f27 6 69 [17,18,19,20,21,22,23,24,25,26,27,28,29,30,31,32,33,34,35,36,37,38,39,40,41,42,43,44,45,46,47,48,49,50,51,52,53,54,55,56,57,58,59,60,61,62,63,64,65,66,67,68] [(0, .slice (some ⟨b,o,none⟩) n lc),(1, .slice (some ⟨b2,o2,none⟩) n lc2),(5, .int .i64 (k:Int))] (Vq 0 17 [Kv (.slice (some ⟨b,o,none⟩) n lc),Kv (.int .i64 (k:Int)),Kp b (o+k * 4),Kp b (o+k * 4),Kv (.int .i64 t1),Kv (.slice (some ⟨b2,o2,none⟩) n lc2),Kv (.int .i64 (k:Int)),Kp b2 (o2+k * 4),Kp b2 (o2+k * 4),Kv (.int .i64 t2),Kv (.bool false),Kv (.bool false),Kv (.slice (some ⟨b,o,none⟩) n lc),Kv (.int .i64 (k:Int)),Kp b (o+k * 4),Kp b (o+k * 4+1),Kv (.int .i64 x1),Kv (.slice (some ⟨b2,o2,none⟩) n lc2),Kv (.int .i64 (k:Int)),Kp b2 (o2+k * 4),Kp b2 (o2+k * 4+1),Kv (.int .i64 x2),Kv (.bool false),Kv (.bool false),Kv (.bool false),Kv (.slice (some ⟨b,o,none⟩) n lc),Kv (.int .i64 (k:Int)),Kp b (o+k * 4),Kp b (o+k * 4+2),Kv p1,Kv (.slice (some ⟨b2,o2,none⟩) n lc2),Kv (.int .i64 (k:Int)),Kp b2 (o2+k * 4),Kp b2 (o2+k * 4+2),Kv p2,Kv (.bool true),Kv (.bool false),Kv (.bool false),Kv (.bool false),Kv (.slice (some ⟨b,o,none⟩) n lc),Kv (.int .i64 (k:Int)),Kp b (o+k * 4),Kp b (o+k * 4+3),Kv r1,Kv (.slice (some ⟨b2,o2,none⟩) n lc2),Kv (.int .i64 (k:Int)),Kp b2 (o2+k * 4),Kp b2 (o2+k * 4+3),Kv r2,Kv (.bool (q)),Kv (.bool (!q)),Kv (.bool (!q))]) []
theorem rCc4 (b o n lc b2 o2 lc2 k:Nat) (t1 t2 x1 x2:Int) (p1 p2 r1 r2:Value) (q:Bool) (w0:World) (fp0:List Nat) (R:List Asn) (hk:k < n) (ha0:∀L w,St w0 fp0 (L++R) w→w.cell? ⟨b,o+k * 4,none⟩=some (.int .i64 t1)) (hb0:∀L w,St w0 fp0 (L++R) w→w.cell? ⟨b2,o2+k * 4,none⟩=some (.int .i64 t2)) (h10:decide (t1≠t2)=false) (ha1:∀L w,St w0 fp0 (L++R) w→w.cell? ⟨b,o+k * 4+1,none⟩=some (.int .i64 x1)) (hb1:∀L w,St w0 fp0 (L++R) w→w.cell? ⟨b2,o2+k * 4+1,none⟩=some (.int .i64 x2)) (h22:decide (x1≠x2)=false) (ha2:∀L w,St w0 fp0 (L++R) w→w.cell? ⟨b,o+k * 4+2,none⟩=some (p1)) (hb2:∀L w,St w0 fp0 (L++R) w→w.cell? ⟨b2,o2+k * 4+2,none⟩=some (p2)) (h35:∀L w,St w0 fp0 (L++R) w→Calls Tryz.prog 47 #[p1,p2] w fun e w'=> e=.returned (.bool true)∧Below w.heap.size w w') (ha3:∀L w,St w0 fp0 (L++R) w→w.cell? ⟨b,o+k * 4+3,none⟩=some (r1)) (hb3:∀L w,St w0 fp0 (L++R) w→w.cell? ⟨b2,o2+k * 4+3,none⟩=some (r2)) (h49:∀L w,St w0 fp0 (L++R) w→Calls Tryz.prog 47 #[r1,r2] w fun e w'=> e=.returned (.bool q)∧Below w.heap.size w w') {w:World} {c:Code} {a:Act} {Q:Exit→Act→World→Prop} (c1:isReg c=true) (c2:cops c=opsR Tryz.f27 6) (c3:a.tmps.size=69) (_c4:a.defers=a.defers) (i0:a.eval (.tmp 0)=.slice (some ⟨b,o,none⟩) n lc) (i1:a.eval (.tmp 1)=.slice (some ⟨b2,o2,none⟩) n lc2) (i5:a.eval (.tmp 5)=.int .i64 (k:Int))
 (hS:St w0 fp0 ([]++R) w)
 (hQ:∀(w1:World),St w0 fp0 ([]++R) w1→Q .normal (putL a [(17, .slice (some ⟨b,o,none⟩) n lc),(18, .int .i64 (k:Int)),(19, .pointer (some ⟨b,o+k * 4,none⟩)),(20, .pointer (some ⟨b,o+k * 4,none⟩)),(21, .int .i64 t1),(22, .slice (some ⟨b2,o2,none⟩) n lc2),(23, .int .i64 (k:Int)),(24, .pointer (some ⟨b2,o2+k * 4,none⟩)),(25, .pointer (some ⟨b2,o2+k * 4,none⟩)),(26, .int .i64 t2),(27, .bool false),(28, .bool false),(29, .slice (some ⟨b,o,none⟩) n lc),(30, .int .i64 (k:Int)),(31, .pointer (some ⟨b,o+k * 4,none⟩)),(32, .pointer (some ⟨b,o+k * 4+1,none⟩)),(33, .int .i64 x1),(34, .slice (some ⟨b2,o2,none⟩) n lc2),(35, .int .i64 (k:Int)),(36, .pointer (some ⟨b2,o2+k * 4,none⟩)),(37, .pointer (some ⟨b2,o2+k * 4+1,none⟩)),(38, .int .i64 x2),(39, .bool false),(40, .bool false),(41, .bool false),(42, .slice (some ⟨b,o,none⟩) n lc),(43, .int .i64 (k:Int)),(44, .pointer (some ⟨b,o+k * 4,none⟩)),(45, .pointer (some ⟨b,o+k * 4+2,none⟩)),(46,p1),(47, .slice (some ⟨b2,o2,none⟩) n lc2),(48, .int .i64 (k:Int)),(49, .pointer (some ⟨b2,o2+k * 4,none⟩)),(50, .pointer (some ⟨b2,o2+k * 4+2,none⟩)),(51,p2),(52, .bool true),(53, .bool false),(54, .bool false),(55, .bool false),(56, .slice (some ⟨b,o,none⟩) n lc),(57, .int .i64 (k:Int)),(58, .pointer (some ⟨b,o+k * 4,none⟩)),(59, .pointer (some ⟨b,o+k * 4+3,none⟩)),(60,r1),(61, .slice (some ⟨b2,o2,none⟩) n lc2),(62, .int .i64 (k:Int)),(63, .pointer (some ⟨b2,o2+k * 4,none⟩)),(64, .pointer (some ⟨b2,o2+k * 4+3,none⟩)),(65,r2),(66, .bool (q)),(67, .bool (!q)),(68, .bool (!q))]) w1):c.wp Tryz.prog Q a w:=by
 have ok:(gCc4 b o n lc b2 o2 lc2 k t1 t2 x1 x2 p1 p2 r1 r2 q w0 fp0 R).Ok 52:=Rg.ok _ 52 [2,4,7,9,10,14,16,19,21,22,27,29,32,34,35,41,43,46,48,49] ⟨.indexO _ 2 b o n lc k 4 hk, .loadR1 _ 4 (.int .i64 t1) ha0, .indexO _ 7 b2 o2 n lc2 k 4 hk, .loadR1 _ 9 (.int .i64 t2) hb0, .neqB _ 10 t1 t2 false h10, .indexO _ 14 b o n lc k 4 hk, .loadR1 _ 16 (.int .i64 x1) ha1, .indexO _ 19 b2 o2 n lc2 k 4 hk, .loadR1 _ 21 (.int .i64 x2) hb1, .neqB _ 22 x1 x2 false h22, .indexO _ 27 b o n lc k 4 hk, .loadR1 _ 29 (p1) ha2, .indexO _ 32 b2 o2 n lc2 k 4 hk, .loadR1 _ 34 (p2) hb2, .askR _ 35 h35, .indexO _ 41 b o n lc k 4 hk, .loadR1 _ 43 (r1) ha3, .indexO _ 46 b2 o2 n lc2 k 4 hk, .loadR1 _ 48 (r2) hb3, .askR _ 49 h49,trivial⟩
 refine wp_regD ok (by kernel_rfl) ⟨c1,c2⟩ ⟨c3,fun p hp=> ?_⟩ hS fun A1 w1 N1 H1=> ?_
 · simp only [gCc4,rgx,List.map_nil,List.append_nil,List.mem_cons,List.not_mem_nil,or_false] at hp
   rcases hp with rfl | rfl | rfl
   · exact i0
   · exact i1
   · exact i5
 have e17:=N1.val 0 rfl
 have e18:=N1.val 1 rfl
 have e19:=N1.val 2 rfl
 have e20:=N1.val 3 rfl
 have e21:=N1.val 4 rfl
 have e22:=N1.val 5 rfl
 have e23:=N1.val 6 rfl
 have e24:=N1.val 7 rfl
 have e25:=N1.val 8 rfl
 have e26:=N1.val 9 rfl
 have e27:=N1.val 10 rfl
 have e28:=N1.val 11 rfl
 have e29:=N1.val 12 rfl
 have e30:=N1.val 13 rfl
 have e31:=N1.val 14 rfl
 have e32:=N1.val 15 rfl
 have e33:=N1.val 16 rfl
 have e34:=N1.val 17 rfl
 have e35:=N1.val 18 rfl
 have e36:=N1.val 19 rfl
 have e37:=N1.val 20 rfl
 have e38:=N1.val 21 rfl
 have e39:=N1.val 22 rfl
 have e40:=N1.val 23 rfl
 have e41:=N1.val 24 rfl
 have e42:=N1.val 25 rfl
 have e43:=N1.val 26 rfl
 have e44:=N1.val 27 rfl
 have e45:=N1.val 28 rfl
 have e46:=N1.val 29 rfl
 have e47:=N1.val 30 rfl
 have e48:=N1.val 31 rfl
 have e49:=N1.val 32 rfl
 have e50:=N1.val 33 rfl
 have e51:=N1.val 34 rfl
 have e52:=N1.val 35 rfl
 have e53:=N1.val 36 rfl
 have e54:=N1.val 37 rfl
 have e55:=N1.val 38 rfl
 have e56:=N1.val 39 rfl
 have e57:=N1.val 40 rfl
 have e58:=N1.val 41 rfl
 have e59:=N1.val 42 rfl
 have e60:=N1.val 43 rfl
 have e61:=N1.val 44 rfl
 have e62:=N1.val 45 rfl
 have e63:=N1.val 46 rfl
 have e64:=N1.val 47 rfl
 have e65:=N1.val 48 rfl
 have e66:=N1.val 49 rfl
 have e67:=N1.val 50 rfl
 have e68:=N1.val 51 rfl
 have h:=hQ  w1  H1
 rw [frame_eq N1.frame (cons_eq e17 (cons_eq e18 (cons_eq e19 (cons_eq e20 (cons_eq e21 (cons_eq e22 (cons_eq e23 (cons_eq e24 (cons_eq e25 (cons_eq e26 (cons_eq e27 (cons_eq e28 (cons_eq e29 (cons_eq e30 (cons_eq e31 (cons_eq e32 (cons_eq e33 (cons_eq e34 (cons_eq e35 (cons_eq e36 (cons_eq e37 (cons_eq e38 (cons_eq e39 (cons_eq e40 (cons_eq e41 (cons_eq e42 (cons_eq e43 (cons_eq e44 (cons_eq e45 (cons_eq e46 (cons_eq e47 (cons_eq e48 (cons_eq e49 (cons_eq e50 (cons_eq e51 (cons_eq e52 (cons_eq e53 (cons_eq e54 (cons_eq e55 (cons_eq e56 (cons_eq e57 (cons_eq e58 (cons_eq e59 (cons_eq e60 (cons_eq e61 (cons_eq e62 (cons_eq e63 (cons_eq e64 (cons_eq e65 (cons_eq e66 (cons_eq e67 (cons_eq e68 rfl))))))))))))))))))))))))))))))))))))))))))))))))))))]
 exact h
end Go.Proofs.YtpdlkdoogojboaaGreat
