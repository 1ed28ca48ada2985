/- Part 12 of the proof: Jw, Jp, Jq, Jx, Jy -/
import Derived.Test.YtpdlkdoogojboaaGreatZ11
import Derived.Test.YtpdlkdoogojboaaGreatZ09
/- Changes. -/
namespace Go.Proofs.YtpdlkdoogojboaaGreat
open Go Go.RowKit
theorem ChsX.at {w:World} {l:List Chg} {b o m lc:Nat} (h:ChsX w l (.slice (some ⟨b,o,none⟩) m lc)) (k:Nat) (hk:k < l.length) {W:World} (hb:Below w.heap.size w W):W.cell? ⟨b,o+k * 4,none⟩=some (.int .i64 (l[k]'hk).tb)∧W.cell? ⟨b,o+k * 4+1,none⟩=some (.int .i64 (l[k]'hk).id)∧W.cell? ⟨b,o+k * 4+2,none⟩=some (l[k]'hk).ov∧W.cell? ⟨b,o+k * 4+3,none⟩=some (l[k]'hk).nv:=by
 obtain ⟨b2,o2,c2,e2, -,d0,d1,d2,d3⟩:=(h.mono hb).cells k hk
 obtain ⟨e3, -, -⟩:=Value.slice.inj e2
 cases e3
 exact ⟨d0,d1,d2,d3⟩
theorem ChsX.ptr {w:World} {l:List Chg} {a:Option Addr} {m lc:Nat} (h:ChsX w l (.slice a m lc)) (hk:0 < l.length):∃b o,a=some ⟨b,o,none⟩:=by
 obtain ⟨b2,o2,c2,e2, -⟩:=h.cells 0 hk
 obtain ⟨e3, -, -⟩:=Value.slice.inj e2
 exact ⟨b2,o2,e3⟩
theorem cp_take {a b:List Chg} {k:Nat} (ha:k < a.length) (hb:k < b.length) (h:(a.take k).map Chg.cp=(b.take k).map Chg.cp) (h2:(a[k]'ha).cp=(b[k]'hb).cp):(a.take (k+1)).map Chg.cp=(b.take (k+1)).map Chg.cp:=by
 rw [List.take_add_one,List.take_add_one,List.getElem?_eq_getElem ha,List.getElem?_eq_getElem hb,List.map_append,List.map_append,h]
 simp [h2]
theorem cp_ne {a b:List Chg} {k:Nat} (ha:k < a.length) (hb:k < b.length) (h2:(a[k]'ha).cp≠(b[k]'hb).cp):a.map Chg.cp≠b.map Chg.cp:=fun e=> by
 have:=congrArg (fun l=> l[k]?) e
 simp only [List.getElem?_map,List.getElem?_eq_getElem ha,List.getElem?_eq_getElem hb,Option.map_some] at this
 exact h2 (Option.some.inj this)
set_option maxHeartbeats 8000000 in
set_option maxRecDepth 20000 in
theorem rchanges_calls (a b:List Chg) (av bv:Value) (w:World) (ha:ChsX w a av) (hb:ChsX w b bv):
 Calls Tryz.prog 27 #[av,bv] w fun e w'=> e=.returned (.bool (decide (a.map Chg.cp=b.map Chg.cp)))∧Below w.heap.size w w':=by
 obtain ⟨aa,ac,rfl⟩:=ha.sl.shape
 obtain ⟨ba,bc,rfl⟩:=hb.sl.shape
 have hma:=ha.sl.1
 obtain ⟨n,hn⟩:∃n,a.length=n:=⟨_,rfl⟩
 obtain ⟨m,hm⟩:∃m,b.length=m:=⟨_,rfl⟩
 obtain ⟨q,hq⟩:∃q,decide (a.map Chg.cp=b.map Chg.cp)=q:=⟨_,rfl⟩
 rw [hq]
 have HQ:=Lib.hid hq
 have HA:=Lib.hid ha
 have HB:=Lib.hid hb
 rw [hn] at HA hma ⊢
 rw [hm] at HB ⊢
 have HN:=Lib.hid hn
 have HM:=Lib.hid hm
 unfold maxLen at hma
 have HS0:=Lib.hid (St.start (w:=w) (L:=[]) (fp:=[]) rfl)
 clear ha hb hq hn hm
 by_cases hnm:n=m
 · subst hnm
   go_enter Tryz.func27,Tryz.ntmps27
   go_upto_region 4 with (fail)
   go_loopg [5] n (fun g z5 wr=> ∃k:Nat,z5=.int .i64 k∧g+k=n∧RowKit.Hid ((a.take k).map Chg.cp=(b.take k).map Chg.cp)∧RowKit.Hid (St w [] [] wr))
   case atStart=> exact ⟨0,rfl,rfl,rfl,HS0⟩
   case round=>
    clear HS0
    obtain ⟨k,rfl,hgk,He,Hs⟩:=hrel
    by_cases hk:k < n
    · have hka:k < a.length:=by rw [HN.out];exact hk
      have hkb:k < b.length:=by rw [HM.out];exact hk
      obtain ⟨ab,ao,rfl⟩:=HA.out.ptr (by omega)
      obtain ⟨bb,bo,rfl⟩:=HB.out.ptr (by omega)
      have HRA:=Lib.hid (fun (W:World) (h:Below w.heap.size w W)=> HA.out.at k hka h)
      have HRB:=Lib.hid (fun (W:World) (h:Below w.heap.size w W)=> HB.out.at k hkb h)
      have HXA:=Lib.hid (fun (W:World) (h:Below w.heap.size w W)=> (HA.out.mono h).ch _ (List.getElem_mem hka))
      have HXB:=Lib.hid (fun (W:World) (h:Below w.heap.size w W)=> (HB.out.mono h).ch _ (List.getElem_mem hkb))
      have HNE:RowKit.Hid ((a[k]'hka).cp≠(b[k]'hkb).cp→q=false):=fun h=> by
       rw [←HQ.out]
       exact decide_eq_false (cp_ne hka hkb h)
      have HNX:RowKit.Hid ((a[k]'hka).cp=(b[k]'hkb).cp→(a.take (k+1)).map Chg.cp=(b.take (k+1)).map Chg.cp):=fun h=> cp_take hka hkb He.out h
      have hkn:(k:Int) < n:=by omega
      have Hgk:=Lib.hid hgk
      generalize a[k]'hka=A at *
      generalize b[k]'hkb=B at *
      clear hgk hka hkb
      obtain ⟨t1,x1,oa1,oc1,na1,nc1,o1,n1⟩:=A
      obtain ⟨t2,x2,oa2,oc2,na2,nc2,o2,n2⟩:=B
      unfold Chg.ov Chg.nv at HRA
      unfold Chg.ov Chg.nv at HRB
      simp only at HRA HRB
      have HSO:RowKit.Hid (∀W,Below w.heap.size w W→Calls Tryz.prog 47 #[.slice oa1 o1.length oc1, .slice oa2 o2.length oc2] W fun e w'=> e=.returned (.bool (decide (o1=o2)))∧Below W.heap.size W w'):=fun W h=> rsame_calls o1 o2 _ _ W (HXA.out W h).old (HXB.out W h).old
      have HSN:RowKit.Hid (∀W,Below w.heap.size w W→Calls Tryz.prog 47 #[.slice na1 n1.length nc1, .slice na2 n2.length nc2] W fun e w'=> e=.returned (.bool (decide (n1=n2)))∧Below W.heap.size W w'):=fun W h=> rsame_calls n1 n2 _ _ W (HXA.out W h).new (HXB.out W h).new
      simp only [Chg.cp] at HNE HNX
      go_upto_region 6 with (fail)
      by_cases h1:t1=t2
      · by_cases h2:x1=x2
        · by_cases h3:o1=o2
          · obtain ⟨q2,hq2⟩:∃q2,decide (n1=n2)=q2:=⟨_,rfl⟩
            refine rCc4 (w0:=w) (fp0:=[]) (R:=[]) ab ao n ac bb bo bc k t1 t2 x1 x2 (.slice oa1 o1.length oc1) (.slice oa2 o2.length oc2) (.slice na1 n1.length nc1) (.slice na2 n2.length nc2) q2 hk
             (fun L W h=> (HRA.out W h.below0).1) (fun L W h=> (HRB.out W h.below0).1) (by simp [h1]) (fun L W h=> (HRA.out W h.below0).2.1) (fun L W h=> (HRB.out W h.below0).2.1) (by simp [h2])
             (fun L W h=> (HRA.out W h.below0).2.2.1) (fun L W h=> (HRB.out W h.below0).2.2.1) (fun L W h=> (HSO.out W h.below0).mono fun e w' he=> ⟨he.1.trans (by rw [decide_eq_true h3]),he.2⟩)
             (fun L W h=> (HRA.out W h.below0).2.2.2) (fun L W h=> (HRB.out W h.below0).2.2.2) (fun L W h=> (HSN.out W h.below0).mono fun e w' he=> ⟨he.1.trans (by rw [hq2]),he.2⟩)
             rfl (by kernel_rfl) rfl rfl rfl rfl rfl Hs.out ?_
            intro w1 h5
            have HS1:RowKit.Hid (St w [] [] w1):=h5
            clear h5
            simp only [putL,List.foldl,Act.put,List.setIfInBounds_toArray,List.set_cons_succ,List.set_cons_zero]
            cases q2 with
            | true=>
             have hn12:n1=n2:=of_decide_eq_true hq2
             have HNX2:=Lib.hid (HNX.out (by rw [h1,h2,h3,hn12]))
             clear hq2 hn12 h1 h2 h3
             go_wp2
             go_roundg (gk - 1)
             case rel=> exact ⟨k+1,by go_num,by have:=Hgk.out;omega,HNX2,HS1⟩
             case measure=> have:=Hgk.out;omega
            | false=>
             have hn12:n1≠n2:=of_decide_eq_false hq2
             have HF:=Lib.hid (HNE.out (fun e=> hn12 (Cp.mk.inj e).2.2.2))
             clear hq2 hn12 h1 h2 h3
             go_wp2
             go_ret
             exact ⟨by rw [HF.out];rfl,HS1.out.below0⟩
          · have HF:=Lib.hid (HNE.out (fun e=> h3 (Cp.mk.inj e).2.2.1))
            refine rCc3 (w0:=w) (fp0:=[]) (R:=[]) ab ao n ac bb bo bc k t1 t2 x1 x2 (.slice oa1 o1.length oc1) (.slice oa2 o2.length oc2) (.slice na1 n1.length nc1) (.slice na2 n2.length nc2) hk
             (fun L W h=> (HRA.out W h.below0).1) (fun L W h=> (HRB.out W h.below0).1) (by simp [h1]) (fun L W h=> (HRA.out W h.below0).2.1) (fun L W h=> (HRB.out W h.below0).2.1) (by simp [h2])
             (fun L W h=> (HRA.out W h.below0).2.2.1) (fun L W h=> (HRB.out W h.below0).2.2.1) (fun L W h=> (HSO.out W h.below0).mono fun e w' he=> ⟨he.1.trans (by rw [decide_eq_false h3]),he.2⟩)
             rfl (by kernel_rfl) rfl rfl rfl rfl rfl Hs.out ?_
            intro w1 h5
            have HS1:RowKit.Hid (St w [] [] w1):=h5
            clear h5 h1 h2 h3
            simp only [putL,List.foldl,Act.put,List.setIfInBounds_toArray,List.set_cons_succ,List.set_cons_zero]
            go_wp2
            go_ret
            exact ⟨by rw [HF.out];rfl,HS1.out.below0⟩
        · have HF:=Lib.hid (HNE.out (fun e=> h2 (Cp.mk.inj e).2.1))
          refine rCc2 (w0:=w) (fp0:=[]) (R:=[]) ab ao n ac bb bo bc k t1 t2 x1 x2 (.slice oa1 o1.length oc1) (.slice oa2 o2.length oc2) (.slice na1 n1.length nc1) (.slice na2 n2.length nc2) hk
           (fun L W h=> (HRA.out W h.below0).1) (fun L W h=> (HRB.out W h.below0).1) (by simp [h1]) (fun L W h=> (HRA.out W h.below0).2.1) (fun L W h=> (HRB.out W h.below0).2.1) (by simp [h2])
           rfl (by kernel_rfl) rfl rfl rfl rfl rfl Hs.out ?_
          intro w1 h5
          have HS1:RowKit.Hid (St w [] [] w1):=h5
          clear h5 h1 h2
          simp only [putL,List.foldl,Act.put,List.setIfInBounds_toArray,List.set_cons_succ,List.set_cons_zero]
          go_wp2
          go_ret
          exact ⟨by rw [HF.out];rfl,HS1.out.below0⟩
      · have HF:=Lib.hid (HNE.out (fun e=> h1 (Cp.mk.inj e).1))
        refine rCc1 (w0:=w) (fp0:=[]) (R:=[]) ab ao n ac bb bo bc k t1 t2 x1 x2 (.slice oa1 o1.length oc1) (.slice oa2 o2.length oc2) (.slice na1 n1.length nc1) (.slice na2 n2.length nc2) hk
         (fun L W h=> (HRA.out W h.below0).1) (fun L W h=> (HRB.out W h.below0).1) (by simp [h1])
         rfl (by kernel_rfl) rfl rfl rfl rfl rfl Hs.out ?_
        intro w1 h5
        have HS1:RowKit.Hid (St w [] [] w1):=h5
        clear h5 h1
        simp only [putL,List.foldl,Act.put,List.setIfInBounds_toArray,List.set_cons_succ,List.set_cons_zero]
        go_wp2
        go_ret
        exact ⟨by rw [HF.out];rfl,HS1.out.below0⟩
    · obtain rfl:k=n:=by omega
      have HF:RowKit.Hid (q=true):=by
       show _=_
       rw [←HQ.out]
       have h:=He.out
       rw [List.take_of_length_le (by rw [HN.out];exact Nat.le_refl _),List.take_of_length_le (by rw [HM.out];exact Nat.le_refl _)] at h
       exact decide_eq_true h
      clear hgk hk
      go_wp2
      go_ret
      exact ⟨by rw [HF.out];rfl,Hs.out.below0⟩
 · have HF:RowKit.Hid (q=false):=by
    show _=_
    rw [←HQ.out]
    refine decide_eq_false fun e=> hnm ?_
    have:=congrArg List.length e
    rw [List.length_map,List.length_map,HN.out,HM.out] at this
    exact this
   have hne:((n:Int) !=m)=true:=by simp;omega
   go_enter Tryz.func27,Tryz.ntmps27
   go_wp2
   go_ret
   exact ⟨by rw [HF.out];rfl,Below.refl _ _⟩
/- ChangeBytes: its drawn region. -/
set_option maxRecDepth 100000
noncomputable def gCb7 (b o n lc k:Nat) (tb id:Int) (z ov nv:Value) (xs:List UInt8) (old new:Rw):=rgxq Tryz.prog Tryz.f25 7 56 [30,31,32,33,34,35,36,37,38,39,40,41,42,43,44,45,46,47,48,49,50,51,52,53,54,3] [(0, .slice (some ⟨b,o,none⟩) n lc),(4, .int .i64 (k:Int))] [(3,z,25)] (Vq 0 30 [Kv z,Kv (.slice (some ⟨b,o,none⟩) n lc),Kv (.int .i64 (k:Int)),Kp b (o+k * 4),Kp b (o+k * 4),Kv (.int .i64 tb)]++Vq 7 37 [Kv (.slice (some ⟨b,o,none⟩) n lc),Kv (.int .i64 (k:Int)),Kp b (o+k * 4),Kp b (o+k * 4+1),Kv (.int .i64 id)]++Vq 13 43 [Kv (.slice (some ⟨b,o,none⟩) n lc),Kv (.int .i64 (k:Int)),Kp b (o+k * 4),Kp b (o+k * 4+2),Kv ov]++Vq 19 49 [Kv (.slice (some ⟨b,o,none⟩) n lc),Kv (.int .i64 (k:Int)),Kp b (o+k * 4),Kp b (o+k * 4+3),Kv nv]++Vq 25 3 [Fv [54] fun g=> g 54]) [.gen [6,12,18,24] [36,42,48,54] fun L g=> match L 24 with | true=> slA 5 (g 54) (((((xs++numL tb)++numL id)++rowB old)++rowB new).map u8C) | false=> match L 18 with | true=> slA 5 (g 48) ((((xs++numL tb)++numL id)++rowB old).map u8C) | false=> match L 12 with | true=> slA 5 (g 42) (((xs++numL tb)++numL id).map u8C) | false=> match L 6 with | true=> slA 5 (g 36) ((xs++numL tb).map u8C) | false=> slA 5 (z) ((xs).map u8C)]
theorem rCb7 (b o n lc k:Nat) (tb id:Int) (z ov nv:Value) (xs:List UInt8) (old new:Rw) (w0:World) (fp0:List Nat) (R:List Asn) (hk:k < n) (hc0:∀L w,St w0 fp0 (L++R) w→w.cell? ⟨b,o+k * 4,none⟩=some (.int .i64 tb)) (hc1:∀L w,St w0 fp0 (L++R) w→w.cell? ⟨b,o+k * 4+1,none⟩=some (.int .i64 id)) (hc2:∀L w,St w0 fp0 (L++R) w→w.cell? ⟨b,o+k * 4+2,none⟩=some (ov)) (hc3:∀L w,St w0 fp0 (L++R) w→w.cell? ⟨b,o+k * 4+3,none⟩=some (nv)) (h1:∀u w,St w0 fp0 ([slA 5 (u) ((xs).map u8C)]++R) w→Calls Tryz.prog 61 #[u, .int .i64 tb] w fun e w'=> ∃b',e=.returned b'∧St w0 fp0 (slA 5 (b') ((xs++numL tb).map u8C)::R) w') (h2:∀u w,St w0 fp0 ([slA 5 (u) ((xs++numL tb).map u8C)]++R) w→Calls Tryz.prog 61 #[u, .int .i64 id] w fun e w'=> ∃b',e=.returned b'∧St w0 fp0 (slA 5 (b') (((xs++numL tb)++numL id).map u8C)::R) w') (h3:∀u w,St w0 fp0 ([slA 5 (u) (((xs++numL tb)++numL id).map u8C)]++R) w→Calls Tryz.prog 63 #[u,ov] w fun e w'=> ∃b',e=.returned b'∧St w0 fp0 (slA 5 (b') ((((xs++numL tb)++numL id)++rowB old).map u8C)::R) w') (h4:∀u w,St w0 fp0 ([slA 5 (u) ((((xs++numL tb)++numL id)++rowB old).map u8C)]++R) w→Calls Tryz.prog 63 #[u,nv] w fun e w'=> ∃b',e=.returned b'∧St w0 fp0 (slA 5 (b') (((((xs++numL tb)++numL id)++rowB old)++rowB new).map u8C)::R) w') {w:World} {c:Code} {a:Act} {Q:Exit→Act→World→Prop} (c1:isReg c=true) (c2:cops c=opsR Tryz.f25 7) (c3:a.tmps.size=56) (_c4:a.defers=a.defers) (i0:a.eval (.tmp 0)=.slice (some ⟨b,o,none⟩) n lc) (i4:a.eval (.tmp 4)=.int .i64 (k:Int)) (i3:a.eval (.tmp 3)=z)
 (hS:St w0 fp0 ([slA 5 (z) ((xs).map u8C)]++R) w)
 (hQ:∀(u36 u42 u48 u54:Value) (w1:World),St w0 fp0 ([slA 5 (u54) (((((xs++numL tb)++numL id)++rowB old)++rowB new).map u8C)]++R) w1→Q .normal (putL a [(30,z),(31, .slice (some ⟨b,o,none⟩) n lc),(32, .int .i64 (k:Int)),(33, .pointer (some ⟨b,o+k * 4,none⟩)),(34, .pointer (some ⟨b,o+k * 4,none⟩)),(35, .int .i64 tb),(36,u36),(37, .slice (some ⟨b,o,none⟩) n lc),(38, .int .i64 (k:Int)),(39, .pointer (some ⟨b,o+k * 4,none⟩)),(40, .pointer (some ⟨b,o+k * 4+1,none⟩)),(41, .int .i64 id),(42,u42),(43, .slice (some ⟨b,o,none⟩) n lc),(44, .int .i64 (k:Int)),(45, .pointer (some ⟨b,o+k * 4,none⟩)),(46, .pointer (some ⟨b,o+k * 4+2,none⟩)),(47,ov),(48,u48),(49, .slice (some ⟨b,o,none⟩) n lc),(50, .int .i64 (k:Int)),(51, .pointer (some ⟨b,o+k * 4,none⟩)),(52, .pointer (some ⟨b,o+k * 4+3,none⟩)),(53,nv),(54,u54),(3,u54)]) w1):c.wp Tryz.prog Q a w:=by
 have ok:(gCb7 b o n lc k tb id z ov nv xs old new w0 fp0 R).Ok 26:=Rg.ok _ 26 [3,5,6,9,11,12,15,17,18,21,23,24] ⟨.indexO _ 3 b o n lc k 4 hk, .loadR1 _ 5 (.int .i64 tb) hc0, .callG _ 6 (f:=61) (args:=fun g=> #[z, .int .i64 tb]) (fun g=> [slA 5 (z) ((xs).map u8C)]) (fun g v=> [slA 5 (v) ((xs++numL tb).map u8C)]) (fun g w h=> (by refine (h1 z w h).mono ?_;rintro e w2 ⟨b2,rfl,hb2⟩;exact ⟨b2,rfl,kr (by kernel_rfl),hb2⟩)), .indexO _ 9 b o n lc k 4 hk, .loadR1 _ 11 (.int .i64 id) hc1, .callG _ 12 (f:=61) (args:=fun g=> #[(g 36), .int .i64 id]) (fun g=> [slA 5 ((g 36)) ((xs++numL tb).map u8C)]) (fun g v=> [slA 5 (v) (((xs++numL tb)++numL id).map u8C)]) (fun g w h=> (by refine (h2 (g 36) w h).mono ?_;rintro e w2 ⟨b2,rfl,hb2⟩;exact ⟨b2,rfl,kr (by kernel_rfl),hb2⟩)), .indexO _ 15 b o n lc k 4 hk, .loadR1 _ 17 (ov) hc2, .callG _ 18 (f:=63) (args:=fun g=> #[(g 42),ov]) (fun g=> [slA 5 ((g 42)) (((xs++numL tb)++numL id).map u8C)]) (fun g v=> [slA 5 (v) ((((xs++numL tb)++numL id)++rowB old).map u8C)]) (fun g w h=> (by refine (h3 (g 42) w h).mono ?_;rintro e w2 ⟨b2,rfl,hb2⟩;exact ⟨b2,rfl,kr (by kernel_rfl),hb2⟩)), .indexO _ 21 b o n lc k 4 hk, .loadR1 _ 23 (nv) hc3, .callG _ 24 (f:=63) (args:=fun g=> #[(g 48),nv]) (fun g=> [slA 5 ((g 48)) ((((xs++numL tb)++numL id)++rowB old).map u8C)]) (fun g v=> [slA 5 (v) (((((xs++numL tb)++numL id)++rowB old)++rowB new).map u8C)]) (fun g w h=> (by refine (h4 (g 48) w h).mono ?_;rintro e w2 ⟨b2,rfl,hb2⟩;exact ⟨b2,rfl,kr (by kernel_rfl),hb2⟩)),trivial⟩
 refine wp_regD ok (by kernel_rfl) ⟨c1,c2⟩ ⟨c3,fun p hp=> ?_⟩ hS fun A1 w1 N1 H1=> ?_
 · simp only [gCb7,rgxq,List.map_cons,List.map_nil,List.cons_append,List.nil_append,List.mem_cons,List.not_mem_nil,or_false] at hp
   rcases hp with rfl | rfl | rfl
   · exact i0
   · exact i4
   · exact i3
 have e30:=N1.val 0 rfl
 have e31:=N1.val 1 rfl
 have e32:=N1.val 2 rfl
 have e33:=N1.val 3 rfl
 have e34:=N1.val 4 rfl
 have e35:=N1.val 5 rfl
 have e37:=N1.val 6 rfl
 have e38:=N1.val 7 rfl
 have e39:=N1.val 8 rfl
 have e40:=N1.val 9 rfl
 have e41:=N1.val 10 rfl
 have e43:=N1.val 11 rfl
 have e44:=N1.val 12 rfl
 have e45:=N1.val 13 rfl
 have e46:=N1.val 14 rfl
 have e47:=N1.val 15 rfl
 have e49:=N1.val 16 rfl
 have e50:=N1.val 17 rfl
 have e51:=N1.val 18 rfl
 have e52:=N1.val 19 rfl
 have e53:=N1.val 20 rfl
 have e3:=N1.val 21 rfl
 have h:=hQ (slots A1 36) (slots A1 42) (slots A1 48) (slots A1 54) w1  H1
 rw [frame_eq N1.frame (cons_eq e30 (cons_eq e31 (cons_eq e32 (cons_eq e33 (cons_eq e34 (cons_eq e35 (cons_eq rfl (cons_eq e37 (cons_eq e38 (cons_eq e39 (cons_eq e40 (cons_eq e41 (cons_eq rfl (cons_eq e43 (cons_eq e44 (cons_eq e45 (cons_eq e46 (cons_eq e47 (cons_eq rfl (cons_eq e49 (cons_eq e50 (cons_eq e51 (cons_eq e52 (cons_eq e53 (cons_eq rfl (cons_eq e3 rfl))))))))))))))))))))))))))]
 exact h
end Go.Proofs.YtpdlkdoogojboaaGreat
/- ChangeBytes. -/
namespace Go.Proofs.YtpdlkdoogojboaaGreat
open Go Go.RowKit
set_option maxHeartbeats 4000000 in
set_option maxRecDepth 20000 in
theorem rvalid40_calls (r:Rw) (rv:Value) (w:World) (hrv:ValsAt w r rv):
 Calls Tryz.prog 62 #[rv] w fun e w'=> e=.returned (.bool (r.all okV))∧Below w.heap.size w w':=by
 obtain ⟨ra,n,rc,rfl,hn,hm⟩:=hrv.shape
 have HR:=Lib.hid hrv
 have HN:=Lib.hid hn
 unfold maxLen at hm
 obtain ⟨q,hq⟩:∃q,r.all okV=q:=⟨_,rfl⟩
 rw [hq]
 have H0:RowKit.Hid ((r.drop 0).all okV=q):=hq
 have HB0:=Lib.hid (Below.refl w.heap.size w)
 clear hrv hn hq
 go_enter Tryz.func62,Tryz.ntmps62
 go_upto_region 2 with (fail)
 go_loopg [3] n (fun g z3 wr=> ∃k:Nat,z3=.int .i64 k∧g+k=n∧RowKit.Hid ((r.drop k).all okV=q)∧RowKit.Hid (Below w.heap.size w wr))
 case atStart=> exact ⟨0,rfl,by omega,H0,HB0⟩
 case round=>
  clear H0 HB0
  obtain ⟨k,rfl,hgk,Hq,Hb⟩:=hrel
  by_cases hk:k < n
  · have hlt:k < r.length:=by rw [←HN.out];exact hk
    obtain ⟨rb,ro,rfl⟩:=HR.out.has k hk
    obtain ⟨v0,v1,v2⟩:=(HR.out.mono Hb.out).cell k hlt
    have hrl:=World.block_lt_of_cell? wr _ v0
    have hdr:=List.drop_eq_getElem_cons hlt
    have hq:=Hq.out
    rw [hdr,List.all_cons] at hq
    have HA:=Lib.hid (rvalid_calls r[k] wr (HR.out.txt _ (List.getElem_mem hlt)))
    have hkm:(k:Int) < n:=by omega
    have Hgk:=Lib.hid hgk
    have HQ:=Lib.hid hq
    clear hgk hq hdr Hq
    obtain ⟨V,hV⟩:∃V,r[k]=V:=⟨_,rfl⟩
    rw [hV] at v0 v1 v2 HA HQ
    clear hV hlt
    obtain ⟨K,I,T⟩:=V
    unfold Vl.val at HA
    simp only at v0 v1 v2 HA
    cases hok:okV ⟨K,I,T⟩
    · rw [hok] at HA HQ
      have HF:RowKit.Hid (q=false):=by
       show _=_
       rw [←HQ.out]
       rfl
      clear hok
      go_wp2_with fail
      (with_reducible refine HA.out.mono ?_)
      rintro e w1 ⟨rfl,h3⟩
      have HB2:=Lib.hid (Hb.out.trans (h3.mono Hb.out.size))
      clear h3 HA
      go_wp2
      go_ret
      exact ⟨by rw [HF.out];rfl,HB2.out⟩
    · rw [hok] at HA HQ
      have HF:RowKit.Hid ((r.drop (k+1)).all okV=q):=by
       show _=_
       rw [←HQ.out]
       simp
      clear hok
      go_wp2_with fail
      (with_reducible refine HA.out.mono ?_)
      rintro e w1 ⟨rfl,h3⟩
      have HB2:=Lib.hid (Hb.out.trans (h3.mono Hb.out.size))
      clear h3 HA
      go_wp2
      go_roundg (gk - 1)
      case rel=> exact ⟨k+1,by go_num,by have:=Hgk.out;omega,HF,HB2⟩
      case measure=> have:=Hgk.out;omega
  · obtain rfl:k=n:=by omega
    have HF:RowKit.Hid (q=true):=by
     show _=_
     rw [←Hq.out,List.drop_of_length_le (by rw [HN.out];exact Nat.le_refl _)]
     rfl
    clear hgk hk
    go_wp2
    go_ret
    exact ⟨by rw [HF.out];rfl,Hb.out⟩
set_option maxHeartbeats 8000000 in
set_option maxRecDepth 20000 in
theorem chBytes_calls (l:List Chg) (lv:Value) (hln:l.length≤40) (hsm:∀c∈l,c.S) (hok:∀c∈l,c.Ok) (w:World) (hl:ChsX w l lv):
 Calls Tryz.prog 25 #[lv] w fun e w'=> ∃a m c,e=.returned (.slice a m c)∧St w [] [slA 5 (.slice a m c) ((chBt l).map u8C)] w':=by
 obtain ⟨la,lc,rfl⟩:=hl.sl.shape
 obtain ⟨n,hn⟩:∃n,l.length=n:=⟨_,rfl⟩
 have HN:=Lib.hid (rnum40_calls (.slice none 0 0) [] n (by unfold I64;omega) (by simp) w w [] [] ((St.start (w:=w) (L:=[]) (fp:=[]) rfl).nilA 5))
 have HL:=Lib.hid hl
 have HSM:=Lib.hid hsm
 have HOK:=Lib.hid hok
 rw [hn]
 have HNN:=Lib.hid hn
 have HLN:=Lib.hid hln
 have hnn:n≤40:=by omega
 clear hl hsm hok hn hln
 go_enter Tryz.func25,Tryz.ntmps25
 go_wp2_with fail
 (with_reducible refine HN.out.mono ?_)
 rintro e w1 ⟨z,rfl,h2⟩
 have HS1:RowKit.Hid (St w [] [slA 5 z ((numL n++encCs ((l.take 0).map Chg.cp)).map u8C)] w1):=by
  show St _ _ _ _
  have e:numL (n:Int)++encCs ((l.take 0).map Chg.cp)=[]++numL n:=by simp [encCs]
  rw [e]
  exact h2
 clear h2 HN
 go_upto_region 3 with (fail)
 go_loopg [3,4] n (fun g z3 z4 wr=> ∃k:Nat,z4=.int .i64 k∧g+k=n∧RowKit.Hid (∀c∈l.take k,c.val=true)∧RowKit.Hid (St w [] [slA 5 z3 ((numL n++encCs ((l.take k).map Chg.cp)).map u8C)] wr))
 case atStart=> exact ⟨0,rfl,rfl,fun c hc=> absurd hc (by simp),HS1⟩
 case round=>
  clear HS1
  obtain ⟨k,rfl,hgk,Hv,Hs⟩:=hrel
  by_cases hk:k < n
  · have hkl:k < l.length:=by rw [HNN.out];exact hk
    have hmem:=List.getElem_mem hkl
    have hb0:=Hs.out.below0
    have hlw:=HL.out.mono hb0
    obtain ⟨b,o,c',e0,hbl,c0,c1,c2,c3⟩:=hlw.cells k hkl
    rw [HNN.out] at e0
    obtain ⟨rfl, -,rfl⟩:=Value.slice.inj e0
    have HX:=Lib.hid (hlw.ch _ hmem)
    have HRD:RowKit.Hid (∀W,Below w.heap.size w W→W.cell? ⟨b,o+k * 4,none⟩=some (.int .i64 (l[k]'hkl).tb)∧W.cell? ⟨b,o+k * 4+1,none⟩=some (.int .i64 (l[k]'hkl).id)∧W.cell? ⟨b,o+k * 4+2,none⟩=some (l[k]'hkl).ov∧W.cell? ⟨b,o+k * 4+3,none⟩=some (l[k]'hkl).nv):=fun W h=> by
     obtain ⟨b2,o2,c2,e2, -,d0,d1,d2,d3⟩:=(HL.out.mono h).cells k hkl
     obtain ⟨e3, -, -⟩:=Value.slice.inj e2
     cases e3
     exact ⟨d0,d1,d2,d3⟩
    have HXW:=Lib.hid (fun (W:World) (h:Below w.heap.size w W)=> (HL.out.mono h).ch _ hmem)
    have HCS:=Lib.hid (HSM.out _ hmem)
    have HCO:=Lib.hid (HOK.out _ hmem)
    have HST:=Lib.hid (encCs_step hkl)
    have HBAD:RowKit.Hid ((l[k]'hkl).val=false→chBt l=[]):=fun h=> chBt_bad hmem h
    have HVN:RowKit.Hid ((l[k]'hkl).val=true→∀c∈l.take (k+1),c.val=true):=fun h=> take_snoc hkl Hv.out h
    have HLEN:RowKit.Hid ((encCs ((l.take k).map Chg.cp)).length≤72480):=by
     have h1:=encCs_small (l:=l.take k) fun c hc=> HSM.out c (List.mem_of_mem_take hc)
     have h2:(l.take k).length≤40:=by rw [List.length_take];have:=HLN.out;omega
     have:(l.take k).length * 1812≤40 * 1812:=Nat.mul_le_mul_right _ h2
     show _≤_
     omega
    have hkn:(k:Int) < n:=by omega
    have Hgk:=Lib.hid hgk
    generalize encCs ((l.take k).map Chg.cp)=xs at *
    generalize l[k]'hkl=C at *
    clear hgk hb0 hlw e0 hmem hkl
    unfold Chg.ov at c2
    unfold Chg.nv at c3
    obtain ⟨tb,id,oa,oc,na,nc,old,new⟩:=C
    simp only at c0 c1 c2 c3
    have HVO:=Lib.hid (rvalid40_calls old _ wr HX.out.old)
    have HVV:RowKit.Hid ((⟨tb,id,oa,oc,na,nc,old,new⟩:Chg).val=(old.all okV && new.all okV)):=rfl
    unfold Chg.ov at HVO
    simp only at HVO
    cases hqo:old.all okV
    · rw [hqo] at HVO HVV
      have HF:=Lib.hid (HBAD.out (by rw [HVV.out];rfl))
      clear hqo
      go_wp2_with fail
      (with_reducible refine HVO.out.mono ?_)
      rintro e w2 ⟨rfl,hb2⟩
      have HS:=Lib.hid ((Hs.out.mono hb2).drop.nilA 5)
      clear hb2 HVO
      go_wp2
      go_ret
      exact ⟨none,0,0,rfl,by rw [HF.out];exact HS.out⟩
    · rw [hqo] at HVO HVV
      clear hqo
      go_wp2_with fail
      (with_reducible refine HVO.out.mono ?_)
      rintro e w2 ⟨rfl,hb2⟩
      have hs2:=Hs.out.mono hb2
      have HS2:=Lib.hid hs2
      have HVN2:=Lib.hid (rvalid40_calls new _ w2 (HXW.out w2 hs2.below0).new)
      obtain ⟨d0,d1,d2,d3⟩:=HRD.out w2 hs2.below0
      unfold Chg.ov at d2
      unfold Chg.nv at d3
      unfold Chg.nv at HVN2
      simp only at d0 d1 d2 d3 HVN2
      have dl:=World.block_lt_of_cell? w2 _ d0
      clear hb2 HVO hs2 c0 c1 c2 c3 Hs
      cases hqn:new.all okV
      · rw [hqn] at HVN2 HVV
        have HF:=Lib.hid (HBAD.out (by rw [HVV.out];rfl))
        clear hqn
        go_wp2_with fail
        (with_reducible refine HVN2.out.mono ?_)
        rintro e w3 ⟨rfl,hb3⟩
        have HS:=Lib.hid ((HS2.out.mono hb3).drop.nilA 5)
        clear hb3 HVN2
        go_wp2
        go_ret
        exact ⟨none,0,0,rfl,by rw [HF.out];exact HS.out⟩
      · rw [hqn] at HVN2 HVV
        have HVQ:=Lib.hid (HVN.out (by rw [HVV.out];rfl))
        clear hqn
        go_wp2_with fail
        (with_reducible refine HVN2.out.mono ?_)
        rintro e w3 ⟨rfl,hb3⟩
        have HS3:=Lib.hid (HS2.out.mono hb3)
        have hrs:=HCS.out.rowS HCO.out
        have hol:=HCS.out.ol
        have hnl:=HCS.out.nl
        simp only at hol hnl hrs
        have hle:=encR_small hol HCS.out.ot
        have hxs:=HLEN.out
        clear hb3 HVN2 HS2 d0 d1 d2 d3 dl
        go_upto_region 7 with (fail)
        refine rCb7 (w0:=w) (fp0:=[]) (R:=[]) b o n _ k tb id _ (.slice oa old.length oc) (.slice na new.length nc) (numL n++xs) old new hk (fun L W h=> (HRD.out W h.below0).1) (fun L W h=> (HRD.out W h.below0).2.1) (fun L W h=> (HRD.out W h.below0).2.2.1) (fun L W h=> (HRD.out W h.below0).2.2.2)
         (fun u W h=> rnum40_calls u _ tb HCO.out.tb (by rw [List.length_append,numL_length];omega) w W [] [] h)
         (fun u W h=> rnum40_calls u _ id HCO.out.id (by rw [List.length_append,List.length_append,numL_length,numL_length];omega) w W [] [] h)
         (fun u W h=> rrow40_calls u _ old _ hrs.1 (by omega) (by rw [List.length_append,List.length_append,List.length_append,numL_length,numL_length,numL_length];omega) w W [] [] h (HXW.out W h.below0).old)
         (fun u W h=> rrow40_calls u _ new _ hrs.2 (by omega) (by rw [List.length_append,List.length_append,List.length_append,List.length_append,rowB,List.length_append,numL_length,numL_length,numL_length,numL_length];omega) w W [] [] h (HXW.out W h.below0).new)
         rfl (by kernel_rfl) rfl rfl rfl rfl rfl HS3.out ?_
        intro u36 u42 u48 u54 w4 h4
        have HS4:RowKit.Hid (St w [] [slA 5 u54 ((numL n++encCs ((l.take (k+1)).map Chg.cp)).map u8C)] w4):=by
         show St _ _ _ _
         rw [HST.out]
         have h:=h4
         simp only [encC,Chg.cp,List.append_assoc] at h ⊢
         exact h
        clear h4 hrs hol hnl hle hxs
        simp only [putL,List.foldl,Act.put,List.setIfInBounds_toArray,List.set_cons_succ,List.set_cons_zero]
        go_wp2
        go_roundg (gk - 1)
        case rel=> exact ⟨k+1,by go_num,by have:=Hgk.out;omega,HVQ,HS4⟩
        case measure=> have:=Hgk.out;omega
  · obtain rfl:k=n:=by omega
    have hall:l.take k=l:=List.take_of_length_le (by rw [HNN.out];exact Nat.le_refl _)
    rw [hall] at Hv Hs
    have HE:RowKit.Hid (numL k++encCs (l.map Chg.cp)=chBt l):=by
     show _=_
     rw [chBt_good Hv.out,HNN.out]
    rw [HE.out] at Hs
    obtain ⟨_,hr⟩:=Hs.out.has 0 rfl
    obtain ⟨a,m,c,rfl⟩:=sl_shape hr
    clear hr hgk hall
    go_wp2
    go_ret
    exact ⟨_,_,_,rfl,Hs.out⟩
/- StoreChanges: its drawn region. -/
set_option maxRecDepth 100000
/-- Strings that are equal are not different. -/
theorem Rg.Ob.neqStr (G:Rg) (i:Nat) (s:ByteArray) {ty r:TypeId} {x y:Operand} (hop:(opAt G.ops i).op=.binOp .neq ty x y r:=by rfl) (hx:∀a,G.env i a x=.string s:=by intro _;exact kr (by kernel_rfl)) (hy:∀a,G.env i a y=.string s:=by intro _;exact kr (by kernel_rfl)) (hv:∀g,G.valD i g=.bool false:=by intro _;exact kr (by kernel_rfl))
 (hq:(G.quiet i G.pcs.length && G.okV i)=true:=by exact kr (by kernel_rfl)) (hw:∀a,wantE G.ops (opAt G.ops i) (G.env i a)=some true:=by intro _;exact kr (by kernel_rfl)):G.Ob i:=Rg.Ob.read G i hq hw fun L a w _ _=> by
 simp [execOp,hop,hx,hy,go_sem,hv]
noncomputable def gSc4 (ca:Option Addr) (cn cc:Nat) (lv:Value) (xs:List UInt8):=rgx Tryz.prog Tryz.f6 4 79 [27,28,29,30,31,32] [(5, .slice ca cn cc),(0,lv)] (Vq 0 27 [Kv (.slice ca cn cc),Kv (.string (textOf xs)),Kv lv,Vf.slice,Kv (.string (textOf xs)),Kv (.bool false)]) [.all (slA 5 (.slice ca cn cc) (xs.map u8C)), .new 3 [30] fun g=> slA 5 (g 30) (xs.map u8C)]
theorem rSc4 (ca:Option Addr) (cn cc:Nat) (lv:Value) (xs:List UInt8) (w0:World) (fp0:List Nat) (R:List Asn) (henc:∀(L:List Asn) (w:World),St w0 fp0 (L++R) w→Calls Tryz.prog 25 #[lv] w fun e w2=> ∃v f,e=.returned v∧(slA 5 (v) (xs.map u8C)).p w2 f∧Below w.heap.size w w2∧∀k∈f,w.heap.size≤k) {w:World} {c:Code} {a:Act} {Q:Exit→Act→World→Prop} (c1:isReg c=true) (c2:cops c=opsR Tryz.f6 4) (c3:a.tmps.size=79) (_c4:a.defers=a.defers) (i5:a.eval (.tmp 5)=.slice ca cn cc) (i0:a.eval (.tmp 0)=lv)
 (hS:St w0 fp0 ([slA 5 (.slice ca cn cc) (xs.map u8C),emp]++R) w)
 (hQ:∀(u30:Value) (w1:World),(∃a n c,u30=.slice a n c)→St w0 fp0 ([slA 5 (.slice ca cn cc) (xs.map u8C),slA 5 (u30) (xs.map u8C)]++R) w1→Q .normal (putL a [(27, .slice ca cn cc),(28, .string (textOf xs)),(29,lv),(30,u30),(31, .string (textOf xs)),(32, .bool false)]) w1):c.wp Tryz.prog Q a w:=by
 have ok:(gSc4 ca cn cc lv xs w0 fp0 R).Ok 6:=Rg.ok _ 6 [1,3,4,5] ⟨.run1 _ 1 0 (fun _=> slA 5 (.slice ca cn cc) (xs.map u8C)) (fun _ _=> slA 5 (.slice ca cn cc) (xs.map u8C)) (fun L a w fp _ hp=> ⟨.string (textOf xs),w,fp,conv1 (v:=.slice ca cn cc) rfl (kr (by kernel_rfl)) (run_back hp),kr (by kernel_rfl),hp,Tr.refl _ _⟩), .callNew _ 3 1 (fun v=> slA 5 (v) (xs.map u8C)) (fun _ _ _ h=> sl_shape h) henc, .run1 _ 4 1 (fun g=> slA 5 (g 30) (xs.map u8C)) (fun g _=> slA 5 (g 30) (xs.map u8C)) (fun L a w fp _ hp=> ⟨.string (textOf xs),w,fp,conv1 (v:=.slice (sa (slots a 30)) (sn (slots a 30)) (sc (slots a 30))) rfl (kr (by kernel_rfl)) (run_back (slSelf hp)),kr (by kernel_rfl),hp,Tr.refl _ _⟩), .neqStr _ 5 (textOf xs),trivial⟩
 refine wp_regD ok (by kernel_rfl) ⟨c1,c2⟩ ⟨c3,fun p hp=> ?_⟩ hS fun A1 w1 N1 H1=> ?_
 · simp only [gSc4,rgx,List.map_nil,List.append_nil,List.mem_cons,List.not_mem_nil,or_false] at hp
   rcases hp with rfl | rfl
   · exact i5
   · exact i0
 have e27:=N1.val 0 rfl
 have e28:=N1.val 1 rfl
 have e29:=N1.val 2 rfl
 have e30:=N1.val 3 rfl
 have e31:=N1.val 4 rfl
 have e32:=N1.val 5 rfl
 have h:=hQ (slots A1 30) w1 ⟨_,_,_,e30⟩ H1
 rw [frame_eq N1.frame (cons_eq e27 (cons_eq e28 (cons_eq e29 (cons_eq rfl (cons_eq e31 (cons_eq e32 rfl))))))]
 exact h
end Go.Proofs.YtpdlkdoogojboaaGreat
/- StoreChanges. -/
namespace Go.Proofs.YtpdlkdoogojboaaGreat
open Go Go.RowKit
theorem slA_bytes {w:World} {v:Value} {x:List UInt8} {f:List Nat} (h:(slA 5 v (x.map u8C)).p w f):BytesX [] w x v∧SlC v x.length:=by
 refine ⟨?_,?_⟩
 · have h1:=SlX.of_sl (X:=[]) h (by simp)
   rw [List.length_map] at h1
   exact h1
 · obtain ⟨a,c,e,h1,h2, -⟩:=sl_get h
   rw [List.length_map] at e h1
   exact ⟨a,c,e,h1,h2⟩
/-- What a decoder hands over. -/
def QOk (q:Option (List Cp)) (cs:List Chg):Prop:=q=some (cs.map Chg.cp)∨q=none∧cs=[]
theorem QOk.same {q:Option (List Cp)} {cs ds:List Chg} (h:QOk q cs) (g:QOk q ds):cs.map Chg.cp=ds.map Chg.cp:=by
 rcases h with rfl | ⟨rfl,rfl⟩
 · rcases g with e | ⟨e, -⟩
   · exact Option.some.inj e
   · cases e
 · rcases g with e | ⟨-,rfl⟩
   · cases e
   · rfl
/-- What EncodeChanges writes is read again. -/
theorem chBt_dec {l:List Chg} (hln:l.length≤40) (hs:∀c∈l,c.S) (ho:∀c∈l,c.Ok) (hne:chBt l≠[]):DecC (chBt l) (some (l.map Chg.cp)):=by
 by_cases h:l.all Chg.val=true
 · have hv:=List.all_eq_true.1 h
   refine ⟨fun c hc=> ?_,by rw [List.length_map];unfold I64;omega,by rw [chBt_good hv,List.length_map]⟩
   obtain ⟨d,hd,rfl⟩:=List.mem_map.1 hc
   have h1:=hv d hd
   unfold Chg.val at h1
   rw [Bool.and_eq_true] at h1
   have h2:=ho d hd
   have h3:=hs d hd
   have a1:=encR_small h3.ol h3.ot
   have a2:=encR_small h3.nl h3.nt
   exact ⟨h2.tb,h2.id,fun v hv=> ⟨List.all_eq_true.1 h1.1 v hv,h2.old v hv⟩,fun v hv=> ⟨List.all_eq_true.1 h1.2 v hv,h2.new v hv⟩,by show I64 _;simp only [Chg.cp];unfold I64;omega,by show I64 _;simp only [Chg.cp];unfold I64;omega⟩
 · exact absurd (by rw [chBt,if_neg h]) hne
theorem chBt_len {l:List Chg} (hln:l.length≤40) (hs:∀c∈l,c.S):(chBt l).length≤100000:=by
 unfold chBt
 split
 · rw [List.length_append,numL_length]
   have h1:=encCs_small hs
   have:l.length * 1812≤40 * 1812:=Nat.mul_le_mul_right _ hln
   omega
 · exact Nat.zero_le _
set_option maxHeartbeats 8000000 in
set_option maxRecDepth 20000 in
theorem schanges_calls (l:List Chg) (lv:Value) (b:List UInt8) (bv:Value) (W:World) (hl:ChsX W l lv) (hok:∀c∈l,c.Ok) (hb:BytesX [] W b bv) (hcp:SlC bv b.length):
 Calls Tryz.prog 6 #[lv,bv] W fun e W'=> e=.returned (.bool true)∧Below W.heap.size W W':=by
 obtain ⟨la,lc,rfl⟩:=hl.sl.shape
 obtain ⟨ba,bc,rfl,hbc,hbm⟩:=hcp
 have HAW:=Lib.hid (fun w'=> awake40_calls w')
 have HSML:RowKit.Hid (∀w',Below W.heap.size W w'→Calls Tryz.prog 13 #[.slice none 0 0, .slice la l.length lc] w' fun e w2=> QPost (SmallP [] l) w' e w2):=fun w' hw=> Small_calls [] l _ _ w' ⟨SlX.nil _ _ _ _ _,by simp⟩ (hl.mono hw)
 have HL:=Lib.hid hl
 have HB:=Lib.hid hb
 have HOK:=Lib.hid hok
 have HCP:RowKit.Hid (SlC (.slice ba b.length bc) b.length):=⟨ba,bc,rfl,hbc,hbm⟩
 obtain ⟨n,hn⟩:∃n,l.length=n:=⟨_,rfl⟩
 obtain ⟨m,hm⟩:∃m,b.length=m:=⟨_,rfl⟩
 rw [hn] at HSML HL ⊢
 rw [hm] at HB HCP ⊢
 have HN:=Lib.hid hn
 have HM:=Lib.hid hm
 have hmm:=hb.1
 rw [hm] at hmm hbc
 unfold maxLen at hmm
 clear hl hb hok hn hm hbm
 go_enter Tryz.func6,Tryz.ntmps6
 go_wp2_with fail
 (with_reducible refine (HAW.out _).mono ?_)
 rintro e w1 ⟨rfl,hb1⟩
 have HB1:=Lib.hid hb1
 have HSM:=Lib.hid (HSML.out w1 hb1)
 clear hb1 HSML
 go_wp2_with fail
 (with_reducible refine HSM.out.mono ?_)
 rintro e w2 ⟨q,rfl,hq,rfl⟩
 have HQ:=Lib.hid hq
 clear hq HSM
 cases q with
 | false=>
  go_wp2_with fail
  (with_reducible refine (HAW.out _).mono ?_)
  rintro e w3 ⟨rfl,hb3⟩
  have HB3:=Lib.hid (HB1.out.trans (hb3.mono HB1.out.size))
  clear hb3
  go_wp2
  go_ret
  exact ⟨rfl,HB3.out⟩
 | true=>
  have hsp:=HQ.out rfl
  by_cases h500:m≤500
  · have hSS:∀c∈l,c.S:=fun c hc=> by
     obtain ⟨h1,h2⟩:=hsp.ls c hc
     exact ⟨h1.1,h2.1,h1.2,h2.2⟩
    have HSS:=Lib.hid hSS
    have HLN:=Lib.hid hsp.ln
    have hlw:=HL.out.mono HB1.out
    have HEC:=Lib.hid (encCh_calls l _ hsp.ln hSS HOK.out w1 hlw)
    clear hsp hSS hlw
    go_wp2_with fail
    (with_reducible refine HEC.out.mono ?_)
    rintro e w2 ⟨ca,cn,cc,rfl,h2⟩
    have HS2:=Lib.hid h2
    have HB2:=Lib.hid (HB1.out.trans (h2.below0.mono HB1.out.size))
    clear HEC h2
    go_upto_region 4 with (fail)
    refine rSc4 (w0:=w1) (fp0:=[]) (R:=[]) ca cn cc (.slice la n lc) (chBt l) (fun L w h=> ?hcb) rfl (by kernel_rfl) rfl rfl rfl rfl (St_re (L:=[_,_]) (St.emp.2 HS2.out) [1,0] [] (by kernel_rfl)) ?_
    case hcb=>
     have hbw:Below W.heap.size W w:=HB1.out.trans (h.below0.mono HB1.out.size)
     refine (chBytes_calls l _ HLN.out HSS.out HOK.out w (HL.out.mono hbw)).mono ?_
     rintro e w' ⟨a,m',c',rfl,hs⟩
     obtain ⟨f,h3,h4,h5⟩:=piece_of hs
     exact ⟨_,f,rfl,h3,h4,h5⟩
    intro u30 w3 _ h3
    have hs3:St w1 [] (slA 5 (.slice ca cn cc) ((chBt l).map u8C)::[]) w3:=(St_re (L:=[_,_]) h3 [1,0] [] (by kernel_rfl)).drop
    have HS3:=Lib.hid hs3
    have HB3:=Lib.hid (HB1.out.trans (hs3.below0.mono HB1.out.size))
    obtain ⟨_,hca⟩:=hs3.has 0 rfl
    obtain ⟨hcby,hcsl⟩:=slA_bytes hca
    have hcn:cn=(chBt l).length:=by
     obtain ⟨_,_,e, -⟩:=hcsl
     exact (Value.slice.inj e).2.1
    have HCN:=Lib.hid hcn
    have HCL:=Lib.hid (chBt_len HLN.out HSS.out)
    have hsrc:=src_sl hca
    have HDEC:=Lib.hid (chBt_dec HLN.out HSS.out HOK.out)
    clear hs3 h3 hca hcby hcsl hcn HS2 HB2 HQ hmm hbc
    simp only [putL,List.foldl,Act.put,List.setIfInBounds_toArray,List.set_cons_succ,List.set_cons_zero]
    iterate 7 go_step
    go_cut [6,7] from 33 to 51 (fun z6 z7 wx=> RowKit.Hid (Below W.heap.size W wx))
    case first=>
     by_cases hx:chBt l=[]
     · have hc0:cn=0:=by rw [HCN.out,hx];rfl
       subst hc0
       clear hsrc
       go_wp2
       go_meet
       exact HB3.out
     · have hc0:0 < cn:=by rw [HCN.out];exact List.length_pos_iff.2 hx
       have hs4:=HS3.out.litA [] (by decide)
       have HS4:RowKit.Hid (St w1 [] (slA 5 (.slice (some ⟨w3.heap.size,0,none⟩) 0 0) (([]:List UInt8).map u8C)::slA 5 (.slice ca cn cc) ((chBt l).map u8C)::[]) (w3.alloc (.cells #[] 5))):=hs4
       obtain ⟨_,hca⟩:=hs4.has 1 rfl
       have HSRC:=Lib.hid (src_sl hca)
       have HLN4:RowKit.Hid ((([]:List UInt8).map u8C).length+((chBt l).map u8C).length < 1099511627776):=by
        show _ < _
        rw [List.length_map,List.length_map]
        have:=HCL.out
        simp only [List.length_nil]
        omega
       have HD:=Lib.hid (HDEC.out hx)
       clear hs4 hca hsrc hx
       go_wp2_with (first
        | (at_builtin;go_loud (refine wpList_appSl rfl _ _ _ _ rfl rfl rfl appBS HS4.out HSRC.out HLN4.out ?_);intro v4 w4 h4))
       have h4':St w1 [] (slA 5 v4 ((chBt l).map u8C)::[slA 5 (.slice ca cn cc) ((chBt l).map u8C)]) w4:=h4.out
       obtain ⟨_,hv4⟩:=h4'.has 0 rfl
       obtain ⟨hby,hsl⟩:=slA_bytes hv4
       have HB4:=Lib.hid (HB1.out.trans (h4'.below0.mono HB1.out.size))
       have HDC:=Lib.hid (decCh_calls (chBt l) v4 (by have:=HCL.out;omega) w4 hby hsl)
       clear h4 h4' hv4 hby hsl
       (with_reducible refine HDC.out.mono ?_)
       rintro e w5 ⟨q,cs,a5,c5,rfl,hb5,hx5,hd5,hq5⟩
       obtain rfl:=hd5.uniq HD.out
       have hcs:l.map Chg.cp=cs.map Chg.cp:=by
        rcases hq5 with h | ⟨h, -⟩
        · exact Option.some.inj h
        · cases h
       have HB5:=Lib.hid (HB4.out.trans (hb5.mono HB4.out.size))
       have HCC:=Lib.hid (rchanges_calls cs l _ _ w5 hx5 (HL.out.mono HB5.out))
       rw [decide_eq_true hcs.symm] at HCC
       obtain ⟨k5,hk5⟩:∃k5,cs.length=k5:=⟨_,rfl⟩
       rw [hk5] at HCC ⊢
       simp only [Option.isSome_some,if_true]
       clear hb5 hx5 hd5 hq5 hcs HDC hk5
       go_wp2_with fail
       (with_reducible refine HCC.out.mono ?_)
       rintro e w6 ⟨rfl,hb6⟩
       have HB6:=Lib.hid (HB5.out.trans (hb6.mono HB5.out.size))
       clear hb6 HCC
       go_wp2
       go_meet
       exact HB6.out
    clear hsrc HS3 HB3 HCN HDEC
    have hs4:=(St.start (w:=wc) (L:=[]) (fp:=[]) rfl).litA [] (by decide)
    have HS4:RowKit.Hid (St wc [] (slA 5 (.slice (some ⟨wc.heap.size,0,none⟩) 0 0) (([]:List UInt8).map u8C)::[]) (wc.alloc (.cells #[] 5))):=hs4
    have HSRC:RowKit.Hid (Go.Src Tryz.prog 1 52 (.slice ba m bc) m (b.map u8C) (wc.alloc (.cells #[] 5))):=by
     have h:=SlX.mono (SlX.mono HB.out hcut.out) ((Below.refl wc.heap.size wc).alloc (Nat.le_refl _) (.cells #[] 5))
     rw [HM.out] at h
     exact h.src (e':=5) (by kernel_rfl) (by decide) (u8C_one b)
    have HLN4:RowKit.Hid ((([]:List UInt8).map u8C).length+m < 1099511627776):=by
     show _ < _
     simp only [List.map_nil,List.length_nil]
     omega
    clear hs4
    go_wp2_with (first
     | (at_builtin;go_loud (refine wpList_appSl rfl _ _ _ _ rfl rfl rfl appBS HS4.out HSRC.out HLN4.out ?_);intro v4 w4 h4))
    have h4':St wc [] (slA 5 v4 (b.map u8C)::[]) w4:=h4.out
    obtain ⟨_,hv4⟩:=h4'.has 0 rfl
    obtain ⟨hby,hsl⟩:=slA_bytes hv4
    have HB4:=Lib.hid (hcut.out.trans (h4'.below0.mono hcut.out.size))
    have HDC:=Lib.hid (decCh_calls b v4 (by rw [HM.out];omega) w4 hby hsl)
    clear h4 h4' hv4 hby hsl
    (with_reducible refine HDC.out.mono ?_)
    rintro e w5 ⟨q,cs,a5,c5,rfl,hb5,hx5,hd5,hq5⟩
    have HB5:=Lib.hid (HB4.out.trans (hb5.mono HB4.out.size))
    have HX5:=Lib.hid hx5
    have HD5:=Lib.hid hd5
    have HQ5:RowKit.Hid (QOk q cs):=hq5
    have HRC:=Lib.hid (readCh_calls b _ (by rw [HM.out];omega) w5 (SlX.mono HB.out HB5.out) (by rw [HM.out];exact HCP.out))
    cases q with
    | none=>
     simp only [Option.isSome_none,Bool.false_eq_true,if_false]
     obtain ⟨k5,hk5⟩:∃k5,cs.length=k5:=⟨_,rfl⟩
     rw [hk5] at HX5 ⊢
     clear hb5 hx5 hd5 hq5 HDC hk5
     go_wp2_with fail
     (with_reducible refine HRC.out.mono ?_)
     rintro e w6 ⟨q6,cs6,a6,c6,rfl,hb6,hx6,hd6,hq6⟩
     have hqq:=HD5.out.uniq hd6
     subst hqq
     have hcs:cs.map Chg.cp=cs6.map Chg.cp:=HQ5.out.same hq6
     have HB6:=Lib.hid (HB5.out.trans (hb6.mono HB5.out.size))
     have HCC:=Lib.hid (rchanges_calls cs cs6 _ _ w6 (HX5.out.mono hb6) hx6)
     rw [decide_eq_true hcs] at HCC
     obtain ⟨k6,hk6⟩:∃k6,cs6.length=k6:=⟨_,rfl⟩
     rw [hk6] at HCC ⊢
     simp only [Option.isSome_none,Bool.false_eq_true,if_false]
     clear hb6 hx6 hd6 hq6 hcs HRC hk6 HD5 HQ5
     go_wp2_with fail
     (with_reducible refine HCC.out.mono ?_)
     rintro e w7 ⟨rfl,hb7⟩
     have HB7:=Lib.hid (HB6.out.trans (hb7.mono HB6.out.size))
     clear hb7 HCC
     go_wp2
     go_ret
     exact ⟨rfl,HB7.out⟩
    | some ds=>
     simp only [Option.isSome_some,if_true]
     obtain ⟨k5,hk5⟩:∃k5,cs.length=k5:=⟨_,rfl⟩
     rw [hk5] at HX5 ⊢
     clear hb5 hx5 hd5 hq5 HDC hk5
     go_wp2_with fail
     (with_reducible refine HRC.out.mono ?_)
     rintro e w6 ⟨q6,cs6,a6,c6,rfl,hb6,hx6,hd6,hq6⟩
     have hqq:=HD5.out.uniq hd6
     subst hqq
     have hcs:cs.map Chg.cp=cs6.map Chg.cp:=HQ5.out.same hq6
     have HB6:=Lib.hid (HB5.out.trans (hb6.mono HB5.out.size))
     have HCC:=Lib.hid (rchanges_calls cs cs6 _ _ w6 (HX5.out.mono hb6) hx6)
     rw [decide_eq_true hcs] at HCC
     obtain ⟨k6,hk6⟩:∃k6,cs6.length=k6:=⟨_,rfl⟩
     rw [hk6] at HCC ⊢
     simp only [Option.isSome_some,if_true]
     clear hb6 hx6 hd6 hq6 hcs HRC hk6 HD5 HQ5
     go_wp2_with fail
     (with_reducible refine HCC.out.mono ?_)
     rintro e w7 ⟨rfl,hb7⟩
     have HB7:=Lib.hid (HB6.out.trans (hb7.mono HB6.out.size))
     clear hb7 HCC
     go_wp2
     go_ret
     exact ⟨rfl,HB7.out⟩
  · have hgt:(500:Int) < m:=by omega
    go_wp2_with fail
    (with_reducible refine (HAW.out _).mono ?_)
    rintro e w3 ⟨rfl,hb3⟩
    have HB3:=Lib.hid (HB1.out.trans (hb3.mono HB1.out.size))
    clear hb3
    go_wp2
    go_ret
    exact ⟨rfl,HB3.out⟩
end Go.Proofs.YtpdlkdoogojboaaGreat
