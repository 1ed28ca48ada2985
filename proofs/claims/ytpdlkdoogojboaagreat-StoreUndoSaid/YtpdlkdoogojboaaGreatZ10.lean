/- Part 10 of the proof: Mh, Mir, Mi, Mj, Mk, Mlr, Ml, Mn, Mu, Mp, Mr, Ms -/
import Derived.Test.YtpdlkdoogojboaaGreatZ09
import Derived.Test.YtpdlkdoogojboaaGreatZ05
import Derived.Test.YtpdlkdoogojboaaGreatZ07
/- run. -/
namespace Go.Proofs.YtpdlkdoogojboaaGreat
open Go Go.RowKit
theorem appD_length (D:Db) (c:Chg):(appD D c).length=D.length:=by
 unfold appD
 cases rowD D c.tb with
 | none=> rfl
 | some t=>
  simp only
  split
  · rw [List.length_set]
  · rfl
theorem appT_len (cols:Nat) (id:Int) (new:Rw) (L:LL):(appT cols id new L).length≤L.length+1:=by
 unfold appT
 split
 · have:(delL id L).length≤L.length:=List.length_filter_le _ _
   omega
 · unfold putLL
   split
   · exact putL_len _ _ _
   · omega
theorem appD_max {D:Db} {c:Chg} {N:Nat} (h:∀t∈D,t.2.1.length≤N):∀t∈appD D c,t.2.1.length≤N+1:=by
 intro t ht
 unfold appD at ht
 cases e:rowD D c.tb with
 | none=>
  rw [e] at ht
  have:=h t ht
  omega
 | some u=>
  rw [e] at ht
  simp only at ht
  split at ht
  · rcases List.mem_or_eq_of_mem_set ht with ht | rfl
    · have:=h t ht
      omega
    · have h1:=appT_len u.1 c.id c.new u.2.1
      have hu:u∈D:=by
       unfold rowD at e
       split at e
       · exact List.mem_of_getElem? e
       · cases e
      have:=h u hu
      simp only
      omega
  · have:=h t ht
    omega
/-- The tables behind changes. -/
def runD (D:Db) (l:List Chg):Db:=l.foldl appD D
theorem runD_snoc (D:Db) (l:List Chg) (k:Nat) (hk:k < l.length):runD D (l.take (k+1))=appD (runD D (l.take k)) l[k]:=by
 unfold runD
 rw [List.take_add_one,List.getElem?_eq_getElem hk,List.foldl_append]
 rfl
theorem runD_length (D:Db) (l:List Chg):(runD D l).length=D.length:=by
 unfold runD
 induction l generalizing D with
 | nil=> rfl
 | cons c l ih=> rw [List.foldl_cons,ih,appD_length]
theorem runD_max {D:Db} {N:Nat} (h:∀t∈D,t.2.1.length≤N) (l:List Chg):∀t∈runD D l,t.2.1.length≤N+l.length:=by
 unfold runD
 induction l generalizing D N with
 | nil=> exact h
 | cons c l ih=>
  intro t ht
  have:=ih (appD_max h) t ht
  rw [List.length_cons]
  omega
theorem newD_max (td:List Td):∀t∈newD td,t.2.1.length≤0:=by
 intro t ht
 obtain ⟨u, -,rfl⟩:=List.mem_map.1 ht
 exact Nat.le_refl _
/-- A store and a version that agree. -/
def Both (w0:World) (fp0:List Nat) (R:List Asn) (b:Nat) (D:Db) (mv:Value) (w:World):Prop:=∃(ms:List Rs) (a:Option Addr) (c:Nat) (P:List Asn),mv=.slice a ms.length c∧MsOk D ms∧Rd w0 fp0 (P++R) (fun w=> RefX w ms mv)∧St w0 fp0 (stA b D::(P++R)) w
/-- What run gives. -/
def RunPost (w0:World) (fp0:List Nat) (R:List Asn) (D:Db) (e:Ending) (w:World):Prop:=∃b mv,e=.returned (.tuple #[.pointer (some ⟨b,0,none⟩),mv, .bool true])∧Both w0 fp0 R b D mv w
set_option maxHeartbeats 8000000 in
set_option maxRecDepth 20000 in
theorem run_calls (td:List Td) (sv:Value) (l:List Chg) (lv:Value) (hsm:∀t∈td,t.Sm) (htl:td.length≤1000) (hll:l.length≤100000) (hok:∀c∈l,c.Ok) (w0 w:World) (fp0:List Nat) (R:List Asn) (hs:Rd w0 fp0 R fun w=> SchX w td sv) (hl:Rd w0 fp0 R fun w=> ChsX w l lv) (hS:St w0 fp0 R w):
 Calls Tryz.prog 14 #[sv,lv] w fun e w'=> RunPost w0 fp0 R (runD (newD td) l) e w':=by
 obtain ⟨sa,sc,rfl⟩:=(hs.here hS).sl.shape
 obtain ⟨la,lc,rfl⟩:=(hl.here hS).sl.shape
 have HNW:=Lib.hid (StNew_calls td _ hsm htl w0 w fp0 R hs hS)
 have HRN:RowKit.Hid (∀b w',St w0 fp0 (stA b (newD td)::R) w'→_):=fun b w' h=> RNew40_calls td _ htl w0 w' fp0 _ (hs.cons (stA b (newD td))) h
 have HL:=Lib.hid hl
 have HOK:=Lib.hid hok
 obtain ⟨m,hm⟩:∃m,l.length=m:=⟨_,rfl⟩
 obtain ⟨n,hn⟩:∃n,td.length=n:=⟨_,rfl⟩
 have HM:=Lib.hid hm
 have HN:=Lib.hid hn
 rw [hm] at HL hll ⊢
 rw [hn] at HNW HRN htl ⊢
 clear hs hl hS hsm hok hm hn
 go_enter Tryz.func14,Tryz.ntmps14
 go_wp2_with fail
 (with_reducible refine HNW.out.mono ?_)
 rintro e w1 ⟨b,rfl,h1⟩
 have HR1:=Lib.hid (HRN.out b w1 h1)
 clear HNW HRN h1
 go_wp2_with fail
 (with_reducible refine HR1.out.mono ?_)
 rintro e w2 ⟨ra,rc,rfl,h2⟩
 clear HR1
 have HI:RowKit.Hid (Both w0 fp0 R b (runD (newD td) (l.take 0)) (.slice ra n rc) w2):=by
  have hn0:(ms0 td).length=n:=by rw [ms0,List.length_map,HN.out]
  refine ⟨ms0 td,ra,rc,[rowA 44 3 (.slice ra n rc) n ((ms0 td).flatMap Rs.c)],by rw [hn0],ms0_ok td,Rd.of_piece 0 rfl fun w f h=> ?_,h2.perm (List.Perm.swap _ _ _)⟩
  exact ms0_x (by rw [hn0];exact h)
 clear h2
 go_upto_region 4 with (fail)
 go_loopg [8,9,22] m (fun g z8 z9 z wr=> ∃k:Nat,z=.int .i64 k∧z9=.bool true∧g+k=m∧RowKit.Hid (Both w0 fp0 R b (runD (newD td) (l.take k)) z8 wr))
 case atStart=> exact ⟨0,rfl,rfl,rfl,HI⟩
 case round=>
  clear HI
  obtain ⟨k,rfl,rfl,hgk,Hi⟩:=hrel
  obtain ⟨ms,a,c,P,rfl,hms,hrx,hs⟩:=Hi.out
  by_cases hk:k < m
  · have hkl:k < l.length:=by rw [HM.out];exact hk
    have hkn:(k:Int) < m:=by omega
    have hlx:=HL.out.at (M:=_::P) hs
    obtain ⟨b',o,c',e1,hbl,p0,p1,p2,p3⟩:=hlx.cells k hkl
    rw [HM.out] at e1
    obtain ⟨rfl, -,rfl⟩:=Value.slice.inj e1
    have hD:=runD_snoc (newD td) l k hkl
    have hcx:Rd w0 fp0 R fun w=> l[k].X w:=HL.out.imp fun w h=> h.ch _ (List.getElem_mem hkl)
    have hco:=HOK.out _ (List.getElem_mem hkl)
    have hmax:∀t∈runD (newD td) (l.take k),t.2.1.length < 1000000:=fun t ht=> by
     have:=runD_max (newD_max td) (l.take k) t ht
     rw [List.length_take] at this
     omega
    have hmn:ms.length≤1000:=by rw [hms.len,runD_length,newD,List.length_map,HN.out];exact htl
    have HX:=Lib.hid (And.intro hms (And.intro hrx hD))
    have HC:=Lib.hid hcx
    have HCO:=Lib.hid hco
    have HMAX:=Lib.hid hmax
    have Hgk:=Lib.hid hgk
    clear e1 hlx hD hcx hco hmax hgk Hi hms hrx
    generalize l[k]=ch at *
    clear hkl
    obtain ⟨mn,hmn0⟩:∃mn,ms.length=mn:=⟨_,rfl⟩
    have hs1:=hs.newblk 35 #[.int .i64 ch.tb, .int .i64 ch.id,ch.ov,ch.nv]
    have HRA:RowKit.Hid (∀L w,St w0 fp0 (L++(P++R)) w→Calls Tryz.prog 16 #[.slice a mn c,ch.v] w fun e w'=> RaPost w0 fp0 L (P++R) (appD (runD (newD td) (l.take k)) ch) (chkD (runD (newD td) (l.take k)) ch) e w'):=fun L w h=> by
     rw [←hmn0]
     exact RApply_calls ms _ _ HX.out.1 ch HCO.out HMAX.out hmn w0 w fp0 L (P++R) HX.out.2.1 (HC.out.app P) h
    have HAP:RowKit.Hid (∀(Q:List Asn) w,St w0 fp0 (stA b (runD (newD td) (l.take k))::(Q++R)) w→Calls Tryz.prog 19 #[.pointer (some ⟨b,0,none⟩),ch.v] w fun e w'=> e=.returned (.int .i64 (chkD (runD (newD td) (l.take k)) ch))∧St w0 fp0 (stA b (appD (runD (newD td) (l.take k)) ch)::(Q++R)) w'):=fun Q w h=> Apply_calls b _ ch HCO.out HMAX.out w0 w fp0 (Q++R) (HC.out.app Q) h
    have HD:=Lib.hid HX.out.2.2
    have HS1:=Lib.hid hs1
    rw [hmn0]
    generalize runD (newD td) (l.take k)=Dk at *
    generalize chkD Dk ch=er at *
    generalize appD Dk ch=D2 at *
    clear hs hs1 HX HC HCO HMAX hmn hmn0
    unfold Chg.v at HRA HAP
    unfold Chg.ov Chg.nv at *
    go_upto_region 7 with (fail)
    generalize hW:wr.alloc _=W at *
    clear hW p0 p1 p2 p3 hbl
    obtain ⟨cb,hcb⟩:∃cb,wr.heap.size=cb:=⟨_,rfl⟩
    rw [hcb] at HS1 ⊢
    clear hcb
    obtain ⟨c0,c1,c2,c3,cl⟩:=cells4 HS1.out 0 rfl
    have HR:=Lib.hid (HRA.out [_,_] W HS1.out)
    clear HRA
    go_wp2_with fail
    (with_reducible refine HR.out.mono ?_)
    rintro e w3 ⟨ms2,a2,cc2,P2,rfl,hm2,hr2,h3⟩
    clear HR HS1 c0 c1 c2 c3 cl
    obtain ⟨c0,c1,c2,c3,cl⟩:=cells4 h3 0 rfl
    have h4:St w0 fp0 (stA b Dk::((P2++P++[blkA cb 35 #[.int .i64 ch.tb, .int .i64 ch.id, .slice ch.oa ch.old.length ch.oc, .slice ch.na ch.new.length ch.nc]])++R)) w3:=by
     refine h3.perm ?_
     classical
     refine List.perm_iff_count.2 fun x=> ?_
     simp only [List.count_append,List.count_cons,List.count_nil,List.cons_append,List.nil_append]
     omega
    have HA:=Lib.hid (HAP.out _ w3 h4)
    have HM2:=Lib.hid (And.intro hm2 hr2)
    obtain ⟨mn2,hmn2⟩:∃mn2,ms2.length=mn2:=⟨_,rfl⟩
    have HMN2:=Lib.hid hmn2
    rw [hmn2]
    clear HAP h3 h4 hm2 hr2 hmn2
    go_wp2_with fail
    (with_reducible refine HA.out.mono ?_)
    rintro e w4 ⟨rfl,h5⟩
    have HI2:RowKit.Hid (Both w0 fp0 R b (runD (newD td) (l.take (k+1))) (.slice a2 mn2 cc2) w4):=by
     refine ⟨ms2,a2,cc2,P2++P,by rw [HMN2.out],by rw [HD.out];exact HM2.out.1,?_,?_⟩
     · have:=HM2.out.2
       rw [HMN2.out] at this
       rw [List.append_assoc]
       exact this
     · rw [HD.out]
       have h6:St w0 fp0 (blkA cb 35 #[.int .i64 ch.tb, .int .i64 ch.id, .slice ch.oa ch.old.length ch.oc, .slice ch.na ch.new.length ch.nc]::(stA b D2::((P2++P)++R))) w4:=by
        refine h5.perm ?_
        classical
        refine List.perm_iff_count.2 fun x=> ?_
        simp only [List.count_append,List.count_cons,List.count_nil]
        omega
       exact h6.drop
    clear HA HM2 HMN2 h5 c0 c1 c2 c3 cl HD
    go_wp2
    go_roundg (gk - 1)
    case rel=> exact ⟨k+1,by go_num,by go_num,by have:=Hgk.out;omega,HI2⟩
    case measure=> have:=Hgk.out;omega
  · obtain rfl:k=m:=by omega
    have HF:RowKit.Hid (Both w0 fp0 R b (runD (newD td) l) (.slice a ms.length c) wr):=by
     have h:=Hi.out
     rw [List.take_of_length_le (by rw [HM.out];exact Nat.le_refl _)] at h
     exact h
    clear Hi hgk hk hms hrx hs
    generalize ms.length=mn at *
    go_wp2
    refine bodyPost_ret (v:=.tuple #[.pointer (some ⟨b,0,none⟩), .slice a mn c, .bool true]) (by simp [results,Tryz.results14,go_sem]) rfl ?_
    exact ⟨b,_,rfl,HF.out⟩
/- The writer's number: its region. -/
set_option maxRecDepth 100000
/-- A writer. -/
def wrA (b:Nat) (xs:List UInt8):Asn:=exA fun v=> starA [blkA b 116 #[v],slA 5 v (xs.map u8C)]
noncomputable def gWn0 (b:Nat) (n:Int) (v:Value) (xs:List UInt8):=rgx Tryz.prog Tryz.f55 0 14 [4,5,6,7,8,9,10,11,12,13] [(0,pV b 0),(1, .int .i64 n)] (Vq 0 4 [Kp b 0,Kp b 0,Kp b 0,Kp b 0,Kv v,Kv (.int .i64 n),Kv (.string (textOf (numL n))),Vf.slice,Kp b 0,Kp b 0]) [.blk b (116) [⟨v,[(10, .s 11)]⟩], .gen [7] [11] fun L g=> match L 7 with | true=> slA 5 (g 11) (xs.map u8C++(bytes (textOf (numL n))).map u8C) | false=> slA 5 (v) (xs.map u8C)]
theorem rWn0 (b:Nat) (n:Int) (v:Value) (xs:List UInt8) (w0:World) (fp0:List Nat) (R:List Asn) (hl:xs.length+8 < 1099511627776) (hnum:∀L w,St w0 fp0 (L++R) w→Calls Tryz.prog 86 #[.int .i64 n] w fun e w'=> e=.returned (.string (textOf (numL n)))∧Below w.heap.size w w') {w:World} {c:Code} {a:Act} {Q:Exit→Act→World→Prop} (c1:isReg c=true) (c2:cops c=opsR Tryz.f55 0) (c3:a.tmps.size=14) (_c4:a.defers=a.defers) (i0:a.eval (.tmp 0)=.pointer (some ⟨b,0,none⟩)) (i1:a.eval (.tmp 1)=.int .i64 n)
 (hS:St w0 fp0 ([blkA b (116) #[v],slA 5 (v) (xs.map u8C)]++R) w)
 (hQ:∀(u11:Value) (w1:World),(∃a n c,u11=.slice a n c)→St w0 fp0 ([blkA b (116) #[u11],slA 5 (u11) (xs.map u8C++(bytes (textOf (numL n))).map u8C)]++R) w1→Q .normal (putL a [(4, .pointer (some ⟨b,0,none⟩)),(5, .pointer (some ⟨b,0,none⟩)),(6, .pointer (some ⟨b,0,none⟩)),(7, .pointer (some ⟨b,0,none⟩)),(8,v),(9, .int .i64 n),(10, .string (textOf (numL n))),(11,u11),(12, .pointer (some ⟨b,0,none⟩)),(13, .pointer (some ⟨b,0,none⟩))]) w1):c.wp Tryz.prog Q a w:=by
 have ok:(gWn0 b n v xs w0 fp0 R).Ok 11:=Rg.ok _ 11 [4,6,7,10] ⟨.load _ 4 0 0, .askR _ 6 hnum, .appG _ 7 (fun _=> [blkA b 116 #[v],slA 5 (v) (xs.map u8C)]) (fun _ u=> [blkA b 116 #[v],slA 5 (u) (xs.map u8C++(bytes (textOf (numL n))).map u8C)]) (fun ty g w h=> (by obtain ⟨u,w2,h1,h2⟩:=appT1 appBT (by kernel_rfl) ty (textOf (numL n)) (by rw [num_size,List.length_map];omega) (h.perm (List.Perm.swap _ _ _));obtain ⟨_,hr⟩:=h2.has 0 rfl;obtain ⟨a,m,c,rfl⟩:=sl_shape hr;exact ⟨_,w2,h1,kr (by kernel_rfl),h2.perm (List.Perm.swap _ _ _)⟩)), .store _ 10 0 0,trivial⟩
 refine wp_regD ok (by kernel_rfl) ⟨c1,c2⟩ ⟨c3,fun p hp=> ?_⟩ hS fun A1 w1 N1 H1=> ?_
 · simp only [gWn0,rgx,List.map_nil,List.append_nil,List.mem_cons,List.not_mem_nil,or_false] at hp
   rcases hp with rfl | rfl
   · exact i0
   · exact i1
 have e4:=N1.val 0 rfl
 have e5:=N1.val 1 rfl
 have e6:=N1.val 2 rfl
 have e7:=N1.val 3 rfl
 have e8:=N1.val 4 rfl
 have e9:=N1.val 5 rfl
 have e10:=N1.val 6 rfl
 have e11:=N1.val 7 rfl
 have e12:=N1.val 8 rfl
 have e13:=N1.val 9 rfl
 have h:=hQ (slots A1 11) w1 ⟨_,_,_,e11⟩ H1
 rw [frame_eq N1.frame (cons_eq e4 (cons_eq e5 (cons_eq e6 (cons_eq e7 (cons_eq e8 (cons_eq e9 (cons_eq e10 (cons_eq rfl (cons_eq e12 (cons_eq e13 rfl))))))))))]
 exact h
end Go.Proofs.YtpdlkdoogojboaaGreat
/- The writer's number; the reference's Number. -/
namespace Go.Proofs.YtpdlkdoogojboaaGreat
open Go Go.RowKit
theorem St.wr {w0 w:World} {fp0:List Nat} {R:List Asn} {b:Nat} {xs:List UInt8}:St w0 fp0 (wrA b xs::R) w↔∃v,St w0 fp0 (blkA b 116 #[v]::slA 5 v (xs.map u8C)::R) w:=by
 constructor
 · intro h
   obtain ⟨v,h1⟩:=St.exE h
   exact ⟨v,St.star.1 h1⟩
 · rintro ⟨v,h⟩
   have h1:St w0 fp0 (starA [blkA b 116 #[v],slA 5 v (xs.map u8C)]::R) w:=St.star.2 h
   exact St.exI (F:=fun v=> starA [blkA b 116 #[v],slA 5 v (xs.map u8C)]) v h1
set_option maxHeartbeats 4000000 in
theorem wNumber_calls (b:Nat) (xs:List UInt8) (n:Int) (hn:I64 n) (hl:xs.length+8 < 1099511627776) (w0 w:World) (fp0:List Nat) (R:List Asn) (hS:St w0 fp0 (wrA b xs::R) w):
 Calls Tryz.prog 55 #[.pointer (some ⟨b,0,none⟩), .int .i64 n] w fun e w'=> e=.returned (.tuple #[])∧St w0 fp0 (wrA b (xs++numL n)::R) w':=by
 obtain ⟨v,h⟩:=St.wr.1 hS
 have HS:=Lib.hid h
 have HN:=Lib.hid hn
 have HL:=Lib.hid hl
 clear hS h hn hl
 go_enter Tryz.func55,Tryz.ntmps55
 go_upto_region 0 with (fail)
 refine rWn0 (w0:=w0) (fp0:=fp0) (R:=R) b n v xs HL.out (fun L w h=> number_calls n HN.out w) rfl (by kernel_rfl) rfl rfl rfl rfl HS.out ?_
 intro u11 w1 ⟨a,m,c,e11⟩ h1
 subst e11
 have HF:RowKit.Hid (St w0 fp0 (wrA b (xs++numL n)::R) w1):=by
  refine St.wr.2 ⟨.slice a m c,?_⟩
  rw [List.map_append]
  have h2:St w0 fp0 (blkA b 116 #[.slice a m c]::slA 5 (.slice a m c) (xs.map u8C++(bytes (textOf (numL n))).map u8C)::R) w1:=h1
  rw [bytes_textOf] at h2
  exact h2
 clear h1
 simp only [putL,List.foldl,Act.put,List.setIfInBounds_toArray,List.set_cons_succ,List.set_cons_zero]
 go_end0
 exact ⟨rfl,HF.out⟩
/- The reference's Number. -/
/-- The last k of the eight bytes. -/
def numT (n:Int) (k:Nat):List UInt8:=(List.range 8).map fun j=> if 8 - k≤j then numB n j else 0
theorem numT_next (n:Int) (k:Nat) (hk:k < 8):(numT n k).set (7 - k) (numB n (7 - k))=numT n (k+1):=by
 match k,hk with
 | 0,_=> rfl
 | 1,_=> rfl
 | 2,_=> rfl
 | 3,_=> rfl
 | 4,_=> rfl
 | 5,_=> rfl
 | 6,_=> rfl
 | 7,_=> rfl
theorem numB_of (n:Int) (k:Nat) (hk:k < 8):(numB n (7 - k)).toNat=uN n / 256 ^ k % 256:=by
 have h:uN n / 2 ^ (56 - 8 * (7 - k)) % 256 < 256:=Nat.mod_lt _ (by decide)
 rw [numB,UInt8.toNat_ofNat_of_lt' h,show 56 - 8 * (7 - k)=8 * k by omega,Nat.pow_mul]
set_option maxHeartbeats 4000000 in
set_option maxRecDepth 20000 in
theorem rnumber05_calls (n:Int) (hn:I64 n) (w:World):Calls Tryz.prog 76 #[.int .i64 n] w fun e w'=> ∃c,e=.returned (.slice (some ⟨c,0,none⟩) 8 8)∧St w [] [slA 5 (.slice (some ⟨c,0,none⟩) 8 8) ((numL n).map u8C)] w':=by
 have HX:=Lib.hid (xor_num hn)
 have HU:=Lib.hid (uN_lt hn)
 have HB8:=Lib.hid (fun k hk=> numB_of n k hk)
 clear hn
 go_enter Tryz.func76,Tryz.ntmps76
 have hx:=HX.out
 have hmk:∀w,Sem.run Tryz.prog (Instr.makeSlice 52 (.int .i64 8) (.int .i64 8)) w=.ok (.slice (some ⟨w.heap.size,0,none⟩) 8 8) (w.alloc (.cells #[.int .u8 0, .int .u8 0, .int .u8 0, .int .u8 0, .int .u8 0, .int .u8 0, .int .u8 0, .int .u8 0] 5)):=fun w=> by kernel_rfl
 go_upto_region 4 with (fail)
 have HS0:RowKit.Hid (St w [] (slA 5 (.slice (some ⟨w.heap.size,0,none⟩) 8 8) ((numT n 0).map u8C)::[]) (w.alloc (.cells #[.int .u8 0, .int .u8 0, .int .u8 0, .int .u8 0, .int .u8 0, .int .u8 0, .int .u8 0, .int .u8 0] 5))):=by
  refine St.addF (f:=[w.heap.size]) (St.start (w:=w) (L:=[]) (fp:=[]) rfl) ?_ ((Below.refl _ _).alloc (Nat.le_refl _) _) (fun k hk=> by rw [List.mem_singleton.1 hk];exact Nat.le_refl _)
  have h:=World.ownsRow_lit (base:=0) (e:=5) (size:=1) w #[.int .u8 0, .int .u8 0, .int .u8 0, .int .u8 0, .int .u8 0, .int .u8 0, .int .u8 0, .int .u8 0] 8 (Nat.zero_le _) (by decide) rfl
  exact ⟨h,rfl⟩
 clear hx hmk HX
 obtain ⟨u,hu⟩:∃u,uN n=u:=⟨_,rfl⟩
 have h0:(u:Int)=((u / 256 ^ 0:Nat):Int):=by simp
 rw [hu] at HU HB8 ⊢
 generalize hW:w.alloc _=W at *
 clear hW hu
 obtain ⟨g,hg⟩:∃g,w.heap.size=g:=⟨_,rfl⟩
 rw [hg] at HS0 ⊢
 clear hg
 rw [h0]
 clear h0
 go_loopg [3,5] 8 (fun gm z3 z5 wr=> ∃k:Nat,z5=.int .i64 (7 - (k:Int))∧z3=.int .u64 ((u / 256 ^ k:Nat):Int)∧gm+k=8∧RowKit.Hid (St w [] (slA 5 (.slice (some ⟨g,0,none⟩) 8 8) ((numT n k).map u8C)::[]) wr))
 case atStart=> exact ⟨0,rfl,rfl,rfl,HS0⟩
 case round=>
  clear HS0
  obtain ⟨k,rfl,rfl,hgk,Hs⟩:=hrel
  by_cases hk:k < 8
  · have hk':(0:Int)≤7 - (k:Int):=by omega
    obtain ⟨j,hj⟩:∃j:Nat,7 - k=j:=⟨_,rfl⟩
    have hji:(7 - (k:Int))=(j:Int):=by omega
    have hj8:j < 8:=by omega
    obtain ⟨_,hrow⟩:=Hs.out.has 0 rfl
    obtain ⟨hc,hf,hl⟩:=row_at (i:=j) (u:=u8C ((numT n k)[j]'(by simp [numT];omega))) (show (rowA 5 1 (.slice (some ⟨g,0,none⟩) 8 8) 8 ((numT n k).map u8C)).p wr _ from hrow) (by simp [numT]) (by rw [List.getElem?_map,List.getElem?_eq_getElem];rfl)
    have Hgk:=Lib.hid hgk
    have HJ:=Lib.hid hj
    rw [hji]
    have hm:(u / 256 ^ k % 256:Nat) < 256:=Nat.mod_lt _ (by decide)
    have hkb:(((u / 256 ^ k % 256:Nat):Int))=((numB n j).toNat:Int):=by rw [←hj,HB8.out k hk]
    have hq:(((u / 256 ^ k:Nat):Int)) / 256=((u / 256 ^ (k+1):Nat):Int):=by
     rw [Nat.pow_succ,←Nat.div_div_eq_div_mul]
     rfl
    have hq2:(((u / 256 ^ k:Nat):Int)) % 256=((numB n j).toNat:Int):=by rw [←hkb];rfl
    have HQ:=Lib.hid hq
    have HQ2:=Lib.hid hq2
    have hv:u / 256 ^ k < 18446744073709551616:=Nat.lt_of_le_of_lt (Nat.div_le_self _ _) HU.out
    generalize u / 256 ^ k=v at *
    clear hgk hj hji hrow hm hkb hq hq2
    have HN:RowKit.Hid (St w [] (slA 5 (.slice (some ⟨g,0,none⟩) 8 8) ((numT n (k+1)).map u8C)::[]) (wr.setCell ⟨g,j,none⟩ (.int .u8 ((v:Int) % 256)))):=by
     show St _ _ _ _
     rw [HQ2.out,←numT_next n k hk,List.map_set]
     have h:=Hs.out
     have h2:St w [] (rowA 5 1 (.slice (some ⟨g,0,none⟩) 8 8) ((numT n k).map u8C).length ((numT n k).map u8C)::[]) wr:=h
     have e8:((numT n k).map u8C).length=8:=by simp [numT]
     rw [e8] at h2
     have h3:=h2.setR j (u8C (numB n j))
     have h4:St w [] (rowA 5 1 (.slice (some ⟨g,0,none⟩) 8 8) (((numT n k).map u8C).set j (u8C (numB n j))).length (((numT n k).map u8C).set j (u8C (numB n j)))::[]) (wr.setCell ⟨g,j,none⟩ (u8C (numB n j))):=by
      rw [List.length_set,e8]
      exact h3
     rw [HJ.out]
     exact h4
    clear Hs
    go_wp2
    go_roundg (gk - 1)
    case rel=> exact ⟨k+1,by have:=HJ.out;congr 1;omega,by rw [HQ.out],by have:=Hgk.out;omega,HN⟩
    case measure=> have:=Hgk.out;omega
  · obtain rfl:k=8:=by omega
    have HF:RowKit.Hid (St w [] [slA 5 (.slice (some ⟨g,0,none⟩) 8 8) ((numL n).map u8C)] wr):=Hs.out
    have hneg:(7 - ((8:Nat):Int))= -1:=by omega
    rw [hneg]
    clear Hs hgk hk
    go_wp2
    go_ret
    exact ⟨g,rfl,HF.out⟩
theorem RNumber_calls (n:Int) (hn:I64 n) (w:World):Calls Tryz.prog 42 #[.int .i64 n] w fun e w'=> e=.returned (.string (textOf (numL n)))∧Below w.heap.size w w':=by
 have HC:=Lib.hid (rnumber05_calls n hn w)
 clear hn
 go_enter Tryz.func42,Tryz.ntmps42
 go_wp2_with fail
 (with_reducible refine HC.out.mono ?_)
 rintro e w1 ⟨c,rfl,h1⟩
 have hcv:(convert 52 9 (.slice (some ⟨c,0,none⟩) 8 8)).run Tryz.prog w1=.ok (.string (textOf (numL n))) w1:=by
  obtain ⟨_,hr⟩:=h1.has 0 rfl
  exact run_back hr
 have HB:=Lib.hid h1.below0
 clear HC h1
 go_wp2
 go_ret
 exact ⟨rfl,HB.out⟩
/- one, num; EncodeChanges of no changes. -/
def tdOne (h:Nat):Td:=⟨⟨#[116]⟩,some ⟨h,0,none⟩,1,1, .slice none 0 0, .slice none 0 0,none,0,0,[.string ⟨#[120]⟩, .int .i64 1, .int .i64 0, .int .i64 9, .int .i64 0, .bool false],[],[],[],[]⟩
def oneL (g h:Nat):List Asn:=[blkA g 89 #[.string ⟨#[116]⟩, .slice (some ⟨h,0,none⟩) 1 1, .slice none 0 0, .slice none 0 0, .slice none 0 0],blkA h 146 #[.string ⟨#[120]⟩, .int .i64 1, .int .i64 0, .int .i64 9, .int .i64 0, .bool false]]
theorem one_calls (w:World):Calls Tryz.prog 39 #[] w fun e w'=> ∃g h,e=.returned (.slice (some ⟨g,0,none⟩) 1 1)∧St w [] (oneL g h) w':=by
 have h1:=((St.start (w:=w) (L:=[]) (fp:=[]) rfl).newblk 146 #[.string ⟨#[120]⟩, .int .i64 1, .int .i64 0, .int .i64 9, .int .i64 0, .bool false]).newblk 89 #[.string ⟨#[116]⟩, .slice (some ⟨w.heap.size,0,none⟩) 1 1, .slice none 0 0, .slice none 0 0, .slice none 0 0]
 have HS:=Lib.hid h1
 simp only [World.size_alloc] at HS
 clear h1
 go_enter Tryz.func39,Tryz.ntmps39
 go_wp2
 go_ret
 exact ⟨_,_,rfl,HS.out⟩
theorem one_sch {w0:World} {fp0:List Nat} {R:List Asn} (g h i:Nat) (h1:R[i]? =some (blkA g 89 #[.string ⟨#[116]⟩, .slice (some ⟨h,0,none⟩) 1 1, .slice none 0 0, .slice none 0 0, .slice none 0 0])) (h2:R[i+1]? =some (blkA h 146 #[.string ⟨#[120]⟩, .int .i64 1, .int .i64 0, .int .i64 9, .int .i64 0, .bool false])):
 Rd w0 fp0 R fun w=> SchX w [tdOne h] (.slice (some ⟨g,0,none⟩) 1 1):=fun M w hs=> by
 have r1:=(Rd.of_piece i h1 fun w f hb=> SlX.of_blk (X:=[]) (size:=5) (n:=1) (c:=1) hb.1 (by simp) (by decide) rfl) M w hs
 have r2:=(Rd.of_piece (i+1) h2 fun w f hb=> SlX.of_blk (X:=[]) (size:=6) (n:=1) (c:=1) hb.1 (by simp) (by decide) rfl) M w hs
 exact ⟨r1,fun t ht=> by
  rw [List.mem_singleton.1 ht]
  exact ⟨r2,(by intro u hu;simp only [tdOne,List.mem_cons,List.not_mem_nil,or_false] at hu;rcases hu with rfl | rfl | rfl | rfl | rfl | rfl <;> rfl),⟨SlX.nil _ _ _ _ _,fun i hi=> absurd hi (by simp [tdOne])⟩,⟨SlX.nil _ _ _ _ _,fun i hi=> absurd hi (by simp [tdOne])⟩⟩⟩
theorem one_sm (h:Nat):∀t∈[tdOne h],t.Sm:=fun t ht=> by
 rw [List.mem_singleton.1 ht]
 exact ⟨by simp [tdOne],by simp [tdOne],by simp [tdOne],by simp [tdOne],by simp [tdOne]⟩
def numR (n:Int):Rw:=[⟨1,n,⟨#[]⟩⟩]
theorem num_calls (n:Int) (w:World):Calls Tryz.prog 40 #[.int .i64 n] w fun e w'=> ∃g,e=.returned (.slice (some ⟨g,0,none⟩) 1 1)∧St w [] [blkA g 68 #[.int .i64 1, .int .i64 n, .string ⟨#[]⟩]] w':=by
 have HS:=Lib.hid ((St.start (w:=w) (L:=[]) (fp:=[]) rfl).newblk 68 #[.int .i64 1, .int .i64 n, .string ⟨#[]⟩])
 go_enter Tryz.func40,Tryz.ntmps40
 go_wp2
 go_ret
 exact ⟨_,rfl,HS.out⟩
theorem num_vals {w:World} {n:Int} {g:Nat} {f:List Nat} (h:(blkA g 68 #[.int .i64 1, .int .i64 n, .string ⟨#[]⟩]).p w f):ValsAt w (numR n) (.slice (some ⟨g,0,none⟩) 1 1):=⟨SlX.of_blk (X:=[]) (size:=3) (n:=1) (c:=1) h.1 (by simp) (by decide) rfl,by
 intro x hx
 rw [numR,List.mem_singleton] at hx
 subst hx
 exact Nat.zero_le _⟩
set_option maxHeartbeats 4000000 in
theorem enc0_calls (w:World):Calls Tryz.prog 24 #[.slice none 0 0] w fun e w'=> ∃a n c,e=.returned (.slice a n c)∧St w [] [slA 5 (.slice a n c) ((numL 0).map u8C)] w':=by
 have h1:St w [] (wrA w.heap.size []::[]) (w.alloc (.cells #[.slice none 0 0] 116)):=St.wr.2 ⟨_,(((St.start (w:=w) (L:=[]) (fp:=[]) rfl).newblk 116 #[.slice none 0 0]).nilA 5).perm (List.Perm.swap _ _ _)⟩
 have HN:=Lib.hid (wNumber_calls w.heap.size [] 0 (by unfold I64;omega) (by simp) w _ [] _ h1)
 clear h1
 go_enter Tryz.func24,Tryz.ntmps24
 go_wp2_with fail
 (with_reducible refine HN.out.mono ?_)
 rintro e w1 ⟨rfl,h2⟩
 obtain ⟨v,h3⟩:=St.wr.1 h2
 obtain ⟨_,hr⟩:=h3.has 1 rfl
 obtain ⟨a,n,c,rfl⟩:=sl_shape hr
 obtain ⟨_,hb⟩:=h3.has 0 rfl
 have c0:=(blk_get hb).1 0
 have cl:=(blk_get hb).2.2
 simp only [List.getElem?_toArray,List.getElem?_cons_zero] at c0
 have HF:RowKit.Hid (St w [] [slA 5 (.slice a n c) ((numL 0).map u8C)] w1):=h3.drop
 clear HN h2 h3 hr hb
 go_upto_region 4 with (fail)
 go_loopg [14] 0 (fun g z wr=> z=.int .i64 0∧wr=w1)
 case atStart=> exact ⟨rfl,rfl⟩
 case round=>
  obtain ⟨rfl,rfl⟩:=hrel
  go_wp2
  go_ret
  exact ⟨_,_,_,rfl,HF.out⟩
/- awake: its drawn regions. -/
set_option maxRecDepth 100000
theorem conv1 {P:Program} {o:Oper} {env:Operand→Value} {w:World} {t u:TypeId} {x:Operand} {v r:Value} (hop:o.op=.convert t u x) (hx:env x=v) (hr:(convert t u v).run P w=.ok r w):(execOp env o).run P w=.ok (.value r) w:=by
 simp only [execOp,hop,hx,Sem.run_bind,hr,Result.andThen_ok,Sem.run_pure]
/-- Strings that are equal. -/
theorem Rg.Ob.eqlStr (G:Rg) (i:Nat) (s:ByteArray) {ty r:TypeId} {x y:Operand} (hop:(opAt G.ops i).op=.binOp .eql ty x y r:=by rfl) (hx:∀a,G.env i a x=.string s:=by intro _;exact kr (by kernel_rfl)) (hy:∀a,G.env i a y=.string s:=by intro _;exact kr (by kernel_rfl)) (hv:∀g,G.valD i g=.bool true:=by intro _;exact kr (by kernel_rfl))
 (hq:(G.quiet i G.pcs.length && G.okV i)=true:=by exact kr (by kernel_rfl)) (hw:∀a,wantE G.ops (opAt G.ops i) (G.env i a)=some true:=by intro _;exact kr (by kernel_rfl)):G.Ob i:=Rg.Ob.read G i hq hw fun L a w _ _=> by
 simp [execOp,hop,hx,hy,go_sem,hv]
noncomputable def gAw5 (b cb:Nat) (x0 x1 x2 x3:Value) (e1 e2:Int) (A B C:Asn):=rgx Tryz.prog Tryz.f12 5 50 [13,14,15,16,17,18,3,4] [(1,pV b 0),(2,pV cb 0)] (Vq 0 13 [Kp b 0,Kv (.agg #[x0,x1,x2,x3]),Kv (.int .i64 e1),Kp b 0,Kv (.agg #[x0,x1,x2,x3]),Kv (.int .i64 e2)]++Vq 6 3 [Kv (.int .i64 e1),Kv (.int .i64 e2)]) [Bk cb (35) [x0,x1,x2,x3], .gen [2,5] [] fun L _g=> match L 5 with | true=> C | false=> match L 2 with | true=> B | false=> A]
theorem rAw5 (b cb:Nat) (x0 x1 x2 x3:Value) (e1 e2:Int) (A B C:Asn) (w0:World) (fp0:List Nat) (R:List Asn) (h1:∀w,St w0 fp0 ([blkA cb 35 #[x0,x1,x2,x3],A]++R) w→Calls Tryz.prog 19 #[.pointer (some ⟨b,0,none⟩), .agg #[x0,x1,x2,x3]] w fun e w2=> e=.returned (.int .i64 e1)∧St w0 fp0 ([blkA cb 35 #[x0,x1,x2,x3],B]++R) w2) (h2:∀w,St w0 fp0 ([blkA cb 35 #[x0,x1,x2,x3],B]++R) w→Calls Tryz.prog 19 #[.pointer (some ⟨b,0,none⟩), .agg #[x0,x1,x2,x3]] w fun e w2=> e=.returned (.int .i64 e2)∧St w0 fp0 ([blkA cb 35 #[x0,x1,x2,x3],C]++R) w2) {w:World} {c:Code} {a:Act} {Q:Exit→Act→World→Prop} (c1:isReg c=true) (c2:cops c=opsR Tryz.f12 5) (c3:a.tmps.size=50) (_c4:a.defers=a.defers) (i1:a.eval (.tmp 1)=.pointer (some ⟨b,0,none⟩)) (i2:a.eval (.tmp 2)=.pointer (some ⟨cb,0,none⟩))
 (hS:St w0 fp0 ([blkA cb (35) #[x0,x1,x2,x3],A]++R) w)
 (hQ:∀(w1:World),St w0 fp0 ([blkA cb (35) #[x0,x1,x2,x3],C]++R) w1→Q .normal (putL a [(13, .pointer (some ⟨b,0,none⟩)),(14, .agg #[x0,x1,x2,x3]),(15, .int .i64 e1),(16, .pointer (some ⟨b,0,none⟩)),(17, .agg #[x0,x1,x2,x3]),(18, .int .i64 e2),(3, .int .i64 e1),(4, .int .i64 e2)]) w1):c.wp Tryz.prog Q a w:=by
 have ok:(gAw5 b cb x0 x1 x2 x3 e1 e2 A B C w0 fp0 R).Ok 8:=Rg.ok _ 8 [1,2,4,5] ⟨.run1 _ 1 0 (fun _=> blkA cb 35 #[x0,x1,x2,x3]) (fun _ _=> blkA cb 35 #[x0,x1,x2,x3]) (fun L a w fp _ hp=> (by obtain ⟨h1, -, -⟩:=blk_get hp;exact ⟨.agg #[x0,x1,x2,x3],w,fp,exec_loads (cs:=[x0,x1,x2,x3]) (off:=0) rfl (kr (by kernel_rfl)) (kr (by kernel_rfl)) (kr (by kernel_rfl)) (fun j u hj=> (by rw [Nat.zero_add,h1 j];simpa using hj)),kr (by kernel_rfl),hp,Tr.refl _ _⟩)), .callG _ 2 (f:=19) (args:=fun _=> #[.pointer (some ⟨b,0,none⟩), .agg #[x0,x1,x2,x3]]) (fun _=> [blkA cb 35 #[x0,x1,x2,x3],A]) (fun _ _=> [blkA cb 35 #[x0,x1,x2,x3],B]) (fun g w h=> (h1 w h).mono fun e w2 ⟨e1,h2⟩=> ⟨_,e1,kr (by kernel_rfl),h2⟩), .run1 _ 4 0 (fun _=> blkA cb 35 #[x0,x1,x2,x3]) (fun _ _=> blkA cb 35 #[x0,x1,x2,x3]) (fun L a w fp _ hp=> (by obtain ⟨h1, -, -⟩:=blk_get hp;exact ⟨.agg #[x0,x1,x2,x3],w,fp,exec_loads (cs:=[x0,x1,x2,x3]) (off:=0) rfl (kr (by kernel_rfl)) (kr (by kernel_rfl)) (kr (by kernel_rfl)) (fun j u hj=> (by rw [Nat.zero_add,h1 j];simpa using hj)),kr (by kernel_rfl),hp,Tr.refl _ _⟩)), .callG _ 5 (f:=19) (args:=fun _=> #[.pointer (some ⟨b,0,none⟩), .agg #[x0,x1,x2,x3]]) (fun _=> [blkA cb 35 #[x0,x1,x2,x3],B]) (fun _ _=> [blkA cb 35 #[x0,x1,x2,x3],C]) (fun g w h=> (h2 w h).mono fun e w2 ⟨e1,h2⟩=> ⟨_,e1,kr (by kernel_rfl),h2⟩),trivial⟩
 refine wp_regD ok (by kernel_rfl) ⟨c1,c2⟩ ⟨c3,fun p hp=> ?_⟩ hS fun A1 w1 N1 H1=> ?_
 · simp only [gAw5,rgx,List.map_nil,List.append_nil,List.mem_cons,List.not_mem_nil,or_false] at hp
   rcases hp with rfl | rfl
   · exact i1
   · exact i2
 have e13:=N1.val 0 rfl
 have e14:=N1.val 1 rfl
 have e15:=N1.val 2 rfl
 have e16:=N1.val 3 rfl
 have e17:=N1.val 4 rfl
 have e18:=N1.val 5 rfl
 have e3:=N1.val 6 rfl
 have e4:=N1.val 7 rfl
 have h:=hQ  w1  H1
 rw [frame_eq N1.frame (cons_eq e13 (cons_eq e14 (cons_eq e15 (cons_eq e16 (cons_eq e17 (cons_eq e18 (cons_eq e3 (cons_eq e4 rfl))))))))]
 exact h
noncomputable def gAw8 (S:Nat) (A:Asn):=rgx Tryz.prog Tryz.f12 8 50 [25,26,27,28,29,30,31,32,33,34,35,36,37,38,39,40,41,42,43,44,45,46,47,48,49,0] [(3, .int .i64 0),(4, .int .i64 5),(5, .int .i64 4),(6,pV S 0)] (Vq 0 25 [Kv (.int .i64 0),Kv (.bool true),Kv (.bool true),Kv (.int .i64 5),Kv (.bool true),Kv (.bool true),Kv (.bool true),Kv (.int .i64 4),Kv (.bool true),Kv (.bool true),Kv (.bool true),Kp S 0,Kv (.bool true),Kv (.bool true),Kv (.bool true),Kp S 0,Kv (.int .i64 4),Kv (.bool true),Kv (.bool true),Kv (.bool true),Vf.slice,Kv (.string (textOf (numL 0))),Kv (.string (textOf (numL 0))),Kv (.bool true),Kv (.bool true)]++Vq 25 0 [Kv (.bool true)]) [.all (A), .new 20 [45] fun g=> slA 5 (g 45) ((numL 0).map u8C)]
theorem rAw8 (S:Nat) (A:Asn) (w0:World) (fp0:List Nat) (R:List Asn) (hnext:∀w f,A.p w f→Calls Tryz.prog 41 #[.pointer (some ⟨S,0,none⟩)] w fun e w'=> e=.returned (.int .i64 4)∧Below w.heap.size w w') (henc:∀(L:List Asn) (w:World),St w0 fp0 (L++R) w→Calls Tryz.prog 24 #[.slice none 0 0] w fun e w2=> ∃v f,e=.returned v∧(slA 5 (v) ((numL 0).map u8C)).p w2 f∧Below w.heap.size w w2∧∀k∈f,w.heap.size≤k) (hrn:∀(L:List Asn) (w:World),St w0 fp0 (L++R) w→Calls Tryz.prog 42 #[.int .i64 0] w fun e w'=> e=.returned (.string (textOf (numL 0)))∧Below w.heap.size w w') {w:World} {c:Code} {a:Act} {Q:Exit→Act→World→Prop} (c1:isReg c=true) (c2:cops c=opsR Tryz.f12 8) (c3:a.tmps.size=50) (_c4:a.defers=a.defers) (i3:a.eval (.tmp 3)=.int .i64 0) (i4:a.eval (.tmp 4)=.int .i64 5) (i5:a.eval (.tmp 5)=.int .i64 4) (i6:a.eval (.tmp 6)=.pointer (some ⟨S,0,none⟩))
 (hS:St w0 fp0 ([A,emp]++R) w)
 (hQ:∀(u45:Value) (w1:World),(∃a n c,u45=.slice a n c)→St w0 fp0 ([A,slA 5 (u45) ((numL 0).map u8C)]++R) w1→Q .normal (putL a [(25, .int .i64 0),(26, .bool true),(27, .bool true),(28, .int .i64 5),(29, .bool true),(30, .bool true),(31, .bool true),(32, .int .i64 4),(33, .bool true),(34, .bool true),(35, .bool true),(36, .pointer (some ⟨S,0,none⟩)),(37, .bool true),(38, .bool true),(39, .bool true),(40, .pointer (some ⟨S,0,none⟩)),(41, .int .i64 4),(42, .bool true),(43, .bool true),(44, .bool true),(45,u45),(46, .string (textOf (numL 0))),(47, .string (textOf (numL 0))),(48, .bool true),(49, .bool true),(0, .bool true)]) w1):c.wp Tryz.prog Q a w:=by
 have ok:(gAw8 S A w0 fp0 R).Ok 26:=Rg.ok _ 26 [1,4,8,16,17,20,21,22,23] ⟨.eqlS _ 1 .i64 0, .eqlS _ 4 .i64 5, .eqlS _ 8 .i64 4, .ask1 _ 16 0 (f:=41) (args:=#[.pointer (some ⟨S,0,none⟩)]) (v:=.int .i64 4) hnext, .eqlS _ 17 .i64 4, .callNew _ 20 1 (fun v=> slA 5 (v) ((numL 0).map u8C)) (fun _ _ _ h=> sl_shape h) henc, .run1 _ 21 1 (fun g=> slA 5 (g 45) ((numL 0).map u8C)) (fun g _=> slA 5 (g 45) ((numL 0).map u8C)) (fun L a w fp _ hp=> ⟨.string (textOf (numL 0)),w,fp,conv1 (v:=.slice (sa (slots a 45)) (sn (slots a 45)) (sc (slots a 45))) rfl (kr (by kernel_rfl)) (run_back (slSelf hp)),kr (by kernel_rfl),hp,Tr.refl _ _⟩), .askR _ 22 hrn, .eqlStr _ 23 (textOf (numL 0)),trivial⟩
 refine wp_regD ok (by kernel_rfl) ⟨c1,c2⟩ ⟨c3,fun p hp=> ?_⟩ hS fun A1 w1 N1 H1=> ?_
 · simp only [gAw8,rgx,List.map_nil,List.append_nil,List.mem_cons,List.not_mem_nil,or_false] at hp
   rcases hp with rfl | rfl | rfl | rfl
   · exact i3
   · exact i4
   · exact i5
   · exact i6
 have e25:=N1.val 0 rfl
 have e26:=N1.val 1 rfl
 have e27:=N1.val 2 rfl
 have e28:=N1.val 3 rfl
 have e29:=N1.val 4 rfl
 have e30:=N1.val 5 rfl
 have e31:=N1.val 6 rfl
 have e32:=N1.val 7 rfl
 have e33:=N1.val 8 rfl
 have e34:=N1.val 9 rfl
 have e35:=N1.val 10 rfl
 have e36:=N1.val 11 rfl
 have e37:=N1.val 12 rfl
 have e38:=N1.val 13 rfl
 have e39:=N1.val 14 rfl
 have e40:=N1.val 15 rfl
 have e41:=N1.val 16 rfl
 have e42:=N1.val 17 rfl
 have e43:=N1.val 18 rfl
 have e44:=N1.val 19 rfl
 have e45:=N1.val 20 rfl
 have e46:=N1.val 21 rfl
 have e47:=N1.val 22 rfl
 have e48:=N1.val 23 rfl
 have e49:=N1.val 24 rfl
 have e0:=N1.val 25 rfl
 have h:=hQ (slots A1 45) w1 ⟨_,_,_,e45⟩ H1
 rw [frame_eq N1.frame (cons_eq e25 (cons_eq e26 (cons_eq e27 (cons_eq e28 (cons_eq e29 (cons_eq e30 (cons_eq e31 (cons_eq e32 (cons_eq e33 (cons_eq e34 (cons_eq e35 (cons_eq e36 (cons_eq e37 (cons_eq e38 (cons_eq e39 (cons_eq e40 (cons_eq e41 (cons_eq e42 (cons_eq e43 (cons_eq e44 (cons_eq rfl (cons_eq e46 (cons_eq e47 (cons_eq e48 (cons_eq e49 (cons_eq e0 rfl))))))))))))))))))))))))))]
 exact h
end Go.Proofs.YtpdlkdoogojboaaGreat
/- awake. -/
namespace Go.Proofs.YtpdlkdoogojboaaGreat
open Go Go.RowKit
def chA (g:Nat):Chg:=⟨0,3,none,0,some ⟨g,0,none⟩,1,[],numR 5⟩
def chB (g:Nat):Chg:=⟨0,3,some ⟨g,0,none⟩,1,none,0,numR 6,[]⟩
def D1:Db:=[(1,[(3,numR 5)],4)]
theorem awA (h g:Nat):chkD (newD [tdOne h]) (chA g)=0∧appD (newD [tdOne h]) (chA g)=D1:=⟨by kernel_rfl,by kernel_rfl⟩
theorem awB (g:Nat):chkD D1 (chA g)=5∧appD D1 (chA g)=D1:=⟨by kernel_rfl,by kernel_rfl⟩
theorem awC (g:Nat):chkD D1 (chB g)=4∧appD D1 (chB g)=D1:=⟨by kernel_rfl,by kernel_rfl⟩
theorem numR_ok (n:Int) (h:I64 n):∀v∈numR n,I64 v.int:=by
 intro v hv
 rw [numR,List.mem_singleton] at hv
 subst hv
 exact h
theorem chA_ok (g:Nat):(chA g).Ok:=⟨by unfold I64 chA;simp,by unfold I64 chA;simp,by simp [chA],numR_ok 5 (by unfold I64;omega)⟩
theorem chB_ok (g:Nat):(chB g).Ok:=⟨by unfold I64 chB;simp,by unfold I64 chB;simp,numR_ok 6 (by unfold I64;omega),by simp [chB]⟩
theorem D1_len:∀t∈D1,t.2.1.length < 1000000:=by
 intro t ht
 rw [D1,List.mem_singleton] at ht
 subst ht
 show 1 < 1000000
 omega
theorem D0_len (h:Nat):∀t∈newD [tdOne h],t.2.1.length < 1000000:=fun t ht=> by
 have:=newD_max _ t ht
 omega
set_option maxHeartbeats 8000000 in
set_option maxRecDepth 20000 in
theorem awake40_calls (w:World):Calls Tryz.prog 12 #[] w fun e w'=> e=.returned (.bool true)∧Below w.heap.size w w':=by
 have HO:=Lib.hid (one_calls w)
 go_enter Tryz.func12,Tryz.ntmps12
 go_wp2_with fail
 (with_reducible refine HO.out.mono ?_)
 rintro e w1 ⟨og,oh,rfl,h1⟩
 have HN:=Lib.hid (StNew_calls [tdOne oh] _ (one_sm oh) (by simp) w w1 [] (oneL og oh) (one_sch og oh 0 rfl rfl) h1)
 clear HO h1
 go_wp2_with fail
 (with_reducible refine HN.out.mono ?_)
 rintro e w2 ⟨b,rfl,h2⟩
 have H2:=Lib.hid h2
 have HNU:=Lib.hid (num_calls 5 w2)
 clear HN h2
 go_wp2_with fail
 (with_reducible refine HNU.out.mono ?_)
 rintro e w3 ⟨ng,rfl,h3⟩
 have h4:=newB H2.out h3
 have h5:=h4.newblk 35 #[.int .i64 0, .int .i64 3, .slice none 0 0, .slice (some ⟨ng,0,none⟩) 1 1]
 have H5:=Lib.hid h5
 clear HNU H2 h3 h4 h5
 go_upto_region 5 with (fail)
 generalize hW:w3.alloc _=W at *
 clear hW
 obtain ⟨cb,hcb⟩:∃cb,w3.heap.size=cb:=⟨_,rfl⟩
 rw [hcb] at H5 ⊢
 clear hcb
 obtain ⟨R1,hR1⟩:∃R1,blkA ng 68 #[.int .i64 1, .int .i64 5, .string ⟨#[]⟩]::oneL og oh=R1:=⟨_,rfl⟩
 have HS5:RowKit.Hid (St w [] ([blkA cb 35 #[.int .i64 0, .int .i64 3, .slice none 0 0, .slice (some ⟨ng,0,none⟩) 1 1],stA b (newD [tdOne oh])]++R1) W):=by
  rw [←hR1]
  exact St_re (L:=[_,_,_]) H5.out [0,2,1] [] (by kernel_rfl)
 have hcx:∀A,Rd w [] ([A]++R1) fun w=> (chA ng).X w:=fun A M w' hs=> by
  rw [←hR1] at hs
  exact ⟨ValsX.nil _ _ _ _,(Rd.of_piece (R:=[A]++(blkA ng 68 #[.int .i64 1, .int .i64 5, .string ⟨#[]⟩]::oneL og oh)) 1 rfl fun w f h=> num_vals h) M w' hs⟩
 refine rAw5 (w0:=w) (fp0:=[]) (R:=R1) b cb (.int .i64 0) (.int .i64 3) (.slice none 0 0) (.slice (some ⟨ng,0,none⟩) 1 1) 0 5 (stA b (newD [tdOne oh])) (stA b D1) (stA b D1) ?_ ?_ rfl (by kernel_rfl) rfl rfl rfl rfl HS5.out ?_
 · intro w' h'
   have h:=Apply_calls b _ (chA ng) (chA_ok ng) (D0_len oh) w w' [] _ (hcx _) (h'.perm (List.Perm.swap _ _ _))
   rw [(awA oh ng).1,(awA oh ng).2] at h
   refine h.mono ?_
   rintro e w4 ⟨rfl,h4⟩
   exact ⟨rfl,h4.perm (List.Perm.swap _ _ _)⟩
 · intro w' h'
   have h:=Apply_calls b _ (chA ng) (chA_ok ng) D1_len w w' [] _ (hcx _) (h'.perm (List.Perm.swap _ _ _))
   rw [(awB ng).1,(awB ng).2] at h
   refine h.mono ?_
   rintro e w4 ⟨rfl,h4⟩
   exact ⟨rfl,h4.perm (List.Perm.swap _ _ _)⟩
 intro w4 h4
 have H4:RowKit.Hid (St w [] (stA b D1::R1) w4):=St.drop h4
 clear h4 H5 HS5 hcx hR1
 simp only [putL,List.foldl,Act.put,List.setIfInBounds_toArray,List.set_cons_succ,List.set_cons_zero]
 have HNU:=Lib.hid (num_calls 6 w4)
 go_wp2_with fail
 (with_reducible refine HNU.out.mono ?_)
 rintro e w5 ⟨nh,rfl,h5⟩
 have h6:=newB H4.out h5
 have h7:St w [] (stA b D1::blkA nh 68 #[.int .i64 1, .int .i64 6, .string ⟨#[]⟩]::R1) w5:=h6.perm (List.Perm.swap _ _ _)
 have HA:=Lib.hid (Apply_calls b D1 (chB nh) (chB_ok nh) D1_len w w5 [] _ (fun M w' hs=> ⟨(Rd.of_piece (R:=blkA nh 68 #[.int .i64 1, .int .i64 6, .string ⟨#[]⟩]::R1) 0 rfl fun w f h=> num_vals h) M w' hs,ValsX.nil _ _ _ _⟩) h7)
 rw [(awC nh).1,(awC nh).2] at HA
 unfold chB Chg.v Chg.ov Chg.nv numR at HA
 simp only [List.length_cons,List.length_nil,Nat.zero_add] at HA
 clear HNU H4 h5 h6 h7
 go_wp2_with fail
 (with_reducible refine HA.out.mono ?_)
 rintro e w6 ⟨rfl,h6⟩
 obtain ⟨q,hq,hs⟩:=h6.openD
 have hq1:q.ts.length=1:=hq.tlen
 obtain ⟨T,hT⟩:∃T,q.ts=[T]:=by
  match e:q.ts,hq1 with
  | [T],_=> exact ⟨T,rfl⟩
 have hd:=hq.d
 rw [hT] at hd
 have hnx:T.next=4:=by
  have h1:=List.cons.inj hd
  have h2:=h1.1
  unfold Tb.d at h2
  injection h2 with _ h2
  injection h2
 have hdb:=db_get hs
 have HT:=Lib.hid (table_in b 0 _ q.tv (ptrV T.S) w6 hdb.2.1 hdb.2.2.2.2 (by rw [hT];rfl))
 obtain ⟨R2,hR2⟩:∃R2,dbP b q++(blkA nh 68 #[.int .i64 1, .int .i64 6, .string ⟨#[]⟩]::R1)=R2:=⟨_,rfl⟩
 have HS6:RowKit.Hid (St w [] ([tbA T,emp]++R2) w6):=by
  rw [hT] at hs
  rw [←hR2]
  have h:=St.emp.2 hs
  refine h.perm ?_
  classical
  refine List.perm_iff_count.2 fun a=> ?_
  simp only [List.map_cons,List.map_nil,List.cons_append,List.nil_append,List.count_append,List.count_cons]
  omega
 have HNX:=Lib.hid hnx
 obtain ⟨S,cols,I,LL0,next⟩:=T
 simp only at HNX HT
 clear HA h6 hq hs hq1 hT hd hnx hdb hR2
 unfold ptrV at HT
 rw [show ((0:Nat):Int)=0 from rfl] at HT
 go_wp2_with fail
 (with_reducible refine HT.out.mono ?_)
 rintro e w7 ⟨rfl,rfl⟩
 clear HT
 go_upto_region 8 with (fail)
 refine rAw8 (w0:=w) (fp0:=[]) (R:=R2) S (tbA ⟨S,cols,I,LL0,next⟩) ?_ ?_ ?_ rfl (by kernel_rfl) rfl rfl rfl rfl rfl rfl HS6.out ?_
 · intro w' f h'
   refine (Next_calls h').mono ?_
   rintro e w8 ⟨rfl,rfl⟩
   exact ⟨by rw [HNX.out],Below.refl _ _⟩
 · intro M w' _
   refine (enc0_calls w').mono ?_
   rintro e w8 ⟨a,n,c,rfl,h8⟩
   obtain ⟨f,h1,h2,h3⟩:=piece_of (_fp0:=[]) h8
   exact ⟨_,f,rfl,h1,h2,h3⟩
 · intro M w' _
   exact RNumber_calls 0 (by unfold I64;omega) w'
 intro u45 w8 ⟨ya,yn,yc,e45⟩ h8
 subst e45
 have HF:=Lib.hid (St.below0 h8)
 clear h8 HS6
 simp only [putL,List.foldl,Act.put,List.setIfInBounds_toArray,List.set_cons_succ,List.set_cons_zero]
 go_wp2
 go_ret
 exact ⟨rfl,HF.out⟩
/- StoreMatchesModel. -/
theorem rd_below {w0:World} {R:List Asn} {Q:World→Prop} (h:∀w,Below w0.heap.size w0 w→Q w):Rd w0 [] R Q:=Rd.of_tr fun w _fp ht=> h w (ht.below (Nat.le_refl _) fun _k hk=> nomatch hk)
theorem Both.max {w0 w:World} {fp0:List Nat} {R:List Asn} {b:Nat} {D:Db} {mv:Value} (hl:∀t∈D,t.2.1.length < 1000000) (h:Both w0 fp0 R b D mv w):Calls Tryz.prog 15 #[.pointer (some ⟨b,0,none⟩),mv] w fun e w'=> e=.returned (.bool true)∧Both w0 fp0 R b D mv w':=by
 obtain ⟨ms,a,c,P,rfl,hm,hr,hs⟩:=h
 refine (same_calls b D ms _ hm hl w0 w fp0 (P++R) hr hs).mono ?_
 rintro e w' ⟨rfl,h2⟩
 exact ⟨rfl,ms,a,c,P,rfl,hm,hr,h2⟩
theorem runD_lt (td:List Td) (l:List Chg) (h:l.length≤1000):∀t∈runD (newD td) l,t.2.1.length < 1000000:=fun t ht=> by
 have:=runD_max (newD_max td) l t ht
 omega
theorem Both.below {w0 w:World} {b:Nat} {D:Db} {mv:Value} (h:Both w0 [] [] b D mv w):Below w0.heap.size w0 w:=by
 obtain ⟨ms,a,c,P, -, -, -,hs⟩:=h
 exact hs.below0
set_option maxHeartbeats 4000000 in
theorem model_calls (td:List Td) (sv:Value) (l:List Chg) (lv:Value) (W:World) (hs:SchX W td sv) (hl:ChsX W l lv) (hok:∀c∈l,c.Ok):Calls Tryz.prog 3 #[sv,lv] W fun e W'=> e=.returned (.bool true)∧Below W.heap.size W W':=by
 obtain ⟨sa,sc,rfl⟩:=hs.sl.shape
 obtain ⟨la,lc,rfl⟩:=hl.sl.shape
 have HAW:=Lib.hid (fun w'=> awake40_calls w')
 have HS:=Lib.hid hs
 have HL:=Lib.hid hl
 have HOK:=Lib.hid hok
 have HSML:RowKit.Hid (∀w',Below W.heap.size W w'→Calls Tryz.prog 13 #[.slice sa td.length sc, .slice la l.length lc] w' fun e w2=> QPost (SmallP td l) w' e w2):=fun w' hb=> Small_calls td l _ _ w' (hs.mono hb) (hl.mono hb)
 have HRUN:RowKit.Hid (∀w',Below W.heap.size W w'→SmallP td l→Calls Tryz.prog 14 #[.slice sa td.length sc, .slice la l.length lc] w' fun e w2=> RunPost w' [] [] (runD (newD td) l) e w2):=fun w' hb hp=>
  run_calls td _ l _ (fun t ht=> (hp.tds t ht).sm) (by have:=hp.tn;omega) (by have:=hp.ln;omega) hok w' w' [] [] (rd_below fun w h=> hs.mono (hb.trans (h.mono hb.size))) (rd_below fun w h=> hl.mono (hb.trans (h.mono hb.size))) (St.start (L:=[]) (fp:=[]) rfl)
 generalize td.length=n at *
 generalize l.length=m at *
 clear hs hl hok
 go_enter Tryz.func3,Tryz.ntmps3
 go_wp2_with fail
 (with_reducible refine (HAW.out _).mono ?_)
 rintro e w1 ⟨rfl,hb1⟩
 have HB1:=Lib.hid hb1
 have HSM:=Lib.hid (HSML.out w1 hb1)
 clear hb1 HSML
 go_wp2_with fail
 (with_reducible refine HSM.out.mono ?_)
 rintro e w2 ⟨q,rfl,hq,rfl⟩
 have HQ:=Lib.hid hq
 clear hq HSM
 cases q with
 | false=>
  clear HQ HRUN
  go_wp2_with fail
  (with_reducible refine (HAW.out _).mono ?_)
  rintro e w3 ⟨rfl,hb3⟩
  have HB3:=Lib.hid (HB1.out.trans (hb3.mono HB1.out.size))
  clear hb3
  go_wp2
  go_ret
  exact ⟨rfl,HB3.out⟩
 | true=>
  have HP:RowKit.Hid (SmallP td l):=by
   show SmallP td l
   have:=HQ.out
   simpa using this
  have HR:=Lib.hid (HRUN.out w1 HB1.out HP.out)
  clear HQ HRUN
  go_wp2_with fail
  (with_reducible refine HR.out.mono ?_)
  rintro e w3 ⟨b,mv,rfl,h3⟩
  obtain ⟨ma,mn,mc,rfl⟩:∃a n c,mv=.slice a n c:=by
   obtain ⟨ms,a,c,P,e, -⟩:=h3
   exact ⟨a,_,c,e⟩
  have HSA:=Lib.hid (h3.max (runD_lt td l (by have:=HP.out.ln;omega)))
  clear HR h3
  go_wp2_with fail
  (with_reducible refine HSA.out.mono ?_)
  rintro e w4 ⟨rfl,h4⟩
  have HB4:=Lib.hid (HB1.out.trans (h4.below.mono HB1.out.size))
  clear HSA h4
  go_wp2
  go_ret
  exact ⟨rfl,HB4.out⟩
end Go.Proofs.YtpdlkdoogojboaaGreat
/- Reading: changes with their bytes, a change, a number. -/
namespace Go.Proofs.YtpdlkdoogojboaaGreat
open Go Go.RowKit Go.ChangeShapes Go.WideShapes Go.ChangeAt Go.WideMaps Go.WideElems
set_option maxRecDepth 100000
variable {H:Type} {enc:TypeId×Value→H}
theorem bCH:Tryz.prog.bytesOf 35=64:=by kernel_rfl
theorem open_changesB {W:World} {base:Nat} {v:Value} {d:DataW H} {p:List MemPlace} (hok:Value.okWide Tryz.prog W .any base 24 v) (h:DataW.Trod enc Tryz.prog W 0 (fun _=> true) true 24 v d p) (hw:∀z∈d.weights Tryz.prog 24,z≤reachBytes):∃l,ChsX W l v∧(∀c∈l,c.Ok)∧(l.length+1) * 64≤140737488355328:=by
 obtain ⟨fuel,h⟩:=h
 rw [cell_of_one_slice W Tryz.underlying24 hok] at h
 rcases slice_read Tryz.underlying24 cCH (by omega) h with ⟨a,e⟩ | ⟨b,o,len,cap,k,D,R,e,hb,hlc,hcm,rfl,hxD,hDl,hel⟩
 · cases e
   exact ⟨[],⟨SlX.nil _ _ _ _ _,by simp⟩,by simp,by decide⟩
 · cases e
   obtain ⟨l,h1,h2⟩:=slx_read (w:=W) (cap:=cap) (sz:=4) (by omega) Chg.c (fun _=> rfl) (P:=fun c=> c.X W∧c.Ok) (b:=b) (o:=o) (len:=len) (Nat.le_trans hlc hcm) (fun i hi=> by
    obtain ⟨cs',pl, -,hc,ht⟩:=hel i (by rw [hDl];exact hi)
    obtain ⟨y,rfl,hy⟩:=read_change ht
    exact ⟨y,hc,hy⟩)
   refine ⟨l,⟨h1,fun c hc=> (h2 c hc).1⟩,fun c hc=> (h2 c hc).2,?_⟩
   simp only at hxD
   subst hxD
   have h3:=(weights_slice Tryz.underlying24 hw).1
   rw [bCH,hDl] at h3
   have h4:l.length=len:=by
    obtain ⟨a,c,e⟩:=h1.shape
    injection e with e1 e2 e3
    exact e2.symm
   have h5:reachBytes=140737488351232:=rfl
   rw [h4]
   rw [h5] at h3
   have:len * 64≤(len+R.length) * 64:=Nat.mul_le_mul_right _ (by omega)
   omega
theorem open_change {W:World} {base:Nat} {v:Value} {d:DataW H} {p:List MemPlace} (hok:Value.okWide Tryz.prog W .any base 35 v) (h:DataW.Trod enc Tryz.prog W 0 (fun _=> true) true 35 v d p):∃c:Chg,v=c.v∧c.X W∧c.Ok:=by
 obtain ⟨cs,rfl,hcs⟩:=okWide_struct Tryz.underlying35 hok
 obtain ⟨fuel,h⟩:=h
 obtain ⟨c,e,h1,h2⟩:=read_change (cs:=cs.toList) h
 refine ⟨c,?_,h1,h2⟩
 have:cs=c.c.toArray:=by rw [←e]
 rw [this]
 rfl
end Go.Proofs.YtpdlkdoogojboaaGreat
/- append bounded by bytes; StoreUndo's drawn region. -/
namespace Go.Proofs.YtpdlkdoogojboaaGreat
open Go Go.RowKit
set_option maxRecDepth 100000
/-- append to a row of a type of elements, bounded by the bytes that are asked for. -/
def AppB (P:Program) (t tx e:TypeId) (size bytes:Nat):Prop:=∀(ty:TypeId) (w:World) (v:Value) (n:Nat) (xs:List Value) (f:List Nat) (x:Value) (m:Nat) (news:List Value),(rowA e size v n xs).p w f→Go.Src P size tx x m news w→(n+m) * bytes≤140737488355328→
 ∃v' w' f',(Builtin.append_ #[t,tx] ty #[v,x]).run P w=.ok v' w'∧(rowA e size v' (n+m) (xs++news)).p w' f'∧Tr w w' f f'
theorem appB_of {P:Program} {t tx e:TypeId} {size bytes:Nat} {z:Value} (hi:(P.info? e).map (fun i=> (i.zero,i.size,i.bytes))=some (some z,size,bytes)) (ht:P.underlying t=some (.slice e)) (hz:z.cells.size=size) (h0:0 < size) (hb:0 < bytes):AppB P t tx e size bytes:=by
 intro ty w v n xs f x m news h1 h2 h3
 cases hi':P.info? e with
 | none=> rw [hi'] at hi;cases hi
 | some i0=>
  rw [hi'] at hi
  simp only [Option.map_some,Option.some.injEq,Prod.mk.injEq] at hi
  obtain ⟨iz0,iz1,iz2⟩:=hi
  exact row_append_src w t tx ty e i0 z size bytes ht hi' iz0 iz1 iz2 hz h0 h1 h2 (by
   have:n+m≤(n+m) * bytes:=Nat.le_mul_of_pos_right _ hb
   unfold maxLen
   omega) h3
theorem appCH:AppB Tryz.prog 24 24 35 4 64:=appB_of (z:=.agg #[.int .i64 0, .int .i64 0, .slice none 0 0, .slice none 0 0]) (by kernel_rfl) (by kernel_rfl) rfl (by decide) (by decide)
theorem St.appB {Pr:Program} {w0 w:World} {fp0:List Nat} {L:List Asn} {t tx e:TypeId} {size bytes:Nat} (hC:AppB Pr t tx e size bytes) (ty:TypeId) {v x:Value} {n m:Nat} {xs news:List Value} (hS:St w0 fp0 (rowA e size v n xs::L) w) (hs:Go.Src Pr size tx x m news w) (hl:(n+m) * bytes≤140737488355328):
 ∃v' w',(Builtin.append_ #[t,tx] ty #[v,x]).run Pr w=.ok v' w'∧St w0 fp0 (rowA e size v' (n+m) (xs++news)::L) w':=by
 obtain ⟨f,h1,h2⟩:=hS.get 0 rfl
 obtain ⟨v',w',f',h3,h4,h5⟩:=hC ty w v n xs f x m news h1 hs hl
 exact ⟨v',w',h3,h2 _ _ _ h4 h5⟩
theorem chs_one (l:List Chg):∀u∈l.flatMap Chg.c,u.oneCell'=true:=by
 intro u hu
 obtain ⟨m, -,hm⟩:=List.mem_flatMap.1 hu
 unfold Chg.c Chg.ov Chg.nv at hm
 simp only [List.mem_cons,List.not_mem_nil,or_false] at hm
 rcases hm with rfl | rfl | rfl | rfl <;> rfl
def bv:Value→Bool
 | .bool b=> b
 | _=> false
noncomputable def gUn1 (cb n lc:Nat) (la:Option Addr) (sv x0 x1 x2 x3:Value) (XS:List Value) (SP:Prop):=rgx Tryz.prog Tryz.f4 1 96 [16,17,18,19,20,21,22,23,24,25,26,27,28] [(0,sv),(1, .slice la n lc),(5,pV cb 0)] (Vq 0 16 [Kv (.bool true),Kv (.bool false),Kv (.bool false),Kv sv]++Vq 5 21 [Kv (.slice la n lc)]++Vq 7 23 [Kv (.agg #[x0,x1,x2,x3]),Vf.box,Vf.slice,Fv [26] fun g=> .bool (bv (g 26)),Fv [26] fun g=> .bool (!bv (g 26)),Fv [26] fun g=> .bool (!bv (g 26))]) [Bk cb (35) [x0,x1,x2,x3], .gen [4,6,9] [20,22,25] fun L g=> match L 9 with | true=> rowA 35 4 (g 25) (n+1) (XS++[x0,x1,x2,x3]) | false=> match L 6 with | true=> rowA 35 4 (g 22) n XS | false=> match L 4 with | true=> rowA 35 4 (g 20) 0 [] | false=> emp, .new 8 [24] fun g=> boxsA 35 (g 24) #[x0,x1,x2,x3], .gen [10] [26] fun L g=> match L 10 with | true=> pureA (∃q2,g 26=.bool q2∧(q2=true→SP)) | false=> emp]
theorem rUn1 (cb n lc:Nat) (la:Option Addr) (sv x0 x1 x2 x3:Value) (XS:List Value) (SP:Prop) (w0:World) (fp0:List Nat) (R:List Asn) (hl:(n+1) * 64≤140737488355328) (hx1:∀u∈[x0,x1,x2,x3],u.oneCell'=true) (haw:∀L w,St w0 fp0 (L++R) w→Calls Tryz.prog 12 #[] w fun e w'=> e=.returned (.bool true)∧Below w.heap.size w w') (hsrc:∀L w,St w0 fp0 (L++R) w→Go.Src Tryz.prog 4 24 (.slice la n lc) n XS w) (hsm:∀(ya:Option Addr) (yn yc:Nat) (B:Asn) (w:World),St w0 fp0 ([blkA cb 35 #[x0,x1,x2,x3],rowA 35 4 (.slice ya yn yc) (n+1) (XS++[x0,x1,x2,x3]),B,emp]++R) w→Calls Tryz.prog 13 #[sv, .slice ya yn yc] w fun e w'=> QPost SP w e w') {w:World} {c:Code} {a:Act} {Q:Exit→Act→World→Prop} (c1:isReg c=true) (c2:cops c=opsR Tryz.f4 1) (c3:a.tmps.size=96) (_c4:a.defers=a.defers) (i0:a.eval (.tmp 0)=sv) (i1:a.eval (.tmp 1)=.slice la n lc) (i5:a.eval (.tmp 5)=.pointer (some ⟨cb,0,none⟩))
 (hS:St w0 fp0 ([blkA cb (35) #[x0,x1,x2,x3],emp,emp,emp]++R) w)
 (hQ:∀(u20 u22 u24 u25 u26 u27 u28:Value) (w1:World),(∃b,u24=.slice (some ⟨b,0,none⟩) 1 1)→(∃a n c,u25=.slice a n c)→u26=.bool (bv (u26))→u27=.bool (!bv (u26))→u28=.bool (!bv (u26))→St w0 fp0 ([blkA cb (35) #[x0,x1,x2,x3],rowA 35 4 (u25) (n+1) (XS++[x0,x1,x2,x3]),boxsA 35 (u24) #[x0,x1,x2,x3],pureA (∃q2,u26=.bool q2∧(q2=true→SP))]++R) w1→Q .normal (putL a [(16, .bool true),(17, .bool false),(18, .bool false),(19,sv),(20,u20),(21, .slice la n lc),(22,u22),(23, .agg #[x0,x1,x2,x3]),(24,u24),(25,u25),(26,u26),(27,u27),(28,u28)]) w1):c.wp Tryz.prog Q a w:=by
 have ok:(gUn1 cb n lc la sv x0 x1 x2 x3 XS SP w0 fp0 R).Ok 13:=Rg.ok _ 13 [0,4,6,7,8,9,10] ⟨.askR _ 0 haw, .run1 _ 4 1 (fun _=> emp) (fun _ v=> rowA 35 4 (v) 0 []) (fun L a w fp _ hp=> ⟨.slice (some ⟨w.heap.size,0,none⟩) 0 0,w.alloc (.cells #[] 35),[w.heap.size],kr (by kernel_rfl),rfl,row_empty (size:=4) ⟨heap_alloc_new w _,rfl⟩,trNew hp _⟩), .run1 _ 6 1 (fun g=> rowA 35 4 (g 20) 0 []) (fun _ v=> rowA 35 4 (v) n XS) (fun L a w fp hS hp=> (by obtain ⟨v,w2,f2,h1,h2,h3⟩:=appCH (opAt (opsR Tryz.f4 1) 6).type w (slots a 20) 0 [] fp (.slice la n lc) n XS hp (hsrc _ w hS) (by omega);rw [Nat.zero_add,List.nil_append] at h2;exact ⟨v,w2,f2,exec_app rfl (kr (by kernel_rfl)) (kr (by kernel_rfl)) h1,rfl,h2,h3⟩)), .run1 _ 7 0 (fun _=> blkA cb 35 #[x0,x1,x2,x3]) (fun _ _=> blkA cb 35 #[x0,x1,x2,x3]) (fun L a w fp _ hp=> (by obtain ⟨h1, -, -⟩:=blk_get hp;exact ⟨.agg #[x0,x1,x2,x3],w,fp,exec_loads (cs:=[x0,x1,x2,x3]) (off:=0) rfl (kr (by kernel_rfl)) (kr (by kernel_rfl)) (kr (by kernel_rfl)) (fun j u hj=> (by rw [Nat.zero_add,h1 j];simpa using hj)),kr (by kernel_rfl),hp,Tr.refl _ _⟩)), .boxs _ 8 2, .appG _ 9 (fun g=> [blkA cb 35 #[x0,x1,x2,x3],rowA 35 4 (g 22) n XS,boxsA 35 (g 24) #[x0,x1,x2,x3],emp]) (fun g v=> [blkA cb 35 #[x0,x1,x2,x3],rowA 35 4 (v) (n+1) (XS++[x0,x1,x2,x3]),boxsA 35 (g 24) #[x0,x1,x2,x3],emp]) (fun ty g w h=> (by obtain ⟨fb,hfb⟩:=h.has 2 rfl;obtain ⟨v,w2,h1,h2⟩:=St.appB appCH ty (St_re (L:=[_,_,_,_]) h [1,0,2,3] [] (by kernel_rfl)) (boxs_src (tx:=24) (e':=35) (by kernel_rfl) hfb rfl hx1) (by omega);obtain ⟨_,hr⟩:=h2.has 0 rfl;obtain ⟨a,c,rfl, -⟩:=row_shape hr;exact ⟨_,w2,h1,kr (by kernel_rfl),St_re (L:=[_,_,_,_]) h2 [1,0,2,3] [] (by kernel_rfl)⟩)), .callG _ 10 (f:=13) (args:=fun g=> #[sv, .slice (sa (g 25)) (sn (g 25)) (sc (g 25))]) (fun g=> [blkA cb 35 #[x0,x1,x2,x3],rowA 35 4 (g 25) (n+1) (XS++[x0,x1,x2,x3]),boxsA 35 (g 24) #[x0,x1,x2,x3],emp]) (fun g v=> [blkA cb 35 #[x0,x1,x2,x3],rowA 35 4 (g 25) (n+1) (XS++[x0,x1,x2,x3]),boxsA 35 (g 24) #[x0,x1,x2,x3],pureA (∃q2,v=.bool q2∧(q2=true→SP))]) (fun g w h=> (by obtain ⟨_,hr⟩:=h.has 1 rfl;obtain ⟨ya,yc,e, -⟩:=row_shape hr;have h0:=h;rw [e] at h0;have h1:=hsm ya (n+1) yc (boxsA 35 (g 24) #[x0,x1,x2,x3]) w h0;have e2:Value.slice (sa (g 25)) (sn (g 25)) (sc (g 25))=Value.slice ya (n+1) yc:=(by rw [e];rfl);rw [e2];refine h1.mono ?_;rintro e w2 ⟨q,e1,h2,rfl⟩;refine ⟨.bool q,e1,kr (by kernel_rfl),?_⟩;have h4:St w0 fp0 (pureA (∃q2,(.bool q:Value)=.bool q2∧(q2=true→SP))::[blkA cb 35 #[x0,x1,x2,x3],rowA 35 4 (g 25) (n+1) (XS++[x0,x1,x2,x3]),boxsA 35 (g 24) #[x0,x1,x2,x3]]++R) w:=St.pure.2 ⟨⟨q,rfl,h2⟩,St.emp.1 (St_re (L:=[_,_,_,_]) h [3,0,1,2] [] (by kernel_rfl))⟩;exact St_re (L:=[_,_,_,_]) h4 [1,2,3,0] [] (by kernel_rfl))),trivial⟩
 refine wp_regD ok (by kernel_rfl) ⟨c1,c2⟩ ⟨c3,fun p hp=> ?_⟩ hS fun A1 w1 N1 H1=> ?_
 · simp only [gUn1,rgx,List.map_nil,List.append_nil,List.mem_cons,List.not_mem_nil,or_false] at hp
   rcases hp with rfl | rfl | rfl
   · exact i0
   · exact i1
   · exact i5
 have e16:=N1.val 0 rfl
 have e17:=N1.val 1 rfl
 have e18:=N1.val 2 rfl
 have e19:=N1.val 3 rfl
 have e21:=N1.val 4 rfl
 have e23:=N1.val 5 rfl
 have e24:=N1.val 6 rfl
 have e25:=N1.val 7 rfl
 have e26:=N1.val 8 rfl
 have e27:=N1.val 9 rfl
 have e28:=N1.val 10 rfl
 have h:=hQ (slots A1 20) (slots A1 22) (slots A1 24) (slots A1 25) (slots A1 26) (slots A1 27) (slots A1 28) w1 ⟨_,e24⟩ ⟨_,_,_,e25⟩ e26 e27 e28 H1
 rw [frame_eq N1.frame (cons_eq e16 (cons_eq e17 (cons_eq e18 (cons_eq e19 (cons_eq rfl (cons_eq e21 (cons_eq rfl (cons_eq e23 (cons_eq rfl (cons_eq rfl (cons_eq rfl (cons_eq rfl (cons_eq rfl rfl)))))))))))))]
 exact h
end Go.Proofs.YtpdlkdoogojboaaGreat
/- StoreUndo. -/
namespace Go.Proofs.YtpdlkdoogojboaaGreat
open Go Go.RowKit
/-- A version that is read. -/
def Ver (w0:World) (fp0:List Nat) (R:List Asn) (D:Db) (mv:Value):Prop:=∃(ms:List Rs) (a:Option Addr) (c:Nat),mv=.slice a ms.length c∧MsOk D ms∧Rd w0 fp0 R fun w=> RefX w ms mv
theorem Ver.app {w0:World} {fp0:List Nat} {R:List Asn} {D:Db} {mv:Value} (h:Ver w0 fp0 R D mv) (M:List Asn):Ver w0 fp0 (M++R) D mv:=by
 obtain ⟨ms,a,c,h1,h2,h3⟩:=h
 exact ⟨ms,a,c,h1,h2,h3.app M⟩
theorem Ver.shape {w0:World} {fp0:List Nat} {R:List Asn} {D:Db} {mv:Value} (h:Ver w0 fp0 R D mv):∃a c,mv=.slice a D.length c:=by
 obtain ⟨ms,a,c,h1,h2, -⟩:=h
 exact ⟨a,c,by rw [h1,h2.len]⟩
theorem same_ver {w0 w:World} {fp0:List Nat} {R:List Asn} {b:Nat} {D:Db} {mv:Value} (h:Ver w0 fp0 R D mv) (hl:∀t∈D,t.2.1.length < 1000000) (hS:St w0 fp0 (stA b D::R) w):Calls Tryz.prog 15 #[.pointer (some ⟨b,0,none⟩),mv] w fun e w'=> e=.returned (.bool true)∧St w0 fp0 (stA b D::R) w':=by
 obtain ⟨ms,a,c,rfl,hm,hr⟩:=h
 exact same_calls b D ms _ hm hl w0 w fp0 R hr hS
def VerPost (w0:World) (fp0:List Nat) (L R:List Asn) (D:Db) (ch:Int) (e:Ending) (w:World):Prop:=∃a n c P,e=.returned (.tuple #[.slice a n c, .int .i64 ch])∧Ver w0 fp0 (P++R) D (.slice a n c)∧St w0 fp0 (L++(P++R)) w
theorem rapply_ver {w0 w:World} {fp0:List Nat} {L R:List Asn} {D:Db} {mv:Value} {c:Chg} (h:Ver w0 fp0 R D mv) (hok:c.Ok) (hl:∀t∈D,t.2.1.length < 1000000) (hd:D.length≤1000) (hc:Rd w0 fp0 R fun w=> c.X w) (hS:St w0 fp0 (L++R) w):Calls Tryz.prog 16 #[mv,c.v] w fun e w'=> VerPost w0 fp0 L R (appD D c) (chkD D c) e w':=by
 obtain ⟨ms,a,cc,rfl,hm,hr⟩:=h
 refine (RApply_calls ms _ D hm c hok hl (by rw [hm.len];exact hd) w0 w fp0 L R hr hc hS).mono ?_
 rintro e w' ⟨ms2,a2,c2,P,rfl,hm2,hr2,hs2⟩
 exact ⟨a2,_,c2,P,rfl,⟨ms2,a2,c2,rfl,hm2,hr2⟩,hs2⟩
theorem ch_cells {w0 w:World} {fp0:List Nat} {L:List Asn} {b:Nat} {c0 c1 c2 c3:Value} (h:St w0 fp0 L w) (hm:blkA b 35 #[c0,c1,c2,c3]∈L):w.cell? ⟨b,0,none⟩=some c0∧w.cell? ⟨b,1,none⟩=some c1∧w.cell? ⟨b,2,none⟩=some c2∧w.cell? ⟨b,3,none⟩=some c3∧b < w.heap.size:=by
 obtain ⟨f,hb⟩:=h.hasM hm
 obtain ⟨h1, -,h3⟩:=blk_get hb
 exact ⟨h1 0,h1 1,h1 2,h1 3,h3⟩
/-- Rows of a store's tables are rows. -/
theorem db_ok {w0 w:World} {fp0:List Nat} {R:List Asn} {b:Nat} {D:Db} (h:St w0 fp0 (stA b D::R) w):∀t∈D,AscI t.2.1∧∀x∈t.2.1,RowOk t.1 x.2:=by
 obtain ⟨q,hq,hs⟩:=h.openD
 intro t ht
 obtain ⟨i,hi,rfl⟩:=List.mem_iff_getElem.1 ht
 have hiq:i < q.ts.length:=by rw [hq.tlen];exact hi
 obtain ⟨f,hf⟩:=(hs.pickT i hiq).has 0 rfl
 have h1:=hq.at i hiq
 rw [List.getElem?_eq_getElem hi] at h1
 rw [Option.some.inj h1]
 have h2:=storeA_ok (show (storeA q.ts[i].S q.ts[i].cols q.ts[i].I q.ts[i].L q.ts[i].next).p w f from hf)
 exact ⟨h2.1,fun x hx=> (h2.2.2 x hx).2.2⟩
/-- A change's inverse takes it back. -/
theorem undoD {D:Db} {c:Chg} (hd:∀t∈D,AscI t.2.1∧∀x∈t.2.1,RowOk t.1 x.2) (h:chkD D c=0):chkD (appD D c) c.inv=0∧(appD (appD D c) c.inv).map (·.2.1)=D.map (·.2.1):=by
 obtain ⟨k,t,e1,hk,hc,hD⟩:=chkD_ok h
 obtain ⟨h1,h2⟩:=hd t (List.mem_of_getElem? hk)
 obtain ⟨u1,u2⟩:=undoT h1 h2 hc
 have hkl:=(List.getElem?_eq_some_iff.1 hk).1
 have hg:(appD D c)[k]? =some (t.1,appT t.1 c.id c.new t.2.1,appN t.1 c.id c.new t.2.2):=by
  rw [hD,List.getElem?_set_self hkl]
 have e2:rowD (appD D c) c.inv.tb=some (t.1,appT t.1 c.id c.new t.2.1,appN t.1 c.id c.new t.2.2):=by
  show rowD _ c.tb=_
  rw [e1]
  exact rowD_in hg
 have hc2:chkD (appD D c) c.inv=0:=by
  unfold chkD
  rw [e2]
  exact u1
 refine ⟨hc2,?_⟩
 obtain ⟨k',t',e1',hk', -,hD'⟩:=chkD_ok hc2
 obtain rfl:k'=k:=by
  have:(k':Int)=k:=by rw [←e1',←e1];rfl
  omega
 rw [hg] at hk'
 obtain rfl:=Option.some.inj hk'
 rw [hD',hD,List.set_set,List.map_set]
 show (List.map (·.2.1) D).set k' (appT t.1 c.id c.old (appT t.1 c.id c.new t.2.1))=_
 rw [u2]
 have h3:(D.map (·.2.1))[k']? =some t.2.1:=by rw [List.getElem?_map,hk];rfl
 obtain ⟨h4,h5⟩:=List.getElem?_eq_some_iff.1 h3
 rw [←h5,List.set_getElem_self]
/- StoreUndo, the part behind Small. -/
theorem rows_ver {b:Nat} {D:Db} {ms:List Rs} {w0 w:World} {fp0:List Nat} {R:List Asn} (k:Nat) (hk:k < ms.length) (hd:(D.map (·.2.1))[k]? =some (riL ms[k].l)) (hl:ms[k].l.length < 1000000) (hx:Rd w0 fp0 R fun w=> RiX w ms[k].l ms[k].lv) (hS:St w0 fp0 (stA b D::R) w):
 Calls Tryz.prog 20 #[.pointer (some ⟨b,0,none⟩), .int .i64 k,ms[k].lv] w fun e w'=> e=.returned (.bool true)∧St w0 fp0 (stA b D::R) w':=by
 obtain ⟨q,hq,hs⟩:=hS.openD
 rw [List.getElem?_map] at hd
 obtain ⟨t,ht,hd⟩:=Option.map_eq_some_iff.1 hd
 have hkq:k < q.ts.length:=by rw [hq.tlen];exact (List.getElem?_eq_some_iff.1 ht).1
 have h1:=hq.at k hkq
 rw [ht] at h1
 have h2:=Option.some.inj h1
 refine (rows_calls b q D hq k hkq ms[k].l ms[k].lv (by rw [←hd,h2]) hl w0 w fp0 R hx hs).mono ?_
 rintro e w' ⟨rfl,h3⟩
 exact ⟨rfl,St.shutD hq h3⟩
set_option maxHeartbeats 8000000 in
set_option maxRecDepth 20000 in
theorem undo_calls (td:List Td) (sv:Value) (l:List Chg) (lv:Value) (c:Chg) (W:World) (hs:SchX W td sv) (hl:ChsX W l lv) (hc:c.X W) (hok:∀c∈l,c.Ok) (hco:c.Ok) (hb:(l.length+1) * 64≤140737488355328):Calls Tryz.prog 4 #[sv,lv,c.v] W fun e W'=> e=.returned (.bool true)∧Below W.heap.size W W':=by
 obtain ⟨sa,sc,rfl⟩:=hs.sl.shape
 obtain ⟨la,lc,rfl⟩:=hl.sl.shape
 have hS:St W [] [] W:=St.start (L:=[]) (fp:=[]) rfl
 have HSX:RowKit.Hid (∀R,Rd W [] R fun w=> SchX w td (.slice sa td.length sc)):=fun R=> rd_below fun w h=> hs.mono h
 have HLX:RowKit.Hid (∀R,Rd W [] R fun w=> ChsX w l (.slice la l.length lc)):=fun R=> rd_below fun w h=> hl.mono h
 have HCX:RowKit.Hid (∀R,Rd W [] R fun w=> c.X w):=fun R=> rd_below fun w h=> hc.mono h
 have HOK:=Lib.hid hok
 have HCO:=Lib.hid hco
 have hcv:c.v=.agg #[.int .i64 c.tb, .int .i64 c.id, .slice c.oa c.old.length c.oc, .slice c.na c.new.length c.nc]:=rfl
 have HCV:=Lib.hid hcv
 have HS1:=Lib.hid (hS.newblk 35 #[.int .i64 c.tb, .int .i64 c.id, .slice c.oa c.old.length c.oc, .slice c.na c.new.length c.nc])
 obtain ⟨ci,hci⟩:∃ci,c.inv=ci:=⟨_,rfl⟩
 have hciv:ci.v=.agg #[.int .i64 c.tb, .int .i64 c.id, .slice c.na c.new.length c.nc, .slice c.oa c.old.length c.oc]:=by rw [←hci];rfl
 have HIV:RowKit.Hid (∀w,Calls Tryz.prog 17 #[c.v] w fun e w'=> e=.returned ci.v∧Below w.heap.size w w'):=fun w=> hci ▸ RInverse_calls c w
 rw [hciv,hcv] at HIV
 have HCI:=Lib.hid hci
 have HCIV:=Lib.hid hciv
 have HAW:=Lib.hid (fun w'=> awake40_calls w')
 obtain ⟨n,hn⟩:∃n,l.length=n:=⟨_,rfl⟩
 obtain ⟨tn,htn⟩:∃tn,td.length=tn:=⟨_,rfl⟩
 have HN:=Lib.hid hn
 have HTN:=Lib.hid htn
 rw [hcv,hn,htn]
 rw [hn] at HLX hb
 rw [htn] at HSX
 clear hs hl hc hS hok hco hci hciv hcv hn htn
 go_enter Tryz.func4,Tryz.ntmps4
 go_upto_region 1 with (fail)
 generalize hW:W.alloc _=W1 at *
 clear hW
 obtain ⟨cb,hcb⟩:∃cb,W.heap.size=cb:=⟨_,rfl⟩
 rw [hcb] at HS1 ⊢
 have HCB:=Lib.hid hcb
 clear hcb
 refine rUn1 cb n lc la (.slice sa tn sc) (.int .i64 c.tb) (.int .i64 c.id) (.slice c.oa c.old.length c.oc) (.slice c.na c.new.length c.nc) (l.flatMap Chg.c) (SmallP td (l++[c])) W [] [] hb (by simp [Value.oneCell']) (fun _ w _=> awake40_calls w) ?_ ?_ rfl (by kernel_rfl) rfl rfl rfl rfl rfl ?_ ?_
 · intro L w h
   have h1:=((HLX.out []).at h).sl
   rw [HN.out] at h1
   exact h1.src (e':=35) (by kernel_rfl) (by decide) (chs_one l)
 · intro ya yn yc B w h
   have h1:=(HSX.out []).at h
   have h2:=(HLX.out []).at h
   have h3:=(HCX.out []).at h
   have hln:(l++[c]).length=n+1:=by rw [List.length_append,HN.out];rfl
   have h4:ChsX w (l++[c]) (.slice ya yn yc):=by
    obtain ⟨f,hf⟩:=h.has 1 rfl
    refine ⟨?_,fun x hx=> ?_⟩
    · rw [hln,List.flatMap_append]
      exact SlX.of_row (X:=[]) hf (by rw [List.length_append,flatMap_len chc_len l,flatMap_len chc_len [c],HN.out];show n * 4+1 * 4=_;omega) (by simp)
    · rcases List.mem_append.1 hx with hx | hx
      · exact h2.ch x hx
      · rw [List.mem_singleton.1 hx]
        exact h3
   exact Small_calls td (l++[c]) _ _ w h1 h4
 · exact St_re (L:=[_,_,_,_]) (St.emp.2 (St.emp.2 (St.emp.2 HS1.out))) [3,0,1,2] [] (by kernel_rfl)
 intro u20 u22 u24 u25 u26 u27 u28 w1 e24 e25 e26 e27 e28 h1
 obtain ⟨⟨q,rfl,hq⟩,h2⟩:=St.pure.1 (St_re (L:=[_,_,_,_]) h1 [3,0,1,2] [] (by kernel_rfl))
 obtain ⟨sb,rfl⟩:=e24
 obtain ⟨ya,yn,yc,rfl⟩:=e25
 have H2:RowKit.Hid (St W [] [blkA cb 35 #[.int .i64 c.tb, .int .i64 c.id, .slice c.oa c.old.length c.oc, .slice c.na c.new.length c.nc]] w1):=(St_re (L:=[_,_,_]) h2 [1,2,0] [] (by kernel_rfl)).drop.drop
 have HQ:=Lib.hid hq
 simp only [bv] at e27 e28
 subst e27 e28
 clear e26 h1 h2 hq HS1 hb
 simp only [putL,List.foldl,Act.put,List.setIfInBounds_toArray,List.set_cons_succ,List.set_cons_zero]
 cases q with
 | false=>
  have HB2:=Lib.hid H2.out.below0
  clear H2 HQ
  go_wp2_with fail
  (with_reducible refine (HAW.out _).mono ?_)
  rintro e w3 ⟨rfl,hb3⟩
  have HB3:=Lib.hid (HB2.out.trans (hb3.mono HB2.out.size))
  clear hb3 HB2
  go_wp2
  go_ret
  exact ⟨rfl,HB3.out⟩
 | true=>
  have hp:SmallP td (l++[c]):=HQ.out rfl
  have hln:(l++[c]).length=n+1:=by rw [List.length_append,HN.out];rfl
  have hlen:n+1≤40:=by rw [←hln];exact hp.ln
  have HRUN:=run_calls td _ l _ (fun t ht=> (hp.tds t ht).sm) (by have:=hp.tn;omega) (by have:=HN.out;omega) HOK.out W w1 [] _ (HSX.out _) (HLX.out _) H2.out
  obtain ⟨D,hD⟩:∃D,runD (newD td) l=D:=⟨_,rfl⟩
  have hDl:∀t∈D,t.2.1.length≤40:=fun t ht=> by
   have:=runD_max (newD_max td) l t (hD ▸ ht)
   rw [HN.out] at this
   omega
  have hDn:D.length≤4:=by rw [←hD,runD_length,newD,List.length_map];exact hp.tn
  rw [hD] at HRUN
  have HRUN:=Lib.hid HRUN
  have HDL:=Lib.hid hDl
  have HDN:=Lib.hid hDn
  clear hp hln hlen hD hDl hDn HQ H2 HSX HLX HOK HN HTN
  go_wp2_with fail
  (with_reducible refine HRUN.out.mono ?_)
  rintro e w2 ⟨b,mv,rfl,h2⟩
  obtain ⟨M,hM,hv,h3⟩:∃M,blkA cb 35 #[.int .i64 c.tb, .int .i64 c.id, .slice c.oa c.old.length c.oc, .slice c.na c.new.length c.nc]∈M∧Ver W [] M D mv∧St W [] (stA b D::M) w2:=by
   obtain ⟨ms,a,c',P,e,hm,hr,hst⟩:=h2
   exact ⟨P++[_],by simp,⟨ms,a,c',e,hm,hr⟩,hst⟩
  clear HRUN h2
  obtain ⟨ma,mc,rfl⟩:=hv.shape
  obtain ⟨dn,hdn⟩:∃dn,D.length=dn:=⟨_,rfl⟩
  rw [hdn] at hv ⊢
  obtain ⟨c0,c1,c2,c3,cl⟩:=ch_cells h3 (List.mem_cons_of_mem _ hM)
  have HM:=Lib.hid hM
  have H3:=Lib.hid h3
  have HV:=Lib.hid hv
  clear hM h3 hv hdn
  go_wp2_with fail
  (with_reducible refine (HIV.out _).mono ?_)
  rintro e w3 ⟨rfl,hb3⟩
  obtain ⟨D1,hD1⟩:∃D1,appD D ci=D1:=⟨_,rfl⟩
  obtain ⟨e1,he1⟩:∃e1,chkD D ci=e1:=⟨_,rfl⟩
  have hD40:∀t∈D,t.2.1.length < 1000000:=fun t ht=> by have:=HDL.out t ht;omega
  have hD1l:∀t∈D1,t.2.1.length≤41:=fun t ht=> by
   have:=appD_max HDL.out t (hD1 ▸ ht)
   omega
  have hD1n:D1.length≤4:=by rw [←hD1,appD_length];exact HDN.out
  have hcio:ci.Ok:=by rw [←HCI.out];exact HCO.out.inv
  have hcix:∀R,Rd W [] R fun w=> ci.X w:=fun R=> by rw [←HCI.out];exact (HCX.out R).imp fun w h=> h.inv
  have hra:=rapply_ver (L:=[stA b D]) (R:=M) HV.out hcio hD40 (by have:=HDN.out;omega) (hcix M) (H3.out.mono hb3)
  have hun:∀R w,St W [] (stA b D::R) w→Calls Tryz.prog 18 #[.pointer (some ⟨b,0,none⟩),c.v] w fun e w'=> e=.returned (.int .i64 e1)∧St W [] (stA b D1::R) w':=fun R w h=> by
   have:=Undo_calls b D c HCO.out hD40 W w [] R (HCX.out R) h
   rw [HCI.out,hD1,he1] at this
   exact this
  rw [hD1,he1,HCIV.out] at hra
  rw [HCV.out] at hun
  have HRA:=Lib.hid hra
  have HUN:=Lib.hid hun
  have HD1L:=Lib.hid hD1l
  have HD1N:=Lib.hid hD1n
  have HD1:=Lib.hid (And.intro hD1 he1)
  clear hD1 he1 hD40 hD1l hD1n hcio hcix hra hun hb3 c0 c1 c2 c3 cl HIV HV H3
  go_wp2_with fail
  (with_reducible refine HRA.out.mono ?_)
  rintro e w4 ⟨na,nn,nc,P,rfl,hv1,hs4⟩
  have HM1:RowKit.Hid (blkA cb 35 #[.int .i64 c.tb, .int .i64 c.id, .slice c.oa c.old.length c.oc, .slice c.na c.new.length c.nc]∈P++M):=List.mem_append.2 (.inr HM.out)
  obtain ⟨c0,c1,c2,c3,cl⟩:=ch_cells hs4 (List.mem_cons_of_mem _ HM1.out)
  obtain ⟨M1,hM1⟩:∃M1,P++M=M1:=⟨_,rfl⟩
  rw [hM1] at HM1 hv1 hs4
  have HU:=Lib.hid (HUN.out M1 w4 hs4)
  have HV1:=Lib.hid hv1
  clear HM HRA HUN hM1 hv1 hs4
  go_wp2_with fail
  (with_reducible refine HU.out.mono ?_)
  rintro e w5 ⟨rfl,hs5⟩
  have HSM:=Lib.hid (same_ver HV1.out (fun t ht=> by have:=HD1L.out t ht;omega) hs5)
  clear HU hs5 c0 c1 c2 c3 cl
  go_wp2_with fail
  (with_reducible refine HSM.out.mono ?_)
  rintro e w6 ⟨rfl,hs6⟩
  clear HSM
  obtain ⟨c0,c1,c2,c3,cl⟩:=ch_cells hs6 (List.mem_cons_of_mem _ HM1.out)
  obtain ⟨D2,hD2⟩:∃D2,appD D1 c=D2:=⟨_,rfl⟩
  obtain ⟨e2,he2⟩:∃e2,chkD D1 c=e2:=⟨_,rfl⟩
  have hok1:=db_ok hs6
  have hD1l:∀t∈D1,t.2.1.length < 1000000:=fun t ht=> by have:=HD1L.out t ht;omega
  have hap:=Apply_calls b D1 c HCO.out hD1l W w6 [] M1 (HCX.out M1) hs6
  have hra:∀w,St W [] (stA b D2::M1) w→Calls Tryz.prog 16 #[.slice na nn nc,c.v] w fun e w'=> VerPost W [] [stA b D2] M1 D2 e2 e w':=fun w h=> by
   have:=rapply_ver (L:=[stA b D2]) (R:=M1) HV1.out HCO.out hD1l (by have:=HD1N.out;omega) (HCX.out M1) h
   rw [hD2,he2] at this
   exact this
  rw [hD2,he2,HCV.out] at hap
  rw [HCV.out] at hra
  have HAP:=Lib.hid hap
  have HRA:=Lib.hid hra
  have HD2L:RowKit.Hid (∀t∈D2,t.2.1.length < 1000000):=fun t ht=> by
   have:=appD_max HD1L.out t (hD2 ▸ ht)
   omega
  have HUD:RowKit.Hid (e2=0→chkD D2 ci=0∧(appD D2 ci).map (·.2.1)=D1.map (·.2.1)):=fun h=> by
   have:=undoD hok1 (c:=c) (by rw [he2];exact h)
   rw [hD2,HCI.out] at this
   exact this
  clear hD2 he2 hok1 hD1l hap hra hs6
  go_wp2_with fail
  (with_reducible refine HAP.out.mono ?_)
  rintro e w7 ⟨rfl,hs7⟩
  have HR2:=Lib.hid (HRA.out w7 hs7)
  clear HAP HRA c0 c1 c2 c3 cl
  obtain ⟨c0,c1,c2,c3,cl⟩:=ch_cells hs7 (List.mem_cons_of_mem _ HM1.out)
  clear hs7
  go_wp2_with fail
  (with_reducible refine HR2.out.mono ?_)
  rintro e w8 ⟨ka,kn,kc,P2,rfl,hv2,hs8⟩
  have HSM:=Lib.hid (same_ver hv2 HD2L.out hs8)
  clear HR2 hs8 hv2 c0 c1 c2 c3 cl
  go_wp2_with fail
  (with_reducible refine HSM.out.mono ?_)
  rintro e w9 ⟨rfl,hs9⟩
  have HM2:RowKit.Hid (blkA cb 35 #[.int .i64 c.tb, .int .i64 c.id, .slice c.oa c.old.length c.oc, .slice c.na c.new.length c.nc]∈P2++M1):=List.mem_append.2 (.inr HM1.out)
  have HV3:=Lib.hid (HV1.out.app P2)
  obtain ⟨M2,hM2⟩:∃M2,P2++M1=M2:=⟨_,rfl⟩
  rw [hM2] at HM2 HV3 hs9
  have HS9:=Lib.hid hs9
  clear HSM hs9 HM1 HV1 hM2
  by_cases hz:e2=0
  · subst hz
    obtain ⟨hu1,hu2⟩:=HUD.out rfl
    have hun:=Undo_calls b D2 c HCO.out HD2L.out W w9 [] M2 (HCX.out M2) HS9.out
    rw [HCI.out,hu1,HCV.out] at hun
    have HUN:=Lib.hid hun
    have HU2:=Lib.hid hu2
    obtain ⟨c0,c1,c2,c3,cl⟩:=ch_cells HS9.out (List.mem_cons_of_mem _ HM2.out)
    clear hu1 hu2 hun HUD
    go_wp2_with fail
    (with_reducible refine HUN.out.mono ?_)
    rintro e w10 ⟨rfl,hs10⟩
    obtain ⟨D3,hD3⟩:∃D3,appD D2 ci=D3:=⟨_,rfl⟩
    rw [hD3] at hs10 HU2
    obtain ⟨ms,a',c',e,hm,hr⟩:=HV3.out
    obtain ⟨rfl,rfl,rfl⟩:=Value.slice.inj e
    have HMS:=Lib.hid (And.intro hm hr)
    have hn63:ms.length≤4:=by rw [hm.len];exact HD1N.out
    obtain ⟨n3,hn3⟩:∃n3,ms.length=n3:=⟨_,rfl⟩
    have HN3:=Lib.hid hn3
    have HS0:=Lib.hid hs10
    rw [hn3] at HMS hn63 ⊢
    clear e hm hr hn3 hs10 hD3 HV3 HUN c0 c1 c2 c3 cl HM2 HS9
    go_upto_region 18 with (fail)
    go_loopg [83] n3 (fun g z wr=> ∃k:Nat,z=.int .i64 k∧g+k=n3∧RowKit.Hid (St W [] (stA b D3::M2) wr))
    case atStart=> exact ⟨0,rfl,rfl,HS0⟩
    case round=>
     clear HS0
     obtain ⟨k,rfl,hgk,Hs⟩:=hrel
     by_cases hk:k < n3
     · have hkm:k < ms.length:=by rw [HN3.out];exact hk
       have hkn:(k:Int) < n3:=by omega
       have hxr:=HMS.out.2.at (M:=[_]) Hs.out
       obtain ⟨mb,mo,mc',e1,mbl,p0,p1,p2⟩:=hxr.cells k hkm
       obtain ⟨rfl, -,rfl⟩:=Value.slice.inj e1
       have hat:=HMS.out.1.at k hkm
       have hrw:=rows_ver (D:=D3) (w:=wr) (w0:=W) (fp0:=[]) (R:=M2) (b:=b) k hkm (by rw [HU2.out,List.getElem?_map,hat];rfl) (by
        have:=HD1L.out _ (List.mem_of_getElem? hat)
        rw [riL_len] at this
        omega) (HMS.out.2.imp fun w h=> h.ri _ (List.getElem_mem hkm)) Hs.out
       have HRW:=Lib.hid hrw
       have Hgk:=Lib.hid hgk
       clear e1 hxr hat hrw hgk Hs
       unfold Rs.lv at p1 HRW
       go_wp2_with fail
       (with_reducible refine HRW.out.mono ?_)
       rintro e w11 ⟨rfl,hs11⟩
       have H11:=Lib.hid hs11
       clear hs11 HRW p0 p1 p2 mbl
       go_wp2
       go_roundg (gk - 1)
       case rel=> exact ⟨k+1,by go_num,by have:=Hgk.out;omega,H11⟩
       case measure=> have:=Hgk.out;omega
     · obtain rfl:k=n3:=by omega
       have HF:=Lib.hid Hs.out.below0
       clear Hs hgk hk
       go_wp2
       go_ret
       exact ⟨rfl,HF.out⟩
  · have hz':(e2 !=0)=true:=by simp [hz]
    have HB9:=Lib.hid HS9.out.below0
    clear hz
    go_wp2
    go_ret
    exact ⟨rfl,HB9.out⟩
end Go.Proofs.YtpdlkdoogojboaaGreat
