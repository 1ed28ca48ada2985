/- Part 10 of the proof: M3, M4r, M4, M5, M6, M7, We, Wg, W2, Wf, W3, M8r -/
import Derived.Test.YtpdlkdoogojboaaGreatH09
import Derived.Test.YtpdlkdoogojboaaGreatH07
import Derived.Test.YtpdlkdoogojboaaGreatH08
/- store.copySchema: its walk. -/
namespace Go.Proofs.YtpdlkdoogojboaaGreat
open Go Go.RowKit
theorem clone_out {w0 w:World} {fp0:List Nat} {R:List Asn} {A B C:Asn} (h:St w0 fp0 ([A,starA [B,C]]++R) w):St w0 fp0 (A::B::C::R) w:=by
 have h1:St w0 fp0 (starA [B,C]::A::R) w:=h.perm (List.Perm.swap _ _ _)
 have h2:St w0 fp0 ([B,C]++(A::R)) w:=St.star.1 h1
 exact St_re (L:=[_,_,_]) h2 [2,0,1] [] (by kernel_rfl)
theorem cells5 {w0 w:World} {fp0:List Nat} {L:List Asn} {b:Nat} {t:TypeId} {c0 c1 c2 c3 c4:Value} (h:St w0 fp0 L w) (i:Nat) (hi:L[i]? =some (blkA b t #[c0,c1,c2,c3,c4])):
 w.cell? ⟨b,0,none⟩=some c0∧w.cell? ⟨b,1,none⟩=some c1∧w.cell? ⟨b,2,none⟩=some c2∧w.cell? ⟨b,3,none⟩=some c3∧w.cell? ⟨b,4,none⟩=some c4∧w.frozen? ⟨b,1,none⟩=false∧w.frozen? ⟨b,2,none⟩=false∧w.frozen? ⟨b,3,none⟩=false∧w.frozen? ⟨b,4,none⟩=false∧b < w.heap.size:=by
 obtain ⟨_,hb⟩:=h.has i hi
 obtain ⟨h1,h2,h3⟩:=blk_get hb
 exact ⟨h1 0,h1 1,h1 2,h1 3,h1 4,h2 1,h2 2,h2 3,h2 4,h3⟩
set_option maxHeartbeats 8000000 in
set_option maxRecDepth 20000 in
theorem copySchema_calls (td:List Td) (v:Value) (hsm:∀t∈td,t.Sm) (htl:td.length≤1000) (w0 w:World) (fp0:List Nat) (R:List Asn) (hv:Rd w0 fp0 R fun w=> SchX w td v) (hS:St w0 fp0 R w):
 Calls Tryz.prog 74 #[v] w fun e w'=> ∃a c,∃td2:List Td,e=.returned (.slice a td2.length c)∧td2.map Td.sh=td.map Td.sh∧St w0 fp0 (schA (.slice a td2.length c) td2::R) w':=by
 obtain ⟨va,vc,rfl⟩:=(hv.here hS).sl.shape
 have HV:=Lib.hid hv
 have HSM:=Lib.hid hsm
 obtain ⟨N,hN⟩:∃N,td.length=N:=⟨_,rfl⟩
 have HN:=Lib.hid hN
 have hN63:N≤1000:=by omega
 have H0:RowKit.Hid (CsInv w0 fp0 R td (.slice none 0 0) 0 w):=⟨[],[],rfl,rfl,(fun _ _ _ _ h=> nomatch h),hS.nilR 89 5⟩
 rw [hN] at HV ⊢
 clear hv hsm hN hS htl
 go_enter Tryz.func74,Tryz.ntmps74
 go_upto_region 3 with (fail)
 go_loopg [3,10] N (fun g z3 z wr=> ∃k:Nat,z=.int .i64 k∧g+k=N∧RowKit.Hid (CsInv w0 fp0 R td z3 k wr))
 case atStart=> exact ⟨0,rfl,rfl,H0⟩
 case round=>
  clear H0
  obtain ⟨k,rfl,hgk,Hi⟩:=hrel
  obtain ⟨l,X,hsh,hlk,hX,hS1⟩:=Hi.out
  obtain ⟨_,hrow⟩:=hS1.has 0 rfl
  obtain ⟨za,zc,rfl, -⟩:=row_shape hrow
  clear hrow
  by_cases hk:k < N
  · have hkl:k < td.length:=by rw [HN.out];exact hk
    have hlw:=HV.out.at (M:=_::X) hS1
    obtain ⟨b,o,c',e1,hpl,p0,p1,p2,p3,p4⟩:=hlw.cells k hkl
    obtain ⟨rfl, -,rfl⟩:=Value.slice.inj e1
    have htx:Rd w0 fp0 R fun w=> td[k].X w:=HV.out.imp fun w h=> h.td _ (List.getElem_mem hkl)
    have htm:=HSM.out _ (List.getElem_mem hkl)
    have hsh2:(td.take (k+1)).map Td.sh=(td.take k).map Td.sh++[td[k].sh]:=by
     rw [List.take_add_one,List.getElem?_eq_getElem hkl,List.map_append]
     rfl
    have ht0:=htx.at (M:=_::X) hS1
    obtain ⟨ka,kc,hkv⟩:=ht0.keys.1.shape
    obtain ⟨fa,fc,hfv⟩:=ht0.fors.1.shape
    have hkn:(k:Int) < N:=by omega
    have Hsh:=Lib.hid (And.intro hsh (And.intro hlk (And.intro hX hsh2)))
    clear e1 hlw Hi hsh hlk hX hsh2
    generalize td[k]=t at *
    clear hkl
    obtain ⟨nm,ca,n,cc,kv,fv,xa,xn,xc,cvs,kvs,fvs,K,F⟩:=t
    simp only at p0 p1 p2 p3 p4 hkv hfv
    subst hkv hfv
    have HTX:=Lib.hid htx
    have HTM:=Lib.hid htm
    have HT0:=Lib.hid ht0
    obtain ⟨kn,hkn⟩:∃kn,K.length=kn:=⟨_,rfl⟩
    obtain ⟨fn,hfn⟩:∃fn,F.length=fn:=⟨_,rfl⟩
    rw [hkn] at HTX HT0 HTM Hsh p2
    rw [hfn] at HTX HT0 HTM Hsh p3
    have HKN:=Lib.hid hkn
    have HFN:=Lib.hid hfn
    have HS2:=Lib.hid (hS1.newblk 89 #[.string nm, .slice ca n cc, .slice ka kn kc, .slice fa fn fc, .slice xa xn xc])
    have Hgk:=Lib.hid hgk
    clear htx htm ht0 hkn hfn hgk hS1
    go_upto_region 5 with (fail)
    have hsz:=World.size_alloc wr (.cells #[.string nm, .slice ca n cc, .slice ka kn kc, .slice fa fn fc, .slice xa xn xc] 89)
    generalize hW2:wr.alloc _=W2 at *
    clear hW2 p0 p1 p2 p3 p4 hpl
    obtain ⟨tb,htb⟩:∃tb,wr.heap.size=tb:=⟨_,rfl⟩
    rw [htb] at HS2 hsz ⊢
    clear htb hsz
    obtain ⟨c0,c1,c2,c3,c4,f1,f2,f3,f4,tl⟩:=cells5 HS2.out 0 rfl
    have hxr:=HTX.out.at (M:=_::_::X) HS2.out
    have HC:=Lib.hid (cloneCL cvs n (.slice ca n cc) W2 hxr.cols hxr.one (by have:=HTM.out.n;simp only at this;omega))
    clear hxr
    go_wp2_with fail
    (with_reducible refine HC.out.mono ?_)
    rintro e w3 ⟨v3,g3,rfl,h3,hb3,hn3⟩
    obtain ⟨ca2,cc2,rfl, -⟩:=row_shape h3
    have h4:=St_re (L:=[_,_,_]) (HS2.out.addF h3 hb3 hn3) [1,0,2] [] (by kernel_rfl)
    clear c0 c1 c2 c3 c4 f1 f2 f3 f4 tl HC HS2 h3 hb3 hn3
    obtain ⟨c0,c1,c2,c3,c4,f1,f2,f3,f4,tl⟩:=cells5 h4 0 rfl
    have H4:=Lib.hid (h4.setB 1 (by simp) (.slice ca2 n cc2))
    clear h4
    simp only [List.setIfInBounds_toArray,List.set_cons_succ,List.set_cons_zero] at H4
    go_upto_region 6 with (fail)
    generalize hW2:World.setCell _ _ _=W4 at *
    clear hW2 c0 c1 c2 c3 c4 f1 f2 f3 f4 tl
    obtain ⟨c0,c1,c2,c3,c4,f1,f2,f3,f4,tl⟩:=cells5 H4.out 0 rfl
    have hxr:=HTX.out.at (M:=_::_::_::X) H4.out
    have HC:=Lib.hid (cloneJS kvs kn (.slice ka kn kc) W4 (by have h:=hxr.keys.1;simp only at h;rwa [HKN.out] at h) (one_ints hxr.keys) (by have:=HTM.out.k;simp only at this;have:=HKN.out;omega))
    have HK0:=Lib.hid (KUp.start (K:=K) (vs:=kvs) (by have:=hxr.keys.1.2.1;simp only at this;omega))
    have HK0':RowKit.Hid (∀j (h:j < K.length),∃u,kvs[j]? =some u):=fun j h=> (hxr.keys.2 j h).imp fun u h=> h.1
    have hkn3:kn≤1000:=by have:=HTM.out.k;simp only at this;have:=HKN.out;omega
    clear hxr
    go_wp2_with fail
    (with_reducible refine HC.out.mono ?_)
    rintro e w5 ⟨v5,g5,rfl,h5,hb5,hn5⟩
    obtain ⟨ka2,kc2,rfl, -⟩:=row_shape h5
    have h6:=St_re (L:=[_,_,_,_]) (H4.out.addF h5 hb5 hn5) [1,0,2,3] [] (by kernel_rfl)
    clear c0 c1 c2 c3 c4 f1 f2 f3 f4 tl HC H4 h5 hb5 hn5
    obtain ⟨c0,c1,c2,c3,c4,f1,f2,f3,f4,tl⟩:=cells5 h6 0 rfl
    have H6:=Lib.hid (h6.setB 2 (by simp) (.slice ka2 kn kc2))
    clear h6
    simp only [List.setIfInBounds_toArray,List.set_cons_succ,List.set_cons_zero] at H6
    go_upto_region 7 with (fail)
    generalize hW2:World.setCell _ _ _=W6 at *
    clear hW2 c0 c1 c2 c3 c4 f1 f2 f3 f4 tl
    obtain ⟨c0,c1,c2,c3,c4,f1,f2,f3,f4,tl⟩:=cells5 H6.out 0 rfl
    obtain ⟨gk0,rfl⟩:∃x,x=gk:=⟨_,rfl⟩
    go_upto_region 8 with (fail)
    have HI:RowKit.Hid (∃us Y,KUp K kvs us Y 0∧St w0 fp0 (blkA tb 89 #[.string nm, .slice ca2 n cc2, .slice ka2 kn kc2, .slice fa fn fc, .slice xa xn xc]::rowA 90 1 (.slice ka2 kn kc2) kn us::(Y++(rowA 146 6 (.slice ca2 n cc2) n cvs::rowA 89 5 (.slice za k zc) k (l.flatMap Td.c)::(X++R)))) W6):=⟨kvs,[],HK0.out,H6.out⟩
    clear H6 c0 c1 c2 c3 c4 f1 f2 f3 f4 tl HK0
    go_loopg [25] kn (fun g z wr=> ∃i:Nat,z=.int .i64 i∧g+i=kn∧RowKit.Hid (∃us Y,KUp K kvs us Y i∧St w0 fp0 (blkA tb 89 #[.string nm, .slice ca2 n cc2, .slice ka2 kn kc2, .slice fa fn fc, .slice xa xn xc]::rowA 90 1 (.slice ka2 kn kc2) kn us::(Y++(rowA 146 6 (.slice ca2 n cc2) n cvs::rowA 89 5 (.slice za k zc) k (l.flatMap Td.c)::(X++R)))) wr))
    case atStart=> exact ⟨0,rfl,rfl,HI⟩
    case round=>
     clear HI
     obtain ⟨i,rfl,hgi,Hi⟩:=hrel
     by_cases hi:i < kn
     · have hii:(i:Int) < kn:=by omega
       have Hgi:=Lib.hid hgi
       clear hgi
       go_upto_region 10 with (fail)
       obtain ⟨us,Y,hup,hs⟩:=Hi.out
       have hiK:i < K.length:=by rw [HKN.out];exact hi
       obtain ⟨_,hrow⟩:=hs.has 1 rfl
       obtain ⟨kg,rfl⟩:∃kg,ka2=some ⟨kg,0,none⟩:=by
        obtain ⟨_,_,e, -, -,h4⟩:=row_shape hrow
        obtain ⟨g',e1, -⟩:=h4 i (by omega)
        injection e with e
        exact ⟨g',by rw [e,e1]⟩
       obtain ⟨u,hu⟩:=HK0'.out i hiK
       have hcl:∀(L:List Asn) (w:World),St w0 fp0 (L++(Y++(rowA 146 6 (.slice ca2 n cc2) n cvs::rowA 89 5 (.slice za k zc) k (l.flatMap Td.c)::(X++R)))) w→Calls Tryz.prog 110 #[u] w fun e w2=> ∃v f,e=.returned v∧(rowA 3 1 v K[i].length (K[i].map intC)).p w2 f∧Below w.heap.size w w2∧∀k∈f,w.heap.size≤k:=fun L w h=> by
        have hxr:=HTX.out.at (M:=L++(Y++(_::_::X))) (by simp only [List.cons_append,List.append_assoc];exact h)
        obtain ⟨u',hu',hi'⟩:=hxr.keys.2 i hiK
        rw [hu] at hu'
        obtain rfl:=Option.some.inj hu'
        have:=HTM.out.kl _ (List.getElem_mem hiK)
        exact cloneI _ _ u w hi' (one_int _) (by omega)
       refine rCs10 (w0:=w0) (fp0:=fp0) tb kg kn kc2 i K[i].length (.string nm) (.slice ca2 n cc2) (.slice fa fn fc) (.slice xa xn xc) u us (K[i].map intC) (R:=Y++(rowA 146 6 (.slice ca2 n cc2) n cvs::rowA 89 5 (.slice za k zc) k (l.flatMap Td.c)::(X++R))) hi (by rw [hup.1,HKN.out];omega) ((hup.2.2 i (Nat.le_refl _)).trans hu) hcl rfl (by kernel_rfl) rfl rfl rfl rfl hs ?_
       intro u36 w1 ⟨ya,yn,yc,e36⟩ h1
       subst e36
       have HI2:RowKit.Hid (∃us Y,KUp K kvs us Y (i+1)∧St w0 fp0 (blkA tb 89 #[.string nm, .slice ca2 n cc2, .slice (some ⟨kg,0,none⟩) kn kc2, .slice fa fn fc, .slice xa xn xc]::rowA 90 1 (.slice (some ⟨kg,0,none⟩) kn kc2) kn us::(Y++(rowA 146 6 (.slice ca2 n cc2) n cvs::rowA 89 5 (.slice za k zc) k (l.flatMap Td.c)::(X++R)))) w1):=
        ⟨_,_,hup.next hiK (.slice ya yn yc),clone_out h1⟩
       clear h1 hs hup hcl hrow hu Hi hiK
       simp only [putL,List.foldl,Act.put,List.setIfInBounds_toArray,List.set_cons_succ,List.set_cons_zero]
       go_wp2
       go_roundg (gk - 1)
       case rel=> exact ⟨i+1,by go_num,by have:=Hgi.out;omega,HI2⟩
       case measure=> have:=Hgi.out;omega
     · obtain rfl:i=kn:=by omega
       obtain ⟨us,Y,hup,hs⟩:=Hi.out
       have HUP:=Lib.hid hup
       have H7:=Lib.hid hs
       have hxr:=HTX.out.at (M:=_::_::(Y++(_::_::X))) (show St w0 fp0 (_::_::((Y++(_::_::X))++R)) _ by simp only [List.cons_append,List.append_assoc];exact hs)
       have HC:=Lib.hid (cloneFO fvs fn (.slice fa fn fc) wr (by have h:=hxr.fors.1;simp only at h;rwa [HFN.out] at h) (one_fors hxr.fors) (by have:=HTM.out.f;simp only at this;have:=HFN.out;omega))
       have HF0:=Lib.hid (FUp.start (F:=F) (vs:=fvs) (by have:=hxr.fors.1.2.1;simp only at this;omega))
       have HF0':RowKit.Hid (∀j (h:j < F.length),∃u a b,fvs[j * 3]? =some u∧fvs[j * 3+1]? =some (.int .i64 a)∧fvs[j * 3+2]? =some (.int .i64 b)):=fun j h=> by
        obtain ⟨u,a,b,h1,h2,h3, -⟩:=hxr.fors.2 j h
        exact ⟨u,a,b,h1,h2,h3⟩
       have hfn3:fn≤1000:=by have:=HTM.out.f;simp only at this;have:=HFN.out;omega
       obtain ⟨c0,c1,c2,c3,c4,f1,f2,f3,f4,tl⟩:=cells5 hs 0 rfl
       clear hxr hs hup Hi hgi hi
       go_wp2_with fail
       (with_reducible refine HC.out.mono ?_)
       rintro e w7 ⟨v7,g7,rfl,h7,hb7,hn7⟩
       obtain ⟨fa2,fc2,rfl, -⟩:=row_shape h7
       have h8:=St_re (L:=[_,_,_]) (H7.out.addF h7 hb7 hn7) [1,0,2] [] (by kernel_rfl)
       clear c0 c1 c2 c3 c4 f1 f2 f3 f4 tl HC H7 h7 hb7 hn7
       obtain ⟨c0,c1,c2,c3,c4,f1,f2,f3,f4,tl⟩:=cells5 h8 0 rfl
       have H8:=Lib.hid (h8.setB 3 (by simp) (.slice fa2 fn fc2))
       clear h8
       simp only [List.setIfInBounds_toArray,List.set_cons_succ,List.set_cons_zero] at H8
       go_upto_region 13 with (fail)
       generalize hW2:World.setCell _ _ _=W8 at *
       clear hW2 c0 c1 c2 c3 c4 f1 f2 f3 f4 tl
       obtain ⟨c0,c1,c2,c3,c4,f1,f2,f3,f4,tl⟩:=cells5 H8.out 0 rfl
       go_upto_region 14 with (fail)
       obtain ⟨R1,hR1⟩:∃R1,rowA 90 1 (.slice ka2 i kc2) i us::(Y++(rowA 146 6 (.slice ca2 n cc2) n cvs::rowA 89 5 (.slice za k zc) k (l.flatMap Td.c)::(X++R)))=R1:=⟨_,rfl⟩
       have HR1:=Lib.hid hR1
       have HI:RowKit.Hid (∃us2 Z,FUp F fvs us2 Z 0∧St w0 fp0 (blkA tb 89 #[.string nm, .slice ca2 n cc2, .slice ka2 i kc2, .slice fa2 fn fc2, .slice xa xn xc]::rowA 92 3 (.slice fa2 fn fc2) fn us2::(Z++R1)) W8):=⟨fvs,[],HF0.out,by rw [←hR1];exact H8.out⟩
       clear H8 c0 c1 c2 c3 c4 f1 f2 f3 f4 tl HF0 hR1
       go_loopg [46] fn (fun g z wr=> ∃j:Nat,z=.int .i64 j∧g+j=fn∧RowKit.Hid (∃us2 Z,FUp F fvs us2 Z j∧St w0 fp0 (blkA tb 89 #[.string nm, .slice ca2 n cc2, .slice ka2 i kc2, .slice fa2 fn fc2, .slice xa xn xc]::rowA 92 3 (.slice fa2 fn fc2) fn us2::(Z++R1)) wr))
       case atStart=> exact ⟨0,rfl,rfl,HI⟩
       case round=>
        clear HI
        obtain ⟨j,rfl,hgj,Hj⟩:=hrel
        by_cases hj:j < fn
        · have hjj:(j:Int) < fn:=by omega
          have Hgj:=Lib.hid hgj
          clear hgj
          go_upto_region 16 with (fail)
          obtain ⟨us2,Z,hup,hs⟩:=Hj.out
          have hjF:j < F.length:=by rw [HFN.out];exact hj
          obtain ⟨_,hrow⟩:=hs.has 1 rfl
          obtain ⟨fg,rfl⟩:∃fg,fa2=some ⟨fg,0,none⟩:=by
           obtain ⟨_,_,e, -, -,h4⟩:=row_shape hrow
           obtain ⟨g',e1, -⟩:=h4 (j * 3) (by omega)
           injection e with e
           exact ⟨g',by rw [e,e1]⟩
          obtain ⟨u,a,b,hu,hua,hub⟩:=HF0'.out j hjF
          have hcl:∀(L:List Asn) (w:World),St w0 fp0 (L++(Z++R1)) w→Calls Tryz.prog 110 #[u] w fun e w2=> ∃v f,e=.returned v∧(rowA 3 1 v F[j].length (F[j].map intC)).p w2 f∧Below w.heap.size w w2∧∀k∈f,w.heap.size≤k:=fun L w h=> by
           rw [←HR1.out] at h
           have hxr:=HTX.out.at (M:=L++(Z++(_::(Y++(_::_::X))))) (by simp only [List.cons_append,List.append_assoc];exact h)
           obtain ⟨u',_,_,hu',_,_,hi'⟩:=hxr.fors.2 j hjF
           rw [hu] at hu'
           obtain rfl:=Option.some.inj hu'
           have:=HTM.out.fl _ (List.getElem_mem hjF)
           exact cloneI _ _ u w hi' (one_int _) (by omega)
          refine rCs16 (w0:=w0) (fp0:=fp0) tb fg fn fc2 j F[j].length (.string nm) (.slice ca2 n cc2) (.slice ka2 i kc2) (.slice xa xn xc) u us2 (F[j].map intC) (R:=Z++R1) hj (by rw [hup.1,HFN.out]) ((hup.2.2 _ (Nat.le_refl _)).trans hu) hcl rfl (by kernel_rfl) rfl rfl rfl rfl hs ?_
          intro u58 w1 ⟨ya,yn,yc,e58⟩ h1
          subst e58
          have HI2:RowKit.Hid (∃us2 Z,FUp F fvs us2 Z (j+1)∧St w0 fp0 (blkA tb 89 #[.string nm, .slice ca2 n cc2, .slice ka2 i kc2, .slice (some ⟨fg,0,none⟩) fn fc2, .slice xa xn xc]::rowA 92 3 (.slice (some ⟨fg,0,none⟩) fn fc2) fn us2::(Z++R1)) w1):=
           ⟨_,_,hup.next hjF (.slice ya yn yc) hua hub,clone_out h1⟩
          clear h1 hs hup hcl hrow hu Hj hjF hua hub
          simp only [putL,List.foldl,Act.put,List.setIfInBounds_toArray,List.set_cons_succ,List.set_cons_zero]
          go_wp2
          go_roundg (gk - 1)
          case rel=> exact ⟨j+1,by go_num,by have:=Hgj.out;omega,HI2⟩
          case measure=> have:=Hgj.out;omega
        · obtain rfl:j=fn:=by omega
          obtain ⟨us2,Z,hup2,hs⟩:=Hj.out
          obtain ⟨c0,c1,c2,c3,c4,f1,f2,f3,f4,tl⟩:=cells5 hs 0 rfl
          have H9:=Lib.hid (hs.setB 4 (by simp) (.slice none 0 0))
          simp only [List.setIfInBounds_toArray,List.set_cons_succ,List.set_cons_zero] at H9
          have hxr:=HTX.out.at (M:=_::_::(Z++(_::(Y++(_::_::X))))) (show St w0 fp0 (_::_::((Z++(_::(Y++(_::_::X))))++R)) _ by rw [←HR1.out] at hs;simp only [List.cons_append,List.append_assoc];exact hs)
          have HST:=Lib.hid (td_star (t:=⟨nm,ca2,n,cc2, .slice ka2 i kc2, .slice fa2 j fc2,none,0,0,cvs,us,us2,K,F⟩) (X:=X) (l:=l) hxr.cols.2.1 hxr.one (by show KUp K kvs us Y K.length;rw [HKN.out];exact HUP.out) (by show FUp F fvs us2 Z F.length;rw [HFN.out];exact hup2) Hsh.out.2.2.1)
          clear hxr hs hup2 Hj hgj hj HUP
          go_upto_region 19 with (fail)
          generalize hW2:World.setCell _ _ _=W9 at *
          clear hW2 c0 c1 c2 c3 c4 f1 f2 f3 f4 tl
          obtain ⟨c0,c1,c2,c3,c4,f1,f2,f3,f4,tl⟩:=cells5 H9.out 0 rfl
          have HT:RowKit.Hid (St w0 fp0 (rowA 89 5 (.slice za k zc) k (l.flatMap Td.c)::(blkA tb 89 #[.string nm, .slice ca2 n cc2, .slice ka2 i kc2, .slice fa2 j fc2, .slice none 0 0]::((tdL ⟨nm,ca2,n,cc2, .slice ka2 i kc2, .slice fa2 j fc2,none,0,0,cvs,us,us2,K,F⟩ Y Z++X)++R))) W9):=by
           have h:=H9.out
           rw [←HR1.out] at h
           refine h.perm ?_
           unfold tdL
           rw [HKN.out,HFN.out]
           classical
           refine List.perm_iff_count.2 fun a=> ?_
           simp only [List.count_append,List.count_cons,List.count_nil,List.cons_append,List.append_assoc]
           omega
          clear H9 HR1
          go_upto_region 20 with (first | (at_builtin;refine wpList_appR rfl _ _ _ _ rfl rfl rfl appTB (HT.out.mono ((Below.refl _ _).alloc (Nat.le_refl _) _)) (src_litk (e':=89) (by kernel_rfl) _ 5 _ 1 _ _ _ #[.string nm, .slice ca2 n cc2, .slice ka2 i kc2, .slice fa2 j fc2, .slice none 0 0] (heap_alloc_new _ _) rfl (by simp;exact ⟨rfl,rfl,rfl,rfl,rfl⟩)) (by omega) ?_;intro v9 w9 h9))
          have HI2:RowKit.Hid (CsInv w0 fp0 R td v9 (k+1) w9):=by
           refine ⟨l++[⟨nm,ca2,n,cc2, .slice ka2 i kc2, .slice fa2 j fc2,none,0,0,cvs,us,us2,K,F⟩],tdL ⟨nm,ca2,n,cc2, .slice ka2 i kc2, .slice fa2 j fc2,none,0,0,cvs,us,us2,K,F⟩ Y Z++X,?_,by rw [List.length_append,Hsh.out.2.1];rfl,HST.out,?_⟩
           · rw [List.map_append,Hsh.out.1,Hsh.out.2.2.2]
             rfl
           · rw [List.flatMap_append]
             exact (h9.out.perm (List.Perm.swap _ _ _)).drop
          clear HT HST h9 c0 c1 c2 c3 c4 f1 f2 f3 f4 tl
          go_wp2
          go_roundg (gk0 - 1)
          case rel=> exact ⟨k+1,by go_num,by have:=Hgk.out;omega,HI2⟩
          case measure=> have:=Hgk.out;omega
  · obtain rfl:k=N:=by omega
    have HF:RowKit.Hid (∃a c,∃td2:List Td,Value.slice za k zc=.slice a td2.length c∧td2.map Td.sh=td.map Td.sh∧St w0 fp0 (schA (.slice a td2.length c) td2::R) wr):=by
     refine ⟨za,zc,l,by rw [hlk],?_,?_⟩
     · rw [hsh,List.take_of_length_le (by rw [HN.out];exact Nat.le_refl _)]
     · rw [hlk]
       refine St.schA (X:=rowA 89 5 (.slice za k zc) k (l.flatMap Td.c)::X) (fun w f hf=> ?_) hS1
       obtain ⟨g,g2,h1,h2, -, -⟩:=hf
       exact ⟨by rw [hlk];exact SlX.of_row (X:=[]) h1 (by rw [flatMap_len tdc_len,hlk]) (by simp),hX w g2 h2⟩
    clear hS1 hX hlk hsh Hi hgk hk
    go_wp2
    go_ret
    obtain ⟨a,c,td2,e,h1,h2⟩:=HF.out
    exact ⟨a,c,td2,(show Ending.returned (Value.slice za k zc)=_ by rw [e]),h1,h2⟩
/- New: its drawn region. -/
set_option maxRecDepth 100000
theorem appPS:AppSrc Tryz.prog 102 102 46 1:=appSrc (z:=.pointer none) (bytes:=8) (by kernel_rfl) (by kernel_rfl) rfl (by decide) (by decide)
noncomputable def gNw5 (b tb n:Nat) (SV TV nm cv kv fv xv:Value) (ps:List Value) (I:List (List Int)):=rgx Tryz.prog Tryz.f38 5 32 [19,20,21,22,23,24,25,26,27,28,29] [(3,pV b 0),(5,pV tb 0)] (Vq 0 19 [Kp b 0,Kp b 0,Kp b 0,Kp b 1,Kv TV,Kv (.agg #[nm,cv,kv,fv,xv]),Vf.ptr,Vf.box,Vf.slice,Kp b 0,Kp b 1]) [.blk b (104) [⟨SV,[]⟩,⟨TV,[(11, .s 27)]⟩],Bk tb (89) [nm,cv,kv,fv,xv], .gen [8] [27,25] fun L g=> match L 8 with | true=> slA 46 (g 27) (ps++[.pointer (some ⟨pb (g 25),0,none⟩)]) | false=> slA 46 TV ps, .new 6 [25] fun g=> storeA (pb (g 25)) n I [] 1, .new 7 [26,25] fun g=> boxsA 46 (g 26) #[.pointer (some ⟨pb (g 25),0,none⟩)]]
theorem rNw5 (b tb n:Nat) (SV TV nm cv kv fv xv:Value) (ps:List Value) (I:List (List Int)) (w0:World) (fp0:List Nat) (R:List Asn) (hl:ps.length+1 < 1099511627776) (hnew:∀w,St w0 fp0 ([blkA b 104 #[SV,TV],blkA tb 89 #[nm,cv,kv,fv,xv],slA 46 TV ps,emp,emp]++R) w→Calls Tryz.prog 75 #[.agg #[nm,cv,kv,fv,xv]] w fun e w2=> ∃S,e=.returned (ptrV S)∧St w0 fp0 (storeA S n I [] 1::[blkA b 104 #[SV,TV],blkA tb 89 #[nm,cv,kv,fv,xv],slA 46 TV ps]++R) w2) {w:World} {c:Code} {a:Act} {Q:Exit→Act→World→Prop} (c1:isReg c=true) (c2:cops c=opsR Tryz.f38 5) (c3:a.tmps.size=32) (_c4:a.defers=a.defers) (i3:a.eval (.tmp 3)=.pointer (some ⟨b,0,none⟩)) (i5:a.eval (.tmp 5)=.pointer (some ⟨tb,0,none⟩))
 (hS:St w0 fp0 ([blkA b (104) #[SV,TV],blkA tb (89) #[nm,cv,kv,fv,xv],slA 46 TV ps,emp,emp]++R) w)
 (hQ:∀(u25 u26 u27:Value) (w1:World),(∃b,u25=.pointer (some ⟨b,0,none⟩))→(∃b,u26=.slice (some ⟨b,0,none⟩) 1 1)→(∃a n c,u27=.slice a n c)→St w0 fp0 ([blkA b (104) #[SV,u27],blkA tb (89) #[nm,cv,kv,fv,xv],slA 46 (u27) (ps++[.pointer (some ⟨pb (u25),0,none⟩)]),storeA (pb (u25)) n I [] 1,boxsA 46 (u26) #[.pointer (some ⟨pb (u25),0,none⟩)]]++R) w1→Q .normal (putL a [(19, .pointer (some ⟨b,0,none⟩)),(20, .pointer (some ⟨b,0,none⟩)),(21, .pointer (some ⟨b,0,none⟩)),(22, .pointer (some ⟨b,1,none⟩)),(23,TV),(24, .agg #[nm,cv,kv,fv,xv]),(25,u25),(26,u26),(27,u27),(28, .pointer (some ⟨b,0,none⟩)),(29, .pointer (some ⟨b,1,none⟩))]) w1):c.wp Tryz.prog Q a w:=by
 have ok:(gNw5 b tb n SV TV nm cv kv fv xv ps I w0 fp0 R).Ok 12:=Rg.ok _ 12 [4,5,6,7,8,11] ⟨.load _ 4 0 1, .run1 _ 5 1 (fun _=> blkA tb 89 #[nm,cv,kv,fv,xv]) (fun _ _=> blkA tb 89 #[nm,cv,kv,fv,xv]) (fun L a w fp _ hp=> (by obtain ⟨h1, -, -⟩:=blk_get hp;exact ⟨.agg #[nm,cv,kv,fv,xv],w,fp,exec_loads (cs:=[nm,cv,kv,fv,xv]) (off:=0) rfl (kr (by kernel_rfl)) (kr (by kernel_rfl)) (kr (by kernel_rfl)) (fun j u hj=> (by rw [Nat.zero_add,h1 j];simpa using hj)),kr (by kernel_rfl),hp,Tr.refl _ _⟩)), .callG _ 6 (f:=75) (args:=fun _=> #[.agg #[nm,cv,kv,fv,xv]]) (fun _=> [blkA b 104 #[SV,TV],blkA tb 89 #[nm,cv,kv,fv,xv],slA 46 TV ps,emp,emp]) (fun _ v=> [blkA b 104 #[SV,TV],blkA tb 89 #[nm,cv,kv,fv,xv],slA 46 TV ps,storeA (pb (v)) n I [] 1,emp]) (fun g w h=> (hnew w h).mono fun e w2 ⟨S,e1,h1⟩=> ⟨_,e1,kr (by kernel_rfl),St_re (L:=[_,_,_,_,_]) (St.emp.2 h1) [2,3,4,1,0] [] (by kernel_rfl)⟩), .boxsG _ 7 4, .appG _ 8 (fun g=> [blkA b 104 #[SV,TV],blkA tb 89 #[nm,cv,kv,fv,xv],slA 46 TV ps,storeA (pb (g 25)) n I [] 1,boxsA 46 (g 26) #[.pointer (some ⟨pb (g 25),0,none⟩)]]) (fun g v=> [blkA b 104 #[SV,TV],blkA tb 89 #[nm,cv,kv,fv,xv],slA 46 (v) (ps++[.pointer (some ⟨pb (g 25),0,none⟩)]),storeA (pb (g 25)) n I [] 1,boxsA 46 (g 26) #[.pointer (some ⟨pb (g 25),0,none⟩)]]) (fun ty g w h=> (by obtain ⟨fb,hfb⟩:=h.has 4 rfl;obtain ⟨v,w2,h1,h2⟩:=St.appSl appPS ty (St_re (L:=[_,_,_,_,_]) h [2,0,1,3,4] [] (by kernel_rfl)) (boxs_src (tx:=102) (e':=46) (by kernel_rfl) hfb rfl (by simp;rfl)) (by omega);obtain ⟨_,hr⟩:=h2.has 0 rfl;obtain ⟨a,n,c,rfl⟩:=sl_shape hr;exact ⟨_,w2,h1,kr (by kernel_rfl),St_re (L:=[_,_,_,_,_]) h2 [1,2,0,3,4] [] (by kernel_rfl)⟩)), .store _ 11 0 1,trivial⟩
 refine wp_regD ok (by kernel_rfl) ⟨c1,c2⟩ ⟨c3,fun p hp=> ?_⟩ hS fun A1 w1 N1 H1=> ?_
 · simp only [gNw5,rgx,List.map_nil,List.append_nil,List.mem_cons,List.not_mem_nil,or_false] at hp
   rcases hp with rfl | rfl
   · exact i3
   · exact i5
 have e19:=N1.val 0 rfl
 have e20:=N1.val 1 rfl
 have e21:=N1.val 2 rfl
 have e22:=N1.val 3 rfl
 have e23:=N1.val 4 rfl
 have e24:=N1.val 5 rfl
 have e25:=N1.val 6 rfl
 have e26:=N1.val 7 rfl
 have e27:=N1.val 8 rfl
 have e28:=N1.val 9 rfl
 have e29:=N1.val 10 rfl
 have h:=hQ (slots A1 25) (slots A1 26) (slots A1 27) w1 ⟨_,e25⟩ ⟨_,e26⟩ ⟨_,_,_,e27⟩ H1
 rw [frame_eq N1.frame (cons_eq e19 (cons_eq e20 (cons_eq e21 (cons_eq e22 (cons_eq e23 (cons_eq e24 (cons_eq rfl (cons_eq rfl (cons_eq rfl (cons_eq e28 (cons_eq e29 rfl)))))))))))]
 exact h
end Go.Proofs.YtpdlkdoogojboaaGreat
/- store.New. -/
namespace Go.Proofs.YtpdlkdoogojboaaGreat
open Go Go.RowKit
theorem Td.Sm.of {t u:Td} (h:t.Sm) (e:u.sh=t.sh):u.Sm:=by
 unfold Td.sh at e
 injection e with e1 e2
 injection e2 with e2 e3
 exact ⟨by rw [e1];exact h.n,by rw [e2];exact h.k,by rw [e3];exact h.f,by rw [e2];exact h.kl,by rw [e3];exact h.fl⟩
theorem sm_of {td2 td:List Td} (h:td2.map Td.sh=td.map Td.sh) (hsm:∀t∈td,t.Sm):∀t∈td2,t.Sm:=by
 intro t ht
 have:t.sh∈td.map Td.sh:=by rw [←h];exact List.mem_map_of_mem ht
 obtain ⟨u,hu,e⟩:=List.mem_map.1 this
 exact (hsm u hu).of e.symm
def newD (td:List Td):Db:=td.map fun t=> (t.n,[],1)
theorem newD_of {td2 td:List Td} (h:td2.map Td.sh=td.map Td.sh):newD td2=newD td:=by
 have:=congrArg (List.map fun s:Nat×List (List Int)×List (List Int)=> (s.1,([]:LL),(1:Int))) h
 rw [List.map_map,List.map_map] at this
 exact this
/-- What New knows after k tables. -/
def NwInv (w0:World) (fp0:List Nat) (R:List Asn) (b:Nat) (sa:Option Addr) (sc:Nat) (td:List Td) (k:Nat) (w:World):Prop:=∃(ts:List Tb) (ta:Option Addr) (tc:Nat),ts.map Tb.d=newD (td.take k)∧ts.length=k∧
 St w0 fp0 (blkA b 104 #[.slice sa td.length sc, .slice ta k tc]::schA (.slice sa td.length sc) td::slA 46 (.slice ta k tc) (ts.map fun t=> ptrV t.S)::(ts.map tbA++R)) w
set_option maxHeartbeats 8000000 in
set_option maxRecDepth 20000 in
theorem StNew_calls (td:List Td) (v:Value) (hsm:∀t∈td,t.Sm) (htl:td.length≤1000) (w0 w:World) (fp0:List Nat) (R:List Asn) (hv:Rd w0 fp0 R fun w=> SchX w td v) (hS:St w0 fp0 R w):
 Calls Tryz.prog 38 #[v] w fun e w'=> ∃b,e=.returned (.pointer (some ⟨b,0,none⟩))∧St w0 fp0 (stA b (newD td)::R) w':=by
 obtain ⟨va,vc,rfl⟩:=(hv.here hS).sl.shape
 have HC:=Lib.hid (copySchema_calls td _ hsm htl w0 w fp0 R hv hS)
 have HSM:=Lib.hid hsm
 have HTL:=Lib.hid htl
 obtain ⟨D0,hD0⟩:∃D0,newD td=D0:=⟨_,rfl⟩
 have HD0:=Lib.hid hD0
 rw [hD0]
 clear hv hS hsm htl hD0
 go_enter Tryz.func38,Tryz.ntmps38
 go_wp2_with fail
 (with_reducible refine HC.out.mono ?_)
 rintro e w1 ⟨sa,sc,td2,rfl,hsh,h1⟩
 have HSM2:=Lib.hid (sm_of hsh HSM.out)
 have hlen:td2.length≤1000:=by
  have:=congrArg List.length hsh
  simp only [List.length_map] at this
  have:=HTL.out
  omega
 have HD:=Lib.hid ((newD_of hsh).trans HD0.out)
 have H1:=Lib.hid (h1.newblk 104 #[.slice sa td2.length sc, .slice none 0 0])
 clear HC HSM HTL hsh h1 HD0
 go_upto_region 2 with (fail)
 generalize hW:w1.alloc _=W at *
 clear hW
 obtain ⟨b,hb⟩:∃b,w1.heap.size=b:=⟨_,rfl⟩
 rw [hb] at H1 ⊢
 clear hb
 obtain ⟨_,hb⟩:=H1.out.has 0 rfl
 have c0:=(blk_get hb).1 0
 have bl:=(blk_get hb).2.2
 simp only [List.getElem?_toArray,List.getElem?_cons_zero] at c0
 clear hb
 obtain ⟨N,hN⟩:∃N,td2.length=N:=⟨_,rfl⟩
 have HN:=Lib.hid hN
 have HI:RowKit.Hid (NwInv w0 fp0 R b sa sc td2 0 W):=⟨[],none,0,rfl,rfl,St_re (L:=[_,_,_]) (H1.out.nilR 46 1) [1,2,0] [] (by kernel_rfl)⟩
 rw [hN] at c0 hlen ⊢
 clear H1 hN
 go_upto_region 3 with (fail)
 clear c0 bl
 go_loopg [15] N (fun g z wr=> ∃k:Nat,z=.int .i64 k∧g+k=N∧RowKit.Hid (NwInv w0 fp0 R b sa sc td2 k wr))
 case atStart=> exact ⟨0,rfl,rfl,HI⟩
 case round=>
  clear HI
  obtain ⟨k,rfl,hgk,Hi⟩:=hrel
  by_cases hk:k < N
  · have hkn:(k:Int) < N:=by omega
    obtain ⟨ts,ta,tc,hts,htl,hs⟩:=Hi.out
    have hkl:k < td2.length:=by rw [HN.out];exact hk
    obtain ⟨_,hsch⟩:=hs.has 1 rfl
    have hx:=schA_at hsch
    obtain ⟨b',o,c',e1,hpl,p0,p1,p2,p3,p4⟩:=hx.cells k hkl
    obtain ⟨rfl, -,rfl⟩:=Value.slice.inj e1
    have htm:=HSM2.out _ (List.getElem_mem hkl)
    have ht0:=hx.td _ (List.getElem_mem hkl)
    have hD:newD (td2.take (k+1))=newD (td2.take k)++[(td2[k].n,[],1)]:=by
     rw [List.take_add_one,List.getElem?_eq_getElem hkl,newD,List.map_append]
     rfl
    have HMem:=Lib.hid (List.getElem_mem hkl)
    clear e1 hsch hx Hi
    rw [HN.out] at hs
    generalize td2[k]=t at *
    clear hkl
    obtain ⟨nm,ca,n,cc,kv,fv,xa,xn,xc,cvs,kvs,fvs,K,F⟩:=t
    simp only at p0 p1 p2 p3 p4
    obtain ⟨ka,kc,hkv⟩:=ht0.keys.1.shape
    obtain ⟨fa,fc,hfv⟩:=ht0.fors.1.shape
    simp only at hkv hfv
    subst hkv hfv
    have HS1:=Lib.hid (hs.newblk 89 #[.string nm, .slice ca n cc, .slice ka K.length kc, .slice fa F.length fc, .slice xa xn xc])
    have HT:=Lib.hid (And.intro hts (And.intro htl hD))
    have HTM:=Lib.hid htm
    have Hgk:=Lib.hid hgk
    clear hs hts htl hD htm hgk ht0
    go_upto_region 5 with (fail)
    have hsz:=World.size_alloc wr (.cells #[.string nm, .slice ca n cc, .slice ka K.length kc, .slice fa F.length fc, .slice xa xn xc] 89)
    generalize hW2:wr.alloc _=W2 at *
    clear hW2 p0 p1 p2 p3 p4 hpl
    obtain ⟨tb,htb⟩:∃tb,wr.heap.size=tb:=⟨_,rfl⟩
    rw [htb] at HS1 hsz ⊢
    clear htb hsz
    refine rNw5 (w0:=w0) (fp0:=fp0) b tb n (.slice (some ⟨b',o,none⟩) N sc) (.slice ta k tc) (.string nm) (.slice ca n cc) (.slice ka K.length kc) (.slice fa F.length fc) (.slice xa xn xc) (ts.map fun t=> ptrV t.S) ((K++F).foldl (addI n) []) (R:=schA (.slice (some ⟨b',o,none⟩) N sc) td2::(ts.map tbA++R)) (by rw [List.length_map,HT.out.2.1];omega) ?_ rfl (by kernel_rfl) rfl rfl rfl rfl ?_ ?_
    · intro w' h'
      have h2:St w0 fp0 (blkA b 104 #[.slice (some ⟨b',o,none⟩) N sc, .slice ta k tc]::blkA tb 89 #[.string nm, .slice ca n cc, .slice ka K.length kc, .slice fa F.length fc, .slice xa xn xc]::slA 46 (.slice ta k tc) (ts.map fun t=> ptrV t.S)::schA (.slice (some ⟨b',o,none⟩) N sc) td2::(ts.map tbA++R)) w':=(St_re (L:=[_,_,_,_,_]) h' [3,4,0,1,2] [] (by kernel_rfl)).drop.drop
      have hk':=HTM.out
      exact SNew_calls nm ca xa n cc xn xc _ _ K F kvs fvs hk'.kl hk'.fl (by have:=hk'.k;simp only at this;omega) (by have:=hk'.f;simp only at this;omega) w0 w' fp0 _ (Rd.of_piece 3 rfl fun w f h=> ((schA_at h).td _ HMem.out).keys) (Rd.of_piece 3 rfl fun w f h=> ((schA_at h).td _ HMem.out).fors) h2
    · refine (St.emp.2 (St.emp.2 HS1.out)).perm ?_
      classical
      exact List.perm_iff_count.2 fun a=> by simp only [List.cons_append,List.nil_append,List.count_append,List.count_cons];omega
    intro u25 u26 u27 w2 ⟨S,e25⟩ ⟨_,e26⟩ ⟨ya,yn,yc,e27⟩ h2
    subst e25 e26 e27
    have HI2:RowKit.Hid (NwInv w0 fp0 R b (some ⟨b',o,none⟩) sc td2 (k+1) w2):=by
     have hyn:yn=k+1:=by
      obtain ⟨_,hsl⟩:=h2.has 2 rfl
      obtain ⟨_,_,e, -⟩:=sl_get hsl
      injection e with _ e
      rw [e,List.length_append,List.length_map,HT.out.2.1]
      rfl
     subst hyn
     refine ⟨ts++[⟨S,n,(K++F).foldl (addI n) [],[],1⟩],ya,yc,by rw [List.map_append,HT.out.1,HT.out.2.2];rfl,by rw [List.length_append,HT.out.2.1];rfl,?_⟩
     rw [HN.out,List.map_append,List.map_append,List.append_assoc]
     have h3:=(h2.perm (List.Perm.swap _ _ _)).drop
     have h4:St w0 fp0 ([blkA b 104 #[.slice (some ⟨b',o,none⟩) N sc, .slice ya (k+1) yc],slA 46 (.slice ya (k+1) yc) ((ts.map fun t=> ptrV t.S)++[ptrV S]),storeA S n ((K++F).foldl (addI n) []) [] 1,boxsA 46 _ _]++(schA (.slice (some ⟨b',o,none⟩) N sc) td2::(ts.map tbA++R))) w2:=h3
     have h5:St w0 fp0 (blkA b 104 #[.slice (some ⟨b',o,none⟩) N sc, .slice ya (k+1) yc]::slA 46 (.slice ya (k+1) yc) ((ts.map fun t=> ptrV t.S)++[ptrV S])::storeA S n ((K++F).foldl (addI n) []) [] 1::(schA (.slice (some ⟨b',o,none⟩) N sc) td2::(ts.map tbA++R))) w2:=(St_re (L:=[_,_,_,_]) h4 [3,0,1,2] [] (by kernel_rfl)).drop
     refine h5.perm ?_
     classical
     refine List.perm_iff_count.2 fun a=> ?_
     simp only [List.map_cons,List.map_nil,tbA,List.cons_append,List.nil_append,List.count_append,List.count_cons]
     omega
    clear HS1 h2 HT HTM HMem
    simp only [putL,List.foldl,Act.put,List.setIfInBounds_toArray,List.set_cons_succ,List.set_cons_zero]
    go_wp2
    go_roundg (gk - 1)
    case rel=> exact ⟨k+1,by go_num,by have:=Hgk.out;omega,HI2⟩
    case measure=> have:=Hgk.out;omega
  · obtain rfl:k=N:=by omega
    have HF:RowKit.Hid (St w0 fp0 (stA b D0::R) wr):=by
     obtain ⟨ts,ta,tc,hts,htl,hs⟩:=Hi.out
     rw [List.take_of_length_le (by rw [HN.out];exact Nat.le_refl _),HD.out] at hts
     refine St.shutD (q:=⟨sa,sc,ta,tc,td2,ts⟩) ⟨hts,?_,HSM2.out,by rw [HN.out];exact hlen⟩ ?_
     · show td2.map (·.n)=_
       rw [←HD.out,newD,List.map_map]
       rfl
     · show St w0 fp0 (blkA b 104 #[.slice sa td2.length sc, .slice ta ts.length tc]::schA (.slice sa td2.length sc) td2::slA 46 (.slice ta ts.length tc) _::([]++(ts.map tbA++R))) wr
       rw [htl]
       exact hs
    clear Hi hgk hk
    go_wp2
    go_ret
    exact ⟨_,rfl,HF.out⟩
/- store.Table, storable, check. -/
theorem table_in (b k:Nat) (ps:List Value) (tv u:Value) (w:World) (h1:w.cell? ⟨b,1,none⟩=some tv) (hs:SlX [] w 1 ps.length ps tv) (hu:ps[k]? =some u):Calls Tryz.prog 21 #[.pointer (some ⟨b,0,none⟩), .int .i64 k] w fun e w'=> e=.returned u∧w=w':=by
 obtain ⟨b',o,c,rfl,hc⟩:=hs.some hu
 have hk:=(List.getElem?_eq_some_iff.1 hu).1
 generalize ps.length=n at *
 have hk':(k:Int) < n:=by omega
 have hbl:=World.block_lt_of_cell? w _ h1
 have hbl':=World.block_lt_of_cell? w _ hc
 have hnn:decide ((n:Int)≤k)=false:=by simp;omega
 clear hs hu
 go_enter Tryz.func21,Tryz.ntmps21
 go_wp2
 go_ret
 exact ⟨rfl,rfl⟩
theorem table_out (b n c:Nat) (a:Option Addr) (i:Int) (w:World) (h1:w.cell? ⟨b,1,none⟩=some (.slice a n c)) (hi:¬ (0≤i∧i < n)):Calls Tryz.prog 21 #[.pointer (some ⟨b,0,none⟩), .int .i64 i] w fun e w'=> e=.returned (.pointer none)∧w=w':=by
 have hbl:=World.block_lt_of_cell? w _ h1
 by_cases h0:i < 0
 · go_enter Tryz.func21,Tryz.ntmps21
   go_wp2
   go_ret
   exact ⟨rfl,rfl⟩
 · have h2:(n:Int)≤i:=by omega
   clear hi
   go_enter Tryz.func21,Tryz.ntmps21
   go_wp2
   go_ret
   exact ⟨rfl,rfl⟩
theorem storable41_calls (v:Vl) (w:World) (hs:v.text.size≤maxLen):Calls Tryz.prog 117 #[v.val] w fun e w'=> e=.returned (.bool (!okV v))∧Below w.heap.size w w':=by
 have HC:=Lib.hid (valid_calls v (w.alloc (.cells #[.int .i64 v.kind, .int .i64 v.int, .string v.text] 68)) hs)
 have HB:=Lib.hid ((Below.refl _ w).alloc (Nat.le_refl _) (.cells #[.int .i64 v.kind, .int .i64 v.int, .string v.text] 68))
 unfold Vl.val at *
 generalize okV v=q at *
 clear hs
 go_enter Tryz.func117,Tryz.ntmps117
 go_wp2_with fail
 (with_reducible refine HC.out.mono ?_)
 rintro e w1 ⟨rfl,hb⟩
 have Hb:=Lib.hid (HB.out.trans (hb.mono HB.out.size))
 clear hb HC
 go_wp2
 go_ret
 exact ⟨rfl,Hb.out⟩
set_option maxHeartbeats 4000000 in
theorem storable40_calls (b k:Nat) (td:List Td) (sv:Value) (hk:k < td.length) (r:Rw) (v:Value) (w:World) (hc:w.cell? ⟨b,0,none⟩=some sv) (hsc:SchX w td sv) (hv:ValsAt w r v):
 Calls Tryz.prog 81 #[.pointer (some ⟨b,0,none⟩), .int .i64 k,v] w fun e w'=> e=.returned (.bool (storB td[k].n r))∧Below w.heap.size w w':=by
 have hl:=World.block_lt_of_cell? w _ hc
 have HC:=Lib.hid (containsV_calls r v 117 (fun x=> !okV x) w (enters_own Tryz.func117 (by kernel_rfl) rfl) hv fun x hx w' hb=> storable41_calls x w' (hv.txt x hx))
 obtain ⟨a,n,cc,rfl,hn,hm⟩:=hv.shape
 obtain ⟨b',o,c',rfl,hbl', -,p1, -⟩:=hsc.cells k hk
 have hk':(k:Int) < td.length:=by omega
 generalize td[k].ca=ca at *
 generalize td[k].cc=tc at *
 generalize td[k].n=cols at *
 generalize td.length=m at *
 have hq:r.any (fun x=> !okV x)=!r.all okV:=by rw [List.all_eq_not_any_not,Bool.not_not]
 rw [hq] at HC
 obtain ⟨q,hq'⟩:∃q,storB cols r=q:=⟨_,rfl⟩
 have HQ:RowKit.Hid ((decide (n=cols) && r.all okV)=q):=by show _=_;rw [hn];exact hq'
 rw [hq']
 clear hv hn hq hq' hm hsc
 generalize r.all okV=t at *
 by_cases he:n=cols
 · have he':((n:Int)==cols)=true:=by simp [he]
   have HE:=Lib.hid he
   clear he
   go_enter Tryz.func81,Tryz.ntmps81
   go_wp2_with fail
   (with_reducible refine HC.out.mono ?_)
   rintro e w1 ⟨rfl,hb⟩
   have Hb:=Lib.hid hb
   clear hb HC
   go_wp2
   go_ret
   exact ⟨by rw [←HQ.out];simp [HE.out],Hb.out⟩
 · have he':((n:Int)==cols)=false:=by simp;omega
   have HE:=Lib.hid he
   clear he
   go_enter Tryz.func81,Tryz.ntmps81
   go_wp2
   go_ret
   exact ⟨by rw [←HQ.out];simp [HE.out],Below.refl _ _⟩
/-- What the open store says. -/
theorem db_get {w0 w:World} {fp0:List Nat} {R:List Asn} {b:Nat} {q:StQ} (h:St w0 fp0 (dbP b q++R) w):w.cell? ⟨b,0,none⟩=some q.sv∧w.cell? ⟨b,1,none⟩=some q.tv∧b < w.heap.size∧SchX w q.td q.sv∧SlX [] w 1 (q.ts.map fun t=> ptrV t.S).length (q.ts.map fun t=> ptrV t.S) q.tv:=by
 obtain ⟨_,hb⟩:=h.has 0 rfl
 obtain ⟨_,h1⟩:=h.has 1 rfl
 obtain ⟨_,h2⟩:=h.has 2 rfl
 exact ⟨(blk_get hb).1 0,(blk_get hb).1 1,(blk_get hb).2.2,schA_at h1,SlX.of_sl h2 (by simp)⟩
theorem storeA_ok {S cols:Nat} {I:List (List Int)} {L:LL} {next:Int} {w:World} {f:List Nat} (h:(storeA S cols I L next).p w f):AscI L∧(1≤next∧next≤4611686018427387905)∧∀x∈L,1≤x.1∧x.1 < next∧RowOk cols x.2:=by
 obtain ⟨s,g,f2,⟨hk, -⟩, -, -, -⟩:=h
 exact ⟨hk.asc,hk.nx,hk.row⟩
theorem rowOk_txt {cols:Nat} {r:Rw} (h:RowOk cols r):∀v∈r,v.text.size≤maxLen:=by
 intro v hv
 have h1:=(h.2 v hv).1
 unfold okV at h1
 unfold maxLen
 split at h1
 · have:=(Bool.and_eq_true_iff.1 h1).2
   rw [of_decide_eq_true this]
   decide
 · split at h1
   · rw [of_decide_eq_true h1];decide
   · split at h1
     · have:=(Bool.and_eq_true_iff.1 (Bool.and_eq_true_iff.1 h1).2).2
       have:=of_decide_eq_true this
       omega
     · cases h1
/- store.check. -/
/-- The table of a number; the answer to a change; the tables behind it. -/
def rowD (D:Db) (i:Int):Option (Nat×LL×Int):=if 0≤i then D[i.toNat]? else none
def chkD (D:Db) (c:Chg):Int:=match rowD D c.tb with
 | some t=> chkT t.1 t.2.1 c.id c.old c.new
 | none=> 1
def appD (D:Db) (c:Chg):Db:=match rowD D c.tb with
 | some t=> if chkT t.1 t.2.1 c.id c.old c.new=0 then D.set c.tb.toNat (t.1,appT t.1 c.id c.new t.2.1,appN t.1 c.id c.new t.2.2) else D
 | none=> D
theorem rowD_in {D:Db} {k:Nat} {t:Nat×LL×Int} (h:D[k]? =some t):rowD D k=some t:=by
 unfold rowD
 rw [if_pos (by omega)]
 exact h
theorem rowD_out {D:Db} {i:Int} (h:¬ (0≤i∧i < D.length)):rowD D i=none:=by
 unfold rowD
 by_cases h0:0≤i
 · rw [if_pos h0]
   exact List.getElem?_eq_none (by omega)
 · rw [if_neg h0]
theorem cells4 {w0 w:World} {fp0:List Nat} {L:List Asn} {b:Nat} {t:TypeId} {c0 c1 c2 c3:Value} (h:St w0 fp0 L w) (i:Nat) (hi:L[i]? =some (blkA b t #[c0,c1,c2,c3])):
 w.cell? ⟨b,0,none⟩=some c0∧w.cell? ⟨b,1,none⟩=some c1∧w.cell? ⟨b,2,none⟩=some c2∧w.cell? ⟨b,3,none⟩=some c3∧b < w.heap.size:=by
 obtain ⟨_,hb⟩:=h.has i hi
 obtain ⟨h1, -,h3⟩:=blk_get hb
 exact ⟨h1 0,h1 1,h1 2,h1 3,h3⟩
/-- A change is no change at all. -/
def invB (cols:Nat) (id:Int) (old new:Rw):Bool:=decide (¬ (1≤id∧id≤4611686018427387904)∨(old=[]∧new=[])∨(new≠[]∧storB cols new=false))
theorem chkT_inv {cols:Nat} {L:LL} {id:Int} {old new:Rw} (h:invB cols id old new=true):chkT cols L id old new=1:=by
 unfold chkT
 rw [if_pos (of_decide_eq_true h)]
theorem chkT_old {cols:Nat} {L:LL} {id:Int} {old new:Rw} (h:invB cols id old new=false) (ho:old=[]):chkT cols L id old new=if (getL L id).isSome then 5 else 0:=by
 unfold chkT
 rw [if_neg (of_decide_eq_false h),if_pos ho]
theorem chkT_new {cols:Nat} {L:LL} {id:Int} {old new:Rw} (h:invB cols id old new=false) (ho:old≠[]):chkT cols L id old new=if getL L id=some old then 0 else 4:=by
 unfold chkT
 rw [if_neg (of_decide_eq_false h),if_neg ho]
theorem St.unpickT {w0 w:World} {fp0:List Nat} {R:List Asn} {b:Nat} {q:StQ} {i:Nat} (hi:i < q.ts.length) (hs:St w0 fp0 (tbA q.ts[i]::(dbP b q++((q.ts.eraseIdx i).map tbA++R))) w):St w0 fp0 (dbP b q++(q.ts.map tbA++R)) w:=
 hs.perm ((List.Perm.append_left _ (List.Perm.append_right R (map_pick tbA q.ts i hi))).trans List.perm_middle).symm
theorem St.sinkD {w0 w:World} {fp0:List Nat} {R:List Asn} {b:Nat} {q:StQ} {A:Asn} (hs:St w0 fp0 (A::(dbP b q++(q.ts.map tbA++R))) w):St w0 fp0 (dbP b q++(q.ts.map tbA++(A::R))) w:=by
 refine hs.perm ?_
 classical
 refine List.perm_iff_count.2 fun a=> ?_
 simp only [List.count_append,List.count_cons]
 omega
theorem get_txt {S cols:Nat} {I:List (List Int)} {L:LL} {next:Int} {w:World} {f:List Nat} (h:(storeA S cols I L next).p w f) (id:Int):∀v∈(getL L id).getD [],v.text.size≤maxLen:=by
 cases e:getL L id with
 | none=> simp
 | some r=>
  unfold getL at e
  obtain ⟨x,hx,rfl⟩:=Option.map_eq_some_iff.1 e
  exact rowOk_txt ((storeA_ok h).2.2 x (List.mem_of_find?_eq_some hx)).2.2
set_option maxHeartbeats 8000000 in
set_option maxRecDepth 20000 in
theorem check_calls (b:Nat) (q:StQ) (D:Db) (hq:q.Ok D) (c:Chg) (w0 w:World) (fp0:List Nat) (R:List Asn) (hc:Rd w0 fp0 R fun w=> c.X w) (hS:St w0 fp0 (dbP b q++(q.ts.map tbA++R)) w):
 Calls Tryz.prog 50 #[.pointer (some ⟨b,0,none⟩),c.v] w fun e w'=> e=.returned (.int .i64 (chkD D c))∧St w0 fp0 (dbP b q++(q.ts.map tbA++R)) w':=by
 have HC:=Lib.hid hc
 obtain ⟨tb,id,oa,oc,na,nc,old,new⟩:=c
 unfold Chg.v Chg.ov Chg.nv chkD
 simp only
 obtain ⟨on,hon⟩:∃on,old.length=on:=⟨_,rfl⟩
 obtain ⟨nn,hnn⟩:∃nn,new.length=nn:=⟨_,rfl⟩
 have HON:=Lib.hid hon
 have HNN:=Lib.hid hnn
 rw [hon,hnn]
 have HS0:=Lib.hid (hS.newblk 35 #[.int .i64 tb, .int .i64 id, .slice oa on oc, .slice na nn nc])
 obtain ⟨ch,hch⟩:∃ch:Int,(match rowD D tb with | some t=> chkT t.1 t.2.1 id old new | none=> 1)=ch:=⟨_,rfl⟩
 have HCH:=Lib.hid hch
 have HQ:=Lib.hid hq
 rw [hch]
 clear hc hS hon hnn hch hq
 go_enter Tryz.func50,Tryz.ntmps50
 go_upto_region 1 with (fail)
 generalize hW:w.alloc _=W at *
 clear hW
 obtain ⟨cb,hcb⟩:∃cb,w.heap.size=cb:=⟨_,rfl⟩
 rw [hcb] at HS0 ⊢
 clear hcb
 obtain ⟨c0,c1,c2,c3,cl⟩:=cells4 HS0.out 0 rfl
 have hdb:=db_get HS0.out.drop
 by_cases ht:0≤tb∧tb < q.ts.length
 · obtain ⟨k,rfl⟩:∃k:Nat,tb=k:=⟨tb.toNat,by omega⟩
   have hk:k < q.ts.length:=by omega
   have HT:=Lib.hid (table_in b k _ q.tv (ptrV q.ts[k].S) W hdb.2.1 hdb.2.2.2.2 (by rw [List.getElem?_map,List.getElem?_eq_getElem hk];rfl))
   have hkd:k < q.td.length:=by rw [HQ.out.dlen,←HQ.out.tlen];exact hk
   obtain ⟨cols,hcols⟩:∃cols,q.ts[k].cols=cols:=⟨_,rfl⟩
   obtain ⟨L,hL⟩:∃L,q.ts[k].L=L:=⟨_,rfl⟩
   obtain ⟨next,hnext⟩:∃next,q.ts[k].next=next:=⟨_,rfl⟩
   obtain ⟨S,hSS⟩:∃S,q.ts[k].S=S:=⟨_,rfl⟩
   have htd:q.td[k].n=cols:=by rw [HQ.out.tdn k hk hkd,hcols]
   have hcl:cols≤1000000:=by have:=(HQ.out.sm _ (List.getElem_mem hkd)).n;omega
   have HCH2:RowKit.Hid (chkT cols L id old new=ch):=by
    show _=_
    rw [←HCH.out,rowD_in (HQ.out.at k hk),hcols,hL]
   have hcx:=HC.out.at (M:=_::(dbP b q++q.ts.map tbA)) (show St w0 fp0 ((_::(dbP b q++q.ts.map tbA))++R) W by simp only [List.cons_append,List.append_assoc];exact HS0.out)
   have HOV:=Lib.hid hcx.old
   have HNV:=Lib.hid hcx.new
   unfold Chg.ov at HOV
   unfold Chg.nv at HNV
   simp only at HOV HNV
   rw [HON.out] at HOV
   rw [HNN.out] at HNV
   have HSto:=Lib.hid (storable40_calls b k q.td q.sv hkd new (.slice na nn nc) W hdb.1 hdb.2.2.2.1 HNV.out)
   rw [htd] at HSto
   have HK:=Lib.hid hk
   rw [hSS] at HT
   have HNM:=Lib.hid (And.intro hcols (And.intro hL (And.intro hnext hSS)))
   have kk:(0:Int)≤k:=by omega
   clear hdb hcx ht hkd htd hcols hL hnext hSS
   unfold ptrV at HT
   go_wp2_with fail
   (with_reducible refine HT.out.mono ?_)
   rintro e w1 ⟨rfl,rfl⟩
   clear HT
   go_upto_region 2 with (fail)
   obtain ⟨iv,hiv⟩:∃iv,invB cols id old new=iv:=⟨_,rfl⟩
   have HIV:=Lib.hid hiv
   obtain ⟨st,hst⟩:∃st,storB cols new=st:=⟨_,rfl⟩
   have HST:=Lib.hid hst
   rw [hst] at HSto
   have HO:RowKit.Hid (on=0↔old=[]):=by show _↔_;rw [←HON.out];exact List.length_eq_zero_iff
   have HN:RowKit.Hid (nn=0↔new=[]):=by show _↔_;rw [←HNN.out];exact List.length_eq_zero_iff
   clear hiv hst
   go_cut [50] (fun z wx=> z=.bool iv∧RowKit.Hid (St w0 fp0 (blkA cb 35 #[.int .i64 k, .int .i64 id, .slice oa on oc, .slice na nn nc]::(dbP b q++(q.ts.map tbA++R))) wx))
   case first=>
    by_cases h1:id < 1
    · have HE:RowKit.Hid (iv=true):=by
       show _=_
       rw [←HIV.out]
       exact decide_eq_true (.inl (by omega))
      obtain rfl:=HE.out
      clear HE
      go_wp2
      go_meet
      exact ⟨rfl,HS0.out⟩
    · by_cases h2:4611686018427387904 < id
      · have HE:RowKit.Hid (iv=true):=by
         show _=_
         rw [←HIV.out]
         exact decide_eq_true (.inl (by omega))
        obtain rfl:=HE.out
        clear HE
        go_wp2
        go_meet
        exact ⟨rfl,HS0.out⟩
      · have HR:RowKit.Hid (1≤id∧id≤4611686018427387904):=by show _∧_;omega
        by_cases h4:nn=0
        · subst h4
          have hn:=HN.out.1 rfl
          by_cases h3:on=0
          · subst h3
            have HE:RowKit.Hid (iv=true):=by
             show _=_
             rw [←HIV.out]
             exact decide_eq_true (.inr (.inl ⟨HO.out.1 rfl,hn⟩))
            obtain rfl:=HE.out
            clear HE hn
            go_wp2
            go_meet
            exact ⟨rfl,HS0.out⟩
          · have h3':((on:Int)==0)=false:=by simp;omega
            have HE:RowKit.Hid (iv=false):=by
             show _=_
             rw [←HIV.out]
             refine decide_eq_false fun h=> ?_
             rcases h with h | h | h
             · exact h HR.out
             · exact h3 (HO.out.2 h.1)
             · exact h.1 hn
            obtain rfl:=HE.out
            clear HE hn h3
            go_wp2
            go_meet
            exact ⟨rfl,HS0.out⟩
        · have h4':0 < nn:=by omega
          have h4'':((nn:Int)==0)=false:=by simp;omega
          have HE:RowKit.Hid (iv=!st):=by
           show _=_
           rw [←HIV.out]
           cases st with
           | true=>
            refine decide_eq_false fun h=> ?_
            rcases h with h | h | h
            · exact h HR.out
            · exact h4 (HN.out.2 h.2)
            · rw [HST.out] at h;cases h.2
           | false=> exact decide_eq_true (.inr (.inr ⟨fun e=> h4 (HN.out.2 e),HST.out⟩))
          obtain rfl:=HE.out
          clear HE h4
          by_cases h3:on=0
          · subst h3
            go_wp2_with fail
            (with_reducible refine HSto.out.mono ?_)
            rintro e w2 ⟨rfl,hb2⟩
            have H2:=Lib.hid (HS0.out.mono hb2)
            clear HSto hb2
            go_wp2
            go_meet
            exact ⟨rfl,H2.out⟩
          · have h3':((on:Int)==0)=false:=by simp;omega
            clear h3
            go_wp2_with fail
            (with_reducible refine HSto.out.mono ?_)
            rintro e w2 ⟨rfl,hb2⟩
            have H2:=Lib.hid (HS0.out.mono hb2)
            clear HSto hb2
            go_wp2
            go_meet
            exact ⟨rfl,H2.out⟩
   obtain ⟨rfl,Hs⟩:=hcut
   clear HS0 HSto HST HNV c0 c1 c2 c3 cl
   cases iv with
   | true=>
    have HF:RowKit.Hid (ch=1):=by show _=_;rw [←HCH2.out,chkT_inv HIV.out]
    go_wp2
    go_ret
    exact ⟨by rw [HF.out];rfl,Hs.out.drop⟩
   | false=>
    obtain ⟨c0,c1,c2,c3,cl⟩:=cells4 Hs.out 0 rfl
    have hp:=Hs.out.sinkD.pickT k HK.out
    unfold tbA at hp
    rw [HNM.out.1,HNM.out.2.1,HNM.out.2.2.1,HNM.out.2.2.2] at hp
    have HG:=Lib.hid (SGet_calls S cols _ L next id w0 _ fp0 _ hcl hp)
    obtain ⟨so,hso⟩:∃so,(getL L id).isSome=so:=⟨_,rfl⟩
    have HSO:=Lib.hid hso
    rw [hso] at HG
    unfold ptrV at HG
    clear hp hso Hs
    go_wp2_with fail
    (with_reducible refine HG.out.mono ?_)
    rintro e w2 ⟨gv,rfl,h2⟩
    clear HG c0 c1 c2 c3 cl
    obtain ⟨_,hrow⟩:=h2.has 0 rfl
    obtain ⟨ga,gc,rfl, -⟩:=row_shape hrow
    have hg:ValsAt w2 ((getL L id).getD []) (.slice ga ((getL L id).getD []).length gc):=⟨SlX.of_row (X:=[]) hrow (length_flat _) (by simp),by
     obtain ⟨_,hst⟩:=h2.has 1 rfl
     exact get_txt hst id⟩
    have h3:St w0 fp0 (dbP b q++(q.ts.map tbA++(blkA cb 35 #[.int .i64 k, .int .i64 id, .slice oa on oc, .slice na nn nc]::R))) w2:=St.unpickT HK.out (by
     unfold tbA
     rw [HNM.out.1,HNM.out.2.1,HNM.out.2.2.1,HNM.out.2.2.2]
     exact h2.drop)
    have H4:RowKit.Hid (St w0 fp0 (blkA cb 35 #[.int .i64 k, .int .i64 id, .slice oa on oc, .slice na nn nc]::(dbP b q++(q.ts.map tbA++R))) w2):=by
     refine h3.perm ?_
     classical
     refine List.perm_iff_count.2 fun a=> ?_
     simp only [List.count_append,List.count_cons]
     omega
    have hov:=HC.out.at (M:=_::(dbP b q++q.ts.map tbA)) (show St w0 fp0 ((_::(dbP b q++q.ts.map tbA))++R) w2 by simp only [List.cons_append,List.append_assoc];exact H4.out)
    have hov:=hov.old
    unfold Chg.ov at hov
    simp only at hov
    rw [HON.out] at hov
    have HCR:=Lib.hid (compareRows_calls _ _ _ _ w2 hg hov)
    obtain ⟨cr,hcr⟩:∃cr,cmpR ((getL L id).getD []) old=cr:=⟨_,rfl⟩
    have HCRE:=Lib.hid hcr
    rw [hcr] at HCR
    obtain ⟨gn,hgn⟩:∃gn,((getL L id).getD []).length=gn:=⟨_,rfl⟩
    rw [hgn] at HCR ⊢
    clear hcr hrow h2 h3 hov hg hgn HOV
    obtain ⟨c0,c1,c2,c3,cl⟩:=cells4 H4.out 0 rfl
    by_cases ho:on=0
    · subst ho
      cases so with
      | true=>
       have HF:RowKit.Hid (ch=5):=by show _=_;rw [←HCH2.out,chkT_old HIV.out (HO.out.1 rfl),HSO.out];rfl
       go_wp2
       go_ret
       exact ⟨by rw [HF.out];rfl,H4.out.drop⟩
      | false=>
       have HF:RowKit.Hid (ch=0):=by show _=_;rw [←HCH2.out,chkT_old HIV.out (HO.out.1 rfl),HSO.out];rfl
       go_wp2
       go_ret
       exact ⟨by rw [HF.out];rfl,H4.out.drop⟩
    · have ho':((on:Int)==0)=false:=by simp;omega
      have ho'':0 < on:=by omega
      have HO2:RowKit.Hid (old≠[]):=fun e=> ho (HO.out.2 e)
      clear ho
      cases so with
      | false=>
       have HF:RowKit.Hid (ch=4):=by
        show _=_
        rw [←HCH2.out,chkT_new HIV.out HO2.out,if_neg]
        intro e
        have:=HSO.out
        rw [e] at this
        cases this
       go_wp2
       go_ret
       exact ⟨by rw [HF.out];rfl,H4.out.drop⟩
      | true=>
       go_wp2_with fail
       (with_reducible refine HCR.out.mono ?_)
       rintro e w3 ⟨rfl,hb3⟩
       have H5:=Lib.hid (H4.out.mono hb3)
       clear HCR H4 hb3 c0 c1 c2 c3 cl
       by_cases h0:cr=0
       · have b0:(cr !=0)=false:=by simp [h0]
         have HF:RowKit.Hid (ch=0):=by
          show _=_
          rw [←HCH2.out,chkT_new HIV.out HO2.out,if_pos]
          rw [h0] at HCRE
          have e1:=cmpR_zero.1 HCRE.out
          cases e:getL L id with
          | none=> have:=HSO.out;rw [e] at this;cases this
          | some r=> rw [e] at e1;exact congrArg some e1
         clear h0
         go_wp2
         go_ret
         exact ⟨by rw [HF.out];rfl,H5.out.drop⟩
       · have b0:(cr !=0)=true:=by simp [h0]
         have HF:RowKit.Hid (ch=4):=by
          show _=_
          rw [←HCH2.out,chkT_new HIV.out HO2.out,if_neg]
          intro e
          refine h0 ?_
          rw [←HCRE.out,e]
          exact cmpR_zero.2 rfl
         clear h0
         go_wp2
         go_ret
         exact ⟨by rw [HF.out];rfl,H5.out.drop⟩
 · have HT:=Lib.hid (table_out b q.ts.length q.tc q.ta tb W hdb.2.1 ht)
   have HF:RowKit.Hid (ch=1):=by
    show _=_
    rw [←HCH.out,rowD_out (by rw [←HQ.out.tlen];exact ht)]
   clear hdb ht
   go_wp2_with fail
   (with_reducible refine HT.out.mono ?_)
   rintro e w1 ⟨rfl,rfl⟩
   clear HT
   go_wp2
   go_ret
   exact ⟨by rw [HF.out];rfl,HS0.out.drop⟩
/- store.Apply, Undo. -/
theorem chkD_ok {D:Db} {c:Chg} (h:chkD D c=0):∃(k:Nat) (t:Nat×LL×Int),c.tb=k∧D[k]? =some t∧chkT t.1 t.2.1 c.id c.old c.new=0∧appD D c=D.set k (t.1,appT t.1 c.id c.new t.2.1,appN t.1 c.id c.new t.2.2):=by
 unfold chkD at h
 unfold appD
 cases e:rowD D c.tb with
 | none=> rw [e] at h;cases h
 | some t=>
  rw [e] at h
  simp only at h
  have e0:=e
  unfold rowD at e
  split at e
  · rename_i h0
    refine ⟨c.tb.toNat,t,by omega,e,h,?_⟩
    simp only
    rw [if_pos h]
  · cases e
theorem appD_no {D:Db} {c:Chg} (h:chkD D c≠0):appD D c=D:=by
 unfold chkD at h
 unfold appD
 cases e:rowD D c.tb with
 | none=> rfl
 | some t=>
  rw [e] at h
  simp only at h ⊢
  rw [if_neg h]
theorem dbP_put (b:Nat) (q:StQ) (k:Nat) (hk:k < q.ts.length) (L:LL) (next:Int):dbP b { q with ts:=q.ts.set k { q.ts[k] with L:=L,next:=next } }=dbP b q:=by
 have h:((q.ts.set k { q.ts[k] with L:=L,next:=next }).map fun t=> ptrV t.S)=q.ts.map fun t=> ptrV t.S:=by
  rw [List.map_set]
  have h1:(q.ts.map fun t=> ptrV t.S)[k]? =some (ptrV q.ts[k].S):=by rw [List.getElem?_map,List.getElem?_eq_getElem hk];rfl
  obtain ⟨h2,h3⟩:=List.getElem?_eq_some_iff.1 h1
  show List.set _ k (ptrV q.ts[k].S)=_
  rw [←h3,List.set_getElem_self]
 unfold dbP StQ.sv StQ.tv
 rw [h]
 simp only [List.length_set]
set_option maxHeartbeats 8000000 in
set_option maxRecDepth 20000 in
theorem Apply_calls (b:Nat) (D:Db) (c:Chg) (hok:c.Ok) (hlen:∀t∈D,t.2.1.length < 1000000) (w0 w:World) (fp0:List Nat) (R:List Asn) (hc:Rd w0 fp0 R fun w=> c.X w) (hS:St w0 fp0 (stA b D::R) w):
 Calls Tryz.prog 19 #[.pointer (some ⟨b,0,none⟩),c.v] w fun e w'=> e=.returned (.int .i64 (chkD D c))∧St w0 fp0 (stA b (appD D c)::R) w':=by
 obtain ⟨q,hq,hs⟩:=hS.openD
 have h0:=hs.newblk 35 #[.int .i64 c.tb, .int .i64 c.id,c.ov,c.nv]
 have h1:St w0 fp0 (dbP b q++(q.ts.map tbA++(blkA w.heap.size 35 #[.int .i64 c.tb, .int .i64 c.id,c.ov,c.nv]::R))) _:=h0.sinkD
 have HCK:=Lib.hid (check_calls b q D hq c w0 _ fp0 _ (hc.cons _) h1)
 have HC:=Lib.hid hc
 have HQ:=Lib.hid hq
 have HOK:=Lib.hid hok
 have HLEN:=Lib.hid hlen
 obtain ⟨D2,hD2⟩:∃D2,appD D c=D2:=⟨_,rfl⟩
 obtain ⟨ch,hch⟩:∃ch,chkD D c=ch:=⟨_,rfl⟩
 have HD2:=Lib.hid hD2
 have HCH:=Lib.hid hch
 rw [hch] at HCK ⊢
 rw [hD2]
 have HS0:=Lib.hid h0
 clear hc hS hq hs h0 h1 hok hlen hD2 hch
 obtain ⟨tb,id,oa,oc,na,nc,old,new⟩:=c
 unfold Chg.v Chg.ov Chg.nv at *
 simp only at *
 obtain ⟨on,hon⟩:∃on,old.length=on:=⟨_,rfl⟩
 obtain ⟨nn,hnn⟩:∃nn,new.length=nn:=⟨_,rfl⟩
 have HNN:=Lib.hid hnn
 rw [hon,hnn] at HCK HS0 ⊢
 clear hon hnn
 go_enter Tryz.func19,Tryz.ntmps19
 go_upto_region 1 with (fail)
 generalize hW:w.alloc _=W at *
 clear hW
 obtain ⟨cb,hcb⟩:∃cb,w.heap.size=cb:=⟨_,rfl⟩
 rw [hcb] at HS0 HCK ⊢
 clear hcb
 obtain ⟨c0,c1,c2,c3,cl⟩:=cells4 HS0.out 0 rfl
 go_wp2_with fail
 (with_reducible refine HCK.out.mono ?_)
 rintro e w1 ⟨rfl,h1⟩
 have H1:=Lib.hid h1
 clear HCK HS0 h1 c0 c1 c2 c3 cl
 by_cases hz:ch=0
 · subst hz
   obtain ⟨k,t,e1,hDk,hck,hD⟩:=chkD_ok HCH.out
   simp only at e1 hck hD
   subst e1
   have hk:k < q.ts.length:=by rw [HQ.out.tlen];exact (List.getElem?_eq_some_iff.1 hDk).1
   have ht:t=(q.ts[k].cols,q.ts[k].L,q.ts[k].next):=by
    have:=HQ.out.at k hk
    rw [hDk] at this
    exact Option.some.inj this
   have hkd:k < q.td.length:=by rw [HQ.out.dlen,←HQ.out.tlen];exact hk
   have hcl:q.ts[k].cols≤1000000:=by
    have:=(HQ.out.sm _ (List.getElem_mem hkd)).n
    rw [HQ.out.tdn k hk hkd] at this
    omega
   have hll:q.ts[k].L.length < 1000000:=by
    have:=HLEN.out t (List.mem_of_getElem? hDk)
    rw [ht] at this
    exact this
   subst ht
   simp only at hck hD
   obtain ⟨d0,d1,dl, -,dsl⟩:=db_get H1.out
   obtain ⟨b',o,tc,etv,p0⟩:=dsl.some (j:=k) (u:=ptrV q.ts[k].S) (by rw [List.getElem?_map,List.getElem?_eq_getElem hk];rfl)
   rw [etv,List.length_map] at d1
   have pl:=World.block_lt_of_cell? w1 _ p0
   have HB:RowKit.Hid (St w0 fp0 (blkA cb 35 #[.int .i64 k, .int .i64 id, .slice oa on oc, .slice na nn nc]::(dbP b q++(q.ts.map tbA++R))) w1):=by
    refine H1.out.perm ?_
    classical
    refine List.perm_iff_count.2 fun a=> ?_
    simp only [List.count_append,List.count_cons]
    omega
   obtain ⟨c0,c1,c2,c3,cl⟩:=cells4 HB.out 0 rfl
   have hp:=H1.out.pickT k hk
   have hk':(k:Int) < q.ts.length:=by omega
   have hkz:(0:Int)≤k:=by omega
   obtain ⟨h1,h2,h3, -⟩:=chkT_ok hck
   have HD:RowKit.Hid (∀L next,L=appT q.ts[k].cols id new q.ts[k].L→next=appN q.ts[k].cols id new q.ts[k].next→∀w,St w0 fp0 (storeA q.ts[k].S q.ts[k].cols q.ts[k].I L next::(dbP b q++((q.ts.eraseIdx k).map tbA++(blkA cb 35 #[.int .i64 k, .int .i64 id, .slice oa on oc, .slice na nn nc]::R)))) w→St w0 fp0 (stA b D2::R) w):=by
    intro L next e1 e2 w hs
    have h4:=St.placeT (t:={ q.ts[k] with L:=L,next:=next }) hk hs
    rw [e1,e2] at h4
    rw [←HD2.out,hD]
    have hok2:=HQ.out.put k hk (appT q.ts[k].cols id new q.ts[k].L) (appN q.ts[k].cols id new q.ts[k].next)
    rw [←dbP_put b q k hk] at h4
    have h5:=St.shutD (b:=b) hok2 h4
    exact (h5.perm (List.Perm.swap _ _ _)).drop
   have HPT:RowKit.Hid (nn≠0→putOk q.ts[k].cols id new=true∧new≠[]):=fun h=> by
    have hne:new≠[]:=fun e=> h (by rw [←HNN.out,e];rfl)
    unfold putOk
    rw [decide_eq_true h1,h3 hne]
    exact ⟨rfl,hne⟩
   have HNE:RowKit.Hid (nn=0→new=[]):=fun h=> List.length_eq_zero_iff.1 (by rw [HNN.out];exact h)
   have HSD:RowKit.Hid (∀w2,Below w1.heap.size w1 w2→_):=fun w2 hb=> SDelete_calls q.ts[k].S q.ts[k].cols q.ts[k].I q.ts[k].L q.ts[k].next id HOK.out.id hcl (by omega) w0 w2 fp0 _ (hp.mono hb)
   have HSP:RowKit.Hid (∀w2,Below w1.heap.size w1 w2→_):=fun w2 hb=> SPut_calls q.ts[k].S q.ts[k].cols q.ts[k].I q.ts[k].L q.ts[k].next id new (.slice na nn nc) HOK.out.id HOK.out.new hcl (by omega) w0 w2 fp0 (dbP b q++((q.ts.eraseIdx k).map tbA++(blkA cb 35 #[.int .i64 k, .int .i64 id, .slice oa on oc, .slice na nn nc]::R))) (by
    refine Rd.perm (R:=(dbP b q++((q.ts.eraseIdx k).map tbA++[blkA cb 35 #[.int .i64 k, .int .i64 id, .slice oa on oc, .slice na nn nc]]))++R) ?_ ?_
    · refine Rd.app (HC.out.imp fun w h=> ?_) _
      have:=h.new
      unfold Chg.nv at this
      simp only at this
      rw [HNN.out] at this
      exact this
    · simp only [List.append_assoc,List.cons_append,List.nil_append]
      exact List.Perm.refl _) (hp.mono hb)
   have HK:=Lib.hid hk
   unfold ptrV at *
   clear hp hck hD h1 h2 h3 hDk hkd hcl hll dsl etv d0 H1
   generalize q.ts[k]=T at *
   clear hk
   generalize q.ts.length=m at *
   go_upto_region 4 with (fail)
   go_region_held3 (fun w'=> Below w1.heap.size w1 w'∧∀b o,b < w1.heap.size→w'.cell? ⟨b,o,none⟩=w1.cell? ⟨b,o,none⟩)
    (first | assumption | exact S_of (Below.drew (Below.refl _ _)))
    (fail)
   rename_i hH
   have HB3:=Lib.hid (HB.out.mono hH.1)
   have HSD3:=Lib.hid (HSD.out _ hH.1)
   have HSP3:=Lib.hid (HSP.out _ hH.1)
   clear hH HB HSD HSP c0 c1 c2 c3 cl d1 dl p0 pl
   obtain ⟨c0,c1,c2,c3,cl⟩:=cells4 HB3.out 0 rfl
   go_upto_region 5 with (fail)
   by_cases hn:nn=0
   · subst hn
     have hne:=HNE.out rfl
     go_wp2_with fail
     (with_reducible refine HSD3.out.mono ?_)
     rintro e w2 ⟨dv,rfl,h2⟩
     have HF:=Lib.hid (HD.out _ _ (show _=appT T.cols id new T.L by unfold appT;rw [if_pos hne]) (show T.next=appN T.cols id new T.next by unfold appN;rw [if_pos hne]) _ h2.drop)
     clear HSD3 HSP3 h2 c0 c1 c2 c3 cl hne
     go_wp2
     go_ret
     exact ⟨rfl,HF.out⟩
   · have hn':((nn:Int)==0)=false:=by simp;omega
     obtain ⟨hpo,hne⟩:=HPT.out hn
     rw [hpo] at HSP3
     unfold errV at HSP3
     clear hn
     go_wp2_with fail
     (with_reducible refine HSP3.out.mono ?_)
     rintro e w2 ⟨rfl,h2⟩
     have HF:=Lib.hid (HD.out _ _ (show _=appT T.cols id new T.L by unfold appT;rw [if_neg hne]) (show _=appN T.cols id new T.next by unfold appN;rw [if_neg hne]) _ h2)
     clear HSD3 HSP3 h2 c0 c1 c2 c3 cl hne hpo
     go_wp2
     go_ret
     exact ⟨rfl,HF.out⟩
 · have hz':(ch !=0)=true:=by simp [hz]
   have HF:RowKit.Hid (St w0 fp0 (stA b D2::R) w1):=by
    have h:=St.shutD HQ.out H1.out
    rw [←HD2.out,appD_no (by rw [HCH.out];exact hz)]
    exact (h.perm (List.Perm.swap _ _ _)).drop
   clear hz H1
   go_wp2
   go_ret
   exact ⟨rfl,HF.out⟩
/- store.Bag. -/
attribute [local go_sem] Oper.semAt_some
theorem bagB_snoc (l:List Rw) (r:Rw):bagB (l++[r])=putB (bagB l) r 1:=by
 unfold bagB
 rw [List.foldl_append]
 rfl
theorem lenB_fold (l:List Rw) (b:List Ent):lenB (l.foldl (fun b r=> putB b r 1) b)=lenB b+l.length:=by
 induction l generalizing b with
 | nil=> rfl
 | cons r l ih=>
  rw [List.foldl_cons,ih,len_putB,List.length_cons]
  omega
theorem lenB_bagB (l:List Rw):lenB (bagB l)=l.length:=by
 unfold bagB
 rw [lenB_fold]
 simp [lenB,rowsB]
/-- The rows of a table. -/
def rowsD (D:Db) (i:Int):List Rw:=match rowD D i with | some t=> t.2.1.map (·.2) | none=> []
def bgI (b5 pb:Nat) (L:List Asn) (pre:List Ri):List Asn:=bagA pb (bagB (pre.map (·.r)))::blkA b5 60 #[.pointer (some ⟨pb,0,none⟩)]::L
set_option maxHeartbeats 8000000 in
set_option maxRecDepth 20000 in
theorem bag_in (b k S cols:Nat) (I:List (List Int)) (L:LL) (next:Int) (hc:cols≤1000000) (hlen:L.length < 1000000) (w0 w:World) (fp0:List Nat) (R:List Asn)
 (htb:∀M w,St w0 fp0 (M++(storeA S cols I L next::R)) w→Calls Tryz.prog 21 #[.pointer (some ⟨b,0,none⟩), .int .i64 k] w fun e w'=> e=.returned (ptrV S)∧w=w') (hS:St w0 fp0 (storeA S cols I L next::R) w):
 Calls Tryz.prog 29 #[.pointer (some ⟨b,0,none⟩), .int .i64 k] w fun e w'=> ∃pb,e=.returned (.pointer (some ⟨pb,0,none⟩))∧St w0 fp0 (bagA pb (bagB (L.map (·.2)))::storeA S cols I L next::R) w':=by
 have HN:=Lib.hid (bnew_st w0 w fp0 _ hS)
 have HTB:=Lib.hid htb
 clear hS htb
 refine calls_of_wp_m Tryz.func29 rfl ?_
 simp only [Tryz.ntmps29,List.size_toArray,List.length_cons,List.length_nil,Nat.reduceAdd,Nat.reduceSub,Array.replicate_succ,Array.replicate_zero,List.push_toArray,List.append_toArray,List.nil_append,List.cons_append]
 go_wp2_with fail
 (with_reducible refine HN.out.mono ?_)
 rintro e w1 ⟨pb,rfl,h1⟩
 have HS1:=Lib.hid (h1.newblk 60 #[.pointer (some ⟨pb,0,none⟩)])
 clear HN h1
 go_upto_region 2 with (fail)
 generalize hW:w1.alloc _=W1 at *
 obtain ⟨b5,hb5⟩:∃b5,w1.heap.size=b5:=⟨_,rfl⟩
 rw [hb5] at HS1 ⊢
 clear hW hb5
 have HT:=Lib.hid (HTB.out [_,_] W1 HS1.out)
 clear HTB
 go_wp2_with fail
 (with_reducible refine HT.out.mono ?_)
 rintro e w2 ⟨rfl,rfl⟩
 have HA:=Lib.hid (All_store S w0 _ fp0 _ HS1.out)
 clear HT HS1
 unfold ptrV at *
 go_wp2_with fail
 (with_reducible refine HA.out.mono ?_)
 rintro e w3 ⟨cb,bS,rfl,h3⟩
 clear HA
 have h3':St w0 fp0 (storeA S cols I L next::blkA cb 171 #[.func (.func 103) #[] #[.pointer (some ⟨bS,0,none⟩)]]::blkA bS 46 #[.pointer (some ⟨S,0,none⟩)]::blkA b5 60 #[.pointer (some ⟨pb,0,none⟩)]::bagA pb []::R) w3:=St_re (L:=[_,_,_,_,_]) h3 [4,0,1,2,3] [] (by kernel_rfl)
 obtain ⟨s,hok,h4⟩:=h3'.openS
 have hrl:s.es.length=L.length:=by rw [←hok.rows,reL,List.length_map]
 have HSEQ:=Lib.hid (all_seq (S:=S) hok hc (by omega) bS cb (2 - 1))
 have HOK:=Lib.hid hok
 have HCL:=Lib.hid hc
 have HRL:=Lib.hid hrl
 obtain ⟨its,hits⟩:∃its,somL (fun _=> true) s.es=its:=⟨_,rfl⟩
 have HRI:RowKit.Hid (its.map (·.r)=L.map (·.2)):=by
  show _=_
  rw [←hits,←hok.rows]
  unfold somL reL toRi
  rw [List.map_map,List.map_map,List.filter_eq_self.2 (fun _ _=> rfl)]
  rfl
 have HRD:=Lib.hid (fun (w0 w:World) (fp0:List Nat) (R:List Asn) (h:St w0 fp0 (stoL S s++R) w)=> som_read (p:=fun _=> true) hok h)
 have HTX:RowKit.Hid (∀x∈its,∀v∈x.r,v.text.size≤maxLen):=fun x hx=> ((HRD.out _ _ _ _ h4) x (hits ▸ hx)).2
 have HLN:RowKit.Hid (its.length < 1000000):=by
  have h:=congrArg List.length HRI.out
  rw [List.length_map,List.length_map] at h
  show _ < _
  omega
 have HRW:RowKit.Hid (∀x∈its,x.r.length < 1099511627776):=fun x hx=> somL_len2 hok hc x (hits ▸ hx)
 rw [hits] at HSEQ
 unfold ptrV at HSEQ
 have HS4:RowKit.Hid (St w0 fp0 ((blkA cb 171 #[.func (.func 103) #[] #[.pointer (some ⟨bS,0,none⟩)]]::(blkA bS 46 #[.pointer (some ⟨S,0,none⟩)]::stoL S s))++(blkA b5 60 #[.pointer (some ⟨pb,0,none⟩)]::bagA pb []::R)) w3):=h4.perm (by
  classical
  exact List.perm_iff_count.2 fun a=> by simp only [List.cons_append,List.count_append,List.count_cons] <;> omega)
 have HEND:RowKit.Hid (∀(R:List Asn) w,St w0 fp0 (stoL S s++(bagA pb (bagB (its.map (·.r)))::R)) w→St w0 fp0 (bagA pb (bagB (L.map (·.2)))::storeA S cols I L next::R) w):=fun R w h=> by
  have h1:=St.shutS HOK.out h
  rw [HRI.out] at h1
  exact h1.perm (List.Perm.swap _ _ _)
 have HQR:RowKit.Hid (∀Own W,St w0 fp0 ((blkA cb 171 #[.func (.func 103) #[] #[.pointer (some ⟨bS,0,none⟩)]]::(blkA bS 46 #[.pointer (some ⟨S,0,none⟩)]::stoL S s))++Own) W→∀x∈its,ValsAt W x.r x.v):=fun Own W h x hx=> by
  refine HRD.out w0 W fp0 (blkA cb 171 #[.func (.func 103) #[] #[.pointer (some ⟨bS,0,none⟩)]]::blkA bS 46 #[.pointer (some ⟨S,0,none⟩)]::Own) (h.perm ?_) x (hits ▸ hx)
  classical
  exact List.perm_iff_count.2 fun a=> by simp only [List.cons_append,List.count_append,List.count_cons] <;> omega
 clear h3 h3' h4 hok hrl hits hc hlen HRD HOK HCL HRL HRI
 obtain ⟨L0,hL0⟩:∃L0,(blkA cb 171 #[.func (.func 103) #[] #[.pointer (some ⟨bS,0,none⟩)]]::(blkA bS 46 #[.pointer (some ⟨S,0,none⟩)]::stoL S s))=L0:=⟨_,rfl⟩
 have HL0:RowKit.Hid (∀(M:List Asn) w,St w0 fp0 (L0++M) w→St w0 fp0 (stoL S s++M) w):=fun M w h=> by
  rw [←hL0] at h
  exact St.drop (St.drop h)
 rw [hL0] at HSEQ HS4 HQR
 clear hL0
 unfold allF
 go_wp2_with fail
 refine wp_rangeFunc_g (n:=2) rfl (enters_own Tryz.func133 (by kernel_rfl) rfl) HSEQ.out (bgI b5 pb (L0++R)) (fun _ _=> [pureA False]) _ HS4.out ?h0 ?hqr ?round ?done ?stop
 case h0=>
  intro Own W hW
  refine hW.perm ?_
  unfold bgI
  classical
  exact List.perm_iff_count.2 fun a=> by simp only [List.map_nil,bagB,List.foldl_nil,List.cons_append,List.count_append,List.count_cons] <;> omega
 case hqr=>
  intro pre Own W hW
  refine HQR.out (bagA pb (bagB (pre.map (·.r)))::blkA b5 60 #[.pointer (some ⟨pb,0,none⟩)]::(R++Own)) W (hW.perm ?_)
  unfold bgI
  classical
  exact List.perm_iff_count.2 fun a=> by simp only [List.cons_append,List.count_append,List.count_cons] <;> omega
 case stop=>
  intro D c pre x rest W hxs hW
  exact absurd (St.pure.1 (hW.perm (List.Perm.swap _ _ _))).1 (by simp)
 case round=>
  intro l0 pre x rest args Own W hxs hsz hs
  obtain ⟨xa,xc,rfl,hs'⟩:=itG_out (show St w0 fp0 (itG x args::(bgI b5 pb (L0++R) pre++Own)) W from hs)
  clear hs
  have HS1:=Lib.hid (itG_in hs')
  have HRX:=Lib.hid (HRW.out x (by rw [hxs];simp))
  have HTT:=Lib.hid (HTX.out x (by rw [hxs];simp))
  have Hpl:RowKit.Hid (pre.length+1 < 1099511627776):=by
   have h1:=congrArg List.length hxs
   rw [List.length_append,List.length_cons] at h1
   have:=HLN.out
   show _ < _
   omega
  clear hs' hsz hxs
  gi_wp2
  refine ⟨HS1.out,fun Own2 W2 hs2=> ?_⟩
  clear HS1
  obtain ⟨ya,yc,hargs,h1⟩:=itG_out (show St w0 fp0 (itG x #[.int .i64 x.id, .slice xa x.r.length xc]::(bgI b5 pb (L0++R) pre++Own2)) W2 from hs2)
  have e1:Value.slice xa x.r.length xc=.slice ya x.r.length yc:=by simpa using hargs
  obtain ⟨rfl, -,rfl⟩:=Value.slice.inj e1
  obtain ⟨_,hr⟩:=h1.has 0 rfl
  have hv:ValsAt W2 x.r (.slice xa x.r.length xc):=⟨SlX.of_row (X:=[]) hr (length_flat _) (by simp),HTT.out⟩
  have h2:St w0 fp0 (bagA pb (bagB (pre.map (·.r)))::rowA 68 3 (.slice xa x.r.length xc) x.r.length (flat x.r)::blkA b5 60 #[.pointer (some ⟨pb,0,none⟩)]::((L0++R)++Own2)) W2:=h1.perm (List.Perm.swap _ _ _)
  obtain ⟨_,hb⟩:=h2.has 2 rfl
  have d0:=(blk_get hb).1 0
  have dl:=(blk_get hb).2.2
  simp only [List.getElem?_toArray,List.getElem?_cons_zero] at d0
  have HB:=Lib.hid (badd_st pb _ x.r _ w0 W2 fp0 _ hv HRX.out (by rw [lenB_bagB,List.length_map];exact Hpl.out) h2)
  have HNX:RowKit.Hid (bagB ((pre++[x]).map (·.r))=putB (bagB (pre.map (·.r))) x.r 1):=by
   show _=_
   rw [List.map_append,←bagB_snoc]
   rfl
  obtain ⟨nx,hnx⟩:∃nx,pre++[x]=nx:=⟨_,rfl⟩
  rw [hnx] at HNX ⊢
  clear hs2 hargs e1 hr hv h1 h2 hb hnx
  gi_wp2
  refine ⟨trivial,rfl,(CallsIn.inRound l0 (callsIn_wide.2 HB.out)).mono ?_⟩
  rintro e w5 ⟨rfl,h5⟩
  have H6:RowKit.Hid (St w0 fp0 (bgI b5 pb (L0++R) nx++Own2) w5):=by
   show St _ _ _ _
   unfold bgI
   rw [HNX.out]
   exact (h5.perm (List.Perm.swap _ _ _)).drop
  clear HB h5 d0 dl
  gi_wp2
  exact H6.out
 case done=>
  intro D W hW
  obtain ⟨_,hb⟩:=hW.has 2 rfl
  have d0:=(blk_get hb).1 0
  have dl:=(blk_get hb).2.2
  simp only [List.getElem?_toArray,List.getElem?_cons_zero] at d0
  have H3:RowKit.Hid (St w0 fp0 (defA D::(bagA pb (bagB (L.map (·.2)))::storeA S cols I L next::R)) W):=by
   have h1:St w0 fp0 (L0++(blkA b5 60 #[.pointer (some ⟨pb,0,none⟩)]::bagA pb (bagB (its.map (·.r)))::defA D::R)) W:=hW.perm (by
    unfold bgI
    classical
    exact List.perm_iff_count.2 fun a=> by simp only [List.count_append,List.count_cons] <;> omega)
   have h2:St w0 fp0 (blkA b5 60 #[.pointer (some ⟨pb,0,none⟩)]::(stoL S s++(bagA pb (bagB (its.map (·.r)))::defA D::R))) W:=(HL0.out _ _ h1).perm List.perm_middle
   have h3:=HEND.out (defA D::R) W h2.drop
   exact St_re (L:=[_,_,_]) h3 [2,0,1] [] (by kernel_rfl)
  clear hW hb
  dsimp only
  go_wp2
  exact bodyPostM_mark H3.out rfl fun w' hw'=> ⟨_,results_tmp rfl _ _ _,pb,rfl,hw'⟩
end Go.Proofs.YtpdlkdoogojboaaGreat
/- store.Bag of a store. -/
namespace Go.Proofs.YtpdlkdoogojboaaGreat
open Go Go.RowKit
theorem bag_out (b:Nat) (tb:Int) (w0 w:World) (fp0:List Nat) (R:List Asn)
 (htb:∀M w,St w0 fp0 (M++R) w→Calls Tryz.prog 21 #[.pointer (some ⟨b,0,none⟩), .int .i64 tb] w fun e w'=> e=.returned (.pointer none)∧w=w') (hS:St w0 fp0 R w):
 Calls Tryz.prog 29 #[.pointer (some ⟨b,0,none⟩), .int .i64 tb] w fun e w'=> ∃pb,e=.returned (.pointer (some ⟨pb,0,none⟩))∧St w0 fp0 (bagA pb []::R) w':=by
 have HN:=Lib.hid (bnew_st w0 w fp0 _ hS)
 have HTB:=Lib.hid htb
 clear hS htb
 refine calls_of_wp_m Tryz.func29 rfl ?_
 simp only [Tryz.ntmps29,List.size_toArray,List.length_cons,List.length_nil,Nat.reduceAdd,Nat.reduceSub,Array.replicate_succ,Array.replicate_zero,List.push_toArray,List.append_toArray,List.nil_append,List.cons_append]
 go_wp2_with fail
 (with_reducible refine HN.out.mono ?_)
 rintro e w1 ⟨pb,rfl,h1⟩
 have HS1:=Lib.hid (h1.newblk 60 #[.pointer (some ⟨pb,0,none⟩)])
 clear HN h1
 go_upto_region 2 with (fail)
 generalize hW:w1.alloc _=W1 at *
 obtain ⟨b5,hb5⟩:∃b5,w1.heap.size=b5:=⟨_,rfl⟩
 rw [hb5] at HS1 ⊢
 clear hW hb5
 obtain ⟨_,hb⟩:=HS1.out.has 0 rfl
 have d0:=(blk_get hb).1 0
 have dl:=(blk_get hb).2.2
 simp only [List.getElem?_toArray,List.getElem?_cons_zero] at d0
 have HT:=Lib.hid (HTB.out [_,_] W1 HS1.out)
 clear HTB hb
 go_wp2_with fail
 (with_reducible refine HT.out.mono ?_)
 rintro e w2 ⟨rfl,rfl⟩
 clear HT
 go_wp2
 exact bodyPostM_ret (results_tmp rfl _ _ _) rfl ⟨pb,rfl,HS1.out.drop⟩
theorem Bag_calls (b:Nat) (D:Db) (tb:Int) (hlen:∀t∈D,t.2.1.length < 1000000) (w0 w:World) (fp0:List Nat) (R:List Asn) (hS:St w0 fp0 (stA b D::R) w):
 Calls Tryz.prog 29 #[.pointer (some ⟨b,0,none⟩), .int .i64 tb] w fun e w'=> ∃pb,e=.returned (.pointer (some ⟨pb,0,none⟩))∧St w0 fp0 (bagA pb (bagB (rowsD D tb))::stA b D::R) w':=by
 obtain ⟨q,hq,hs⟩:=hS.openD
 have hsh:∀(A:Asn) (w:World),St w0 fp0 (A::(dbP b q++(q.ts.map tbA++R))) w→St w0 fp0 (A::stA b D::R) w:=fun A w h=> by
  have h1:=St.shutD (b:=b) (R:=A::R) hq h.sinkD
  exact h1.perm (List.Perm.swap _ _ _)
 by_cases ht:0≤tb∧tb < D.length
 · obtain ⟨k,rfl⟩:∃k:Nat,tb=k:=⟨tb.toNat,by omega⟩
   have hkq:k < q.ts.length:=by rw [hq.tlen];omega
   have hkd:k < q.td.length:=by rw [hq.dlen];omega
   have hat:=hq.at k hkq
   have hcl:q.ts[k].cols≤1000000:=by
    have:=(hq.sm _ (List.getElem_mem hkd)).n
    rw [hq.tdn k hkq hkd] at this
    omega
   have hll:q.ts[k].L.length < 1000000:=by
    have:=hlen _ (List.mem_of_getElem? hat)
    exact this
   have hr:rowsD D k=q.ts[k].L.map (·.2):=by
    unfold rowsD
    rw [rowD_in hat]
   rw [hr]
   refine (bag_in b k q.ts[k].S q.ts[k].cols q.ts[k].I q.ts[k].L q.ts[k].next hcl hll w0 w fp0 _ (fun M w h=> ?_) (hs.pickT k hkq)).mono ?_
   · have h1:St w0 fp0 (dbP b q++(M++(tbA q.ts[k]::((q.ts.eraseIdx k).map tbA++R)))) w:=h.perm (by
      show (M++(tbA q.ts[k]::(dbP b q++((q.ts.eraseIdx k).map tbA++R)))).Perm _
      classical
      exact List.perm_iff_count.2 fun a=> by simp only [List.count_append,List.count_cons] <;> omega)
     have hdb:=db_get h1
     exact table_in b k _ q.tv (ptrV q.ts[k].S) w hdb.2.1 hdb.2.2.2.2 (by rw [List.getElem?_map,List.getElem?_eq_getElem hkq];rfl)
   · rintro e w' ⟨pb,rfl,h⟩
     refine ⟨pb,rfl,hsh _ _ ?_⟩
     have h1:St w0 fp0 (tbA q.ts[k]::(dbP b q++((q.ts.eraseIdx k).map tbA++(bagA pb (bagB (q.ts[k].L.map (·.2)))::R)))) w':=h.perm (by
      show (bagA pb (bagB (q.ts[k].L.map (·.2)))::tbA q.ts[k]::(dbP b q++((q.ts.eraseIdx k).map tbA++R))).Perm _
      classical
      exact List.perm_iff_count.2 fun a=> by simp only [List.count_append,List.count_cons] <;> omega)
     have h2:=St.unpickT hkq h1
     refine h2.perm ?_
     classical
     exact List.perm_iff_count.2 fun a=> by simp only [List.count_append,List.count_cons] <;> omega
 · have hr:rowsD D tb=[]:=by
    unfold rowsD
    rw [rowD_out ht]
   rw [hr]
   refine (bag_out b tb w0 w fp0 _ (fun M w h=> ?_) hs).mono ?_
   · have h1:St w0 fp0 (dbP b q++(M++(q.ts.map tbA++R))) w:=h.perm (by
      classical
      exact List.perm_iff_count.2 fun a=> by simp only [List.count_append] <;> omega)
     have hdb:=db_get h1
     exact table_out b _ q.tc q.ta tb w hdb.2.1 (by rw [hq.tlen];exact ht)
   · rintro e w' ⟨pb,rfl,h⟩
     exact ⟨pb,rfl,hsh _ _ h⟩
/- Layer 08's reference: Put. -/
/- The reference's Rows. -/
theorem len_ofL (l:List Rw):(ofL l).length=l.length:=by
 have:∀b,(l.foldl insW b).length=b.length+l.length:=by
  induction l with
  | nil=> intro b;rfl
  | cons r l ih=>
   intro b
   rw [List.foldl_cons,ih,length_insW,List.length_cons]
   omega
 have h:=this []
 simpa [ofL] using h
/- Layer 08's reference: Same, of lists. -/
/- The reference's Apply: its drawn regions that store. -/
set_option maxRecDepth 100000
/-- A struct of three cells in a row. -/
def put3 (xs:List Value) (k:Nat) (a b c:Value):List Value:=((xs.set (k * 3) a).set (k * 3+1) b).set (k * 3+2) c
theorem storeRow3 {P:Program} {w:World} {ty t:TypeId} {g n c k:Nat} {xs:List Value} {v0 v1 v2:Value} {f:List Nat} (hb:(rowA t 3 (.slice (some ⟨g,0,none⟩) n c) n xs).p w f) (hl:xs.length=n * 3) (hk:k < n) (hz:(sizeOf ty).run P w=.ok 3 w) (h0:v0.oneCell'=true) (h1:v1.oneCell'=true) (h2:v2.oneCell'=true):
 ∃w' f',(Instr.storeAt ty (.pointer (some ⟨g,0+k * 3,none⟩)) (.agg #[v0,v1,v2])).run P w=.ok () w'∧(rowA t 3 (.slice (some ⟨g,0,none⟩) n c) n (put3 xs k v0 v1 v2)).p w' f'∧Tr w w' f f':=by
 have st:∀(w:World) (f:List Nat) (ys:List Value) (i:Nat) (v:Value),(rowA t 3 (.slice (some ⟨g,0,none⟩) n c) n ys).p w f→ys.length=n * 3→i < n * 3→(∃o,w.cell? ⟨g,i,none⟩=some o)∧w.frozen? ⟨g,i,none⟩=false∧(rowA t 3 (.slice (some ⟨g,0,none⟩) n c) n (ys.set i v)).p (w.setCell ⟨g,i,none⟩ v) [g]∧Tr w (w.setCell ⟨g,i,none⟩ v) f [g]:=by
  intro w f ys i v hb hl hi
  obtain ⟨a1,a2, -⟩:=row_at hb hl (List.getElem?_eq_getElem (by omega:i < ys.length))
  obtain ⟨h2,h3⟩:=hb
  obtain ⟨h4,h5⟩:=h2.stored i v
  refine ⟨⟨_,a1⟩,a2,⟨h4,rfl⟩,?_⟩
  rw [h3]
  exact Tr.of_grown (o:=some g) (o':=some g) h5 (fun k hk=> .inl hk)
 obtain ⟨⟨o0,c0⟩,f0,p1,t1⟩:=st w f xs (k * 3) v0 hb hl (by omega)
 obtain ⟨⟨o1,c1⟩,f1,p2,t2⟩:=st _ _ _ (k * 3+1) v1 p1 (by rw [List.length_set,hl]) (by omega)
 obtain ⟨⟨o2,c2⟩,f2,p3,t3⟩:=st _ _ _ (k * 3+2) v2 p2 (by rw [List.length_set,List.length_set,hl]) (by omega)
 have a0:(⟨g,k * 3,none⟩:Addr).add 0=⟨g,k * 3,none⟩:=by simp [Addr.add]
 have a1:(⟨g,k * 3,none⟩:Addr).add 1=⟨g,k * 3+1,none⟩:=by simp [Addr.add]
 have a2:(⟨g,k * 3,none⟩:Addr).add 2=⟨g,k * 3+2,none⟩:=by simp [Addr.add]
 have e:(Value.agg #[v0,v1,v2]).cells=#[v0,v1,v2]:=rfl
 refine ⟨_,_,?_,p3,(t1.trans t2).trans t3⟩
 rw [show 0+k * 3=k * 3 by omega]
 simp [Instr.storeAt,Instr.sureAddr,storeVar,hz,e,storeCells,a0,a1,a2,run_store P _ _ v0 .plain h0,run_store P _ _ v1 .plain h1,run_store P _ _ v2 .plain h2,c0,f0,c1,f1,c2,f2]
/-- The row of a version; a result that is not stored yet; one that is. -/
def outR (og n oc:Nat) (xs:List Value):Asn:=rowA 44 3 (.slice (some ⟨og,0,none⟩) n oc) n xs
def got1 (og n oc:Nat) (xs:List Value) (V:Value→Value) (v:Value) (l:List Ri):Asn:=exA fun lv=> starA [pureA (v=V lv),outR og n oc xs,riA lv l]
def got2 (og n oc k cols:Nat) (next:Int) (xs:List Value) (V:Value→Value) (v:Value) (l:List Ri):Asn:=exA fun lv=> starA [pureA (v=V lv),outR og n oc (put3 xs k (.int .i64 cols) lv (.int .i64 next)),riA lv l]
theorem got_in {w0 w:World} {fp0:List Nat} {R:List Asn} {A:Asn} {og n oc:Nat} {xs:List Value} {V:Value→Value} {lv:Value} {l:List Ri} (h:St w0 fp0 (riA lv l::A::outR og n oc xs::R) w):St w0 fp0 ([A,got1 og n oc xs V (V lv) l]++R) w:=by
 have h1:St w0 fp0 ([pureA (V lv=V lv),outR og n oc xs,riA lv l]++(A::R)) w:=St.pure.2 ⟨rfl,(St_re (L:=[_,_,_]) h [2,0,1] [] (by kernel_rfl))⟩
 exact (h1.fold (B:=got1 og n oc xs V (V lv) l) fun f hf=> ⟨lv,hf⟩).perm (List.Perm.swap _ _ _)
theorem got_store {w:World} {fp:List Nat} {og n oc k cols:Nat} {next:Int} {xs:List Value} {V:Value→Value} {v:Value} {l:List Ri} (hp:(got1 og n oc xs V v l).p w fp) (hl:xs.length=n * 3) (hk:k < n) (ty:TypeId) (hz:(sizeOf ty).run Tryz.prog w=.ok 3 w):
 ∃lv w' f',v=V lv∧(Instr.storeAt ty (.pointer (some ⟨og,0+k * 3,none⟩)) (.agg #[.int .i64 cols,lv, .int .i64 next])).run Tryz.prog w=.ok () w'∧(got2 og n oc k cols next xs V v l).p w' f'∧Tr w w' fp f':=by
 obtain ⟨lv,h⟩:=hp
 obtain ⟨f0,⟨hv, -⟩, -⟩:=Star.get 0 rfl (show Star w [pureA (v=V lv),outR og n oc xs,riA lv l] fp from h)
 obtain ⟨f2,hr, -⟩:=Star.get 2 rfl (show Star w [pureA (v=V lv),outR og n oc xs,riA lv l] fp from h)
 obtain ⟨a,c,e⟩:=(riA_sl hr).shape
 obtain ⟨f1,ho, -,hkk⟩:=Star.get 1 rfl (show Star w [pureA (v=V lv),outR og n oc xs,riA lv l] fp from h)
 obtain ⟨w',f',h1,h2,h3⟩:=storeRow3 (P:=Tryz.prog) (ty:=ty) (v0:=.int .i64 cols) (v1:=lv) (v2:=.int .i64 next) ho hl hk hz rfl (by rw [e];rfl) rfl
 obtain ⟨fp2,q1,q2⟩:=hkk _ w' f' h2 h3
 exact ⟨lv,w',fp2,hv,h1,⟨lv,q1⟩,q2⟩
noncomputable def gRq10 (cb og n oc mb mo mc k cols:Nat) (lv:Value) (next nx id:Int) (ov nv:Value) (XS:List Value) (l2:List Ri):=rgx Tryz.prog Tryz.f16 10 132 [102,103,104,105,106,107,108,109,110,111,112,113] [(8, .slice (some ⟨og,0,none⟩) n oc),(3,pV cb 0),(0, .slice (some ⟨mb,mo,none⟩) n mc)] (Vq 0 102 [Kv (.slice (some ⟨og,0,none⟩) n oc),Kp cb 0,Kv (.int .i64 k),Kv (.slice (some ⟨mb,mo,none⟩) n mc),Kp cb 0,Kv (.int .i64 k),Kp mb (mo+k * 3),Kv (.agg #[.int .i64 cols,lv, .int .i64 next]),Kp cb 1,Kv (.int .i64 id)]++Vq 11 113 [Kp og (0+k * 3)]) [Bk cb (35) [.int .i64 k, .int .i64 id,ov,nv], .gen [10,12] [112] fun L g=> match L 12 with | true=> got2 og n oc k cols nx XS (fun lv2=> .agg #[.int .i64 cols,lv2, .int .i64 nx]) (g 112) l2 | false=> match L 10 with | true=> got1 og n oc XS (fun lv2=> .agg #[.int .i64 cols,lv2, .int .i64 nx]) (g 112) l2 | false=> outR og n oc XS]
theorem rRq10 (cb og n oc mb mo mc k cols:Nat) (lv:Value) (next nx id:Int) (ov nv:Value) (XS:List Value) (l2:List Ri) (w0:World) (fp0:List Nat) (R:List Asn) (hk:k < n) (hl:XS.length=n * 3) (hms:∀L w,St w0 fp0 (L++R) w→∀j u,[Value.int .i64 cols,lv, .int .i64 next][j]? =some u→w.cell? ⟨mb,mo+k * 3+j,none⟩=some u) (hcl:∀w,St w0 fp0 ([blkA cb 35 #[.int .i64 k, .int .i64 id,ov,nv],outR og n oc XS]++R) w→Calls Tryz.prog 48 #[.agg #[.int .i64 cols,lv, .int .i64 next], .int .i64 id] w fun e w2=> ∃lv2,e=.returned (.agg #[.int .i64 cols,lv2, .int .i64 nx])∧St w0 fp0 (riA lv2 l2::blkA cb 35 #[.int .i64 k, .int .i64 id,ov,nv]::outR og n oc XS::R) w2) {w:World} {c:Code} {a:Act} {Q:Exit→Act→World→Prop} (c1:isReg c=true) (c2:cops c=opsR Tryz.f16 10) (c3:a.tmps.size=132) (_c4:a.defers=a.defers) (i8:a.eval (.tmp 8)=.slice (some ⟨og,0,none⟩) n oc) (i3:a.eval (.tmp 3)=.pointer (some ⟨cb,0,none⟩)) (i0:a.eval (.tmp 0)=.slice (some ⟨mb,mo,none⟩) n mc)
 (hS:St w0 fp0 ([blkA cb (35) #[.int .i64 k, .int .i64 id,ov,nv],outR og n oc XS]++R) w)
 (hQ:∀(u112:Value) (w1:World),St w0 fp0 ([blkA cb (35) #[.int .i64 k, .int .i64 id,ov,nv],got2 og n oc k cols nx XS (fun lv2=> .agg #[.int .i64 cols,lv2, .int .i64 nx]) (u112) l2]++R) w1→Q .normal (putL a [(102, .slice (some ⟨og,0,none⟩) n oc),(103, .pointer (some ⟨cb,0,none⟩)),(104, .int .i64 k),(105, .slice (some ⟨mb,mo,none⟩) n mc),(106, .pointer (some ⟨cb,0,none⟩)),(107, .int .i64 k),(108, .pointer (some ⟨mb,mo+k * 3,none⟩)),(109, .agg #[.int .i64 cols,lv, .int .i64 next]),(110, .pointer (some ⟨cb,1,none⟩)),(111, .int .i64 id),(112,u112),(113, .pointer (some ⟨og,0+k * 3,none⟩))]) w1):c.wp Tryz.prog Q a w:=by
 have ok:(gRq10 cb og n oc mb mo mc k cols lv next nx id ov nv XS l2 w0 fp0 R).Ok 13:=Rg.ok _ 13 [2,5,6,7,9,10,11,12] ⟨.load _ 2 0 0, .load _ 5 0 0, .indexO _ 6 mb mo n mc k 3 hk, .loadR _ 7 [.int .i64 cols,lv, .int .i64 next] hms, .load _ 9 0 1, .callG _ 10 (f:=48) (args:=fun _=> #[.agg #[.int .i64 cols,lv, .int .i64 next], .int .i64 id]) (fun _=> [blkA cb 35 #[.int .i64 k, .int .i64 id,ov,nv],outR og n oc XS]) (fun _ v=> [blkA cb 35 #[.int .i64 k, .int .i64 id,ov,nv],got1 og n oc XS (fun lv2=> .agg #[.int .i64 cols,lv2, .int .i64 nx]) (v) l2]) (fun g w h=> (hcl w h).mono fun e w2 ⟨lv2,e1,h2⟩=> ⟨_,e1,rfl,got_in h2⟩), .indexO _ 11 og 0 n oc k 3 hk, .skip1 _ 12 1 (fun g=> got1 og n oc XS (fun lv2=> .agg #[.int .i64 cols,lv2, .int .i64 nx]) (g 112) l2) (fun g=> got2 og n oc k cols nx XS (fun lv2=> .agg #[.int .i64 cols,lv2, .int .i64 nx]) (g 112) l2) (fun L a w fp hS hp=> (by obtain ⟨lv2,w2,f2,e0,h1,h2,h3⟩:=got_store (k:=k) (cols:=cols) (next:=nx) hp hl hk 44 (kr (by kernel_rfl));exact ⟨w2,f2,exec_store rfl (kr (by kernel_rfl)) (Eq.trans (b:=slots a 112) (kr (by kernel_rfl)) e0) h1,h2,h3⟩)),trivial⟩
 refine wp_regD ok (by kernel_rfl) ⟨c1,c2⟩ ⟨c3,fun p hp=> ?_⟩ hS fun A1 w1 N1 H1=> ?_
 · simp only [gRq10,rgx,List.map_nil,List.append_nil,List.mem_cons,List.not_mem_nil,or_false] at hp
   rcases hp with rfl | rfl | rfl
   · exact i8
   · exact i3
   · exact i0
 have e102:=N1.val 0 rfl
 have e103:=N1.val 1 rfl
 have e104:=N1.val 2 rfl
 have e105:=N1.val 3 rfl
 have e106:=N1.val 4 rfl
 have e107:=N1.val 5 rfl
 have e108:=N1.val 6 rfl
 have e109:=N1.val 7 rfl
 have e110:=N1.val 8 rfl
 have e111:=N1.val 9 rfl
 have e113:=N1.val 10 rfl
 have h:=hQ (slots A1 112) w1  H1
 rw [frame_eq N1.frame (cons_eq e102 (cons_eq e103 (cons_eq e104 (cons_eq e105 (cons_eq e106 (cons_eq e107 (cons_eq e108 (cons_eq e109 (cons_eq e110 (cons_eq e111 (cons_eq rfl (cons_eq e113 rfl))))))))))))]
 exact h
noncomputable def gRq11 (cb og n oc mb mo mc k cols:Nat) (lv:Value) (next nx id:Int) (ov nv:Value) (XS:List Value) (l2:List Ri):=rgx Tryz.prog Tryz.f16 11 132 [115,116,117,118,119,120,121,122,123,124,125,126,127,114,128,129,130] [(8, .slice (some ⟨og,0,none⟩) n oc),(3,pV cb 0),(0, .slice (some ⟨mb,mo,none⟩) n mc)] (Vq 0 115 [Kv (.slice (some ⟨og,0,none⟩) n oc),Kp cb 0,Kv (.int .i64 k),Kv (.slice (some ⟨mb,mo,none⟩) n mc),Kp cb 0,Kv (.int .i64 k),Kp mb (mo+k * 3),Kv (.agg #[.int .i64 cols,lv, .int .i64 next]),Kp cb 1,Kv (.int .i64 id),Kp cb 3,Kv nv,Fv [127] fun g=> .tuple #[tu (g 127) 0, .int .i64 0]]++Vq 13 114 [Fv [127] fun g=> .tuple #[tu (g 127) 0, .int .i64 0]]++Vq 14 128 [Fv [127] fun g=> tu (g 127) 0,Kv (.int .i64 0),Kp og (0+k * 3)]) [Bk cb (35) [.int .i64 k, .int .i64 id,ov,nv], .gen [12,17] [127] fun L g=> match L 17 with | true=> got2 og n oc k cols nx XS (fun lv2=> .tuple #[.agg #[.int .i64 cols,lv2, .int .i64 nx], .int .i64 0]) (g 127) l2 | false=> match L 12 with | true=> got1 og n oc XS (fun lv2=> .tuple #[.agg #[.int .i64 cols,lv2, .int .i64 nx], .int .i64 0]) (g 127) l2 | false=> outR og n oc XS]
theorem rRq11 (cb og n oc mb mo mc k cols:Nat) (lv:Value) (next nx id:Int) (ov nv:Value) (XS:List Value) (l2:List Ri) (w0:World) (fp0:List Nat) (R:List Asn) (hk:k < n) (hl:XS.length=n * 3) (hms:∀L w,St w0 fp0 (L++R) w→∀j u,[Value.int .i64 cols,lv, .int .i64 next][j]? =some u→w.cell? ⟨mb,mo+k * 3+j,none⟩=some u) (hcl:∀w,St w0 fp0 ([blkA cb 35 #[.int .i64 k, .int .i64 id,ov,nv],outR og n oc XS]++R) w→Calls Tryz.prog 49 #[.agg #[.int .i64 cols,lv, .int .i64 next], .int .i64 id,nv] w fun e w2=> ∃lv2,e=.returned (.tuple #[.agg #[.int .i64 cols,lv2, .int .i64 nx], .int .i64 0])∧St w0 fp0 (riA lv2 l2::blkA cb 35 #[.int .i64 k, .int .i64 id,ov,nv]::outR og n oc XS::R) w2) {w:World} {c:Code} {a:Act} {Q:Exit→Act→World→Prop} (c1:isReg c=true) (c2:cops c=opsR Tryz.f16 11) (c3:a.tmps.size=132) (_c4:a.defers=a.defers) (i8:a.eval (.tmp 8)=.slice (some ⟨og,0,none⟩) n oc) (i3:a.eval (.tmp 3)=.pointer (some ⟨cb,0,none⟩)) (i0:a.eval (.tmp 0)=.slice (some ⟨mb,mo,none⟩) n mc)
 (hS:St w0 fp0 ([blkA cb (35) #[.int .i64 k, .int .i64 id,ov,nv],outR og n oc XS]++R) w)
 (hQ:∀(u114 u127 u128:Value) (w1:World),u127=.tuple #[tu (u127) 0, .int .i64 0]→u114=.tuple #[tu (u127) 0, .int .i64 0]→u128=tu (u127) 0→St w0 fp0 ([blkA cb (35) #[.int .i64 k, .int .i64 id,ov,nv],got2 og n oc k cols nx XS (fun lv2=> .tuple #[.agg #[.int .i64 cols,lv2, .int .i64 nx], .int .i64 0]) (u127) l2]++R) w1→Q .normal (putL a [(115, .slice (some ⟨og,0,none⟩) n oc),(116, .pointer (some ⟨cb,0,none⟩)),(117, .int .i64 k),(118, .slice (some ⟨mb,mo,none⟩) n mc),(119, .pointer (some ⟨cb,0,none⟩)),(120, .int .i64 k),(121, .pointer (some ⟨mb,mo+k * 3,none⟩)),(122, .agg #[.int .i64 cols,lv, .int .i64 next]),(123, .pointer (some ⟨cb,1,none⟩)),(124, .int .i64 id),(125, .pointer (some ⟨cb,3,none⟩)),(126,nv),(127,u127),(114,u114),(128,u128),(129, .int .i64 0),(130, .pointer (some ⟨og,0+k * 3,none⟩))]) w1):c.wp Tryz.prog Q a w:=by
 have ok:(gRq11 cb og n oc mb mo mc k cols lv next nx id ov nv XS l2 w0 fp0 R).Ok 18:=Rg.ok _ 18 [2,5,6,7,9,11,12,16,17] ⟨.load _ 2 0 0, .load _ 5 0 0, .indexO _ 6 mb mo n mc k 3 hk, .loadR _ 7 [.int .i64 cols,lv, .int .i64 next] hms, .load _ 9 0 1, .load _ 11 0 3, .callG _ 12 (f:=49) (args:=fun _=> #[.agg #[.int .i64 cols,lv, .int .i64 next], .int .i64 id,nv]) (fun _=> [blkA cb 35 #[.int .i64 k, .int .i64 id,ov,nv],outR og n oc XS]) (fun _ v=> [blkA cb 35 #[.int .i64 k, .int .i64 id,ov,nv],got1 og n oc XS (fun lv2=> .tuple #[.agg #[.int .i64 cols,lv2, .int .i64 nx], .int .i64 0]) (v) l2]) (fun g w h=> (hcl w h).mono fun e w2 ⟨lv2,e1,h2⟩=> ⟨_,e1,kr (by kernel_rfl),got_in (V:=fun lv2=> .tuple #[.agg #[.int .i64 cols,lv2, .int .i64 nx], .int .i64 0]) h2⟩), .indexO _ 16 og 0 n oc k 3 hk, .skip1 _ 17 1 (fun g=> got1 og n oc XS (fun lv2=> .tuple #[.agg #[.int .i64 cols,lv2, .int .i64 nx], .int .i64 0]) (g 127) l2) (fun g=> got2 og n oc k cols nx XS (fun lv2=> .tuple #[.agg #[.int .i64 cols,lv2, .int .i64 nx], .int .i64 0]) (g 127) l2) (fun L a w fp hS hp=> (by obtain ⟨lv2,w2,f2,e0,h1,h2,h3⟩:=got_store (k:=k) (cols:=cols) (next:=nx) hp hl hk 44 (kr (by kernel_rfl));exact ⟨w2,f2,exec_store rfl (kr (by kernel_rfl)) (Eq.trans (b:=tu (slots a 127) 0) (kr (by kernel_rfl)) (by rw [e0];rfl)) h1,h2,h3⟩)),trivial⟩
 refine wp_regD ok (by kernel_rfl) ⟨c1,c2⟩ ⟨c3,fun p hp=> ?_⟩ hS fun A1 w1 N1 H1=> ?_
 · simp only [gRq11,rgx,List.map_nil,List.append_nil,List.mem_cons,List.not_mem_nil,or_false] at hp
   rcases hp with rfl | rfl | rfl
   · exact i8
   · exact i3
   · exact i0
 have e115:=N1.val 0 rfl
 have e116:=N1.val 1 rfl
 have e117:=N1.val 2 rfl
 have e118:=N1.val 3 rfl
 have e119:=N1.val 4 rfl
 have e120:=N1.val 5 rfl
 have e121:=N1.val 6 rfl
 have e122:=N1.val 7 rfl
 have e123:=N1.val 8 rfl
 have e124:=N1.val 9 rfl
 have e125:=N1.val 10 rfl
 have e126:=N1.val 11 rfl
 have e127:=N1.val 12 rfl
 have e114:=N1.val 13 rfl
 have e128:=N1.val 14 rfl
 have e129:=N1.val 15 rfl
 have e130:=N1.val 16 rfl
 have h:=hQ (slots A1 114) (slots A1 127) (slots A1 128) w1 e127 e114 e128 H1
 rw [frame_eq N1.frame (cons_eq e115 (cons_eq e116 (cons_eq e117 (cons_eq e118 (cons_eq e119 (cons_eq e120 (cons_eq e121 (cons_eq e122 (cons_eq e123 (cons_eq e124 (cons_eq e125 (cons_eq e126 (cons_eq rfl (cons_eq rfl (cons_eq rfl (cons_eq e129 (cons_eq e130 rfl)))))))))))))))))]
 exact h
noncomputable def gRq3 (cb n mb mo mc k cols:Nat) (lv:Value) (next id:Int) (ov nv gv:Value) (gq:Bool):=rgx Tryz.prog Tryz.f16 3 132 [61,62,63,64,65,66,67,68,60,69,70,6,7] [(3,pV cb 0),(0, .slice (some ⟨mb,mo,none⟩) n mc)] (Vq 0 61 [Kv (.slice (some ⟨mb,mo,none⟩) n mc),Kp cb 0,Kv (.int .i64 k),Kp mb (mo+k * 3),Kv (.agg #[.int .i64 cols,lv, .int .i64 next]),Kp cb 1,Kv (.int .i64 id),Kv (.tuple #[gv, .bool gq])]++Vq 8 60 [Kv (.tuple #[gv, .bool gq])]++Vq 9 69 [Kv gv,Kv (.bool gq)]++Vq 11 6 [Kv gv,Kv (.bool gq)]) [Bk cb (35) [.int .i64 k, .int .i64 id,ov,nv]]
theorem rRq3 (cb n mb mo mc k cols:Nat) (lv:Value) (next id:Int) (ov nv gv:Value) (gq:Bool) (w0:World) (fp0:List Nat) (R:List Asn) (hk:k < n) (hms:∀L w,St w0 fp0 (L++R) w→∀j u,[Value.int .i64 cols,lv, .int .i64 next][j]? =some u→w.cell? ⟨mb,mo+k * 3+j,none⟩=some u) (hget:∀L w,St w0 fp0 (L++R) w→Calls Tryz.prog 46 #[.agg #[.int .i64 cols,lv, .int .i64 next], .int .i64 id] w fun e w'=> e=.returned (.tuple #[gv, .bool gq])∧Below w.heap.size w w') {w:World} {c:Code} {a:Act} {Q:Exit→Act→World→Prop} (c1:isReg c=true) (c2:cops c=opsR Tryz.f16 3) (c3:a.tmps.size=132) (_c4:a.defers=a.defers) (i3:a.eval (.tmp 3)=.pointer (some ⟨cb,0,none⟩)) (i0:a.eval (.tmp 0)=.slice (some ⟨mb,mo,none⟩) n mc)
 (hS:St w0 fp0 ([blkA cb (35) #[.int .i64 k, .int .i64 id,ov,nv]]++R) w)
 (hQ:∀(w1:World),St w0 fp0 ([blkA cb (35) #[.int .i64 k, .int .i64 id,ov,nv]]++R) w1→Q .normal (putL a [(61, .slice (some ⟨mb,mo,none⟩) n mc),(62, .pointer (some ⟨cb,0,none⟩)),(63, .int .i64 k),(64, .pointer (some ⟨mb,mo+k * 3,none⟩)),(65, .agg #[.int .i64 cols,lv, .int .i64 next]),(66, .pointer (some ⟨cb,1,none⟩)),(67, .int .i64 id),(68, .tuple #[gv, .bool gq]),(60, .tuple #[gv, .bool gq]),(69,gv),(70, .bool gq),(6,gv),(7, .bool gq)]) w1):c.wp Tryz.prog Q a w:=by
 have ok:(gRq3 cb n mb mo mc k cols lv next id ov nv gv gq w0 fp0 R).Ok 13:=Rg.ok _ 13 [2,3,4,6,7] ⟨.load _ 2 0 0, .indexO _ 3 mb mo n mc k 3 hk, .loadR _ 4 [.int .i64 cols,lv, .int .i64 next] hms, .load _ 6 0 1, .askR _ 7 hget,trivial⟩
 refine wp_regD ok (by kernel_rfl) ⟨c1,c2⟩ ⟨c3,fun p hp=> ?_⟩ hS fun A1 w1 N1 H1=> ?_
 · simp only [gRq3,rgx,List.map_nil,List.append_nil,List.mem_cons,List.not_mem_nil,or_false] at hp
   rcases hp with rfl | rfl
   · exact i3
   · exact i0
 have e61:=N1.val 0 rfl
 have e62:=N1.val 1 rfl
 have e63:=N1.val 2 rfl
 have e64:=N1.val 3 rfl
 have e65:=N1.val 4 rfl
 have e66:=N1.val 5 rfl
 have e67:=N1.val 6 rfl
 have e68:=N1.val 7 rfl
 have e60:=N1.val 8 rfl
 have e69:=N1.val 9 rfl
 have e70:=N1.val 10 rfl
 have e6:=N1.val 11 rfl
 have e7:=N1.val 12 rfl
 have h:=hQ  w1  H1
 rw [frame_eq N1.frame (cons_eq e61 (cons_eq e62 (cons_eq e63 (cons_eq e64 (cons_eq e65 (cons_eq e66 (cons_eq e67 (cons_eq e68 (cons_eq e60 (cons_eq e69 (cons_eq e70 (cons_eq e6 (cons_eq e7 rfl)))))))))))))]
 exact h
end Go.Proofs.YtpdlkdoogojboaaGreat
