/- Part 5 of the proof: Mx, My, Rq, Pp, Pq, Dq, Ln, Gt, Gq, Sm, Ka, Tr -/
import Derived.Test.YtnefkkidfhmggaaGreatV04
import Derived.LoopN
import Derived.Test.YtnefkkidfhmggaaGreatV02
import Derived.Test.YtnefkkidfhmggaaGreatV03
import Derived.Deep.RegionWith
import Derived.Test.YtnefkkidfhmggaaGreatV01
set_option maxHeartbeats 16000000
set_option maxRecDepth 100000
namespace Go.Proofs.YtnefkkidfhmggaaGreat
open Go Go.RowKit
noncomputable section
def ky0:Bool->Ky
 | false=> .int 0
 | true=> .str ⟨#[]⟩
def isExit0:Code->Bool
 | .exit i=> i==0
 | _=> false
theorem wp_exitT {P:Program} {Q:Exit->Act->World->Prop} {a:Act} {w:World} {c:Code} (hc:isExit0 c=true) (h:Q (.exit 0) a w):c.wp P Q a w:=by
 cases c with
 | exit j => obtain rfl:j=0:=by simpa [isExit0] using hc
             exact wp_exit h
 | _=> cases hc
theorem sqMx0 (β:Bool):Sq (BMax β) [1,0,4,4]:=by cases β <;> exact isQ (by kernel_rfl)
def gMx1 (β:Bool) (b n2 c2:Nat) (ks vs:Value) (a2:Option Addr):=rg Tryz.prog (BMax β) 1 43 [(4,3)] [(0,pV b 0)] (Vq 0 4 [Kp b 0,Kv (.bool (n2==0)),Kv (.bool (!(n2==0)))]) [Bk b (tN β) [ks,vs, .slice a2 n2 c2]]
theorem obMx1 (β:Bool) (b n2 c2:Nat) (ks vs:Value) (a2:Option Addr)  (w0:World) (fp0:List Nat) (R:List Asn):(gMx1 β b n2 c2 ks vs a2 w0 fp0 R).Ok 3:=by
 cases β <;> exact Rg.ok _ 3 [1] ⟨.ask1 _ 1 0 (λ w fp h=> (leaf_calls b _ _ a2 n2 c2 w h).mono λ e w' ⟨h1,h2⟩=> ⟨h1,h2 ▸ Below.refl _ _⟩),trivial⟩
theorem cdMx1 (β:Bool):IsSq (BMax β) [1,0,4,4,0] 1:=by cases β <;> exact isq (by kernel_rfl)
theorem ccMx6 (β:Bool):isCond (csnd (cfst (cbody (cbody (cfst (csnd (bodyC (BMax β))))))))=true/\ccond (csnd (cfst (cbody (cbody (cfst (csnd (bodyC (BMax β))))))))=.tmp 6:=by cases β <;> exact ⟨kr (by kernel_rfl),kr (by kernel_rfl)⟩
theorem isSkipMx1 (β:Bool):isSkip (cthen (csnd (cfst (cbody (cbody (cfst (csnd (bodyC (BMax β)))))))))=true:=by cases β <;> exact kr (by kernel_rfl)
theorem isBlkMx2 (β:Bool):isBlk (csnd (cbody (cbody (cfst (csnd (bodyC (BMax β)))))))=true:=by cases β <;> exact kr (by kernel_rfl)
def gMx2 (β:Bool) (b gp last c2 cb:Nat) (ks vs:Value) (zs:List Value):=rgq Tryz.prog (BMax β) 2 43 [(7,12),(0,1)] [] [(0,pV b 0,12)] (Vq 0 7 [Kp b 0,Kp b 0,Kp b 2,Ks gp (last+1) c2,Kp b 0,Kp b 0,Kp b 2,Ks gp (last+1) c2,Kn (last+1),Kn last,Kp gp last,Kp cb 0]++Vq 12 0 [Kp cb 0]) [Bk b (tN β) [ks,vs,sV gp (last+1) c2], .sl (tP β) (sV gp (last+1) c2) zs []]
theorem obMx2 (β:Bool) (b gp last c2 cb:Nat) (ks vs:Value) (zs:List Value) (hl:last+1 < 1099511627776) (hzi:zs[last]? =some (ptrV cb)) (w0:World) (fp0:List Nat) (R:List Asn):(gMx2 β b gp last c2 cb ks vs zs w0 fp0 R).Ok 13:=by
 cases β <;> exact Rg.ok _ 13 [3,7,9,10,11] ⟨.load _ 3 0 2, .load _ 7 0 2, .sub _ 9 ((last+1)) (1) ((last:Nat):Int), .index _ 10 gp (last+1) c2 last (by omega), .elem _ 11 1 last hzi,trivial⟩
theorem cdMx2 (β:Bool):IsRg (BMax β) [1,0,4,4,1,4] 2:=by cases β <;> exact irg (by kernel_rfl)
theorem isExit0Mx3 (β:Bool):isExit0 (celse (csnd (cfst (cbody (cbody (cfst (csnd (bodyC (BMax β)))))))))=true:=by cases β <;> exact kr (by kernel_rfl)
theorem max_round (β:Bool) (b n2 c2 cb:Nat) (ks vs:Value) (a2:Option Addr) (zs:List Value) (hn2:n2=zs.length) (hlz:zs.length < 1099511627776) (hz:n2≠0->zs[n2 - 1]? =some (ptrV cb)) (w0 w:World) (fp0:List Nat) (R:List Asn) (A0:Act) (Q:Exit->Act->World->Prop)
 (hL:n2=0->∀A w',Knows 43 A [(0, .pointer (some ⟨b,0,none⟩))]->St w0 fp0 ([blkA b (tN β) #[ks,vs, .slice a2 n2 c2],slA (tP β) (.slice a2 n2 c2) zs]++R) w'->Q (.exit 0) A w')
 (hI:n2≠0->∀A w',Knows 43 A [(0, .pointer (some ⟨cb,0,none⟩))]->St w0 fp0 ([blkA b (tN β) #[ks,vs, .slice a2 n2 c2],slA (tP β) (.slice a2 n2 c2) zs]++R) w'->Q .normal A w')
 (K0:Knows 43 A0 [(0, .pointer (some ⟨b,0,none⟩))]) (hS:St w0 fp0 ([blkA b (tN β) #[ks,vs, .slice a2 n2 c2],slA (tP β) (.slice a2 n2 c2) zs]++R) w):(cbody (cbody (cfst (csnd (bodyC (BMax β)))))).wp Tryz.prog Q A0 w:=by
 refine wp_seqT (sqMx0 β) ?_;refine wp_seqT (cdMx1 β).sq ?_;refine wp_regT (obMx1 β b n2 c2 ks vs a2  _ _ _) (by kernel_rfl) (cdMx1 β).cd (K0.sub (by kernel_rfl)) (St_re hS [0] [1] (by kernel_rfl)) λ A1 w1 N1 H1=> ?_;have S1:St w0 fp0 ([blkA b (tN β) #[ks,vs, .slice a2 n2 c2],slA (tP β) (.slice a2 n2 c2) zs]++R) w1:=H1;have K1:Knows 43 A1 [(0,pV b 0),(6, .bool (!(n2==0)))]:=N1.knows K0 (by kernel_rfl);refine wp_condK (ccMx6 β) K1 (by rfl) (λ hq=> ?_) (λ hq=> ?_)
 · skip
   refine wp_skipT (isSkipMx1 β) ?_;have hn0:n2≠0:=by simpa using hq
   have hzi:=hz hn0;obtain ⟨_,q5⟩:=St.has S1 1 rfl;obtain ⟨gp,cp,ep,hpc, -⟩:=sl_some q5 (by omega);obtain ⟨rfl, -,rfl⟩:=Value.slice.inj ep;obtain ⟨last,rfl⟩:∃last,n2=last+1:=⟨n2 - 1,by omega⟩
   rw [Nat.add_sub_cancel] at hzi;show (csnd (cbody (cbody (cfst (csnd (bodyC (BMax β))))))).wp Tryz.prog Q A1 w1;refine wp_blkT (isBlkMx2 β) ?_;refine wp_regT (obMx2 β b gp last c2 cb ks vs zs (by omega) hzi _ _ _) (by kernel_rfl) (cdMx2 β).cd (K1.sub (by kernel_rfl)) (St_re S1 [0,1] [] (by kernel_rfl)) λ A2 w2 N2 H2=> ?_;have S2:St w0 fp0 ([blkA b (tN β) #[ks,vs,sV gp (last+1) c2],slA (tP β) (sV gp (last+1) c2) zs]++R) w2:=H2;have K2:Knows 43 A2 [(0,pV cb 0)]:=N2.knows K1 (by kernel_rfl);exact hI hn0 _ _ (K2.sub (by kernel_rfl)) S2
 · skip
   have hn0:n2=0:=by simpa using hq
   refine wp_exitT (isExit0Mx3 β) ?_;exact hL hn0 _ _ (K1.sub (by kernel_rfl)) S1
theorem entMy (β:Bool):Tryz.prog.funcs[fMax β]? =some (BMax β)/\(BMax β).body=some (bodyC (BMax β))/\(BMax β).ntmps=43:=by cases β <;> exact ⟨kr (by kernel_rfl),kr (by kernel_rfl),kr (by kernel_rfl)⟩
def gMy0 (β:Bool)  :=rg Tryz.prog (BMax β) 0 43 [(2,2)] [] (Vq 0 2 [Kv (encK (ky0 β)),Kv (encV (va0 β))]) []
theorem obMy0 (β:Bool)   (w0:World) (fp0:List Nat) (R:List Asn):(gMy0 β  w0 fp0 R).Ok 2:=by
 cases β <;> exact Rg.ok _ 2 [] trivial
theorem cdMy0 (β:Bool):IsSq (BMax β) [] 0:=by cases β <;> exact isq (by kernel_rfl)
theorem sqMy0 (β:Bool):Sq (BMax β) [1]:=by cases β <;> exact isQ (by kernel_rfl)
def gMy3 (β:Bool) (lb last gk ck gv cv:Nat) (ps ky vy:Value) (xs ys:List Value):=rg Tryz.prog (BMax β) 3 43 [(19,24),(2,2)] [(0,pV lb 0)] (Vq 0 19 [Kp lb 0,Kp lb 0,Kp lb 0,Ks gk (last+1) ck,Kp lb 0,Kp lb 0,Kp lb 0,Ks gk (last+1) ck,Kn (last+1),Kn last,Kp gk last,Kv ky,Kp lb 0,Kp lb 0,Kp lb 1,Ks gv (last+1) cv,Kp lb 0,Kp lb 0,Kp lb 1,Ks gv (last+1) cv,Kn (last+1),Kn last,Kp gv last,Kv vy]++Vq 24 2 [Kv ky,Kv vy]) [Bk lb (tN β) [sV gk (last+1) ck,sV gv (last+1) cv,ps], .sl (tK β) (sV gk (last+1) ck) xs [], .sl (tV β) (sV gv (last+1) cv) ys []]
theorem obMy3 (β:Bool) (lb last gk ck gv cv:Nat) (ps ky vy:Value) (xs ys:List Value) (hl:last+1 < 1099511627776) (hkx:xs[last]? =some ky) (hvy:ys[last]? =some vy) (w0:World) (fp0:List Nat) (R:List Asn):(gMy3 β lb last gk ck gv cv ps ky vy xs ys w0 fp0 R).Ok 26:=by
 cases β <;> exact Rg.ok _ 26 [3,7,9,10,11,15,19,21,22,23] ⟨.load _ 3 0 0, .load _ 7 0 0, .sub _ 9 ((last+1)) (1) ((last:Nat):Int), .index _ 10 gk (last+1) ck last (by omega), .elem _ 11 1 last hkx, .load _ 15 0 1, .load _ 19 0 1, .sub _ 21 ((last+1)) (1) ((last:Nat):Int), .index _ 22 gv (last+1) cv last (by omega), .elem _ 23 2 last hvy,trivial⟩
theorem cdMy3 (β:Bool):IsSq (BMax β) [1,1] 3:=by cases β <;> exact isq (by kernel_rfl)
theorem isRetMy1 (β:Bool):isRet (csnd (csnd (csnd (bodyC (BMax β)))))=true:=by cases β <;> exact kr (by kernel_rfl)
theorem resMy (β:Bool):(BMax β).results=#[.tmp 2, .tmp 3]:=by cases β <;> exact kr (by kernel_rfl)
theorem max_flat (β:Bool) (nb:Nat) (T0:Asn) (w0 w:World) (fp0:List Nat) (R:List Asn) (Rr:Ending->World->Prop)
 (HL:∀(Q:Exit->Act->World->Prop) (A:Act) (w:World),Knows 43 A [(0, .pointer (some ⟨nb,0,none⟩))]->St w0 fp0 ([T0]++R) w->
  (∀(A:Act) (w:World) (lb last gk ck gv cv:Nat) (ps ky vy:Value) (xs ys:List Value) (R':List Asn),last+1 < 1099511627776->xs[last]? =some ky->ys[last]? =some vy->xs.length=last+1->ys.length=last+1->(∀w',St w0 fp0 ([blkA lb (tN β) #[sV gk (last+1) ck,sV gv (last+1) cv,ps],slA (tK β) (sV gk (last+1) ck) xs,slA (tV β) (sV gv (last+1) cv) ys]++R') w'->Rr (.returned (.tuple #[ky,vy])) w')->Knows 43 A [(0, .pointer (some ⟨lb,0,none⟩))]->St w0 fp0 ([blkA lb (tN β) #[sV gk (last+1) ck,sV gv (last+1) cv,ps],slA (tK β) (sV gk (last+1) ck) xs,slA (tV β) (sV gv (last+1) cv) ys]++R') w->Q .normal A w)->(cfst (csnd (bodyC (BMax β)))).wp Tryz.prog Q A w)
 (hS:St w0 fp0 ([T0]++R) w):Calls Tryz.prog (fMax β) #[ptrV nb] w Rr:=by
 refine calls_T [(0,pV nb 0)] (entMy β) (by simp) (by kernel_rfl) λ A0 K0=> ?_;refine wp_seqT (cdMy0 β).sq ?_;refine wp_regT (obMy0 β   _ _ _) (by kernel_rfl) (cdMy0 β).cd (K0.sub (by kernel_rfl)) (St_re hS [] [0] (by kernel_rfl)) λ A1 w1 N1 H1=> ?_;have S1:St w0 fp0 ([T0]++R) w1:=H1;have K1:Knows 43 A1 [(0,pV nb 0),(2,encK (ky0 β)),(3,encV (va0 β))]:=N1.knows K0 (by kernel_rfl);refine wp_seqT (sqMy0 β) ?_;refine HL _ _ _ (K1.sub (by kernel_rfl)) S1 λ A2 w2 lb last gk ck gv cv ps ky vy xs ys R' hl hkx hvy hxl hyl hret K2 S2=> ?_;show (csnd (csnd (bodyC (BMax β)))).wp Tryz.prog (bodyPost Tryz.prog (BMax β) _) A2 w2;refine wp_seqT (cdMy3 β).sq ?_;refine wp_regT (obMy3 β lb last gk ck gv cv ps ky vy xs ys hl hkx hvy _ _ _) (by kernel_rfl) (cdMy3 β).cd (K2.sub (by kernel_rfl)) (St_re S2 [0,1,2] [] (by kernel_rfl)) λ A3 w3 N3 H3=> ?_;have S3:St w0 fp0 ([blkA lb (tN β) #[sV gk (last+1) ck,sV gv (last+1) cv,ps],slA (tK β) (sV gk (last+1) ck) xs,slA (tV β) (sV gv (last+1) cv) ys]++R') w3:=H3;have K3:Knows 43 A3 [(0,pV lb 0),(2,ky),(3,vy)]:=N3.knows K2 (by kernel_rfl);refine wp_retT (isRetMy1 β) ?_;refine post_T K3 (res2 (resMy β) K3 (by rfl) (by rfl)) ?_;exact hret _ S3
section
variable {β:Bool}
def isLoop:Code->Bool
 | .loop _=> true
 | _=> false
theorem wp_loopT {P:Program} {Q:Exit->Act->World->Prop} {a:Act} {w:World} {c:Code} (n:Nat) (hc:isLoop c=true) (h:Code.rounds P (cbody c) Q n a w):c.wp P Q a w:=by
 cases c with
 | loop c=> exact wp_loop_rounds n h
 | _=> cases hc
theorem inBlock_exit {Q:Exit->Act->World->Prop} {a:Act} {w:World} {i j:Nat} (h:i=j) (hq:Q .normal a w):Exit.inBlock i Q (.exit j) a w:=by
 subst h;simp only [Exit.inBlock,if_true];exact hq
theorem max_loop {o:Nat} (ho:3<=o) (ho':o<=1024):∀(h lo:Nat) (x:TT) (nb:Nat) (w0 w:World) (fp0:List Nat) (R:List Asn) (A:Act) (Q:Exit->Act->World->Prop),Body o h lo (o - 1) x->0 < x.es.length->Knows 43 A [(0, .pointer (some ⟨nb,0,none⟩))]->St w0 fp0 (treeA β h x nb::R) w->
 (∀(A:Act) (w:World) (lb last gk ck gv cv:Nat) (ps:Value) (m:Ky×Va) (xs ys:List Value) (R':List Asn),last+1 < 1099511627776->maxT h x=some m->xs[last]? =some (encK m.1)->ys[last]? =some (encV m.2)->xs.length=last+1->ys.length=last+1->(∀w',St w0 fp0 ([blkA lb (tN β) #[.slice (some ⟨gk,0,none⟩) (last+1) ck, .slice (some ⟨gv,0,none⟩) (last+1) cv,ps],slA (tK β) (.slice (some ⟨gk,0,none⟩) (last+1) ck) xs,slA (tV β) (.slice (some ⟨gv,0,none⟩) (last+1) cv) ys]++R') w'->St w0 fp0 (treeA β h x nb::R) w')->Knows 43 A [(0, .pointer (some ⟨lb,0,none⟩))]->
  St w0 fp0 ([blkA lb (tN β) #[.slice (some ⟨gk,0,none⟩) (last+1) ck, .slice (some ⟨gv,0,none⟩) (last+1) cv,ps],slA (tK β) (.slice (some ⟨gk,0,none⟩) (last+1) ck) xs,slA (tV β) (.slice (some ⟨gv,0,none⟩) (last+1) cv) ys]++R') w->Q (.exit 0) A w)->
 Code.rounds Tryz.prog (cbody (cbody (cfst (csnd (bodyC (BMax β)))))) Q (h+1) A w
 | 0,lo,x,nb,w0,w,fp0,R,A,Q,hb,hp,K,hS,hQ=> by
  rw [rounds_succ];obtain ⟨ks,vs,ps,bs,hl,h1⟩:=hS.openNT;have hcs:x.cs=[]:=hb.2.2;have hbs:bs=[]:=List.length_eq_zero_iff.1 (by rw [hl,hcs];rfl);subst hbs;obtain ⟨_,q1⟩:=h1.has 1 rfl;obtain ⟨_,q2⟩:=h1.has 2 rfl;obtain ⟨_,q3⟩:=h1.has 3 rfl;obtain ⟨gk,ck,rfl, -⟩:=sl_some q1 (by rw [keysV_length];omega);obtain ⟨gv,cv,rfl, -⟩:=sl_some q2 (by rw [valsV_length];omega);obtain ⟨pa,pc,rfl,_⟩:=sl_get q3;obtain ⟨last,hlast⟩:∃last,x.es.length=last+1:=⟨x.es.length - 1,by omega⟩
  have e1:(keysV x.es).length=last+1:=by rw [keysV_length];exact hlast
  have e2:(valsV x.es).length=last+1:=by rw [valsV_length];exact hlast
  rw [e1,e2] at h1;have hhi:=hb.hi;refine max_round β nb _ pc 0 _ _ pa (([]:List Nat).map ptrV) rfl (by simp) (λ hh=> absurd rfl hh) w0 w fp0 _ A _ (λ _ A w' K' h2=> ?_) (λ hh=> absurd rfl hh) K (St_re (L:=[_,_,_,_,_]) h1 [0,3] [1,2,4] (by kernel_rfl));obtain ⟨m,hm⟩:∃m,x.es[last]? =some m:=⟨_,List.getElem?_eq_getElem (by omega)⟩
  refine hQ A w' nb last gk ck gv cv (.slice pa 0 pc) m (keysV x.es) (valsV x.es) (slA (tP β) (.slice pa 0 pc) []::starA (List.zipWith (kidA β 0) x.cs [])::R) (by omega) (by rw [maxT,List.getLast?_eq_getElem?,hlast];exact hm) (by simp [keysV,hm]) (by simp [valsV,hm]) e1 e2 (λ w'' h3=> ?_) K' (St_re (L:=[_,_,_,_,_]) h2 [0,2,3,1,4] [] (by kernel_rfl));have h4:=St.shutNT (es:=x.es) (cs:=x.cs) (bs:=[]) (ps:=.slice pa 0 pc) hl h3;rw [T.eta] at h4;exact h4
 | h+1,lo,x,nb,w0,w,fp0,R,A,Q,hb,hp,K,hS,hQ=> by
  rw [rounds_succ];obtain ⟨b1,b2,b3,b4⟩:=hb;obtain ⟨c,hc⟩:∃c,x.cs[x.es.length]? =some c:=⟨_,List.getElem?_eq_getElem (by omega)⟩
  have hcb:=b4 c (List.mem_of_getElem? hc);obtain ⟨lo1,_⟩:=least_two ho;obtain ⟨ks,vs,ps,bs,cb,hl,hbi,h1⟩:=hS.viewT _ hc;obtain ⟨_,q3⟩:=h1.has 3 rfl;obtain ⟨pa,pc,rfl,_⟩:=sl_get q3;have hbl:bs.length=x.es.length+1:=by omega
  rw [List.length_map] at h1;refine max_round β nb _ pc cb _ _ pa (bs.map ptrV) (by rw [List.length_map]) (by rw [List.length_map];omega) (λ _=> by rw [hbl,Nat.add_sub_cancel,List.getElem?_map,hbi];rfl) w0 w fp0 _ A _ (λ hh=> absurd hh (by omega)) (λ _ A w' K' h2=> ?_) K (St_re (L:=[_,_,_,_,_,_]) h1 [0,3] [1,2,4,5] (by kernel_rfl));have hml:maxT (h+1) x=maxT h c:=by rw [maxT,List.getLast?_eq_getElem?,show x.cs.length - 1=x.es.length by omega,hc]
  refine max_loop ho ho' h (least o) c cb w0 w' fp0 _ A Q hcb (by have:=hcb.lo;omega) K' (St_re (L:=[_,_,_,_,_,_]) h2 [5,0,2,3,1,4] [] (by kernel_rfl)) λ A w' lb last gk ck gv cv ps m xs ys R' g1 g2 g3 g4 g5 g6 g7 g8 g9=> ?_;refine hQ A w' lb last gk ck gv cv ps m xs ys R' g1 (by rw [hml];exact g2) g3 g4 g5 g6 (λ w'' h3=> ?_) g8 g9;have h5:=St.unviewT (es:=x.es) (cs:=x.cs) hl hbi (St_re (L:=[_,_,_,_,_,_]) (g7 w'' h3) [1,2,3,4,5,0] [] (by kernel_rfl));rw [set_self hc,T.eta] at h5;exact h5
theorem lpMx (β:Bool):isBlk (cfst (csnd (bodyC (BMax β))))=true/\blkId (cfst (csnd (bodyC (BMax β))))=0/\isLoop (cbody (cfst (csnd (bodyC (BMax β)))))=true:=by cases β <;> exact ⟨kr (by kernel_rfl),kr (by kernel_rfl),kr (by kernel_rfl)⟩
theorem max_calls {o h lo:Nat} (ho:3<=o) (ho':o<=1024) (x:TT) (nb:Nat) (w0 w:World) (fp0:List Nat) (R:List Asn) (hb:Body o h lo (o - 1) x) (hp:0 < x.es.length) (hS:St w0 fp0 (treeA β h x nb::R) w):
 Calls Tryz.prog (fMax β) #[ptrV nb] w λ e w'=> (∃m,maxT h x=some m/\e=.returned (.tuple #[encK m.1,encV m.2]))/\St w0 fp0 (treeA β h x nb::R) w':=by
 obtain ⟨p1,p2,p3⟩:=lpMx β;refine max_flat β nb (treeA β h x nb) w0 w fp0 R _ (λ Q A w K S hQ=> ?_) hS;refine wp_blkT p1 (wp_loopT (h+1) p3 (max_loop ho ho' h lo x nb w0 w fp0 R A _ hb hp K S λ A w' lb last gk ck gv cv ps m xs ys R' g1 g2 g3 g4 g5 g6 g7 g8 g9=> inBlock_exit p2 ?_));exact hQ A w' lb last gk ck gv cv ps _ _ xs ys R' g1 g3 g4 g5 g6 (λ w'' h3=> ⟨⟨m,g2,rfl⟩,g7 w'' h3⟩) g8 g9
end
section
variable {β:Bool}
theorem remove_calls {o:Nat} (ho:3<=o) (ho':o<=1024) (tb:Nat) (r nn:Value):∀(h lo:Nat) (x:TT) (nb:Nat) (k:Ky) (w0 w:World) (fp0:List Nat) (R:List Asn),k.ok β->Body o h lo (o - 1) x->(h≠0->0 < x.es.length)->AscM (toL h x)->OkL β (toL h x)->
 St w0 fp0 (treeA β h x nb::blkA tb (tT β) #[r, .int .i64 o,nn]::R) w->
 Calls Tryz.prog (fRemove β) #[ptrV tb,ptrV nb,encK k] w λ e w'=> e=.returned (.tuple #[encV ((getT h x k).getD (va0 β)), .bool (getT h x k).isSome])/\St w0 fp0 (treeA β h (removeT o h x k) nb::blkA tb (tT β) #[r, .int .i64 o,nn]::R) w'
 | h,lo,x,nb,k,w0,w,fp0,R,hkk,hb,hp,ha,hok,hS=> by
  have hlen:x.es.length < 1099511627776:=by have:=hb.hi;omega
  have hae:AscM x.es:=asc_es ha;have hpk:=posK_le x.es k;obtain ⟨y,hy⟩:∃y:Ky×Va,hasK x.es k=true->x.es[posK x.es k]? =some y:=by
   cases hh:hasK x.es k with
   | true=> obtain ⟨y,hy⟩:=pos_get hh;exact ⟨y,λ _=> hy⟩
   | false=> exact ⟨(k, .int 0),λ h=> nomatch h⟩
  have hyv:hasK x.es k=true->(keysV x.es)[posK x.es k]?.isSome=true/\(valsV x.es)[posK x.es k]? =some (encV y.2):=λ hq=> by simp [keysV,valsV,hy hq]
  have hg:hasK x.es k=true->getT h x k=some y.2:=λ hq=> by cases h <;> simp [getT,hq,hy hq]
  cases h with
  | zero=>
   obtain ⟨ks,vs,ps,bs,hl,h1⟩:=hS.openNT;have hcs:x.cs=[]:=hb.2.2;have hbs:bs=[]:=List.length_eq_zero_iff.1 (by rw [hl,hcs];rfl);subst hbs;obtain ⟨_,q⟩:=h1.has 3 rfl;obtain ⟨pa,pc,rfl,_⟩:=sl_get q;have h2:=St_re (L:=[_,_,_,_,_,_,_]) (St.emp.2 h1) [6,1,2,3,4,5,0] [] (by kernel_rfl);refine remove_flat β tb o nb (posK x.es k) 0 pc 0 0 r nn ks vs (encK k) (encV y.2) (encK k) (encV (va0 β)) (encV (va0 β)) (encV (va0 β)) (encV (va0 β)) (hasK x.es k) false false false pa (keysV x.es) (valsV x.es) [] [] [] _ emp emp emp ho ho' (by rw [keysV_length];exact hpk) (by rw [keysV_length,valsV_length]) (by rw [keysV_length];exact hlen) (keysV_one _) (valsV_one _) (encK_one k) (encV_one _) rfl
    (λ w fp fp' hbk hkk'=> find_calls nb ks vs _ x.es k hok.es hkk w hbk ⟨_,hkk'⟩ hae hlen) hyv (λ h=> absurd rfl h) (λ _ h=> absurd rfl h) (λ _ h=> absurd rfl h) (λ _ h=> absurd rfl h) (λ h=> absurd rfl h) (λ _ h=> absurd rfl h) (λ _ h=> absurd rfl h) (λ _ h=> absurd rfl h) (λ _ h=> absurd rfl h) (λ _ h=> absurd rfl h) (λ _ h=> absurd rfl h) (λ h=> absurd rfl h) _ w0 w fp0 R ?_ ?_ (λ h=> absurd rfl h) (λ h=> absurd rfl h) h2
   · intro hq _ w' h3
     have hg0:getT 0 x k=none:=by simp [getT,hq]
     have hp0:removeT o 0 x k=x:=by simp [removeT,hq]
     rw [hg0,hp0];refine ⟨rfl,?_⟩;have h4:=St.shutNT (es:=x.es) (cs:=x.cs) (ks:=ks) (vs:=vs) (ps:=.slice pa 0 pc) hl (St.emp.1 (St_re (L:=[_,_,_,_,_,_,_]) h3 [6,0,1,2,4,5,3] [] (by kernel_rfl)));rw [T.eta] at h4;exact h4
   · intro hq _ w' ks' vs' h3
     rw [hg hq,show removeT o 0 x k=.node (x.es.eraseIdx (posK x.es k)) x.cs by simp [removeT,hq]];refine ⟨rfl,St.shutNT (ks:=ks') (vs:=vs') (ps:=.slice pa 0 pc) hl ?_⟩;rw [show keysV (x.es.eraseIdx (posK x.es k))=(keysV x.es).eraseIdx (posK x.es k) from map_eraseIdx' _ _ _,show valsV (x.es.eraseIdx (posK x.es k))=(valsV x.es).eraseIdx (posK x.es k) from map_eraseIdx' _ _ _];exact St.emp.1 (St_re (L:=[_,_,_,_,_,_,_]) h3 [6,0,1,2,4,5,3] [] (by kernel_rfl))
  | succ h=>
   obtain ⟨b1,b2,b3,b4⟩:=hb;obtain ⟨lo1,lo2⟩:=least_two ho;have hpos:=hp (by omega);obtain ⟨c,hc⟩:∃c,x.cs[posK x.es k]? =some c:=⟨_,List.getElem?_eq_getElem (by omega)⟩
   have hcb:=b4 c (List.mem_of_getElem? hc);have hac:=asc_kid1 b3 hc ha;have hokc:=hok.kid b3 hc;have hcp:0 < c.es.length:=by have:=hcb.lo;omega
   obtain ⟨Lm,m,hm,hmL⟩:=max_spec ho hcb hcp;have hmok:m.1.ok β:=hokc m (by rw [hmL];simp);obtain ⟨ks,vs,ps,bs,cb,hl,hbi,h1⟩:=hS.viewT _ hc;obtain ⟨_,q⟩:=h1.has 3 rfl;obtain ⟨pa,pc,rfl,_⟩:=sl_get q;rw [List.length_map] at h1;have hn0:bs.length≠0:=by omega
   have h2:=St_re (L:=[_,_,_,_,_,_,_]) h1 [6,0,1,2,3,5,4] [] (by kernel_rfl);obtain ⟨c',hc'⟩:∃c',(if hasK x.es k=true then removeT o h c m.1 else removeT o h c k)=c':=⟨_,rfl⟩
   obtain ⟨es',hes'⟩:∃es',(if hasK x.es k=true then x.es.set (posK x.es k) m else x.es)=es':=⟨_,rfl⟩
   have hc1:hasK x.es k=true->removeT o h c m.1=c':=λ hq=> by rw [<-hc',if_pos hq]
   have hc0:hasK x.es k=false->removeT o h c k=c':=λ hq=> by rw [<-hc',if_neg (by rw [hq];simp)]
   have he1:hasK x.es k=true->es'=x.es.set (posK x.es k) m:=λ hq=> by rw [<-hes',if_pos hq]
   have he0:hasK x.es k=false->es'=x.es:=λ hq=> by rw [<-hes',if_neg (by rw [hq];simp)]
   have hel:es'.length=x.es.length:=by rw [<-hes'];split <;> simp
   have hcb':Body o h (least o - 1) (o - 1) c':=by
    rw [<-hc'];split
    · exact (removeT_spec ho h _ c m.1 hcb (λ _=> hcp) hac).1
    · exact (removeT_spec ho h _ c k hcb (λ _=> hcp) hac).1
   have hrm:removeT o (h+1) x k=if c'.es.length < least o then fillT o (posK x.es k) (.node es' (x.cs.set (posK x.es k) c')) else .node es' (x.cs.set (posK x.es k) c'):=by
    rw [removeT,hc];cases hh:hasK x.es k with
    | true=> rw [<-hc1 hh,he1 hh];simp only [if_true,hm]
    | false=> rw [<-hc0 hh,he0 hh];simp
   have hg1:hasK x.es k=false->getT (h+1) x k=getT h c k:=λ hq=> by simp [getT,hq,hc]
   refine remove_flat β tb o nb (posK x.es k) bs.length pc cb c'.es.length r nn ks vs (encK k) (encV y.2) (encK m.1) (encV m.2) (encV ((getT h c k).getD (va0 β))) (encV ((getT h c m.1).getD (va0 β))) (encV ((getT (h+1) x k).getD (va0 β))) (hasK x.es k) (getT h c k).isSome (getT h c m.1).isSome (getT (h+1) x k).isSome pa (keysV x.es) (valsV x.es) (keysV es') (valsV es') (bs.map ptrV) (treeA β h c cb) (treeA β h c' cb) _ (treeA β (h+1) (removeT o (h+1) x k) nb) ho ho' (by rw [keysV_length];exact hpk) (by rw [keysV_length,valsV_length]) (by rw [keysV_length];exact hlen) (keysV_one _) (valsV_one _) (encK_one _) (encV_one _) (by rw [List.length_map])
    (λ w fp fp' hbk hkk'=> find_calls nb ks vs _ x.es k hok.es hkk w hbk ⟨_,hkk'⟩ hae hlen) hyv (λ _=> by rw [List.getElem?_map,hbi];rfl)
    (λ _ _ w0 fp0 R w hs=> (max_calls ho ho' c cb w0 w fp0 R hcb hcp hs).mono λ e w' ⟨⟨m',e1,e2⟩,e3⟩=> ?_)
    (λ hq _ w0 fp0 R w hs=> ?_) (λ hq _ w0 fp0 R w hs=> ?_)
    (λ _ w f hf=> by obtain ⟨ka,kc,_,_,e,_⟩:=tree_lookT hf;exact ⟨ka,kc,e⟩)
    (λ hq _=> by rw [he1 hq];exact (set_map _ _ _ _).symm) (λ hq _=> by rw [he0 hq]) (λ hq _=> by rw [he1 hq];exact (set_map _ _ _ _).symm) (λ hq _=> by rw [he0 hq])
    (λ hq _=> by rw [hg hq];exact ⟨rfl,rfl⟩) (λ hq _=> by rw [hg1 hq];exact ⟨rfl,rfl⟩)
    (λ _ hlt w0 fp0 R w hs=> ?_) _ w0 w fp0 R (λ _ h=> absurd h hn0) (λ _ h=> absurd h hn0) ?_ ?_ h2
   · rw [hm] at e1
     obtain rfl:=Option.some.inj e1;exact ⟨e2,e3⟩
   · rw [<-hc1 hq]
     exact remove_calls ho ho' tb r nn h (least o) c cb m.1 w0 w fp0 R hmok hcb (λ _=> hcp) hac hokc hs
   · rw [<-hc0 hq]
     exact remove_calls ho ho' tb r nn h (least o) c cb k w0 w fp0 R hkk hcb (λ _=> hcp) hac hokc hs
   · rw [hrm,if_pos hlt]
     have hsh:Short o h (posK x.es k) (.node es' (x.cs.set (posK x.es k) c')):=by
      refine ⟨?_,?_,?_,λ d hd=> ?_,λ j d hj hd=> ?_⟩
      · rw [cs_node,es_node,List.length_set,hel,b3]
      · rw [es_node,hel];exact hpos
      · rw [cs_node,List.length_set];omega
      · rw [cs_node,List.getElem?_set_self (by omega)] at hd
        obtain rfl:=Option.some.inj hd;exact ⟨hcb',by have:=hcb'.lo;omega⟩
      · rw [cs_node,List.getElem?_set_ne (λ e=> hj e.symm)] at hd
        exact b4 d (List.mem_of_getElem? hd)
     refine fill_calls ho ho' tb r nn nb w0 w fp0 R hsh (by rw [es_node,hel];exact b2) (St.unviewT hl hbi (St_re (L:=[_,_,_,_,_,_,_]) hs [0,1,2,3,5,4,6] [] (by kernel_rfl)))
   · intro _ hlt w' h3
     rw [hrm,if_neg hlt];exact ⟨rfl,St.unviewT hl hbi (St_re (L:=[_,_,_,_,_,_,_]) h3 [0,1,2,3,5,4,6] [] (by kernel_rfl))⟩
   · intro _ hlt w' h3
     exact ⟨rfl,h3⟩
end
theorem entPp (β:Bool):Tryz.prog.funcs[fPut β]? =some (BPut β)/\(BPut β).body=some (bodyC (BPut β))/\(BPut β).ntmps=61:=by cases β <;> exact ⟨kr (by kernel_rfl),kr (by kernel_rfl),kr (by kernel_rfl)⟩
def gPp0 (β:Bool)  :=rg Tryz.prog (BPut β) 0 61 [(6,2)] [] (Vq 0 6 [Kv (encV (va0 β)),Kv (.bool false)]) []
theorem obPp0 (β:Bool)   (w0:World) (fp0:List Nat) (R:List Asn):(gPp0 β  w0 fp0 R).Ok 2:=by
 cases β <;> exact Rg.ok _ 2 [] trivial
theorem cdPp0 (β:Bool):IsSq (BPut β) [] 0:=by cases β <;> exact isq (by kernel_rfl)
def gPp1 (β:Bool) (tb o rb n:Nat) (kk vv ov:Value) (was:Bool) (T0 T1:Asn):=rg Tryz.prog (BPut β) 1 61 [(11,8),(10,1),(19,2),(8,2)] [(0,pV tb 0),(1,kk),(2,vv)] (Vq 0 11 [Kp tb 0,Kp tb 0,Kp tb 0,Kp tb 0,Kp rb 0,Kv kk,Kv vv,Kv (.tuple #[ov, .bool was])]++Vq 8 10 [Kv (.tuple #[ov, .bool was])]++Vq 9 19 [Kv ov,Kv (.bool was)]++Vq 11 8 [Kv ov,Kv (.bool was)]) [.gen [7] [] λ L _g=> match L 7 with | true=> T1 | false=> T0,Bk tb (tT β) [pV rb 0,nV o,nV n]]
theorem obPp1 (β:Bool) (tb o rb n:Nat) (kk vv ov:Value) (was:Bool) (T0 T1:Asn) (hrec:∀(w0:World) (fp0:List Nat) (R:List Asn) (w:World),St w0 fp0 ([T0,blkA tb (tT β) #[.pointer (some ⟨rb,0,none⟩), .int .i64 o, .int .i64 n]]++R) w->Calls Tryz.prog (fIns0 β) #[ptrV tb,ptrV rb,kk,vv] w λ e w'=> e=.returned (.tuple #[ov, .bool was])/\St w0 fp0 ([T1,blkA tb (tT β) #[.pointer (some ⟨rb,0,none⟩), .int .i64 o, .int .i64 n]]++R) w') (w0:World) (fp0:List Nat) (R:List Asn):(gPp1 β tb o rb n kk vv ov was T0 T1 w0 fp0 R).Ok 13:=by
 cases β <;> exact Rg.ok _ 13 [4,7] ⟨.load _ 4 1 0, .callF _ 7 _ _ (hrec _ _ _),trivial⟩
theorem cdPp1 (β:Bool):IsSq (BPut β) [1] 1:=by cases β <;> exact isq (by kernel_rfl)
theorem sqPp0 (β:Bool):Sq (BPut β) [1,1]:=by cases β <;> exact isQ (by kernel_rfl)
def gPp2 (β:Bool) (tb o rb n m:Nat) (T1:Asn):=rg Tryz.prog (BPut β) 2 61 [(21,13)] [(0,pV tb 0)] (Vq 0 21 [Kp tb 0,Kp tb 0,Kp tb 0,Kp rb 0,Kp rb 0,Kp rb 0,Fv [27] λ g=> .slice (sa (g 27)) m (sc (g 27)),Kn m,Kp tb 0,Kp tb 0,Kp tb 1,Kn o,Kv (.bool (decide (o<=m)))]) [.all (T1),Bk tb (tT β) [pV rb 0,nV o,nV n]]
theorem obPp2 (β:Bool) (tb o rb n m:Nat) (T1:Asn) (hlook:∀w f,T1.p w f->∃ka kc,w.cell? ⟨rb,0,none⟩=some (.slice ka m kc)) (w0:World) (fp0:List Nat) (R:List Asn):(gPp2 β tb o rb n m T1 w0 fp0 R).Ok 13:=by
 cases β <;> exact Rg.ok _ 13 [3,6,11,12] ⟨.load _ 3 1 0, .loadBy _ 6 0 (λ w f h=> let ⟨_,_,e⟩:=hlook w f h;⟨_,e,λ _=> rfl⟩), .load _ 11 1 1, .geq _ 12 m o,trivial⟩
theorem cdPp2 (β:Bool):IsSq (BPut β) [1,1,0] 2:=by cases β <;> exact isq (by kernel_rfl)
theorem ccPp33 (β:Bool):isCond (csnd (cfst (csnd (csnd (bodyC (BPut β))))))=true/\ccond (csnd (cfst (csnd (csnd (bodyC (BPut β))))))=.tmp 33:=by cases β <;> exact ⟨kr (by kernel_rfl),kr (by kernel_rfl)⟩
def gPp3 (β:Bool) (tb o rb n:Nat):=rg Tryz.prog (BPut β) 3 61 [(34,10)] [(0,pV tb 0)] (Vq 0 34 [Kp tb 0,Kp tb 0,Kp tb 0,Kp tb 0,Kp rb 0,Vf.box,Fv [39] λ g=> .agg #[.slice none 0 0, .slice none 0 0, .slice (some ⟨pb (g 39),0,none⟩) 1 1],Vf.ptr,Kp tb 0,Kp tb 0]) [.new 7 [41,39] λ g=> atA (tN β) (g 41) #[.slice none 0 0, .slice none 0 0, .slice (some ⟨pb (g 39),0,none⟩) 1 1], .new 5 [39] λ g=> boxA (tP β) (g 39) (.pointer (some ⟨rb,0,none⟩)), .blk tb (tT β) [⟨pV rb 0,[(10, .s 41)]⟩,⟨nV o,[]⟩,⟨nV n,[]⟩]]
theorem obPp3 (β:Bool) (tb o rb n:Nat)  (w0:World) (fp0:List Nat) (R:List Asn):(gPp3 β tb o rb n w0 fp0 R).Ok 11:=by
 cases β <;> exact Rg.ok _ 11 [4,5,7,10] ⟨.load _ 4 2 0, .box _ 5 1 rfl, .lay _ 7 0, .store _ 10 2 0,trivial⟩
theorem cdPp3 (β:Bool):IsSq (BPut β) [1,1,0,1,2] 3:=by cases β <;> exact isq (by kernel_rfl)
def gPp4 (β:Bool) (tb o nr n:Nat) (X0 X1 X2 X3:Asn):=rg Tryz.prog (BPut β) 4 61 [(44,6)] [(0,pV tb 0)] (Vq 0 44 [Kp tb 0,Kp tb 0,Kp tb 0,Kp tb 0,Kp nr 0,Kv (.tuple #[])]) [.gen [5] [] λ L _g=> match L 5 with | true=> X3 | false=> X0, .gen [5] [] λ L _g=> match L 5 with | true=> emp | false=> X1, .gen [5] [] λ L _g=> match L 5 with | true=> emp | false=> X2,Bk tb (tT β) [pV nr 0,nV o,nV n]]
theorem obPp4 (β:Bool) (tb o nr n:Nat) (X0 X1 X2 X3:Asn) (hs:∀(w0:World) (fp0:List Nat) (R:List Asn) (w:World),St w0 fp0 ([X0,X1,X2,blkA tb (tT β) #[.pointer (some ⟨nr,0,none⟩), .int .i64 o, .int .i64 n]]++R) w->Calls Tryz.prog (fSplit β) #[ptrV tb,ptrV nr, .int .i64 0] w λ e w'=> e=.returned (.tuple #[])/\St w0 fp0 ([X3,emp,emp,blkA tb (tT β) #[.pointer (some ⟨nr,0,none⟩), .int .i64 o, .int .i64 n]]++R) w') (w0:World) (fp0:List Nat) (R:List Asn):(gPp4 β tb o nr n X0 X1 X2 X3 w0 fp0 R).Ok 6:=by
 cases β <;> exact Rg.ok _ 6 [4,5] ⟨.load _ 4 3 0, .callF _ 5 _ _ (hs _ _ _),trivial⟩
theorem cdPp4 (β:Bool):IsRg (BPut β) [1,1,0,1,2,1] 4:=by cases β <;> exact irg (by kernel_rfl)
theorem isSkipPp1 (β:Bool):isSkip (celse (csnd (cfst (csnd (csnd (bodyC (BPut β)))))))=true:=by cases β <;> exact kr (by kernel_rfl)
theorem sqPp2 (β:Bool):Sq (BPut β) [1,1,1]:=by cases β <;> exact isQ (by kernel_rfl)
def gPp5 (β:Bool) (was:Bool):=rg Tryz.prog (BPut β) 5 61 [(50,2)] [(9, .bool was)] (Vq 0 50 [Kv (.bool was),Kv (.bool (!was))]) []
theorem obPp5 (β:Bool) (was:Bool)  (w0:World) (fp0:List Nat) (R:List Asn):(gPp5 β was w0 fp0 R).Ok 2:=by
 cases β <;> exact Rg.ok _ 2 [] trivial
theorem cdPp5 (β:Bool):IsSq (BPut β) [1,1,1,0] 5:=by cases β <;> exact isq (by kernel_rfl)
theorem ccPp51 (β:Bool):isCond (csnd (cfst (csnd (csnd (csnd (bodyC (BPut β)))))))=true/\ccond (csnd (cfst (csnd (csnd (csnd (bodyC (BPut β)))))))=.tmp 51:=by cases β <;> exact ⟨kr (by kernel_rfl),kr (by kernel_rfl)⟩
def gPp6 (β:Bool) (tb o rb2 n:Nat):=rg Tryz.prog (BPut β) 6 61 [(52,7)] [(0,pV tb 0)] (Vq 0 52 [Kp tb 0,Kp tb 0,Kp tb 2,Kn n,Kn (n+1),Kp tb 0,Kp tb 2]) [.blk tb (tT β) [⟨pV rb2 0,[]⟩,⟨nV o,[]⟩,⟨nV n,[(7, .v (nV (n+1)))]⟩]]
theorem obPp6 (β:Bool) (tb o rb2 n:Nat) (hn:n < 1099511627776) (w0:World) (fp0:List Nat) (R:List Asn):(gPp6 β tb o rb2 n w0 fp0 R).Ok 8:=by
 cases β <;> exact Rg.ok _ 8 [3,4,7] ⟨.load _ 3 0 2, .add _ 4 (n) (1) ((n+1:Nat):Int), .storeV _ 7 0 2,trivial⟩
theorem cdPp6 (β:Bool):IsRg (BPut β) [1,1,1,0,1,2] 6:=by cases β <;> exact irg (by kernel_rfl)
theorem isSkipPp3 (β:Bool):isSkip (celse (csnd (cfst (csnd (csnd (csnd (bodyC (BPut β))))))))=true:=by cases β <;> exact kr (by kernel_rfl)
def gPp7 (β:Bool) (ov:Value) (was:Bool):=rg Tryz.prog (BPut β) 7 61 [(59,2),(6,2)] [(8,ov),(9, .bool was)] (Vq 0 59 [Kv ov,Kv (.bool was)]++Vq 2 6 [Kv ov,Kv (.bool was)]) []
theorem obPp7 (β:Bool) (ov:Value) (was:Bool)  (w0:World) (fp0:List Nat) (R:List Asn):(gPp7 β ov was w0 fp0 R).Ok 4:=by
 cases β <;> exact Rg.ok _ 4 [] trivial
theorem cdPp7 (β:Bool):IsSq (BPut β) [1,1,1,1] 7:=by cases β <;> exact isq (by kernel_rfl)
theorem isRetPp4 (β:Bool):isRet (csnd (csnd (csnd (csnd (csnd (bodyC (BPut β)))))))=true:=by cases β <;> exact kr (by kernel_rfl)
theorem resPp (β:Bool):(BPut β).results=#[.tmp 6, .tmp 7]:=by cases β <;> exact kr (by kernel_rfl)
theorem Put_flat (β:Bool) (tb o rb m n:Nat) (kk vv ov:Value) (was:Bool) (T0 T1:Asn) (TF:Nat->Asn) (hn:n < 1099511627776)
 (hrec:∀(w0:World) (fp0:List Nat) (R:List Asn) (w:World),St w0 fp0 ([T0,blkA tb (tT β) #[.pointer (some ⟨rb,0,none⟩), .int .i64 o, .int .i64 n]]++R) w->Calls Tryz.prog (fIns0 β) #[ptrV tb,ptrV rb,kk,vv] w λ e w'=> e=.returned (.tuple #[ov, .bool was])/\St w0 fp0 ([T1,blkA tb (tT β) #[.pointer (some ⟨rb,0,none⟩), .int .i64 o, .int .i64 n]]++R) w')
 (hlook:∀w f,T1.p w f->∃ka kc,w.cell? ⟨rb,0,none⟩=some (.slice ka m kc))
 (hsplit:o<=m->∀(nr gx:Nat) (w0:World) (fp0:List Nat) (R:List Asn) (w:World),St w0 fp0 ([blkA nr (tN β) #[.slice none 0 0, .slice none 0 0, .slice (some ⟨gx,0,none⟩) 1 1],boxA (tP β) (.slice (some ⟨gx,0,none⟩) 1 1) (.pointer (some ⟨rb,0,none⟩)),T1,blkA tb (tT β) #[.pointer (some ⟨nr,0,none⟩), .int .i64 o, .int .i64 n]]++R) w->Calls Tryz.prog (fSplit β) #[ptrV tb,ptrV nr, .int .i64 0] w λ e w'=> e=.returned (.tuple #[])/\St w0 fp0 ([TF nr,blkA tb (tT β) #[.pointer (some ⟨nr,0,none⟩), .int .i64 o, .int .i64 n]]++R) w')
 (Rr:Ending->World->Prop) (w0 w:World) (fp0:List Nat) (R:List Asn)
 (hP:∀(X:Asn) (rb2:Nat) (w':World),(m < o/\X=T1/\rb2=rb\/o<=m/\X=TF rb2)->St w0 fp0 ([X,blkA tb (tT β) #[.pointer (some ⟨rb2,0,none⟩), .int .i64 o, .int .i64 ((if was then n else n+1:Nat):Int)]]++R) w'->Rr (.returned (.tuple #[ov, .bool was])) w')
 (hS:St w0 fp0 ([T0,blkA tb (tT β) #[pV rb 0,nV o,nV n]]++R) w):Calls Tryz.prog (fPut β) #[ptrV tb,kk,vv] w Rr:=by
 refine calls_T [(0,pV tb 0),(1,kk),(2,vv)] (entPp β) (by simp) (by kernel_rfl) λ A0 K0=> ?_;refine wp_seqT (cdPp0 β).sq ?_;refine wp_regT (obPp0 β   _ _ _) (by kernel_rfl) (cdPp0 β).cd (K0.sub (by kernel_rfl)) (St_re hS [] [0,1] (by kernel_rfl)) λ A1 w1 N1 H1=> ?_;have S1:St w0 fp0 ([T0,blkA tb (tT β) #[pV rb 0,nV o,nV n]]++R) w1:=H1;have K1:Knows 61 A1 [(0,pV tb 0),(1,kk),(2,vv),(6,encV (va0 β)),(7, .bool false)]:=N1.knows K0 (by kernel_rfl);refine wp_seqT (cdPp1 β).sq ?_;refine wp_regT (obPp1 β tb o rb n kk vv ov was T0 T1 hrec _ _ _) (by kernel_rfl) (cdPp1 β).cd (K1.sub (by kernel_rfl)) (St_re S1 [0,1] [] (by kernel_rfl)) λ A2 w2 N2 H2=> ?_;have S2:St w0 fp0 ([T1,blkA tb (tT β) #[pV rb 0,nV o,nV n]]++R) w2:=H2;have K2:Knows 61 A2 [(0,pV tb 0),(1,kk),(2,vv),(6,encV (va0 β)),(7, .bool false),(8,ov),(9, .bool was)]:=N2.knows K1 (by kernel_rfl);refine wp_seqJ (sqPp0 β) (λ A w=> ∃(X:Asn) (rb2:Nat) (hx:m < o/\X=T1/\rb2=rb\/o<=m/\X=TF rb2),Knows 61 A [(0,pV tb 0),(8,ov),(9, .bool was)]/\St w0 fp0 ([X,blkA tb (tT β) #[pV rb2 0,nV o,nV n]]++R) w) ?_ ?_
 · skip
   refine wp_seqT (cdPp2 β).sq ?_;refine wp_regT (obPp2 β tb o rb n m T1 hlook _ _ _) (by kernel_rfl) (cdPp2 β).cd (K2.sub (by kernel_rfl)) (St_re S2 [0,1] [] (by kernel_rfl)) λ A3 w3 N3 H3=> ?_;have S3:St w0 fp0 ([T1,blkA tb (tT β) #[pV rb 0,nV o,nV n]]++R) w3:=H3;have K3:Knows 61 A3 [(0,pV tb 0),(1,kk),(2,vv),(6,encV (va0 β)),(7, .bool false),(8,ov),(9, .bool was),(33, .bool (decide (o<=m)))]:=N3.knows K2 (by kernel_rfl);refine wp_condK (ccPp33 β) K3 (by rfl) (λ hq=> ?_) (λ hq=> ?_)
   · skip
     have hom:o<=m:=by simpa using hq
     refine wp_seqT (cdPp3 β).sq ?_;refine wp_regT (obPp3 β tb o rb n  _ _ _) (by kernel_rfl) (cdPp3 β).cd (K3.sub (by kernel_rfl)) (St.emp.2 (St.emp.2 (St_re S3 [1] [0] (by kernel_rfl)))) λ A4 w4 N4 H4=> ?_;have S4:St w0 fp0 ([atA (tN β) (slots A4 41) #[.slice none 0 0, .slice none 0 0, .slice (some ⟨pb (slots A4 39),0,none⟩) 1 1],boxA (tP β) (slots A4 39) (.pointer (some ⟨rb,0,none⟩)),blkA tb (tT β) #[slots A4 41,nV o,nV n],T1]++R) w4:=H4;have K4:Knows 61 A4 [(0,pV tb 0),(1,kk),(2,vv),(6,encV (va0 β)),(7, .bool false),(8,ov),(9, .bool was),(33, .bool (decide (o<=m)))]:=N4.knows K3 (by kernel_rfl);obtain ⟨gx,e39⟩:∃n,slots A4 39=.slice (some ⟨n,0,none⟩) 1 1:=⟨_,N4.val 5 rfl⟩
     rw [e39] at S4;obtain ⟨nr,e41,S4⟩:=St.at_open S4;have S4:St w0 fp0 ([blkA nr (tN β) #[.slice none 0 0, .slice none 0 0, .slice (some ⟨gx,0,none⟩) 1 1],boxA (tP β) (.slice (some ⟨gx,0,none⟩) 1 1) (.pointer (some ⟨rb,0,none⟩)),T1,blkA tb (tT β) #[.pointer (some ⟨nr,0,none⟩), .int .i64 o, .int .i64 n]]++R) w4:=by rw [e41] at S4;exact St_re (L:=[_,_,_,_]) S4 [0,1,3,2] [] (by kernel_rfl)
     refine wp_regT (obPp4 β tb o nr n _ _ _ (TF nr) (λ w0 fp0 R w h=> (hsplit hom nr gx w0 fp0 R w h).mono λ e w' ⟨h1,h2⟩=> ⟨h1,St_re (L:=[_,_,_,_]) (St.emp.2 (St.emp.2 h2)) [2,0,1,3] [] (by kernel_rfl)⟩) _ _ _) (by kernel_rfl) (cdPp4 β).cd (K4.sub (by kernel_rfl)) (St_re S4 [0,1,2,3] [] (by kernel_rfl)) λ A5 w5 N5 H5=> ?_;have S5:St w0 fp0 ([TF nr,emp,emp,blkA tb (tT β) #[pV nr 0,nV o,nV n]]++R) w5:=H5;have K5:Knows 61 A5 [(0,pV tb 0),(1,kk),(2,vv),(6,encV (va0 β)),(7, .bool false),(8,ov),(9, .bool was),(33, .bool (decide (o<=m)))]:=N5.knows K4 (by kernel_rfl);exact ⟨TF nr,nr, .inr ⟨hom,rfl⟩,K5.sub (by kernel_rfl),St_re (L:=[_,_]) (St.emp.1 (St.emp.1 (St_re (L:=[_,_,_,_]) S5 [1,2,0,3] [] (by kernel_rfl)))) [0,1] [] (by kernel_rfl)⟩
   · skip
     refine wp_skipT (isSkipPp1 β) ?_;exact ⟨T1,rb, .inl ⟨by simpa using hq,rfl,rfl⟩,K3.sub (by kernel_rfl),(St_re S3 [0,1] [] (by kernel_rfl))⟩
 · rintro A6 w6 ⟨X,rb2,hx,K6,S6⟩
   refine wp_seqJ (sqPp2 β) (λ A w=> ∃(n2:Nat) (hn2:n2=if was then n else n+1),Knows 61 A [(8,ov),(9, .bool was)]/\St w0 fp0 ([X,blkA tb (tT β) #[pV rb2 0,nV o,nV n2]]++R) w) ?_ ?_
   · skip
     refine wp_seqT (cdPp5 β).sq ?_;refine wp_regT (obPp5 β was  _ _ _) (by kernel_rfl) (cdPp5 β).cd (K6.sub (by kernel_rfl)) (St_re S6 [] [0,1] (by kernel_rfl)) λ A7 w7 N7 H7=> ?_;have S7:St w0 fp0 ([X,blkA tb (tT β) #[pV rb2 0,nV o,nV n]]++R) w7:=H7;have K7:Knows 61 A7 [(0,pV tb 0),(8,ov),(9, .bool was),(51, .bool (!was))]:=N7.knows K6 (by kernel_rfl);refine wp_condK (ccPp51 β) K7 (by rfl) (λ hq=> ?_) (λ hq=> ?_)
     · skip
       refine wp_regT (obPp6 β tb o rb2 n hn _ _ _) (by kernel_rfl) (cdPp6 β).cd (K7.sub (by kernel_rfl)) (St_re S7 [1] [0] (by kernel_rfl)) λ A8 w8 N8 H8=> ?_;have S8:St w0 fp0 ([blkA tb (tT β) #[pV rb2 0,nV o,nV (n+1)],X]++R) w8:=H8;have K8:Knows 61 A8 [(0,pV tb 0),(8,ov),(9, .bool was),(51, .bool (!was))]:=N8.knows K7 (by kernel_rfl);exact ⟨n+1,by simp at hq;simp [hq],K8.sub (by kernel_rfl),(St_re S8 [1,0] [] (by kernel_rfl))⟩
     · skip
       refine wp_skipT (isSkipPp3 β) ?_;exact ⟨n,by simp at hq;simp [hq],K7.sub (by kernel_rfl),(St_re S7 [0,1] [] (by kernel_rfl))⟩
   · rintro A9 w9 ⟨n2,hn2,K9,S9⟩
     refine wp_seqT (cdPp7 β).sq ?_;refine wp_regT (obPp7 β ov was  _ _ _) (by kernel_rfl) (cdPp7 β).cd (K9.sub (by kernel_rfl)) (St_re S9 [] [0,1] (by kernel_rfl)) λ A10 w10 N10 H10=> ?_;have S10:St w0 fp0 ([X,blkA tb (tT β) #[pV rb2 0,nV o,nV n2]]++R) w10:=H10;have K10:Knows 61 A10 [(8,ov),(9, .bool was),(6,ov),(7, .bool was)]:=N10.knows K9 (by kernel_rfl);refine wp_retT (isRetPp4 β) ?_;refine post_T K10 (res2 (resPp β) K10 (by rfl) (by rfl)) ?_;exact hP X rb2 _ hx (hn2 ▸ S10)
section
variable {β:Bool}
theorem Put_calls {o:Nat} (ho:3<=o) (ho':o<=1024) (h:Nat) (l:MM) (tb:Nat) (k:Ky) (v:Va) (hkk:k.ok β) (hok:OkL β l) (w0 w:World) (fp0:List Nat) (R:List Asn) (hlen:l.length < 1099511627775)
 (hS:St w0 fp0 (objA β o h l tb::R) w):
 Calls Tryz.prog (fPut β) #[ptrV tb,encK k,encV v] w λ e w'=> e=.returned (.tuple #[encV ((getM l k).getD (va0 β)), .bool (getM l k).isSome])/\∃h',St w0 fp0 (objA β o h' (putM l k v) tb::R) w':=by
 obtain ⟨x,rb,⟨g1,g2,g3⟩,hS1⟩:=hS.openOT;obtain ⟨p1,p2⟩:=putT_spec ho k v h _ x g1 g2;have hget:=getT_spec k h _ _ x g1 g2;rw [g3] at p2 hget;have hpl:=putM_lengthT l k v (by rw [<-g3];exact g2);have hasc:AscM (putM l k v):=ascM_putM (by rw [<-g3];exact g2) k v;refine Put_flat β tb o rb (putT o h x k v).es.length l.length (encK k) (encV v) (encV ((getM l k).getD (va0 β))) (getM l k).isSome (treeA β h x rb) (treeA β h (putT o h x k v) rb) (λ nr=> treeA β (h+1) (splitT o 0 (.node [] [putT o h x k v])) nr) (by omega)
  (λ w0 fp0 R w hs=> by rw [<-hget];exact put_calls ho ho' tb (ptrV rb) (.int .i64 l.length) k v hkk h _ x rb w0 w fp0 R g1 g2 (by rw [g3];exact hok) hs)
  (λ w f hf=> by obtain ⟨ka,kc,_,_,e,_⟩:=tree_lookT hf;exact ⟨ka,kc,e⟩)
  (λ hom nr gx w0 fp0 R w hs=> ?_) _ w0 w fp0 R ?_ hS1
 · have hxo:(putT o h x k v).es.length=o:=by have:=p1.hi;omega
   have hck:(putT o h x k v).cs=[]\/(putT o h x k v).cs.length=o+1:=by
    rcases p1.kids with ⟨_,e⟩ | ⟨_,_,e,_⟩
    · exact .inl e
    · exact .inr (by rw [e,hxo])
   have h6:St w0 fp0 (blkA nr (tN β) #[.slice none 0 0, .slice none 0 0, .slice (some ⟨gx,0,none⟩) 1 1]::boxA (tP β) (.slice (some ⟨gx,0,none⟩) 1 1) (ptrV rb)::treeA β h (putT o h x k v) rb::blkA tb (tT β) #[.pointer (some ⟨nr,0,none⟩), .int .i64 o, .int .i64 l.length]::R) w:=hs;have h7:=split_calls (h:=h) ho ho' tb (ptrV nr) (.int .i64 l.length) (.node [] [putT o h x k v]) 0 (putT o h x k v) nr w0 w fp0 R rfl rfl (by simp [es_node]) hxo hck h6.overT;exact h7
 · intro X rb2 w' hx h3
   refine ⟨rfl,?_⟩;have hn:(if (getM l k).isSome=true then l.length else l.length+1)=(putM l k v).length:=hpl.symm;rw [hn] at h3;rcases hx with ⟨hlt,rfl,rfl⟩ | ⟨hge,rfl⟩
   · exact ⟨h,St.shutOT ⟨p1.mono p1.lo (by omega),by rw [p2];exact hasc,p2⟩ h3⟩
   · have hxo:(putT o h x k v).es.length=o:=by have:=p1.hi;omega
     have Hsp:=split_spec ho (x:=.node [] [putT o h x k v]) (i:=0) (c:=putT o h x k v) rfl rfl (p1.mono (by rw [hxo];unfold least;omega) (by omega)) hxo (by simp) (by simp [cs_node]);have HT:toL (h+1) (splitT o 0 (.node [] [putT o h x k v]))=putM l k v:=by rw [Hsp.2.2,toL_cons,p2];simp [post]
     have HB:Body o (h+1) (rootB (h+1)) (o - 1) (splitT o 0 (.node [] [putT o h x k v])):=Hsp.2.1.mono (by have:=Hsp.2.1.lo;simpa [rootB,es_node] using this) (by have:=Hsp.2.1.hi;simp [es_node] at this;omega);exact ⟨h+1,St.shutOT ⟨HB,by rw [HT];exact hasc,HT⟩ h3⟩
end
section
variable {β:Bool}
theorem delM_lengthT (l:MM) (k:Ky):(delM l k).length=if (getM l k).isSome then l.length - 1 else l.length:=by
 induction l with
 | nil=> rfl
 | cons x l ih=>
  rw [delM,getM];by_cases he:eqK x.1 k=true
  · simp [he]
  · simp only [he,Bool.false_eq_true,if_false,List.length_cons,ih]
    split
    · have:0 < l.length:=by
       cases l with
       | nil=> simp_all [getM]
       | cons=> simp
      omega
    · rfl
theorem tree_nodeT {w:World} {h:Nat} {x:TT} {b:Nat} {f:List Nat} (ht:(treeA β h x b).p w f):∃(ks vs:Value) (pa:Option Addr) (pc:Nat) (bs f1:List Nat),bs.length=x.cs.length/\(blkA b (tN β) #[ks,vs, .slice pa x.cs.length pc]).p w f1:=by
 rw [treeA_eq] at ht;obtain ⟨⟨ks,vs,ps,bs⟩,hq⟩:=ht;have hst:Star w (nodeL β (kidA β h) x b (ks,vs,ps,bs)) f:=hq;obtain ⟨_,⟨hl,_⟩,_⟩:=Star.get 0 rfl hst;obtain ⟨f1,h1,_⟩:=Star.get 1 rfl hst;obtain ⟨f4,h4,_⟩:=Star.get 4 rfl hst;simp only at hl h1 h4;obtain ⟨pa,pc,rfl,_⟩:=sl_get h4;rw [List.length_map,hl] at h1;exact ⟨ks,vs,pa,pc,bs,f1,hl,h1⟩
theorem tree_leafT {w:World} {h:Nat} {x:TT} {b:Nat} {f:List Nat} (ht:(treeA β h x b).p w f):Calls Tryz.prog (fLeaf β) #[ptrV b] w λ e w'=> e=.returned (.bool (x.cs.length==0))/\Below w.heap.size w w':=by
 obtain ⟨ks,vs,pa,pc,bs,f1,_,h1⟩:=tree_nodeT ht;exact (leaf_calls b ks vs pa _ pc w h1).mono λ e w' ⟨a,b⟩=> ⟨a,b ▸ Below.refl _ _⟩
theorem Delete_calls {o:Nat} (ho:3<=o) (ho':o<=1024) (h:Nat) (l:MM) (tb:Nat) (k:Ky) (hkk:k.ok β) (hok:OkL β l) (w0 w:World) (fp0:List Nat) (R:List Asn) (hlen:l.length < 1099511627775)
 (hS:St w0 fp0 (objA β o h l tb::R) w):
 Calls Tryz.prog (fDelete β) #[ptrV tb,encK k] w λ e w'=> e=.returned (.tuple #[encV ((getM l k).getD (va0 β)), .bool (getM l k).isSome])/\∃h',St w0 fp0 (objA β o h' (delM l k) tb::R) w':=by
 obtain ⟨x,rb,⟨g1,g2,g3⟩,hS1⟩:=hS.openOT;have hxp:h≠0->0 < x.es.length:=by intro h0;have:=g1.lo;unfold rootB at this;rw [if_neg h0] at this;omega
 obtain ⟨p1,p2⟩:=removeT_spec ho h _ x k g1 hxp g2;have hget:=getT_spec k h _ _ x g1 g2;rw [g3] at p2 hget;have hdl:=delM_lengthT l k;have hasc:AscM (delM l k):=ascM_delM (by rw [<-g3];exact g2) k;have hn0:(getM l k).isSome=true->0 < l.length:=by
  intro e;cases l with
  | nil=> simp [getM] at e
  | cons=> simp
 have hlow:∀h' c,h=h'+1->(removeT o h x k).es.length=0->(removeT o h x k).cs[0]? =some c->Body o h' (rootB h') (o - 1) c/\toL h' c=delM l k:=by intro h' c e hm hc;subst e;obtain ⟨_,_,k3,k4⟩:=p1;have hcb:=k4 c (List.mem_of_getElem? hc);have he:(removeT o (h'+1) x k).es=[]:=List.length_eq_zero_iff.1 hm;rw [hm] at k3;obtain ⟨d,hd⟩:=List.length_eq_one_iff.1 k3;rw [hd] at hc;obtain rfl:=Option.some.inj hc;refine ⟨hcb.mono (by have:=hcb.lo;obtain ⟨q1,_⟩:=least_two ho;unfold rootB;split <;> omega) hcb.hi,?_⟩;rw [<-p2,<-T.eta (removeT o (h'+1) x k),he,hd];have:=toL_last h' ([]:MM) [] d rfl;simpa [pre] using this.symm
 refine Delete_flat β tb o rb (removeT o h x k).es.length (removeT o h x k).cs.length l.length (encK k) (encV ((getM l k).getD (va0 β))) (getM l k).isSome (treeA β h x rb) (treeA β h (removeT o h x k) rb) (λ nr=> exA λ q:Nat×TT=> starA [pureA (h=q.1+1/\(removeT o h x k).cs[0]? =some q.2),treeA β q.1 q.2 nr]) (by have:=p1.hi;omega) (by omega) hn0
  (λ w0 fp0 R w hs=> by rw [<-hget];exact remove_calls ho ho' tb (ptrV rb) (.int .i64 l.length) h _ x rb k w0 w fp0 R hkk g1 hxp g2 (by rw [g3];exact hok) hs)
  (λ w f hf=> by obtain ⟨ka,kc,_,_,e,_⟩:=tree_lookT hf;exact ⟨ka,kc,e⟩)
  (λ w f hf=> tree_leafT hf)
  (λ hm hn w0 fp0 R w hs=> ?_) _ w0 w fp0 R ?_ hS1
 · cases h with
   | zero=> exact absurd (by rw [p1.2.2];rfl) hn
   | succ h'=>
    obtain ⟨c,hc⟩:∃c,(removeT o (h'+1) x k).cs[0]? =some c:=⟨_,List.getElem?_eq_getElem (by omega)⟩
    obtain ⟨ks,vs,ps,bs,cb,hl,hbi,h1⟩:=hs.viewT 0 hc;obtain ⟨_,q⟩:=h1.has 3 rfl;obtain ⟨gp,pc,rfl,_⟩:=sl_some q (by rw [List.length_map];omega);rw [List.length_map,hl] at h1;refine ⟨ks,vs,gp,pc,cb,bs.map ptrV,by rw [List.getElem?_map,hbi];rfl,?_⟩;have h2:=St.drop (St.drop (St.drop (St_re (L:=[_,_,_,_,_,_,_]) h1 [1,2,4,5,0,3,6] [] (by kernel_rfl))));have h3:St w0 fp0 ([pureA (h'+1=h'+1/\(removeT o (h'+1) x k).cs[0]? =some c),treeA β h' c cb]++([_,_,_]++R)) w:=St.pure.2 ⟨⟨rfl,hc⟩,h2⟩;have h4:=h3.fold (B:=exA λ q:Nat×TT=> starA [pureA (h'+1=q.1+1/\(removeT o (h'+1) x k).cs[0]? =some q.2),treeA β q.1 q.2 cb]) λ f hf=> ⟨(h',c),hf⟩
    exact St_re (L:=[_,_,_,_]) h4 [1,2,0,3] [] (by kernel_rfl)
 · intro X rb2 w' hx h3
   refine ⟨rfl,?_⟩;rw [<-hdl] at h3;rcases hx with ⟨hne,rfl,rfl⟩ | ⟨⟨hm,hn⟩,rfl⟩
   · refine ⟨h,St.shutOT ⟨p1.mono ?_ p1.hi,by rw [p2];exact hasc,p2⟩ h3⟩
     unfold rootB;split
     · exact Nat.zero_le _
     · rename_i h0
       rcases p1.kids with ⟨e0,_⟩ | ⟨h',_,hk,_⟩
       · exact absurd e0 h0
       · by_cases hm0:(removeT o h x k).es.length=0
         · exact absurd ⟨hm0,by omega⟩ hne
         · omega
   · obtain ⟨⟨h',c⟩,h4⟩:=h3.unfold (L1:=λ q:Nat×TT=> [pureA (h=q.1+1/\(removeT o h x k).cs[0]? =some q.2),treeA β q.1 q.2 rb2]) λ f ⟨q,hq⟩=> ⟨q,hq⟩
     obtain ⟨⟨e1,e2⟩,h5⟩:=St.pure.1 h4;obtain ⟨e3,e4⟩:=hlow h' c e1 hm e2;exact ⟨h',St.shutOT ⟨e3,by rw [e4];exact hasc,e4⟩ h5⟩
end
section
variable {β:Bool}
theorem obj_len {w:World} {o h:Nat} {l:MM} {tb:Nat} {f:List Nat} (hS:(objA β o h l tb).p w f):∃rb f1,(blkA tb (tT β) #[ptrV rb, .int .i64 o, .int .i64 l.length]).p w f1:=by
 obtain ⟨⟨x,rb⟩,hq⟩:=hS;have hst:Star w [pureA (GoodT o h l x),blkA tb (tT β) #[ptrV rb, .int .i64 o, .int .i64 l.length],treeA β h x rb] f:=hq;obtain ⟨f1,h1,_⟩:=Star.get 1 rfl hst;exact ⟨rb,f1,h1⟩
theorem Len_calls {o h:Nat} {l:MM} (tb:Nat) (w:World) {f:List Nat} (hS:(objA false o h l tb).p w f):
 Calls Tryz.prog 73 #[ptrV tb] w λ e w'=> e=.returned (.int .i64 l.length)/\w=w':=by
 obtain ⟨rb,_,hb⟩:=obj_len hS;have c2:=(blk_get hb).1 2;have c2l:=(blk_get hb).2.2;simp only [List.getElem?_toArray,List.getElem?_cons_zero,List.getElem?_cons_succ] at c2;clear hb hS;unfold ptrV;go_enter Tryz.func73,Tryz.ntmps73;go_wp2;go_ret;exact ⟨rfl,rfl⟩
end
def gGt2 (b i n2 c2:Nat) (ks vs kk:Value) (q:Bool) (a2:Option Addr) (xs:List Value):=rg Tryz.prog (BGet false) 2 38 [(15,3),(14,1),(18,2),(7,2)] [(6,pV b 0),(1,kk)] (Vq 0 15 [Kp b 0,Kv kk,Kv (.tuple #[nV i, .bool q])]++Vq 3 14 [Kv (.tuple #[nV i, .bool q])]++Vq 4 18 [Kn i,Kv (.bool q)]++Vq 6 7 [Kn i,Kv (.bool q)]) [Bk b (tN false) [ks,vs, .slice a2 n2 c2], .sl (tK false) (ks) xs []]
theorem obGt2 (b i n2 c2:Nat) (ks vs kk:Value) (q:Bool) (a2:Option Addr) (xs:List Value) (hfind:∀w fp fp',(blkA b (tN false) #[ks,vs, .slice a2 n2 c2]).p w fp->(slA (tK false) ks xs).p w fp'->Calls Tryz.prog (fFind false) #[ptrV b,kk] w λ e w'=> e=.returned (.tuple #[.int .i64 i, .bool q])/\Below w.heap.size w w') (w0:World) (fp0:List Nat) (R:List Asn):(gGt2 b i n2 c2 ks vs kk q a2 xs w0 fp0 R).Ok 8:=by
 exact Rg.ok _ 8 [2] ⟨.ask2 _ 2 0 1 hfind,trivial⟩
theorem cdGt2:IsSq (BGet false) [1,1,4,4,4] 2:=by exact isq (by kernel_rfl)
theorem sqGt0:Sq (BGet false) [1,1,4,4,4,1]:=by exact isQ (by kernel_rfl)
def gGt3 (q:Bool):=rg Tryz.prog (BGet false) 3 38 [(20,1)] [(8, .bool q)] (Vq 0 20 [Kv (.bool q)]) []
theorem obGt3 (q:Bool)  (w0:World) (fp0:List Nat) (R:List Asn):(gGt3 q w0 fp0 R).Ok 1:=by
 exact Rg.ok _ 1 [] trivial
theorem cdGt3:IsSq (BGet false) [1,1,4,4,4,1,0] 3:=by exact isq (by kernel_rfl)
theorem ccGt20:isCond (csnd (cfst (csnd (cbody (cbody (cbody (csnd (csnd (bodyC (BGet false))))))))))=true/\ccond (csnd (cfst (csnd (cbody (cbody (cbody (csnd (csnd (bodyC (BGet false))))))))))=.tmp 20:=by exact ⟨kr (by kernel_rfl),kr (by kernel_rfl)⟩
def gGt4 (b gv cv n2 c2 i:Nat) (ks y:Value) (a2:Option Addr) (ys:List Value):=rg Tryz.prog (BGet false) 4 38 [(21,7),(4,2)] [(6,pV b 0),(7,nV i)] (Vq 0 21 [Kp b 0,Kp b 0,Kp b 1,Ks gv ys.length cv,Kn i,Kp gv i,Kv y]++Vq 7 4 [Kv y,Kv (.bool true)]) [Bk b (tN false) [ks,sV gv ys.length cv, .slice a2 n2 c2], .sl (tV false) (sV gv ys.length cv) ys []]
theorem obGt4 (b gv cv n2 c2 i:Nat) (ks y:Value) (a2:Option Addr) (ys:List Value) (hin:i < ys.length) (hyi:ys[i]? =some y) (w0:World) (fp0:List Nat) (R:List Asn):(gGt4 b gv cv n2 c2 i ks y a2 ys w0 fp0 R).Ok 9:=by
 exact Rg.ok _ 9 [3,5,6] ⟨.load _ 3 0 1, .index _ 5 gv ys.length cv i hin, .elem _ 6 1 i hyi,trivial⟩
theorem cdGt4:IsSq (BGet false) [1,1,4,4,4,1,0,1,2] 4:=by exact isq (by kernel_rfl)
theorem isRetGt1:isRet (csnd (cthen (csnd (cfst (csnd (cbody (cbody (cbody (csnd (csnd (bodyC (BGet false))))))))))))=true:=by exact kr (by kernel_rfl)
theorem isSkipGt2:isSkip (celse (csnd (cfst (csnd (cbody (cbody (cbody (csnd (csnd (bodyC (BGet false)))))))))))=true:=by exact kr (by kernel_rfl)
theorem sqGt3:Sq (BGet false) [1,1,4,4,4,1,1]:=by exact isQ (by kernel_rfl)
def gGt5 (b n2 c2:Nat) (ks vs:Value) (a2:Option Addr):=rg Tryz.prog (BGet false) 5 38 [(28,2)] [(6,pV b 0)] (Vq 0 28 [Kp b 0,Kv (.bool (n2==0))]) [Bk b (tN false) [ks,vs, .slice a2 n2 c2]]
theorem obGt5 (b n2 c2:Nat) (ks vs:Value) (a2:Option Addr)  (w0:World) (fp0:List Nat) (R:List Asn):(gGt5 b n2 c2 ks vs a2 w0 fp0 R).Ok 2:=by
 exact Rg.ok _ 2 [1] ⟨.ask1 _ 1 0 (λ w fp h=> (leaf_calls b _ _ a2 n2 c2 w h).mono λ e w' ⟨h1,h2⟩=> ⟨h1,h2 ▸ Below.refl _ _⟩),trivial⟩
theorem cdGt5:IsSq (BGet false) [1,1,4,4,4,1,1,0] 5:=by exact isq (by kernel_rfl)
theorem ccGt29:isCond (csnd (cfst (csnd (csnd (cbody (cbody (cbody (csnd (csnd (bodyC (BGet false)))))))))))=true/\ccond (csnd (cfst (csnd (csnd (cbody (cbody (cbody (csnd (csnd (bodyC (BGet false)))))))))))=.tmp 29:=by exact ⟨kr (by kernel_rfl),kr (by kernel_rfl)⟩
def gGt6  :=rg Tryz.prog (BGet false) 6 38 [(9,1)] [] (Vq 0 9 [Kv (encV (va0 false))]) []
theorem obGt6   (w0:World) (fp0:List Nat) (R:List Asn):(gGt6  w0 fp0 R).Ok 1:=by
 exact Rg.ok _ 1 [] trivial
theorem cdGt6:IsSq (BGet false) [1,1,4,4,4,1,1,0,1,2] 6:=by exact isq (by kernel_rfl)
def gGt7  :=rg Tryz.prog (BGet false) 7 38 [(30,1),(4,2)] [(9,encV (va0 false))] (Vq 0 30 [Kv (encV (va0 false))]++Vq 1 4 [Kv (encV (va0 false)),Kv (.bool false)]) []
theorem obGt7   (w0:World) (fp0:List Nat) (R:List Asn):(gGt7  w0 fp0 R).Ok 3:=by
 exact Rg.ok _ 3 [] trivial
theorem cdGt7:IsSq (BGet false) [1,1,4,4,4,1,1,0,1,2,1] 7:=by exact isq (by kernel_rfl)
theorem isRetGt4:isRet (csnd (csnd (cthen (csnd (cfst (csnd (csnd (cbody (cbody (cbody (csnd (csnd (bodyC (BGet false))))))))))))))=true:=by exact kr (by kernel_rfl)
theorem isSkipGt5:isSkip (celse (csnd (cfst (csnd (csnd (cbody (cbody (cbody (csnd (csnd (bodyC (BGet false))))))))))))=true:=by exact kr (by kernel_rfl)
def gGt8 (b gp n2 c2 cb i:Nat) (ks vs:Value) (zs:List Value):=rgq Tryz.prog (BGet false) 8 38 [(31,7),(6,1)] [(7,nV i)] [(6,pV b 0,7)] (Vq 0 31 [Kp b 0,Kp b 0,Kp b 2,Ks gp n2 c2,Kn i,Kp gp i,Kp cb 0]++Vq 7 6 [Kp cb 0]) [Bk b (tN false) [ks,vs,sV gp n2 c2], .sl (tP false) (sV gp n2 c2) zs []]
theorem obGt8 (b gp n2 c2 cb i:Nat) (ks vs:Value) (zs:List Value) (hi:i < n2) (hzi:zs[i]? =some (ptrV cb)) (w0:World) (fp0:List Nat) (R:List Asn):(gGt8 b gp n2 c2 cb i ks vs zs w0 fp0 R).Ok 8:=by
 exact Rg.ok _ 8 [3,5,6] ⟨.load _ 3 0 2, .index _ 5 gp n2 c2 i hi, .elem _ 6 1 i hzi,trivial⟩
theorem cdGt8:IsRg (BGet false) [1,1,4,4,4,1,1,1] 8:=by exact irg (by kernel_rfl)
theorem get_round (b i n2 c2 cb:Nat) (ks vs kk y:Value) (q:Bool) (a2:Option Addr) (xs ys zs:List Value) (hlz:zs.length < 1099511627776) (hn2:n2=zs.length)
 (hfind:∀w fp fp',(blkA b (tN false) #[ks,vs, .slice a2 n2 c2]).p w fp->(slA (tK false) ks xs).p w fp'->Calls Tryz.prog (fFind false) #[ptrV b,kk] w λ e w'=> e=.returned (.tuple #[.int .i64 i, .bool q])/\Below w.heap.size w w')
 (hy:q=true->ys[i]? =some y) (hz:n2≠0->zs[i]? =some (ptrV cb)) (w0 w:World) (fp0:List Nat) (R:List Asn) (A0:Act) (Q:Exit->Act->World->Prop)
 (hF:q=true->∀A w',Knows 38 A [(4,y),(5, .bool true)]->St w0 fp0 ([blkA b (tN false) #[ks,vs, .slice a2 n2 c2],slA (tK false) (ks) xs,slA (tV false) (vs) ys,slA (tP false) (.slice a2 n2 c2) zs]++R) w'->Q .ret A w')
 (hL:q=false->n2=0->∀A w',Knows 38 A [(4,encV (va0 false)),(5, .bool false)]->St w0 fp0 ([blkA b (tN false) #[ks,vs, .slice a2 n2 c2],slA (tK false) (ks) xs,slA (tV false) (vs) ys,slA (tP false) (.slice a2 n2 c2) zs]++R) w'->Q .ret A w')
 (hI:q=false->n2≠0->∀A w',Knows 38 A [(1,kk),(6, .pointer (some ⟨cb,0,none⟩))]->St w0 fp0 ([blkA b (tN false) #[ks,vs, .slice a2 n2 c2],slA (tK false) (ks) xs,slA (tV false) (vs) ys,slA (tP false) (.slice a2 n2 c2) zs]++R) w'->Q .normal A w')
 (K0:Knows 38 A0 [(1,kk),(6, .pointer (some ⟨b,0,none⟩))]) (hS:St w0 fp0 ([blkA b (tN false) #[ks,vs, .slice a2 n2 c2],slA (tK false) (ks) xs,slA (tV false) (vs) ys,slA (tP false) (.slice a2 n2 c2) zs]++R) w):(cbody (cbody (cbody (csnd (csnd (bodyC (BGet false))))))).wp Tryz.prog Q A0 w:=by
 refine wp_seqT (cdGt2).sq ?_;refine wp_regT (obGt2 b i n2 c2 ks vs kk q a2 xs hfind _ _ _) (by kernel_rfl) (cdGt2).cd (K0.sub (by kernel_rfl)) (St_re hS [0,1] [2,3] (by kernel_rfl)) λ A1 w1 N1 H1=> ?_;have S1:St w0 fp0 ([blkA b (tN false) #[ks,vs, .slice a2 n2 c2],slA (tK false) (ks) xs,slA (tV false) (vs) ys,slA (tP false) (.slice a2 n2 c2) zs]++R) w1:=H1;have K1:Knows 38 A1 [(1,kk),(6,pV b 0),(7,nV i),(8, .bool q)]:=N1.knows K0 (by kernel_rfl);refine wp_seqJ (sqGt0) (λ A w=> ∃(hqf:q=false),Knows 38 A [(1,kk),(6,pV b 0),(7,nV i)]/\St w0 fp0 ([blkA b (tN false) #[ks,vs, .slice a2 n2 c2],slA (tK false) (ks) xs,slA (tV false) (vs) ys,slA (tP false) (.slice a2 n2 c2) zs]++R) w) ?_ ?_
 · skip
   refine wp_seqT (cdGt3).sq ?_;refine wp_regT (obGt3 q  _ _ _) (by kernel_rfl) (cdGt3).cd (K1.sub (by kernel_rfl)) (St_re S1 [] [0,1,2,3] (by kernel_rfl)) λ A2 w2 N2 H2=> ?_;have S2:St w0 fp0 ([blkA b (tN false) #[ks,vs, .slice a2 n2 c2],slA (tK false) (ks) xs,slA (tV false) (vs) ys,slA (tP false) (.slice a2 n2 c2) zs]++R) w2:=H2;have K2:Knows 38 A2 [(1,kk),(6,pV b 0),(7,nV i),(8, .bool q),(20, .bool q)]:=N2.knows K1 (by kernel_rfl);refine wp_condK (ccGt20) K2 (by rfl) (λ hq=> ?_) (λ hq=> ?_)
   · skip
     subst hq;have hyi:=hy rfl;have hin:i < ys.length:=(List.getElem?_eq_some_iff.1 hyi).1;obtain ⟨_,q3⟩:=St.has S2 2 rfl;obtain ⟨gv,cv,rfl,hvc, -⟩:=sl_some q3 (by omega);refine wp_seqT (cdGt4).sq ?_;refine wp_regT (obGt4 b gv cv n2 c2 i ks y a2 ys hin hyi _ _ _) (by kernel_rfl) (cdGt4).cd (K2.sub (by kernel_rfl)) (St_re S2 [0,2] [1,3] (by kernel_rfl)) λ A3 w3 N3 H3=> ?_;have S3:St w0 fp0 ([blkA b (tN false) #[ks,sV gv ys.length cv, .slice a2 n2 c2],slA (tV false) (sV gv ys.length cv) ys,slA (tK false) (ks) xs,slA (tP false) (.slice a2 n2 c2) zs]++R) w3:=H3;have K3:Knows 38 A3 [(1,kk),(6,pV b 0),(7,nV i),(8, .bool true),(20, .bool true),(4,y),(5, .bool true)]:=N3.knows K2 (by kernel_rfl);refine wp_retT (isRetGt1) ?_;exact hF rfl _ _ (K3.sub (by kernel_rfl)) (St_re S3 [0,2,1,3] [] (by kernel_rfl))
   · skip
     refine wp_skipT (isSkipGt2) ?_;exact ⟨hq,K2.sub (by kernel_rfl),(St_re S2 [0,1,2,3] [] (by kernel_rfl))⟩
 · rintro A4 w4 ⟨hqf,K4,S4⟩
   refine wp_seqJ (sqGt3) (λ A w=> ∃(hn0:n2≠0),Knows 38 A [(1,kk),(6,pV b 0),(7,nV i)]/\St w0 fp0 ([blkA b (tN false) #[ks,vs, .slice a2 n2 c2],slA (tK false) (ks) xs,slA (tV false) (vs) ys,slA (tP false) (.slice a2 n2 c2) zs]++R) w) ?_ ?_
   · skip
     refine wp_seqT (cdGt5).sq ?_;refine wp_regT (obGt5 b n2 c2 ks vs a2  _ _ _) (by kernel_rfl) (cdGt5).cd (K4.sub (by kernel_rfl)) (St_re S4 [0] [1,2,3] (by kernel_rfl)) λ A5 w5 N5 H5=> ?_;have S5:St w0 fp0 ([blkA b (tN false) #[ks,vs, .slice a2 n2 c2],slA (tK false) (ks) xs,slA (tV false) (vs) ys,slA (tP false) (.slice a2 n2 c2) zs]++R) w5:=H5;have K5:Knows 38 A5 [(1,kk),(6,pV b 0),(7,nV i),(29, .bool (n2==0))]:=N5.knows K4 (by kernel_rfl);refine wp_condK (ccGt29) K5 (by rfl) (λ hq=> ?_) (λ hq=> ?_)
     · skip
       have hn0:n2=0:=by simpa using hq
       refine wp_seqT (cdGt6).sq ?_;refine wp_regT (obGt6   _ _ _) (by kernel_rfl) (cdGt6).cd (K5.sub (by kernel_rfl)) (St_re S5 [] [0,1,2,3] (by kernel_rfl)) λ A6 w6 N6 H6=> ?_;have S6:St w0 fp0 ([blkA b (tN false) #[ks,vs, .slice a2 n2 c2],slA (tK false) (ks) xs,slA (tV false) (vs) ys,slA (tP false) (.slice a2 n2 c2) zs]++R) w6:=H6;have K6:Knows 38 A6 [(1,kk),(6,pV b 0),(7,nV i),(29, .bool (n2==0)),(9,encV (va0 false))]:=N6.knows K5 (by kernel_rfl);refine wp_seqT (cdGt7).sq ?_;refine wp_regT (obGt7   _ _ _) (by kernel_rfl) (cdGt7).cd (K6.sub (by kernel_rfl)) (St_re S6 [] [0,1,2,3] (by kernel_rfl)) λ A7 w7 N7 H7=> ?_;have S7:St w0 fp0 ([blkA b (tN false) #[ks,vs, .slice a2 n2 c2],slA (tK false) (ks) xs,slA (tV false) (vs) ys,slA (tP false) (.slice a2 n2 c2) zs]++R) w7:=H7;have K7:Knows 38 A7 [(1,kk),(6,pV b 0),(7,nV i),(29, .bool (n2==0)),(9,encV (va0 false)),(4,encV (va0 false)),(5, .bool false)]:=N7.knows K6 (by kernel_rfl);refine wp_retT (isRetGt4) ?_;exact hL hqf hn0 _ _ (K7.sub (by kernel_rfl)) (St_re S7 [0,1,2,3] [] (by kernel_rfl))
     · skip
       refine wp_skipT (isSkipGt5) ?_;exact ⟨by simpa using hq,K5.sub (by kernel_rfl),(St_re S5 [0,1,2,3] [] (by kernel_rfl))⟩
   · rintro A8 w8 ⟨hn0,K8,S8⟩
     have hzi:=hz hn0;have hzl:i < zs.length:=(List.getElem?_eq_some_iff.1 hzi).1;obtain ⟨_,q5⟩:=St.has S8 3 rfl;obtain ⟨gp,cp,ep,hpc, -⟩:=sl_some q5 (by omega);obtain ⟨rfl, -,rfl⟩:=Value.slice.inj ep;refine wp_regT (obGt8 b gp n2 c2 cb i ks vs zs (by omega) hzi _ _ _) (by kernel_rfl) (cdGt8).cd (K8.sub (by kernel_rfl)) (St_re S8 [0,3] [1,2] (by kernel_rfl)) λ A9 w9 N9 H9=> ?_;have S9:St w0 fp0 ([blkA b (tN false) #[ks,vs,sV gp n2 c2],slA (tP false) (sV gp n2 c2) zs,slA (tK false) (ks) xs,slA (tV false) (vs) ys]++R) w9:=H9;have K9:Knows 38 A9 [(1,kk),(7,nV i),(6,pV cb 0)]:=N9.knows K8 (by kernel_rfl);exact hI hqf hn0 _ _ (K9.sub (by kernel_rfl)) (St_re S9 [0,2,3,1] [] (by kernel_rfl))
theorem entGu:Tryz.prog.funcs[fGet false]? =some (BGet false)/\(BGet false).body=some (bodyC (BGet false))/\(BGet false).ntmps=38:=by exact ⟨kr (by kernel_rfl),kr (by kernel_rfl),kr (by kernel_rfl)⟩
def gGu0  :=rg Tryz.prog (BGet false) 0 38 [(4,2)] [] (Vq 0 4 [Kv (encV (va0 false)),Kv (.bool false)]) []
theorem obGu0   (w0:World) (fp0:List Nat) (R:List Asn):(gGu0  w0 fp0 R).Ok 2:=by
 exact Rg.ok _ 2 [] trivial
theorem cdGu0:IsSq (BGet false) [] 0:=by exact isq (by kernel_rfl)
def gGu1 (tb rb:Nat) (oo nn:Value):=rg Tryz.prog (BGet false) 1 38 [(10,4),(6,1)] [(0,pV tb 0)] (Vq 0 10 [Kp tb 0,Kp tb 0,Kp tb 0,Kp rb 0]++Vq 4 6 [Kp rb 0]) [Bk tb (tT false) [pV rb 0,oo,nn]]
theorem obGu1 (tb rb:Nat) (oo nn:Value)  (w0:World) (fp0:List Nat) (R:List Asn):(gGu1 tb rb oo nn w0 fp0 R).Ok 5:=by
 exact Rg.ok _ 5 [3] ⟨.load _ 3 0 0,trivial⟩
theorem cdGu1:IsSq (BGet false) [1] 1:=by exact isq (by kernel_rfl)
theorem resGu:(BGet false).results=#[.tmp 4, .tmp 5]:=by exact kr (by kernel_rfl)
theorem get_flat (tb rb:Nat) (kk oo nn:Value) (T0:Asn) (w0 w:World) (fp0:List Nat) (R:List Asn) (Rr:Ending->World->Prop)
 (HL:∀(Q:Exit->Act->World->Prop) (A:Act) (w:World),Knows 38 A [(1,kk),(6, .pointer (some ⟨rb,0,none⟩))]->St w0 fp0 ([blkA tb (tT false) #[.pointer (some ⟨rb,0,none⟩),oo,nn]]++(T0::R)) w->
  (∀(A:Act) (w:World) (v1 v2:Value),Knows 38 A [(4,v1),(5,v2)]->St w0 fp0 ([blkA tb (tT false) #[.pointer (some ⟨rb,0,none⟩),oo,nn]]++(T0::R)) w->(∀w',St w0 fp0 ([blkA tb (tT false) #[.pointer (some ⟨rb,0,none⟩),oo,nn]]++(T0::R)) w'->Rr (.returned (.tuple #[v1,v2])) w')->Q .ret A w)->(csnd (csnd (bodyC (BGet false)))).wp Tryz.prog Q A w)
 (hS:St w0 fp0 ([blkA tb (tT false) #[.pointer (some ⟨rb,0,none⟩),oo,nn]]++(T0::R)) w):Calls Tryz.prog (fGet false) #[ptrV tb,kk] w Rr:=by
 refine calls_T [(0,pV tb 0),(1,kk)] (entGu) (by simp) (by kernel_rfl) λ A0 K0=> ?_;refine wp_seqT (cdGu0).sq ?_;refine wp_regT (obGu0   _ _ _) (by kernel_rfl) (cdGu0).cd (K0.sub (by kernel_rfl)) (St_re hS [] [0] (by kernel_rfl)) λ A1 w1 N1 H1=> ?_;have S1:St w0 fp0 ([blkA tb (tT false) #[pV rb 0,oo,nn]]++(T0::R)) w1:=H1;have K1:Knows 38 A1 [(0,pV tb 0),(1,kk),(4,encV (va0 false)),(5, .bool false)]:=N1.knows K0 (by kernel_rfl);refine wp_seqT (cdGu1).sq ?_;refine wp_regT (obGu1 tb rb oo nn  _ _ _) (by kernel_rfl) (cdGu1).cd (K1.sub (by kernel_rfl)) (St_re S1 [0] [] (by kernel_rfl)) λ A2 w2 N2 H2=> ?_;have S2:St w0 fp0 ([blkA tb (tT false) #[pV rb 0,oo,nn]]++(T0::R)) w2:=H2;have K2:Knows 38 A2 [(0,pV tb 0),(1,kk),(4,encV (va0 false)),(5, .bool false),(6,pV rb 0)]:=N2.knows K1 (by kernel_rfl);refine HL _ _ _ (K2.sub (by kernel_rfl)) S2 λ A w v1 v2 K S hr=> post_T K (res2 (resGu) K (by rfl) (by rfl)) (hr _ S)
section
variable {β:Bool}
theorem St.kidout {w0 w:World} {fp0:List Nat} {L:List Asn} {h i:Nat} {cs:List TT} {bs:List Nat} {c:TT} {cb:Nat} (hl:bs.length=cs.length) (hc:cs[i]? =some c) (hb:bs[i]? =some cb):
 St w0 fp0 (starA (List.zipWith (treeA β h) cs bs)::L) w↔St w0 fp0 (treeA β h c cb::restA β h i (i+1) cs bs::L) w:=by
 rw [zip3T h i (i+1) (Nat.le_succ i) cs bs hl,mid1 hc,mid1 hb];have hp:((List.zipWith (treeA β h) (cs.take i) (bs.take i)++(List.zipWith (treeA β h) [c] [cb]++List.zipWith (treeA β h) (cs.drop (i+1)) (bs.drop (i+1))))++L).Perm ((List.zipWith (treeA β h) (cs.take i) (bs.take i)++List.zipWith (treeA β h) (cs.drop (i+1)) (bs.drop (i+1)))++(treeA β h c cb::L)):=by classical refine List.perm_iff_count.2 λ a=> ?_;simp only [List.zipWith,List.cons_append,List.nil_append,List.count_append,List.count_cons];omega
 constructor
 · intro h0
   have h1:St w0 fp0 (restA β h i (i+1) cs bs::treeA β h c cb::L) w:=St.star.2 ((St.star.1 h0).perm hp);exact h1.perm (List.Perm.swap _ _ _)
 · intro h0
   have h1:St w0 fp0 (restA β h i (i+1) cs bs::treeA β h c cb::L) w:=h0.perm (List.Perm.swap _ _ _);exact St.star.2 ((St.star.1 h1).perm hp.symm)
theorem lpGt:isBlk (csnd (csnd (bodyC (BGet false))))=true/\isLoop (cbody (csnd (csnd (bodyC (BGet false)))))=true/\isBlk (cbody (cbody (csnd (csnd (bodyC (BGet false))))))=true:=by exact ⟨kr (by kernel_rfl),kr (by kernel_rfl),kr (by kernel_rfl)⟩
theorem get_loop {o:Nat} (ho':o<=1024) (k:Ky) (hkk:k.ok false):∀(h lo:Nat) (x:TT) (nb:Nat) (w0 w:World) (fp0:List Nat) (R:List Asn) (A:Act) (Q:Exit->Act->World->Prop),Body o h lo (o - 1) x->AscM (toL h x)->OkL false (toL h x)->Knows 38 A [(1,encK k),(6, .pointer (some ⟨nb,0,none⟩))]->St w0 fp0 (treeA false h x nb::R) w->
 (∀(A:Act) (w:World),Knows 38 A [(4,encV ((getT h x k).getD (va0 false))),(5, .bool (getT h x k).isSome)]->St w0 fp0 (treeA false h x nb::R) w->Q .ret A w)->
 Code.rounds Tryz.prog (cbody (cbody (csnd (csnd (bodyC (BGet false)))))) Q (h+1) A w
 | h,lo,x,nb,w0,w,fp0,R,A,Q,hb,ha,hok,K,hS,hQ=> by
  rw [rounds_succ];refine wp_blkT lpGt.2.2 ?_;have hlen:x.es.length < 1099511627776:=by have:=hb.hi;omega
  have hae:AscM x.es:=asc_es ha;have hpk:=posK_le x.es k;obtain ⟨y,hy⟩:∃y:Ky×Va,hasK x.es k=true->x.es[posK x.es k]? =some y:=by
   cases hh:hasK x.es k with
   | true=> obtain ⟨y,hy⟩:=pos_get hh;exact ⟨y,λ _=> hy⟩
   | false=> exact ⟨(k, .int 0),λ h=> nomatch h⟩
  have hyv:hasK x.es k=true->(valsV x.es)[posK x.es k]? =some (encV y.2):=λ hq=> by simp [valsV,hy hq]
  have hg:hasK x.es k=true->getT h x k=some y.2:=λ hq=> by cases h <;> simp [getT,hq,hy hq]
  obtain ⟨ks,vs,ps,bs,hl,h1⟩:=hS.openNT;obtain ⟨_,q3⟩:=h1.has 3 rfl;obtain ⟨pa,pc,rfl,_⟩:=sl_get q3;have hbsl:bs.length<=1025:=by
   rcases hb.kids with ⟨_,e⟩ | ⟨_,_,e,_⟩
   · rw [hl,e];simp
   · have:=hb.hi;omega
  rw [List.length_map] at h1;obtain ⟨cb,hcb⟩:∃cb,bs.length≠0->bs[posK x.es k]? =some cb:=by
   by_cases h0:bs.length=0
   · exact ⟨0,λ hh=> absurd h0 hh⟩
   · have:posK x.es k < bs.length:=by
      rcases hb.kids with ⟨_,e⟩ | ⟨_,_,e,_⟩
      · rw [hl,e] at h0;exact absurd rfl h0
      · omega
     exact ⟨_,λ _=> List.getElem?_eq_getElem this⟩
  have back:∀w',St w0 fp0 ([blkA nb (tN false) #[ks,vs, .slice pa bs.length pc],slA (tK false) ks (keysV x.es),slA (tV false) vs (valsV x.es),slA (tP false) (.slice pa bs.length pc) (bs.map ptrV)]++(starA (List.zipWith (kidA false h) x.cs bs)::R)) w'->St w0 fp0 (treeA false h x nb::R) w':=by intro w' h2;have h4:=St.shutNT (es:=x.es) (cs:=x.cs) (bs:=bs) (ks:=ks) (vs:=vs) (ps:=.slice pa bs.length pc) hl h2;rw [T.eta] at h4;exact h4
  refine get_round nb (posK x.es k) bs.length pc cb ks vs (encK k) (encV y.2) (hasK x.es k) pa (keysV x.es) (valsV x.es) (bs.map ptrV) (by rw [List.length_map];omega) (by rw [List.length_map]) (λ w fp fp' hbk hkk'=> find_calls nb ks vs _ x.es k hok.es hkk w hbk ⟨_,hkk'⟩ hae hlen) hyv (λ h0=> by rw [List.getElem?_map,hcb h0];rfl) w0 w fp0 _ A _ (λ hq A w' K' h2=> ?_) (λ hq h0 A w' K' h2=> ?_) (λ hq h0 A w' K' h2=> ?_) K h1
  · refine hQ A w' ?_ (back w' h2)
    rw [hg hq];exact K'
  · refine hQ A w' ?_ (back w' h2)
    have hg0:getT h x k=none:=by
     rcases hb.kids with ⟨rfl,_⟩ | ⟨h',rfl,e,_⟩
     · simp [getT,hq]
     · omega
    rw [hg0];exact K'
  · rcases hb.kids with ⟨_,e⟩ | ⟨h',rfl,e,hk⟩
    · rw [hl,e] at h0;exact absurd rfl h0
    · obtain ⟨c,hc⟩:∃c,x.cs[posK x.es k]? =some c:=⟨_,List.getElem?_eq_getElem (by omega)⟩
      have hgc:getT (h'+1) x k=getT h' c k:=by simp [getT,hq,hc]
      have h3:=(St.kidout hl hc (hcb h0)).1 (St_re (L:=[_,_,_,_,_]) h2 [4,0,1,2,3] [] (by kernel_rfl));refine get_loop ho' k hkk h' (least o) c cb w0 w' fp0 _ A Q (hk c (List.mem_of_getElem? hc)) (asc_kid1 e hc ha) (hok.kid e hc) K' h3 λ A w'' K'' h4=> ?_;refine hQ A w'' (by rw [hgc];exact K'') (back w'' ?_);exact St_re (L:=[_,_,_,_,_]) ((St.kidout hl hc (hcb h0)).2 h4) [1,2,3,4,0] [] (by kernel_rfl)
theorem Get_calls {o:Nat} (ho':o<=1024) (h:Nat) (l:MM) (tb:Nat) (k:Ky) (hkk:k.ok false) (hok:OkL false l) (w0 w:World) (fp0:List Nat) (R:List Asn)
 (hS:St w0 fp0 (objA false o h l tb::R) w):
 Calls Tryz.prog (fGet false) #[ptrV tb,encK k] w λ e w'=> e=.returned (.tuple #[encV ((getM l k).getD (va0 false)), .bool (getM l k).isSome])/\St w0 fp0 (objA false o h l tb::R) w':=by
 obtain ⟨x,rb,hg,hS1⟩:=hS.openOT;obtain ⟨g1,g2,g3⟩:=hg;have hget:=getT_spec k h _ _ x g1 g2;rw [g3] at hget;obtain ⟨p1,p2,p3⟩:=lpGt;refine get_flat tb rb (encK k) (.int .i64 o) (.int .i64 l.length) (treeA false h x rb) w0 w fp0 R _ (λ Q A w K S hQ=> ?_) (St_re (L:=[_,_]) hS1 [1,0] [] (by kernel_rfl));refine wp_blkT p1 (wp_loopT (h+1) p2 (get_loop ho' k hkk h _ x rb w0 w fp0 _ A _ g1 g2 (by rw [g3];exact hok) K (St_re (L:=[_,_]) S [1,0] [] (by kernel_rfl)) λ A w' K' h2=> ?_));refine hQ A w' _ _ K' (St_re (L:=[_,_]) h2 [1,0] [] (by kernel_rfl)) λ w' h3=> ?_;rw [hget];exact ⟨rfl,St.shutOT ⟨g1,g2,g3⟩ (St_re (L:=[_,_]) h3 [1,0] [] (by kernel_rfl))⟩
end
section
def Rd (w0:World) (fp0:List Nat) (R:List Asn) (Q:World->Prop):Prop:=∀(L:List Asn) (w:World),St w0 fp0 (L++R) w->Q w
section
variable {w0 w:World} {fp0:List Nat} {R:List Asn} {Q:World->Prop}
theorem Rd.app (h:Rd w0 fp0 R Q) (M:List Asn):Rd w0 fp0 (M++R) Q:=λ L w hs=> h (L++M) w (by rwa [List.append_assoc])
theorem Rd.cons (h:Rd w0 fp0 R Q) (A:Asn):Rd w0 fp0 (A::R) Q:=h.app [A]
theorem Rd.here (h:Rd w0 fp0 R Q) (hs:St w0 fp0 R w):Q w:=h [] w hs
theorem Rd.at (h:Rd w0 fp0 R Q) {M:List Asn} (hs:St w0 fp0 (M++R) w):Q w:=h M w hs
theorem Rd.perm {R':List Asn} (h:Rd w0 fp0 R Q) (hp:R'.Perm R):Rd w0 fp0 R' Q:=λ L w hs=> h L w (hs.perm (List.Perm.append_left L hp))
theorem Rd.imp {Q':World->Prop} (h:Rd w0 fp0 R Q) (hq:∀w,Q w->Q' w):Rd w0 fp0 R Q':=λ L w hs=> hq w (h L w hs)
theorem Rd.of_tr (h:∀w fp,Tr w0 w fp0 fp->Q w):Rd w0 fp0 R Q:=λ _ w hs=> by
 obtain ⟨fp,_,t⟩:=hs;exact h w fp t
theorem Rd.of_piece {A:Asn} (i:Nat) (hi:R[i]? =some A) (h:∀w f,A.p w f->Q w):Rd w0 fp0 R Q:=λ L w hs=> by
 obtain ⟨f,hf⟩:=hs.has (L.length+i) (A:=A) (by rw [List.getElem?_append_right (by omega)];simpa using hi);exact h w f hf
end
structure Re where
 id:Int
 va:Va
 r:Rw
structure Ix where
 cv:Value
 cs:List Int
 kb:Nat
 kh:Nat
 km:MM
structure Sto where
 cols:Nat
 next:Int
 h:Nat
 tb:Nat
 iv:Value
 es:List Re
 ixs:List Ix
def reA (x:Re):Asn:=rowA 29 3 (encV x.va) x.r.length (flat x.r)
def ixA (x:Ix):Asn:=starA [slA 3 x.cv (x.cs.map intC),objA true 16 x.kh x.km x.kb]
def reM (es:List Re):MM:=es.map λ e=> (.int e.id,e.va)
def reL (es:List Re):LL:=es.map λ e=> (e.id,e.r)
def ixV (ixs:List Ix):List Value:=ixs.flatMap λ x=> [x.cv,ptrV x.kb]
def stoL (S:Nat) (s:Sto):List Asn:=
 blkA S 119 #[.int .i64 s.cols,ptrV s.tb, .int .i64 s.next,s.iv]::objA false 16 s.h (reM s.es) s.tb::rowA 97 2 s.iv s.ixs.length (ixV s.ixs)::(s.es.map reA++s.ixs.map ixA)
def RowOk (cols:Nat) (r:Rw):Prop:=r.length=cols/\∀v∈r,okV v=true/\I64 v.int
structure Sto.Ok (s:Sto) (cols:Nat) (I:List (List Int)) (L:LL) (next:Int):Prop where
 eixs:s.ixs.map (·.cs)=I
 ecols:s.cols=cols
 enext:s.next=next
 rows:reL s.es=L
 asc:AscI L
 nx:1<=next/\next<=4611686018427387905
 row:∀x∈L,1<=x.1/\x.1 < next/\RowOk cols x.2
 ixs:∀x∈s.ixs,x.cs≠[]/\x.cs.length<=1000/\(∀c∈x.cs,0<=c/\c < cols)/\IxOk L x.cs x.km/\AscM x.km
def storeA (S cols:Nat) (I:List (List Int)) (L:LL) (next:Int):Asn:=exA λ s:Sto=> starA (pureA (s.Ok cols I L next)::stoL S s)
theorem St.openS {w0 w:World} {fp0:List Nat} {R:List Asn} {S cols:Nat} {I:List (List Int)} {L:LL} {next:Int} (hs:St w0 fp0 (storeA S cols I L next::R) w):∃s:Sto,s.Ok cols I L next/\St w0 fp0 (stoL S s++R) w:=by
 obtain ⟨s,h1⟩:=hs.unfold (L1:=λ s:Sto=> pureA (s.Ok cols I L next)::stoL S s) λ f ⟨q,hq⟩=> ⟨q,hq⟩
 exact ⟨s,St.pure.1 h1⟩
theorem St.shutS {w0 w:World} {fp0:List Nat} {R:List Asn} {S cols:Nat} {I:List (List Int)} {L:LL} {next:Int} {s:Sto} (hk:s.Ok cols I L next) (hs:St w0 fp0 (stoL S s++R) w):St w0 fp0 (storeA S cols I L next::R) w:=by
 have h1:St w0 fp0 ((pureA (s.Ok cols I L next)::stoL S s)++R) w:=St.pure.2 ⟨hk,hs⟩;exact h1.fold λ f hf=> ⟨s,hf⟩
theorem AscI.i64 {L:LL} {next:Int} (hn:next<=4611686018427387905) (h:∀x∈L,1<=x.1/\x.1 < next):∀x∈L,I64 x.1:=λ x hx=> by
 have:=h x hx;unfold I64;omega
theorem reL_asc {es:List Re} (h:AscI (reL es)):es.Pairwise λ a b=> a.id < b.id:=by
 unfold AscI reL at h;rw [List.pairwise_map] at h;exact h
theorem getM_reM {es:List Re} (k:Int):getM (reM es) (.int k)=(es.find? λ e=> e.id==k).map (·.va):=by
 induction es with
 | nil=> rfl
 | cons x es ih=>
  rw [reM,List.map_cons,getM,List.find?_cons];by_cases h:x.id=k
  · rw [if_pos (eqK_iff.2 (by rw [h]))];simp [h]
  · rw [if_neg (λ e=> h (by have:=eqK_iff.1 e;exact Ky.int.inj this))]
    have:(x.id==k)=false:=by simp [h]
    rw [this];exact ih
theorem ltK_int {a b:Int}:ltK (Ky.int a) (Ky.int b)↔a < b:=by
 show cmpS a b < 0↔_;exact cmpS_neg
section
variable {A B:List Re} {k:Int}
theorem reM_lt (hA:∀a∈A,a.id < k):AllLt (reM A) (Ky.int k):=λ x hx=> by
 obtain ⟨a,ha,rfl⟩:=List.mem_map.1 hx;exact ltK_int.2 (hA a ha)
theorem reM_gt (hB:∀b∈B,k < b.id):AllGt (Ky.int k) (reM B):=λ x hx=> by
 obtain ⟨a,ha,rfl⟩:=List.mem_map.1 hx;exact ltK_int.2 (hB a ha)
theorem reL_lt (hA:∀a∈A,a.id < k):∀x∈reL A,x.1 < k:=λ x hx=> by
 obtain ⟨a,ha,rfl⟩:=List.mem_map.1 hx;exact hA a ha
theorem reL_gt (hB:∀b∈B,k < b.id):∀x∈reL B,k < x.1:=λ x hx=> by
 obtain ⟨a,ha,rfl⟩:=List.mem_map.1 hx;exact hB a ha
end
theorem reM_append (A B:List Re):reM (A++B)=reM A++reM B:=List.map_append
theorem reL_append (A B:List Re):reL (A++B)=reL A++reL B:=List.map_append
theorem reM_cons (a:Re) (B:List Re):reM (a::B)=(.int a.id,a.va)::reM B:=rfl
theorem reL_cons (a:Re) (B:List Re):reL (a::B)=(a.id,a.r)::reL B:=rfl
theorem okR (es:List Re):OkL false (reM es):=λ e he=> by
 obtain ⟨a,_,rfl⟩:=List.mem_map.1 he;trivial
theorem okK {L:LL} {cs:List Int} {km:MM} (h:IxOk L cs km):OkL true km:=λ e he=> by
 obtain ⟨x,_,rfl⟩:=(h.mem e).1 he;trivial
end
section
section
variable {P:Program}
theorem St.appSl {Pr:Program} {w0 w:World} {fp0:List Nat} {L:List Asn} {t tx e:TypeId} (hC:AppSrc Pr t tx e 1) (ty:TypeId) {v x:Value} {m:Nat} {xs news:List Value} (hS:St w0 fp0 (slA e v xs::L) w) (hs:Go.Src Pr 1 tx x m news w) (hl:xs.length+m < 1099511627776):
 ∃v' w',(Builtin.append_ #[t,tx] ty #[v,x]).run Pr w=.ok v' w'/\St w0 fp0 (slA e v' (xs++news)::L) w':=by
 obtain ⟨v',w',h1,h2⟩:=St.appSrc hC ty (n:=xs.length) hS hs hl;refine ⟨v',w',h1,?_⟩;have hn:=hs.newsLen;have e1:xs.length+m=(xs++news).length:=by rw [List.length_append,hn,Nat.mul_one]
 rw [e1] at h2;exact h2
theorem wpList_appSl {w:World} {ops:Array Oper} {rest:List Oper} {o:Oper} {a:Act} {Q:Exit->Act->World->Prop} (hgd:o.guard=none) (s x:Operand) (t tx:TypeId)
 (ho:o.op=.call { callee:=.builtin .append,args:=#[s,x],argTypes:=#[t,tx] }) {e:TypeId} {v v2:Value} (hs:a.eval s=v) (hx:a.eval x=v2) (hC:AppSrc P t tx e 1) {w0:World} {fp0:List Nat} {L:List Asn} {m:Nat} {xs news:List Value}
 (hS:St w0 fp0 (slA e v xs::L) w) (hsrc:Go.Src P 1 tx v2 m news w) (hl:xs.length+m < 1099511627776)
 (h:∀v' w',Hid (St w0 fp0 (slA e v' (xs++news)::L) w')->wpList P ops Q rest (a.put o.dst v') w'):wpList P ops Q (o::rest) a w:=by
 refine wpList_plain hgd λ K hK=> ?_;obtain ⟨v',w',hr,h2⟩:=St.appSl hC o.type hS hsrc hl;unfold Oper.wp execOp;simp only [ho,resolve,invoke,builtin,Sem.run_bind,Sem.run_pure,Result.andThen_ok,List.map_toArray,List.map_cons,List.map_nil,hs,hx,hr];exact hK _ _ (h v' w' h2)
theorem src_lit {tx e':TypeId} (hk:P.underlying tx=some (.slice e')) (w:World) (b n c:Nat) (t:TypeId) (fr:Nat×Nat) (cs:Array Value) (h:w.heap[b]? =some (.cells cs t fr)) (hn:cs.size=n) (h1:∀u∈cs.toList,u.oneCell'=true):Go.Src P 1 tx (.slice (some ⟨b,0,none⟩) n c) n cs.toList w:=
 Go.Src.ofSlice w hk _ n c _ (by simp [hn]) (λ j u hj=> by rw [add_plain,Nat.zero_add,cell_of_row w b j cs t fr h];simpa using hj) h1
end
theorem appBS:AppSrc Tryz.prog 101 101 5 1:=appSrc (z:=.int .u8 0) (bytes:=1) (by kernel_rfl) (by kernel_rfl) rfl (by decide) (by decide)
theorem appBT:AppSrc Tryz.prog 101 9 5 1:=appSrc (z:=.int .u8 0) (bytes:=1) (by kernel_rfl) (by kernel_rfl) rfl (by decide) (by decide)
theorem bytesRow_get (s:ByteArray) (cap j:Nat) (hj:j < s.size):(bytesRow s cap)[j]? =some (.int .u8 (s[j]'hj).toNat):=by
 have h:j < (s.data.map λ b=> Value.int .u8 b.toNat).size:=by simpa using hj
 rw [bytesRow,Array.getElem?_append_left h,Array.getElem?_map,Array.getElem?_eq_getElem (by simpa using hj)];rfl
end
def RowSpec (P:Program) (ts e:TypeId) (size:Nat):Prop:=∀(ty:TypeId) (w:World) (v:Value) (n:Nat) (xs:List Value) (f:List Nat) (vb:Nat) (news:List Value),(rowA e size v n xs).p w f->w.heap[vb]? =some (.cells news.toArray e (0,0))->news.length=size->(∀u∈news,u.oneCell'=true)->n+1 < 1099511627776->
 ∃v' w' f',(Builtin.append_ #[ts,ts] ty #[v, .slice (some ⟨vb,0,none⟩) 1 1]).run P w=.ok v' w'/\(rowA e size v' (n+1) (xs++news)).p w' f'/\Tr w w' f f'
theorem rowSpec {P:Program} {ts e:TypeId} {size bytes:Nat} {z:Value} (hi:(P.info? e).map (λ i=> (i.zero,i.size,i.bytes))=some (some z,size,bytes)) (ht:P.underlying ts=some (.slice e)) (hz:z.cells.size=size) (h0:0 < size) (hb:bytes<=128):RowSpec P ts e size:=by
 intro ty w v n xs f vb news h1 h2 h3 h4 h5;obtain ⟨i0,ii,iz0,iz1,iz2⟩:=info_parts hi;exact row_append w ts ty e i0 z size bytes ht ii iz0 iz1 iz2 hz h0 h1 vb news e h2 h3 h4 (by unfold maxLen;omega) (by have:(n+1) * bytes<=1099511627776 * 128:=Nat.mul_le_mul (by omega) hb;omega)
theorem Rg.Ob.boxs (G:Rg) (i k:Nat) {d:Nat} {t:TypeId} {cs:Array Value} (hk:G.pcs[k]? =some (.new i [d] λ g=> boxsA t (g d) cs):=by rfl)
 (hr:∀a w,(execOp (G.env i a) (opAt G.ops i)).run G.P w=.ok (.value (.slice (some ⟨w.heap.size,0,none⟩) 1 1)) (w.alloc (.cells cs t)):=by intro _ _;exact kr (by kernel_rfl))
 (hd:dstOf G.ops i=some d:=by exact kr (by kernel_rfl)) (hself:((closOf G.ops).getD i []).elem i=false:=by exact kr (by kernel_rfl)) (hsh:∀g n,G.shp i g (.slice (some ⟨n,0,none⟩) 1 1)=.slice (some ⟨n,0,none⟩) 1 1:=by intro _ _;exact kr (by kernel_rfl))
 (hq:G.quiet i k=true:=by exact kr (by kernel_rfl)) (hw:∀a,wantE G.ops (opAt G.ops i) (G.env i a)=some true:=by intro _;exact kr (by kernel_rfl)):G.Ob i:=Rg.Ob.eff G i k hk (λ L a w fp _ _ hp=> by
 rw [new_before hself] at hp;obtain rfl:fp=[]:=hp;rw [hr a w];refine ⟨G.shp_of (hsh _ _),?_⟩;rw [new_after,hd];obtain ⟨h1,h2⟩:=boxs_new w t cs;refine ⟨_,?_,h2⟩;have e:rv [d] (sput (slots a) (some d) (.slice (some ⟨w.heap.size,0,none⟩) 1 1)) d=.slice (some ⟨w.heap.size,0,none⟩) 1 1:=by unfold rv sput;simp
 rw [e];exact h1) hq hw
theorem Rg.Ob.appE (G:Rg) (i kx k:Nat) {ts e:TypeId} {size n ib d dx:Nat} {v:Value} {xs news:List Value} (hC:RowSpec G.P ts e size) (hl:n+1 < 1099511627776) (hn:news.length=size) (h1:∀u∈news,u.oneCell'=true)
 {s:Operand} (hkx:G.pcs[kx]? =some (.new ib [dx] λ g=> boxsA e (g dx) news.toArray):=by rfl) (hk:G.pcs[k]? =some (.gen [i] [d] λ L g=> match L i with | true=> rowA e size (g d) (n+1) (xs++news) | false=> rowA e size v n xs):=by rfl)
 (hop:(opAt G.ops i).op=.call ⟨.builtin .append,#[s, .tmp dx],#[ts,ts]⟩:=by rfl) (hs:∀a,G.env i a s=v:=by intro _;exact kr (by kernel_rfl)) (hd:dstOf G.ops i=some d:=by exact kr (by kernel_rfl))
 (hsh:∀g a n c,G.shp i g (.slice a n c)=.slice a n c:=by intro _ _ _ _;exact kr (by kernel_rfl)) (hself:((closOf G.ops).getD i []).elem i=false:=by exact kr (by kernel_rfl))
 (hin:((closOf G.ops).getD i []).elem ib=true:=by exact kr (by kernel_rfl)) (hq:G.quiet i k=true:=by exact kr (by kernel_rfl)) (hw:∀a,wantE G.ops (opAt G.ops i) (G.env i a)=some true:=by intro _;exact kr (by kernel_rfl)):G.Ob i:=Rg.Ob.eff G i k hk (λ L a w fp he hS hp=> by
 obtain ⟨g,hg⟩:=Rg.has hkx hS;rw [new_there hin] at hg;have e1:rv [dx] (slots a) dx=slots a dx:=by unfold rv;simp
 rw [e1] at hg;obtain ⟨vb,hgb,hvb,rfl⟩:=hg;have hp':(rowA e size v n xs).p w fp:=by
  have e2:(Pc.gen [i] [d] λ L g=> match L i with | true=> rowA e size (g d) (n+1) (xs++news) | false=> rowA e size v n xs).at (lk (closOf G.ops) i L) (slots a)=rowA e size v n xs:=by
   show (match rb [i] (lk (closOf G.ops) i L) i with | true=> _ | false=> _)=_;have e3:rb [i] (lk (closOf G.ops) i L) i=false:=by unfold rb lk;rw [hself];simp
   rw [e3]
  rw [e2] at hp;exact hp
 obtain ⟨v',w',f',hr,h3,h4⟩:=hC (opAt G.ops i).type w v n xs fp vb news hp' hvb hn h1 hl;rw [he,run_append_op hop ((congrFun he s).symm.trans (hs a)) hgb hr];obtain ⟨aa,c,rfl,_⟩:=row_shape h3;refine ⟨G.shp_of (hsh _ _ _ _),f',?_,h4⟩;have e2:(Pc.gen [i] [d] λ L g=> match L i with | true=> rowA e size (g d) (n+1) (xs++news) | false=> rowA e size v n xs).at (ln (closOf G.ops) i L) (sput (slots a) (dstOf G.ops i) (.slice aa (n+1) c))=rowA e size (.slice aa (n+1) c) (n+1) (xs++news):=by
  show (match rb [i] (ln (closOf G.ops) i L) i with | true=> _ | false=> _)=_;have e3:rb [i] (ln (closOf G.ops) i L) i=true:=by unfold rb ln;simp
  rw [e3,hd];have e4:rv [d] (sput (slots a) (some d) (.slice aa (n+1) c)) d=.slice aa (n+1) c:=by unfold rv sput;simp
  show rowA e size (rv [d] _ d) _ _=_;rw [e4]
 rw [e2];exact h3) hq hw
theorem Rg.Ob.eqlT (G:Rg) (i p q:Nat) (h:p=q) {ty r:TypeId} {x y:Operand} (hop:(opAt G.ops i).op=.binOp .eql ty x y r:=by rfl) (hx:∀a,G.env i a x=.int .i64 p:=by intro _;exact kr (by kernel_rfl)) (hy:∀a,G.env i a y=.int .i64 q:=by intro _;exact kr (by kernel_rfl)) (hv:∀g,G.valD i g=.bool true:=by intro _;exact kr (by kernel_rfl))
 (hq:(G.quiet i G.pcs.length && G.okV i)=true:=by exact kr (by kernel_rfl)) (hw:∀a,wantE G.ops (opAt G.ops i) (G.env i a)=some true:=by intro _;exact kr (by kernel_rfl)):G.Ob i:=Rg.Ob.read G i hq hw λ L a w _ _=> by
 have e:((p:Int)==(q:Int))=true:=by rw [h];simp
 simp [execOp,hop,hx,hy,go_sem,hv,e]
theorem Rg.Ob.eqlF (G:Rg) (i p q:Nat) (h:p≠q) {ty r:TypeId} {x y:Operand} (hop:(opAt G.ops i).op=.binOp .eql ty x y r:=by rfl) (hx:∀a,G.env i a x=.int .i64 p:=by intro _;exact kr (by kernel_rfl)) (hy:∀a,G.env i a y=.int .i64 q:=by intro _;exact kr (by kernel_rfl)) (hv:∀g,G.valD i g=.bool false:=by intro _;exact kr (by kernel_rfl))
 (hq:(G.quiet i G.pcs.length && G.okV i)=true:=by exact kr (by kernel_rfl)) (hw:∀a,wantE G.ops (opAt G.ops i) (G.env i a)=some true:=by intro _;exact kr (by kernel_rfl)):G.Ob i:=Rg.Ob.read G i hq hw λ L a w _ _=> by
 have e:((p:Int)==(q:Int))=false:=beq_false_of_ne (by omega);simp [execOp,hop,hx,hy,go_sem,hv,e]
theorem Rg.Ob.geqI (G:Rg) (i:Nat) (p q:Int) {ty r:TypeId} {x y:Operand} (hop:(opAt G.ops i).op=.binOp .geq ty x y r:=by rfl) (hx:∀a,G.env i a x=.int .i64 p:=by intro _;exact kr (by kernel_rfl)) (hy:∀a,G.env i a y=.int .i64 q:=by intro _;exact kr (by kernel_rfl)) (hv:∀g,G.valD i g=.bool (decide (q<=p)):=by intro _;exact kr (by kernel_rfl))
 (hq:(G.quiet i G.pcs.length && G.okV i)=true:=by exact kr (by kernel_rfl)) (hw:∀a,wantE G.ops (opAt G.ops i) (G.env i a)=some true:=by intro _;exact kr (by kernel_rfl)):G.Ob i:=Rg.Ob.read G i hq hw λ L a w _ _=> by
 simp [execOp,hop,hx,hy,go_sem,hv]
theorem Rg.Ob.callV (G:Rg) (i:Nat) (PL:List Asn) (PN:Value->List Asn) {f:Nat} {args:Array Value} (hc:∀w,St G.w0 G.fp0 (PL++G.R) w->Calls G.P f args w λ e w'=> ∃v a n c,v=.slice a n c/\e=.returned v/\St G.w0 G.fp0 (PN v++G.R) w')
 (hr:∀a w,(execOp (G.env i a) (opAt G.ops i)).run G.P w=.ok (.enter f args) w:=by intro _ _;exact kr (by kernel_rfl)) (hL:∀L g,(G.pcs.map λ p=> p.at (lk (closOf G.ops) i L) g)=PL:=by intro _ _;exact kr (by kernel_rfl)) (hN:∀L g v,(G.pcs.map λ p=> p.at (ln (closOf G.ops) i L) (sput g (dstOf G.ops i) v))=PN v:=by intro _ _ _;exact kr (by kernel_rfl))
 (hv:∀g a n c,G.shp i g (.slice a n c)=.slice a n c:=by intro _ _ _ _;exact kr (by kernel_rfl)) (hw:∀a,wantE G.ops (opAt G.ops i) (G.env i a)=some true:=by intro _;exact kr (by kernel_rfl)):G.Ob i:=by
 intro o ho L a w hsz he hS;have hd:o.dst=dstOf G.ops i:=by rw [dstOf,ho];rfl
 have hw':=hw a;have h':=hr a w;rw [opAt_eq ho] at hw' h';rw [hw',h',hd];unfold stP at hS;rw [hL] at hS;refine Calls.mono (hc w hS) λ e w' h=> ?_;obtain ⟨_,aa,n,c,rfl,rfl,h2⟩:=h;refine ⟨_,rfl,G.shp_of (hv _ _ _ _),?_⟩;unfold stP;rw [hN];exact h2
theorem Rg.Ob.callN (G:Rg) (i n:Nat) (PL:List Asn) (PN:Value->List Asn) {f:Nat} {args:Array Value} (hc:∀w,St G.w0 G.fp0 (PL++G.R) w->Calls G.P f args w λ e w'=> ∃v a c,v=.slice a n c/\e=.returned v/\St G.w0 G.fp0 (PN v++G.R) w')
 (hr:∀a w,(execOp (G.env i a) (opAt G.ops i)).run G.P w=.ok (.enter f args) w:=by intro _ _;exact kr (by kernel_rfl)) (hL:∀L g,(G.pcs.map λ p=> p.at (lk (closOf G.ops) i L) g)=PL:=by intro _ _;exact kr (by kernel_rfl)) (hN:∀L g v,(G.pcs.map λ p=> p.at (ln (closOf G.ops) i L) (sput g (dstOf G.ops i) v))=PN v:=by intro _ _ _;exact kr (by kernel_rfl))
 (hv:∀g a c,G.shp i g (.slice a n c)=.slice a n c:=by intro _ _ _;exact kr (by kernel_rfl)) (hw:∀a,wantE G.ops (opAt G.ops i) (G.env i a)=some true:=by intro _;exact kr (by kernel_rfl)):G.Ob i:=by
 intro o ho L a w hsz he hS;have hd:o.dst=dstOf G.ops i:=by rw [dstOf,ho];rfl
 have hw':=hw a;have h':=hr a w;rw [opAt_eq ho] at hw' h';rw [hw',h',hd];unfold stP at hS;rw [hL] at hS;refine Calls.mono (hc w hS) λ e w' h=> ?_;obtain ⟨_,aa,c,rfl,rfl,h2⟩:=h;refine ⟨_,rfl,G.shp_of (hv _ _ _),?_⟩;unfold stP;rw [hN];exact h2
end
end Go.Proofs.YtnefkkidfhmggaaGreat
