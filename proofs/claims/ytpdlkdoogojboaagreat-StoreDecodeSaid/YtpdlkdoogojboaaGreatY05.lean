/- Part 5 of the proof: Dq, Ln, Gt, Gq, Sm, Ka, Tr, Rx, Ra, Rb, Kb, Ix -/
import Derived.Test.YtpdlkdoogojboaaGreatY04
import Derived.Test.YtpdlkdoogojboaaGreatY02
import Derived.Deep.RegionWith
import Derived.Test.YtpdlkdoogojboaaGreatY03
import Derived.Test.YtpdlkdoogojboaaGreatY01
import Derived.Deep.DeepCutAuto
set_option maxHeartbeats 16000000
set_option maxRecDepth 100000
namespace Go.Proofs.YtpdlkdoogojboaaGreat
open Go Go.RowKit
noncomputable section
section
variable {β:Bool}
theorem delM_lengthT (l:MM) (k:Ky):(delM l k).length=if (getM l k).isSome then l.length - 1 else l.length:=by
 induction l with
 | nil=> rfl
 | cons x l ih=>
  rw [delM,getM];by_cases he:eqK x.1 k=true
  · simp [he]
  · simp only [he,Bool.false_eq_true,if_false,List.length_cons,ih]
    split
    · have:0 < l.length:=by
       cases l with
       | nil=> simp_all [getM]
       | cons=> simp
      omega
    · rfl
theorem tree_nodeT {w:World} {h:Nat} {x:TT} {b:Nat} {f:List Nat} (ht:(treeA β h x b).p w f):∃(ks vs:Value) (pa:Option Addr) (pc:Nat) (bs f1:List Nat),bs.length=x.cs.length/\(blkA b (tN β) #[ks,vs, .slice pa x.cs.length pc]).p w f1:=by
 rw [treeA_eq] at ht;obtain ⟨⟨ks,vs,ps,bs⟩,hq⟩:=ht;have hst:Star w (nodeL β (kidA β h) x b (ks,vs,ps,bs)) f:=hq;obtain ⟨_,⟨hl,_⟩,_⟩:=Star.get 0 rfl hst;obtain ⟨f1,h1,_⟩:=Star.get 1 rfl hst;obtain ⟨f4,h4,_⟩:=Star.get 4 rfl hst;simp only at hl h1 h4;obtain ⟨pa,pc,rfl,_⟩:=sl_get h4;rw [List.length_map,hl] at h1;exact ⟨ks,vs,pa,pc,bs,f1,hl,h1⟩
theorem tree_leafT {w:World} {h:Nat} {x:TT} {b:Nat} {f:List Nat} (ht:(treeA β h x b).p w f):Calls Tryz.prog (fLeaf β) #[ptrV b] w λ e w'=> e=.returned (.bool (x.cs.length==0))/\Below w.heap.size w w':=by
 obtain ⟨ks,vs,pa,pc,bs,f1,_,h1⟩:=tree_nodeT ht;exact (leaf_calls b ks vs pa _ pc w h1).mono λ e w' ⟨a,b⟩=> ⟨a,b ▸ Below.refl _ _⟩
theorem Delete_calls {o:Nat} (ho:3<=o) (ho':o<=1024) (h:Nat) (l:MM) (tb:Nat) (k:Ky) (hkk:k.ok β) (hok:OkL β l) (w0 w:World) (fp0:List Nat) (R:List Asn) (hlen:l.length < 1099511627775)
 (hS:St w0 fp0 (objA β o h l tb::R) w):
 Calls Tryz.prog (fDelete β) #[ptrV tb,encK k] w λ e w'=> e=.returned (.tuple #[encV ((getM l k).getD (va0 β)), .bool (getM l k).isSome])/\∃h',St w0 fp0 (objA β o h' (delM l k) tb::R) w':=by
 obtain ⟨x,rb,⟨g1,g2,g3⟩,hS1⟩:=hS.openOT;have hxp:h≠0->0 < x.es.length:=by intro h0;have:=g1.lo;unfold rootB at this;rw [if_neg h0] at this;omega
 obtain ⟨p1,p2⟩:=removeT_spec ho h _ x k g1 hxp g2;have hget:=getT_spec k h _ _ x g1 g2;rw [g3] at p2 hget;have hdl:=delM_lengthT l k;have hasc:AscM (delM l k):=ascM_delM (by rw [<-g3];exact g2) k;have hn0:(getM l k).isSome=true->0 < l.length:=by
  intro e;cases l with
  | nil=> simp [getM] at e
  | cons=> simp
 have hlow:∀h' c,h=h'+1->(removeT o h x k).es.length=0->(removeT o h x k).cs[0]? =some c->Body o h' (rootB h') (o - 1) c/\toL h' c=delM l k:=by intro h' c e hm hc;subst e;obtain ⟨_,_,k3,k4⟩:=p1;have hcb:=k4 c (List.mem_of_getElem? hc);have he:(removeT o (h'+1) x k).es=[]:=List.length_eq_zero_iff.1 hm;rw [hm] at k3;obtain ⟨d,hd⟩:=List.length_eq_one_iff.1 k3;rw [hd] at hc;obtain rfl:=Option.some.inj hc;refine ⟨hcb.mono (by have:=hcb.lo;obtain ⟨q1,_⟩:=least_two ho;unfold rootB;split <;> omega) hcb.hi,?_⟩;rw [<-p2,<-T.eta (removeT o (h'+1) x k),he,hd];have:=toL_last h' ([]:MM) [] d rfl;simpa [pre] using this.symm
 refine Delete_flat β tb o rb (removeT o h x k).es.length (removeT o h x k).cs.length l.length (encK k) (encV ((getM l k).getD (va0 β))) (getM l k).isSome (treeA β h x rb) (treeA β h (removeT o h x k) rb) (λ nr=> exA λ q:Nat×TT=> starA [pureA (h=q.1+1/\(removeT o h x k).cs[0]? =some q.2),treeA β q.1 q.2 nr]) (by have:=p1.hi;omega) (by omega) hn0
  (λ w0 fp0 R w hs=> by rw [<-hget];exact remove_calls ho ho' tb (ptrV rb) (.int .i64 l.length) h _ x rb k w0 w fp0 R hkk g1 hxp g2 (by rw [g3];exact hok) hs)
  (λ w f hf=> by obtain ⟨ka,kc,_,_,e,_⟩:=tree_lookT hf;exact ⟨ka,kc,e⟩)
  (λ w f hf=> tree_leafT hf)
  (λ hm hn w0 fp0 R w hs=> ?_) _ w0 w fp0 R ?_ hS1
 · cases h with
   | zero=> exact absurd (by rw [p1.2.2];rfl) hn
   | succ h'=>
    obtain ⟨c,hc⟩:∃c,(removeT o (h'+1) x k).cs[0]? =some c:=⟨_,List.getElem?_eq_getElem (by omega)⟩
    obtain ⟨ks,vs,ps,bs,cb,hl,hbi,h1⟩:=hs.viewT 0 hc;obtain ⟨_,q⟩:=h1.has 3 rfl;obtain ⟨gp,pc,rfl,_⟩:=sl_some q (by rw [List.length_map];omega);rw [List.length_map,hl] at h1;refine ⟨ks,vs,gp,pc,cb,bs.map ptrV,by rw [List.getElem?_map,hbi];rfl,?_⟩;have h2:=St.drop (St.drop (St.drop (St_re (L:=[_,_,_,_,_,_,_]) h1 [1,2,4,5,0,3,6] [] (by kernel_rfl))));have h3:St w0 fp0 ([pureA (h'+1=h'+1/\(removeT o (h'+1) x k).cs[0]? =some c),treeA β h' c cb]++([_,_,_]++R)) w:=St.pure.2 ⟨⟨rfl,hc⟩,h2⟩;have h4:=h3.fold (B:=exA λ q:Nat×TT=> starA [pureA (h'+1=q.1+1/\(removeT o (h'+1) x k).cs[0]? =some q.2),treeA β q.1 q.2 cb]) λ f hf=> ⟨(h',c),hf⟩
    exact St_re (L:=[_,_,_,_]) h4 [1,2,0,3] [] (by kernel_rfl)
 · intro X rb2 w' hx h3
   refine ⟨rfl,?_⟩;rw [<-hdl] at h3;rcases hx with ⟨hne,rfl,rfl⟩ | ⟨⟨hm,hn⟩,rfl⟩
   · refine ⟨h,St.shutOT ⟨p1.mono ?_ p1.hi,by rw [p2];exact hasc,p2⟩ h3⟩
     unfold rootB;split
     · exact Nat.zero_le _
     · rename_i h0
       rcases p1.kids with ⟨e0,_⟩ | ⟨h',_,hk,_⟩
       · exact absurd e0 h0
       · by_cases hm0:(removeT o h x k).es.length=0
         · exact absurd ⟨hm0,by omega⟩ hne
         · omega
   · obtain ⟨⟨h',c⟩,h4⟩:=h3.unfold (L1:=λ q:Nat×TT=> [pureA (h=q.1+1/\(removeT o h x k).cs[0]? =some q.2),treeA β q.1 q.2 rb2]) λ f ⟨q,hq⟩=> ⟨q,hq⟩
     obtain ⟨⟨e1,e2⟩,h5⟩:=St.pure.1 h4;obtain ⟨e3,e4⟩:=hlow h' c e1 hm e2;exact ⟨h',St.shutOT ⟨e3,by rw [e4];exact hasc,e4⟩ h5⟩
end
section
variable {β:Bool}
theorem obj_len {w:World} {o h:Nat} {l:MM} {tb:Nat} {f:List Nat} (hS:(objA β o h l tb).p w f):∃rb f1,(blkA tb (tT β) #[ptrV rb, .int .i64 o, .int .i64 l.length]).p w f1:=by
 obtain ⟨⟨x,rb⟩,hq⟩:=hS;have hst:Star w [pureA (GoodT o h l x),blkA tb (tT β) #[ptrV rb, .int .i64 o, .int .i64 l.length],treeA β h x rb] f:=hq;obtain ⟨f1,h1,_⟩:=Star.get 1 rfl hst;exact ⟨rb,f1,h1⟩
theorem Len_calls {o h:Nat} {l:MM} (tb:Nat) (w:World) {f:List Nat} (hS:(objA false o h l tb).p w f):
 Calls Tryz.prog 90 #[ptrV tb] w λ e w'=> e=.returned (.int .i64 l.length)/\w=w':=by
 obtain ⟨rb,_,hb⟩:=obj_len hS;have c2:=(blk_get hb).1 2;have c2l:=(blk_get hb).2.2;simp only [List.getElem?_toArray,List.getElem?_cons_zero,List.getElem?_cons_succ] at c2;clear hb hS;unfold ptrV;go_enter Tryz.func90,Tryz.ntmps90;go_wp2;go_ret;exact ⟨rfl,rfl⟩
end
def gGt2 (b i n2 c2:Nat) (ks vs kk:Value) (q:Bool) (a2:Option Addr) (xs:List Value):=rg Tryz.prog (BGet false) 2 38 [(15,3),(14,1),(18,2),(7,2)] [(6,pV b 0),(1,kk)] (Vq 0 15 [Kp b 0,Kv kk,Kv (.tuple #[nV i, .bool q])]++Vq 3 14 [Kv (.tuple #[nV i, .bool q])]++Vq 4 18 [Kn i,Kv (.bool q)]++Vq 6 7 [Kn i,Kv (.bool q)]) [Bk b (tN false) [ks,vs, .slice a2 n2 c2], .sl (tK false) (ks) xs []]
theorem obGt2 (b i n2 c2:Nat) (ks vs kk:Value) (q:Bool) (a2:Option Addr) (xs:List Value) (hfind:∀w fp fp',(blkA b (tN false) #[ks,vs, .slice a2 n2 c2]).p w fp->(slA (tK false) ks xs).p w fp'->Calls Tryz.prog (fFind false) #[ptrV b,kk] w λ e w'=> e=.returned (.tuple #[.int .i64 i, .bool q])/\Below w.heap.size w w') (w0:World) (fp0:List Nat) (R:List Asn):(gGt2 b i n2 c2 ks vs kk q a2 xs w0 fp0 R).Ok 8:=by
 exact Rg.ok _ 8 [2] ⟨.ask2 _ 2 0 1 hfind,trivial⟩
theorem cdGt2:IsSq (BGet false) [1,1,4,4,4] 2:=by exact isq (by kernel_rfl)
theorem sqGt0:Sq (BGet false) [1,1,4,4,4,1]:=by exact isQ (by kernel_rfl)
def gGt3 (q:Bool):=rg Tryz.prog (BGet false) 3 38 [(20,1)] [(8, .bool q)] (Vq 0 20 [Kv (.bool q)]) []
theorem obGt3 (q:Bool)  (w0:World) (fp0:List Nat) (R:List Asn):(gGt3 q w0 fp0 R).Ok 1:=by
 exact Rg.ok _ 1 [] trivial
theorem cdGt3:IsSq (BGet false) [1,1,4,4,4,1,0] 3:=by exact isq (by kernel_rfl)
theorem ccGt20:isCond (csnd (cfst (csnd (cbody (cbody (cbody (csnd (csnd (bodyC (BGet false))))))))))=true/\ccond (csnd (cfst (csnd (cbody (cbody (cbody (csnd (csnd (bodyC (BGet false))))))))))=.tmp 20:=by exact ⟨kr (by kernel_rfl),kr (by kernel_rfl)⟩
def gGt4 (b gv cv n2 c2 i:Nat) (ks y:Value) (a2:Option Addr) (ys:List Value):=rg Tryz.prog (BGet false) 4 38 [(21,7),(4,2)] [(6,pV b 0),(7,nV i)] (Vq 0 21 [Kp b 0,Kp b 0,Kp b 1,Ks gv ys.length cv,Kn i,Kp gv i,Kv y]++Vq 7 4 [Kv y,Kv (.bool true)]) [Bk b (tN false) [ks,sV gv ys.length cv, .slice a2 n2 c2], .sl (tV false) (sV gv ys.length cv) ys []]
theorem obGt4 (b gv cv n2 c2 i:Nat) (ks y:Value) (a2:Option Addr) (ys:List Value) (hin:i < ys.length) (hyi:ys[i]? =some y) (w0:World) (fp0:List Nat) (R:List Asn):(gGt4 b gv cv n2 c2 i ks y a2 ys w0 fp0 R).Ok 9:=by
 exact Rg.ok _ 9 [3,5,6] ⟨.load _ 3 0 1, .index _ 5 gv ys.length cv i hin, .elem _ 6 1 i hyi,trivial⟩
theorem cdGt4:IsSq (BGet false) [1,1,4,4,4,1,0,1,2] 4:=by exact isq (by kernel_rfl)
theorem isRetGt1:isRet (csnd (cthen (csnd (cfst (csnd (cbody (cbody (cbody (csnd (csnd (bodyC (BGet false))))))))))))=true:=by exact kr (by kernel_rfl)
theorem isSkipGt2:isSkip (celse (csnd (cfst (csnd (cbody (cbody (cbody (csnd (csnd (bodyC (BGet false)))))))))))=true:=by exact kr (by kernel_rfl)
theorem sqGt3:Sq (BGet false) [1,1,4,4,4,1,1]:=by exact isQ (by kernel_rfl)
def gGt5 (b n2 c2:Nat) (ks vs:Value) (a2:Option Addr):=rg Tryz.prog (BGet false) 5 38 [(28,2)] [(6,pV b 0)] (Vq 0 28 [Kp b 0,Kv (.bool (n2==0))]) [Bk b (tN false) [ks,vs, .slice a2 n2 c2]]
theorem obGt5 (b n2 c2:Nat) (ks vs:Value) (a2:Option Addr)  (w0:World) (fp0:List Nat) (R:List Asn):(gGt5 b n2 c2 ks vs a2 w0 fp0 R).Ok 2:=by
 exact Rg.ok _ 2 [1] ⟨.ask1 _ 1 0 (λ w fp h=> (leaf_calls b _ _ a2 n2 c2 w h).mono λ e w' ⟨h1,h2⟩=> ⟨h1,h2 ▸ Below.refl _ _⟩),trivial⟩
theorem cdGt5:IsSq (BGet false) [1,1,4,4,4,1,1,0] 5:=by exact isq (by kernel_rfl)
theorem ccGt29:isCond (csnd (cfst (csnd (csnd (cbody (cbody (cbody (csnd (csnd (bodyC (BGet false)))))))))))=true/\ccond (csnd (cfst (csnd (csnd (cbody (cbody (cbody (csnd (csnd (bodyC (BGet false)))))))))))=.tmp 29:=by exact ⟨kr (by kernel_rfl),kr (by kernel_rfl)⟩
def gGt6  :=rg Tryz.prog (BGet false) 6 38 [(9,1)] [] (Vq 0 9 [Kv (encV (va0 false))]) []
theorem obGt6   (w0:World) (fp0:List Nat) (R:List Asn):(gGt6  w0 fp0 R).Ok 1:=by
 exact Rg.ok _ 1 [] trivial
theorem cdGt6:IsSq (BGet false) [1,1,4,4,4,1,1,0,1,2] 6:=by exact isq (by kernel_rfl)
def gGt7  :=rg Tryz.prog (BGet false) 7 38 [(30,1),(4,2)] [(9,encV (va0 false))] (Vq 0 30 [Kv (encV (va0 false))]++Vq 1 4 [Kv (encV (va0 false)),Kv (.bool false)]) []
theorem obGt7   (w0:World) (fp0:List Nat) (R:List Asn):(gGt7  w0 fp0 R).Ok 3:=by
 exact Rg.ok _ 3 [] trivial
theorem cdGt7:IsSq (BGet false) [1,1,4,4,4,1,1,0,1,2,1] 7:=by exact isq (by kernel_rfl)
theorem isRetGt4:isRet (csnd (csnd (cthen (csnd (cfst (csnd (csnd (cbody (cbody (cbody (csnd (csnd (bodyC (BGet false))))))))))))))=true:=by exact kr (by kernel_rfl)
theorem isSkipGt5:isSkip (celse (csnd (cfst (csnd (csnd (cbody (cbody (cbody (csnd (csnd (bodyC (BGet false))))))))))))=true:=by exact kr (by kernel_rfl)
def gGt8 (b gp n2 c2 cb i:Nat) (ks vs:Value) (zs:List Value):=rgq Tryz.prog (BGet false) 8 38 [(31,7),(6,1)] [(7,nV i)] [(6,pV b 0,7)] (Vq 0 31 [Kp b 0,Kp b 0,Kp b 2,Ks gp n2 c2,Kn i,Kp gp i,Kp cb 0]++Vq 7 6 [Kp cb 0]) [Bk b (tN false) [ks,vs,sV gp n2 c2], .sl (tP false) (sV gp n2 c2) zs []]
theorem obGt8 (b gp n2 c2 cb i:Nat) (ks vs:Value) (zs:List Value) (hi:i < n2) (hzi:zs[i]? =some (ptrV cb)) (w0:World) (fp0:List Nat) (R:List Asn):(gGt8 b gp n2 c2 cb i ks vs zs w0 fp0 R).Ok 8:=by
 exact Rg.ok _ 8 [3,5,6] ⟨.load _ 3 0 2, .index _ 5 gp n2 c2 i hi, .elem _ 6 1 i hzi,trivial⟩
theorem cdGt8:IsRg (BGet false) [1,1,4,4,4,1,1,1] 8:=by exact irg (by kernel_rfl)
theorem get_round (b i n2 c2 cb:Nat) (ks vs kk y:Value) (q:Bool) (a2:Option Addr) (xs ys zs:List Value) (hlz:zs.length < 1099511627776) (hn2:n2=zs.length)
 (hfind:∀w fp fp',(blkA b (tN false) #[ks,vs, .slice a2 n2 c2]).p w fp->(slA (tK false) ks xs).p w fp'->Calls Tryz.prog (fFind false) #[ptrV b,kk] w λ e w'=> e=.returned (.tuple #[.int .i64 i, .bool q])/\Below w.heap.size w w')
 (hy:q=true->ys[i]? =some y) (hz:n2≠0->zs[i]? =some (ptrV cb)) (w0 w:World) (fp0:List Nat) (R:List Asn) (A0:Act) (Q:Exit->Act->World->Prop)
 (hF:q=true->∀A w',Knows 38 A [(4,y),(5, .bool true)]->St w0 fp0 ([blkA b (tN false) #[ks,vs, .slice a2 n2 c2],slA (tK false) (ks) xs,slA (tV false) (vs) ys,slA (tP false) (.slice a2 n2 c2) zs]++R) w'->Q .ret A w')
 (hL:q=false->n2=0->∀A w',Knows 38 A [(4,encV (va0 false)),(5, .bool false)]->St w0 fp0 ([blkA b (tN false) #[ks,vs, .slice a2 n2 c2],slA (tK false) (ks) xs,slA (tV false) (vs) ys,slA (tP false) (.slice a2 n2 c2) zs]++R) w'->Q .ret A w')
 (hI:q=false->n2≠0->∀A w',Knows 38 A [(1,kk),(6, .pointer (some ⟨cb,0,none⟩))]->St w0 fp0 ([blkA b (tN false) #[ks,vs, .slice a2 n2 c2],slA (tK false) (ks) xs,slA (tV false) (vs) ys,slA (tP false) (.slice a2 n2 c2) zs]++R) w'->Q .normal A w')
 (K0:Knows 38 A0 [(1,kk),(6, .pointer (some ⟨b,0,none⟩))]) (hS:St w0 fp0 ([blkA b (tN false) #[ks,vs, .slice a2 n2 c2],slA (tK false) (ks) xs,slA (tV false) (vs) ys,slA (tP false) (.slice a2 n2 c2) zs]++R) w):(cbody (cbody (cbody (csnd (csnd (bodyC (BGet false))))))).wp Tryz.prog Q A0 w:=by
 refine wp_seqT (cdGt2).sq ?_;refine wp_regT (obGt2 b i n2 c2 ks vs kk q a2 xs hfind _ _ _) (by kernel_rfl) (cdGt2).cd (K0.sub (by kernel_rfl)) (St_re hS [0,1] [2,3] (by kernel_rfl)) λ A1 w1 N1 H1=> ?_;have S1:St w0 fp0 ([blkA b (tN false) #[ks,vs, .slice a2 n2 c2],slA (tK false) (ks) xs,slA (tV false) (vs) ys,slA (tP false) (.slice a2 n2 c2) zs]++R) w1:=H1;have K1:Knows 38 A1 [(1,kk),(6,pV b 0),(7,nV i),(8, .bool q)]:=N1.knows K0 (by kernel_rfl);refine wp_seqJ (sqGt0) (λ A w=> ∃(hqf:q=false),Knows 38 A [(1,kk),(6,pV b 0),(7,nV i)]/\St w0 fp0 ([blkA b (tN false) #[ks,vs, .slice a2 n2 c2],slA (tK false) (ks) xs,slA (tV false) (vs) ys,slA (tP false) (.slice a2 n2 c2) zs]++R) w) ?_ ?_
 · skip
   refine wp_seqT (cdGt3).sq ?_;refine wp_regT (obGt3 q  _ _ _) (by kernel_rfl) (cdGt3).cd (K1.sub (by kernel_rfl)) (St_re S1 [] [0,1,2,3] (by kernel_rfl)) λ A2 w2 N2 H2=> ?_;have S2:St w0 fp0 ([blkA b (tN false) #[ks,vs, .slice a2 n2 c2],slA (tK false) (ks) xs,slA (tV false) (vs) ys,slA (tP false) (.slice a2 n2 c2) zs]++R) w2:=H2;have K2:Knows 38 A2 [(1,kk),(6,pV b 0),(7,nV i),(8, .bool q),(20, .bool q)]:=N2.knows K1 (by kernel_rfl);refine wp_condK (ccGt20) K2 (by rfl) (λ hq=> ?_) (λ hq=> ?_)
   · skip
     subst hq;have hyi:=hy rfl;have hin:i < ys.length:=(List.getElem?_eq_some_iff.1 hyi).1;obtain ⟨_,q3⟩:=St.has S2 2 rfl;obtain ⟨gv,cv,rfl,hvc, -⟩:=sl_some q3 (by omega);refine wp_seqT (cdGt4).sq ?_;refine wp_regT (obGt4 b gv cv n2 c2 i ks y a2 ys hin hyi _ _ _) (by kernel_rfl) (cdGt4).cd (K2.sub (by kernel_rfl)) (St_re S2 [0,2] [1,3] (by kernel_rfl)) λ A3 w3 N3 H3=> ?_;have S3:St w0 fp0 ([blkA b (tN false) #[ks,sV gv ys.length cv, .slice a2 n2 c2],slA (tV false) (sV gv ys.length cv) ys,slA (tK false) (ks) xs,slA (tP false) (.slice a2 n2 c2) zs]++R) w3:=H3;have K3:Knows 38 A3 [(1,kk),(6,pV b 0),(7,nV i),(8, .bool true),(20, .bool true),(4,y),(5, .bool true)]:=N3.knows K2 (by kernel_rfl);refine wp_retT (isRetGt1) ?_;exact hF rfl _ _ (K3.sub (by kernel_rfl)) (St_re S3 [0,2,1,3] [] (by kernel_rfl))
   · skip
     refine wp_skipT (isSkipGt2) ?_;exact ⟨hq,K2.sub (by kernel_rfl),(St_re S2 [0,1,2,3] [] (by kernel_rfl))⟩
 · rintro A4 w4 ⟨hqf,K4,S4⟩
   refine wp_seqJ (sqGt3) (λ A w=> ∃(hn0:n2≠0),Knows 38 A [(1,kk),(6,pV b 0),(7,nV i)]/\St w0 fp0 ([blkA b (tN false) #[ks,vs, .slice a2 n2 c2],slA (tK false) (ks) xs,slA (tV false) (vs) ys,slA (tP false) (.slice a2 n2 c2) zs]++R) w) ?_ ?_
   · skip
     refine wp_seqT (cdGt5).sq ?_;refine wp_regT (obGt5 b n2 c2 ks vs a2  _ _ _) (by kernel_rfl) (cdGt5).cd (K4.sub (by kernel_rfl)) (St_re S4 [0] [1,2,3] (by kernel_rfl)) λ A5 w5 N5 H5=> ?_;have S5:St w0 fp0 ([blkA b (tN false) #[ks,vs, .slice a2 n2 c2],slA (tK false) (ks) xs,slA (tV false) (vs) ys,slA (tP false) (.slice a2 n2 c2) zs]++R) w5:=H5;have K5:Knows 38 A5 [(1,kk),(6,pV b 0),(7,nV i),(29, .bool (n2==0))]:=N5.knows K4 (by kernel_rfl);refine wp_condK (ccGt29) K5 (by rfl) (λ hq=> ?_) (λ hq=> ?_)
     · skip
       have hn0:n2=0:=by simpa using hq
       refine wp_seqT (cdGt6).sq ?_;refine wp_regT (obGt6   _ _ _) (by kernel_rfl) (cdGt6).cd (K5.sub (by kernel_rfl)) (St_re S5 [] [0,1,2,3] (by kernel_rfl)) λ A6 w6 N6 H6=> ?_;have S6:St w0 fp0 ([blkA b (tN false) #[ks,vs, .slice a2 n2 c2],slA (tK false) (ks) xs,slA (tV false) (vs) ys,slA (tP false) (.slice a2 n2 c2) zs]++R) w6:=H6;have K6:Knows 38 A6 [(1,kk),(6,pV b 0),(7,nV i),(29, .bool (n2==0)),(9,encV (va0 false))]:=N6.knows K5 (by kernel_rfl);refine wp_seqT (cdGt7).sq ?_;refine wp_regT (obGt7   _ _ _) (by kernel_rfl) (cdGt7).cd (K6.sub (by kernel_rfl)) (St_re S6 [] [0,1,2,3] (by kernel_rfl)) λ A7 w7 N7 H7=> ?_;have S7:St w0 fp0 ([blkA b (tN false) #[ks,vs, .slice a2 n2 c2],slA (tK false) (ks) xs,slA (tV false) (vs) ys,slA (tP false) (.slice a2 n2 c2) zs]++R) w7:=H7;have K7:Knows 38 A7 [(1,kk),(6,pV b 0),(7,nV i),(29, .bool (n2==0)),(9,encV (va0 false)),(4,encV (va0 false)),(5, .bool false)]:=N7.knows K6 (by kernel_rfl);refine wp_retT (isRetGt4) ?_;exact hL hqf hn0 _ _ (K7.sub (by kernel_rfl)) (St_re S7 [0,1,2,3] [] (by kernel_rfl))
     · skip
       refine wp_skipT (isSkipGt5) ?_;exact ⟨by simpa using hq,K5.sub (by kernel_rfl),(St_re S5 [0,1,2,3] [] (by kernel_rfl))⟩
   · rintro A8 w8 ⟨hn0,K8,S8⟩
     have hzi:=hz hn0;have hzl:i < zs.length:=(List.getElem?_eq_some_iff.1 hzi).1;obtain ⟨_,q5⟩:=St.has S8 3 rfl;obtain ⟨gp,cp,ep,hpc, -⟩:=sl_some q5 (by omega);obtain ⟨rfl, -,rfl⟩:=Value.slice.inj ep;refine wp_regT (obGt8 b gp n2 c2 cb i ks vs zs (by omega) hzi _ _ _) (by kernel_rfl) (cdGt8).cd (K8.sub (by kernel_rfl)) (St_re S8 [0,3] [1,2] (by kernel_rfl)) λ A9 w9 N9 H9=> ?_;have S9:St w0 fp0 ([blkA b (tN false) #[ks,vs,sV gp n2 c2],slA (tP false) (sV gp n2 c2) zs,slA (tK false) (ks) xs,slA (tV false) (vs) ys]++R) w9:=H9;have K9:Knows 38 A9 [(1,kk),(7,nV i),(6,pV cb 0)]:=N9.knows K8 (by kernel_rfl);exact hI hqf hn0 _ _ (K9.sub (by kernel_rfl)) (St_re S9 [0,2,3,1] [] (by kernel_rfl))
theorem entGu:Tryz.prog.funcs[fGet false]? =some (BGet false)/\(BGet false).body=some (bodyC (BGet false))/\(BGet false).ntmps=38:=by exact ⟨kr (by kernel_rfl),kr (by kernel_rfl),kr (by kernel_rfl)⟩
def gGu0  :=rg Tryz.prog (BGet false) 0 38 [(4,2)] [] (Vq 0 4 [Kv (encV (va0 false)),Kv (.bool false)]) []
theorem obGu0   (w0:World) (fp0:List Nat) (R:List Asn):(gGu0  w0 fp0 R).Ok 2:=by
 exact Rg.ok _ 2 [] trivial
theorem cdGu0:IsSq (BGet false) [] 0:=by exact isq (by kernel_rfl)
def gGu1 (tb rb:Nat) (oo nn:Value):=rg Tryz.prog (BGet false) 1 38 [(10,4),(6,1)] [(0,pV tb 0)] (Vq 0 10 [Kp tb 0,Kp tb 0,Kp tb 0,Kp rb 0]++Vq 4 6 [Kp rb 0]) [Bk tb (tT false) [pV rb 0,oo,nn]]
theorem obGu1 (tb rb:Nat) (oo nn:Value)  (w0:World) (fp0:List Nat) (R:List Asn):(gGu1 tb rb oo nn w0 fp0 R).Ok 5:=by
 exact Rg.ok _ 5 [3] ⟨.load _ 3 0 0,trivial⟩
theorem cdGu1:IsSq (BGet false) [1] 1:=by exact isq (by kernel_rfl)
theorem resGu:(BGet false).results=#[.tmp 4, .tmp 5]:=by exact kr (by kernel_rfl)
theorem get_flat (tb rb:Nat) (kk oo nn:Value) (T0:Asn) (w0 w:World) (fp0:List Nat) (R:List Asn) (Rr:Ending->World->Prop)
 (HL:∀(Q:Exit->Act->World->Prop) (A:Act) (w:World),Knows 38 A [(1,kk),(6, .pointer (some ⟨rb,0,none⟩))]->St w0 fp0 ([blkA tb (tT false) #[.pointer (some ⟨rb,0,none⟩),oo,nn]]++(T0::R)) w->
  (∀(A:Act) (w:World) (v1 v2:Value),Knows 38 A [(4,v1),(5,v2)]->St w0 fp0 ([blkA tb (tT false) #[.pointer (some ⟨rb,0,none⟩),oo,nn]]++(T0::R)) w->(∀w',St w0 fp0 ([blkA tb (tT false) #[.pointer (some ⟨rb,0,none⟩),oo,nn]]++(T0::R)) w'->Rr (.returned (.tuple #[v1,v2])) w')->Q .ret A w)->(csnd (csnd (bodyC (BGet false)))).wp Tryz.prog Q A w)
 (hS:St w0 fp0 ([blkA tb (tT false) #[.pointer (some ⟨rb,0,none⟩),oo,nn]]++(T0::R)) w):Calls Tryz.prog (fGet false) #[ptrV tb,kk] w Rr:=by
 refine calls_T [(0,pV tb 0),(1,kk)] (entGu) (by simp) (by kernel_rfl) λ A0 K0=> ?_;refine wp_seqT (cdGu0).sq ?_;refine wp_regT (obGu0   _ _ _) (by kernel_rfl) (cdGu0).cd (K0.sub (by kernel_rfl)) (St_re hS [] [0] (by kernel_rfl)) λ A1 w1 N1 H1=> ?_;have S1:St w0 fp0 ([blkA tb (tT false) #[pV rb 0,oo,nn]]++(T0::R)) w1:=H1;have K1:Knows 38 A1 [(0,pV tb 0),(1,kk),(4,encV (va0 false)),(5, .bool false)]:=N1.knows K0 (by kernel_rfl);refine wp_seqT (cdGu1).sq ?_;refine wp_regT (obGu1 tb rb oo nn  _ _ _) (by kernel_rfl) (cdGu1).cd (K1.sub (by kernel_rfl)) (St_re S1 [0] [] (by kernel_rfl)) λ A2 w2 N2 H2=> ?_;have S2:St w0 fp0 ([blkA tb (tT false) #[pV rb 0,oo,nn]]++(T0::R)) w2:=H2;have K2:Knows 38 A2 [(0,pV tb 0),(1,kk),(4,encV (va0 false)),(5, .bool false),(6,pV rb 0)]:=N2.knows K1 (by kernel_rfl);refine HL _ _ _ (K2.sub (by kernel_rfl)) S2 λ A w v1 v2 K S hr=> post_T K (res2 (resGu) K (by rfl) (by rfl)) (hr _ S)
section
variable {β:Bool}
theorem St.kidout {w0 w:World} {fp0:List Nat} {L:List Asn} {h i:Nat} {cs:List TT} {bs:List Nat} {c:TT} {cb:Nat} (hl:bs.length=cs.length) (hc:cs[i]? =some c) (hb:bs[i]? =some cb):
 St w0 fp0 (starA (List.zipWith (treeA β h) cs bs)::L) w↔St w0 fp0 (treeA β h c cb::restA β h i (i+1) cs bs::L) w:=by
 rw [zip3T h i (i+1) (Nat.le_succ i) cs bs hl,mid1 hc,mid1 hb];have hp:((List.zipWith (treeA β h) (cs.take i) (bs.take i)++(List.zipWith (treeA β h) [c] [cb]++List.zipWith (treeA β h) (cs.drop (i+1)) (bs.drop (i+1))))++L).Perm ((List.zipWith (treeA β h) (cs.take i) (bs.take i)++List.zipWith (treeA β h) (cs.drop (i+1)) (bs.drop (i+1)))++(treeA β h c cb::L)):=by classical refine List.perm_iff_count.2 λ a=> ?_;simp only [List.zipWith,List.cons_append,List.nil_append,List.count_append,List.count_cons];omega
 constructor
 · intro h0
   have h1:St w0 fp0 (restA β h i (i+1) cs bs::treeA β h c cb::L) w:=St.star.2 ((St.star.1 h0).perm hp);exact h1.perm (List.Perm.swap _ _ _)
 · intro h0
   have h1:St w0 fp0 (restA β h i (i+1) cs bs::treeA β h c cb::L) w:=h0.perm (List.Perm.swap _ _ _);exact St.star.2 ((St.star.1 h1).perm hp.symm)
theorem lpGt:isBlk (csnd (csnd (bodyC (BGet false))))=true/\isLoop (cbody (csnd (csnd (bodyC (BGet false)))))=true/\isBlk (cbody (cbody (csnd (csnd (bodyC (BGet false))))))=true:=by exact ⟨kr (by kernel_rfl),kr (by kernel_rfl),kr (by kernel_rfl)⟩
theorem get_loop {o:Nat} (ho':o<=1024) (k:Ky) (hkk:k.ok false):∀(h lo:Nat) (x:TT) (nb:Nat) (w0 w:World) (fp0:List Nat) (R:List Asn) (A:Act) (Q:Exit->Act->World->Prop),Body o h lo (o - 1) x->AscM (toL h x)->OkL false (toL h x)->Knows 38 A [(1,encK k),(6, .pointer (some ⟨nb,0,none⟩))]->St w0 fp0 (treeA false h x nb::R) w->
 (∀(A:Act) (w:World),Knows 38 A [(4,encV ((getT h x k).getD (va0 false))),(5, .bool (getT h x k).isSome)]->St w0 fp0 (treeA false h x nb::R) w->Q .ret A w)->
 Code.rounds Tryz.prog (cbody (cbody (csnd (csnd (bodyC (BGet false)))))) Q (h+1) A w
 | h,lo,x,nb,w0,w,fp0,R,A,Q,hb,ha,hok,K,hS,hQ=> by
  rw [rounds_succ];refine wp_blkT lpGt.2.2 ?_;have hlen:x.es.length < 1099511627776:=by have:=hb.hi;omega
  have hae:AscM x.es:=asc_es ha;have hpk:=posK_le x.es k;obtain ⟨y,hy⟩:∃y:Ky×Va,hasK x.es k=true->x.es[posK x.es k]? =some y:=by
   cases hh:hasK x.es k with
   | true=> obtain ⟨y,hy⟩:=pos_get hh;exact ⟨y,λ _=> hy⟩
   | false=> exact ⟨(k, .int 0),λ h=> nomatch h⟩
  have hyv:hasK x.es k=true->(valsV x.es)[posK x.es k]? =some (encV y.2):=λ hq=> by simp [valsV,hy hq]
  have hg:hasK x.es k=true->getT h x k=some y.2:=λ hq=> by cases h <;> simp [getT,hq,hy hq]
  obtain ⟨ks,vs,ps,bs,hl,h1⟩:=hS.openNT;obtain ⟨_,q3⟩:=h1.has 3 rfl;obtain ⟨pa,pc,rfl,_⟩:=sl_get q3;have hbsl:bs.length<=1025:=by
   rcases hb.kids with ⟨_,e⟩ | ⟨_,_,e,_⟩
   · rw [hl,e];simp
   · have:=hb.hi;omega
  rw [List.length_map] at h1;obtain ⟨cb,hcb⟩:∃cb,bs.length≠0->bs[posK x.es k]? =some cb:=by
   by_cases h0:bs.length=0
   · exact ⟨0,λ hh=> absurd h0 hh⟩
   · have:posK x.es k < bs.length:=by
      rcases hb.kids with ⟨_,e⟩ | ⟨_,_,e,_⟩
      · rw [hl,e] at h0;exact absurd rfl h0
      · omega
     exact ⟨_,λ _=> List.getElem?_eq_getElem this⟩
  have back:∀w',St w0 fp0 ([blkA nb (tN false) #[ks,vs, .slice pa bs.length pc],slA (tK false) ks (keysV x.es),slA (tV false) vs (valsV x.es),slA (tP false) (.slice pa bs.length pc) (bs.map ptrV)]++(starA (List.zipWith (kidA false h) x.cs bs)::R)) w'->St w0 fp0 (treeA false h x nb::R) w':=by intro w' h2;have h4:=St.shutNT (es:=x.es) (cs:=x.cs) (bs:=bs) (ks:=ks) (vs:=vs) (ps:=.slice pa bs.length pc) hl h2;rw [T.eta] at h4;exact h4
  refine get_round nb (posK x.es k) bs.length pc cb ks vs (encK k) (encV y.2) (hasK x.es k) pa (keysV x.es) (valsV x.es) (bs.map ptrV) (by rw [List.length_map];omega) (by rw [List.length_map]) (λ w fp fp' hbk hkk'=> find_calls nb ks vs _ x.es k hok.es hkk w hbk ⟨_,hkk'⟩ hae hlen) hyv (λ h0=> by rw [List.getElem?_map,hcb h0];rfl) w0 w fp0 _ A _ (λ hq A w' K' h2=> ?_) (λ hq h0 A w' K' h2=> ?_) (λ hq h0 A w' K' h2=> ?_) K h1
  · refine hQ A w' ?_ (back w' h2)
    rw [hg hq];exact K'
  · refine hQ A w' ?_ (back w' h2)
    have hg0:getT h x k=none:=by
     rcases hb.kids with ⟨rfl,_⟩ | ⟨h',rfl,e,_⟩
     · simp [getT,hq]
     · omega
    rw [hg0];exact K'
  · rcases hb.kids with ⟨_,e⟩ | ⟨h',rfl,e,hk⟩
    · rw [hl,e] at h0;exact absurd rfl h0
    · obtain ⟨c,hc⟩:∃c,x.cs[posK x.es k]? =some c:=⟨_,List.getElem?_eq_getElem (by omega)⟩
      have hgc:getT (h'+1) x k=getT h' c k:=by simp [getT,hq,hc]
      have h3:=(St.kidout hl hc (hcb h0)).1 (St_re (L:=[_,_,_,_,_]) h2 [4,0,1,2,3] [] (by kernel_rfl));refine get_loop ho' k hkk h' (least o) c cb w0 w' fp0 _ A Q (hk c (List.mem_of_getElem? hc)) (asc_kid1 e hc ha) (hok.kid e hc) K' h3 λ A w'' K'' h4=> ?_;refine hQ A w'' (by rw [hgc];exact K'') (back w'' ?_);exact St_re (L:=[_,_,_,_,_]) ((St.kidout hl hc (hcb h0)).2 h4) [1,2,3,4,0] [] (by kernel_rfl)
theorem Get_calls {o:Nat} (ho':o<=1024) (h:Nat) (l:MM) (tb:Nat) (k:Ky) (hkk:k.ok false) (hok:OkL false l) (w0 w:World) (fp0:List Nat) (R:List Asn)
 (hS:St w0 fp0 (objA false o h l tb::R) w):
 Calls Tryz.prog (fGet false) #[ptrV tb,encK k] w λ e w'=> e=.returned (.tuple #[encV ((getM l k).getD (va0 false)), .bool (getM l k).isSome])/\St w0 fp0 (objA false o h l tb::R) w':=by
 obtain ⟨x,rb,hg,hS1⟩:=hS.openOT;obtain ⟨g1,g2,g3⟩:=hg;have hget:=getT_spec k h _ _ x g1 g2;rw [g3] at hget;obtain ⟨p1,p2,p3⟩:=lpGt;refine get_flat tb rb (encK k) (.int .i64 o) (.int .i64 l.length) (treeA false h x rb) w0 w fp0 R _ (λ Q A w K S hQ=> ?_) (St_re (L:=[_,_]) hS1 [1,0] [] (by kernel_rfl));refine wp_blkT p1 (wp_loopT (h+1) p2 (get_loop ho' k hkk h _ x rb w0 w fp0 _ A _ g1 g2 (by rw [g3];exact hok) K (St_re (L:=[_,_]) S [1,0] [] (by kernel_rfl)) λ A w' K' h2=> ?_));refine hQ A w' _ _ K' (St_re (L:=[_,_]) h2 [1,0] [] (by kernel_rfl)) λ w' h3=> ?_;rw [hget];exact ⟨rfl,St.shutOT ⟨g1,g2,g3⟩ (St_re (L:=[_,_]) h3 [1,0] [] (by kernel_rfl))⟩
end
section
def Rd (w0:World) (fp0:List Nat) (R:List Asn) (Q:World->Prop):Prop:=∀(L:List Asn) (w:World),St w0 fp0 (L++R) w->Q w
section
variable {w0 w:World} {fp0:List Nat} {R:List Asn} {Q:World->Prop}
theorem Rd.app (h:Rd w0 fp0 R Q) (M:List Asn):Rd w0 fp0 (M++R) Q:=λ L w hs=> h (L++M) w (by rwa [List.append_assoc])
theorem Rd.cons (h:Rd w0 fp0 R Q) (A:Asn):Rd w0 fp0 (A::R) Q:=h.app [A]
theorem Rd.here (h:Rd w0 fp0 R Q) (hs:St w0 fp0 R w):Q w:=h [] w hs
theorem Rd.at (h:Rd w0 fp0 R Q) {M:List Asn} (hs:St w0 fp0 (M++R) w):Q w:=h M w hs
theorem Rd.perm {R':List Asn} (h:Rd w0 fp0 R Q) (hp:R'.Perm R):Rd w0 fp0 R' Q:=λ L w hs=> h L w (hs.perm (List.Perm.append_left L hp))
theorem Rd.imp {Q':World->Prop} (h:Rd w0 fp0 R Q) (hq:∀w,Q w->Q' w):Rd w0 fp0 R Q':=λ L w hs=> hq w (h L w hs)
theorem Rd.of_piece {A:Asn} (i:Nat) (hi:R[i]? =some A) (h:∀w f,A.p w f->Q w):Rd w0 fp0 R Q:=λ L w hs=> by
 obtain ⟨f,hf⟩:=hs.has (L.length+i) (A:=A) (by rw [List.getElem?_append_right (by omega)];simpa using hi);exact h w f hf
end
structure Re where
 id:Int
 va:Va
 r:Rw
structure Ix where
 cv:Value
 cs:List Int
 kb:Nat
 kh:Nat
 km:MM
structure Sto where
 cols:Nat
 next:Int
 h:Nat
 tb:Nat
 iv:Value
 es:List Re
 ixs:List Ix
def reA (x:Re):Asn:=rowA 68 3 (encV x.va) x.r.length (flat x.r)
def ixA (x:Ix):Asn:=starA [slA 3 x.cv (x.cs.map intC),objA true 16 x.kh x.km x.kb]
def reM (es:List Re):MM:=es.map λ e=> (.int e.id,e.va)
def reL (es:List Re):LL:=es.map λ e=> (e.id,e.r)
def ixV (ixs:List Ix):List Value:=ixs.flatMap λ x=> [x.cv,ptrV x.kb]
def stoL (S:Nat) (s:Sto):List Asn:=
 blkA S 113 #[.int .i64 s.cols,ptrV s.tb, .int .i64 s.next,s.iv]::objA false 16 s.h (reM s.es) s.tb::rowA 152 2 s.iv s.ixs.length (ixV s.ixs)::(s.es.map reA++s.ixs.map ixA)
def RowOk (cols:Nat) (r:Rw):Prop:=r.length=cols/\∀v∈r,okV v=true/\I64 v.int
structure Sto.Ok (s:Sto) (cols:Nat) (I:List (List Int)) (L:LL) (next:Int):Prop where
 eixs:s.ixs.map (·.cs)=I
 ecols:s.cols=cols
 enext:s.next=next
 rows:reL s.es=L
 asc:AscI L
 nx:1<=next/\next<=4611686018427387905
 row:∀x∈L,1<=x.1/\x.1 < next/\RowOk cols x.2
 ixs:∀x∈s.ixs,x.cs≠[]/\x.cs.length<=1000/\(∀c∈x.cs,0<=c/\c < cols)/\IxOk L x.cs x.km/\AscM x.km
def storeA (S cols:Nat) (I:List (List Int)) (L:LL) (next:Int):Asn:=exA λ s:Sto=> starA (pureA (s.Ok cols I L next)::stoL S s)
theorem St.openS {w0 w:World} {fp0:List Nat} {R:List Asn} {S cols:Nat} {I:List (List Int)} {L:LL} {next:Int} (hs:St w0 fp0 (storeA S cols I L next::R) w):∃s:Sto,s.Ok cols I L next/\St w0 fp0 (stoL S s++R) w:=by
 obtain ⟨s,h1⟩:=hs.unfold (L1:=λ s:Sto=> pureA (s.Ok cols I L next)::stoL S s) λ f ⟨q,hq⟩=> ⟨q,hq⟩
 exact ⟨s,St.pure.1 h1⟩
theorem St.shutS {w0 w:World} {fp0:List Nat} {R:List Asn} {S cols:Nat} {I:List (List Int)} {L:LL} {next:Int} {s:Sto} (hk:s.Ok cols I L next) (hs:St w0 fp0 (stoL S s++R) w):St w0 fp0 (storeA S cols I L next::R) w:=by
 have h1:St w0 fp0 ((pureA (s.Ok cols I L next)::stoL S s)++R) w:=St.pure.2 ⟨hk,hs⟩;exact h1.fold λ f hf=> ⟨s,hf⟩
theorem AscI.i64 {L:LL} {next:Int} (hn:next<=4611686018427387905) (h:∀x∈L,1<=x.1/\x.1 < next):∀x∈L,I64 x.1:=λ x hx=> by
 have:=h x hx;unfold I64;omega
theorem reL_asc {es:List Re} (h:AscI (reL es)):es.Pairwise λ a b=> a.id < b.id:=by
 unfold AscI reL at h;rw [List.pairwise_map] at h;exact h
theorem getM_reM {es:List Re} (k:Int):getM (reM es) (.int k)=(es.find? λ e=> e.id==k).map (·.va):=by
 induction es with
 | nil=> rfl
 | cons x es ih=>
  rw [reM,List.map_cons,getM,List.find?_cons];by_cases h:x.id=k
  · rw [if_pos (eqK_iff.2 (by rw [h]))];simp [h]
  · rw [if_neg (λ e=> h (by have:=eqK_iff.1 e;exact Ky.int.inj this))]
    have:(x.id==k)=false:=by simp [h]
    rw [this];exact ih
theorem ltK_int {a b:Int}:ltK (Ky.int a) (Ky.int b)↔a < b:=by
 show cmpS a b < 0↔_;exact cmpS_neg
section
variable {A B:List Re} {k:Int}
theorem reM_lt (hA:∀a∈A,a.id < k):AllLt (reM A) (Ky.int k):=λ x hx=> by
 obtain ⟨a,ha,rfl⟩:=List.mem_map.1 hx;exact ltK_int.2 (hA a ha)
theorem reM_gt (hB:∀b∈B,k < b.id):AllGt (Ky.int k) (reM B):=λ x hx=> by
 obtain ⟨a,ha,rfl⟩:=List.mem_map.1 hx;exact ltK_int.2 (hB a ha)
theorem reL_lt (hA:∀a∈A,a.id < k):∀x∈reL A,x.1 < k:=λ x hx=> by
 obtain ⟨a,ha,rfl⟩:=List.mem_map.1 hx;exact hA a ha
theorem reL_gt (hB:∀b∈B,k < b.id):∀x∈reL B,k < x.1:=λ x hx=> by
 obtain ⟨a,ha,rfl⟩:=List.mem_map.1 hx;exact hB a ha
end
theorem reM_append (A B:List Re):reM (A++B)=reM A++reM B:=List.map_append
theorem reL_append (A B:List Re):reL (A++B)=reL A++reL B:=List.map_append
theorem reM_cons (a:Re) (B:List Re):reM (a::B)=(.int a.id,a.va)::reM B:=rfl
theorem reL_cons (a:Re) (B:List Re):reL (a::B)=(a.id,a.r)::reL B:=rfl
theorem okR (es:List Re):OkL false (reM es):=λ e he=> by
 obtain ⟨a,_,rfl⟩:=List.mem_map.1 he;trivial
theorem okK {L:LL} {cs:List Int} {km:MM} (h:IxOk L cs km):OkL true km:=λ e he=> by
 obtain ⟨x,_,rfl⟩:=(h.mem e).1 he;trivial
end
section
section
variable {P:Program}
theorem St.appSl {Pr:Program} {w0 w:World} {fp0:List Nat} {L:List Asn} {t tx e:TypeId} (hC:AppSrc Pr t tx e 1) (ty:TypeId) {v x:Value} {m:Nat} {xs news:List Value} (hS:St w0 fp0 (slA e v xs::L) w) (hs:Go.Src Pr 1 tx x m news w) (hl:xs.length+m < 1099511627776):
 ∃v' w',(Builtin.append_ #[t,tx] ty #[v,x]).run Pr w=.ok v' w'/\St w0 fp0 (slA e v' (xs++news)::L) w':=by
 obtain ⟨v',w',h1,h2⟩:=St.appSrc hC ty (n:=xs.length) hS hs hl;refine ⟨v',w',h1,?_⟩;have hn:=hs.newsLen;have e1:xs.length+m=(xs++news).length:=by rw [List.length_append,hn,Nat.mul_one]
 rw [e1] at h2;exact h2
theorem wpList_appSl {w:World} {ops:Array Oper} {rest:List Oper} {o:Oper} {a:Act} {Q:Exit->Act->World->Prop} (hgd:o.guard=none) (s x:Operand) (t tx:TypeId)
 (ho:o.op=.call { callee:=.builtin .append,args:=#[s,x],argTypes:=#[t,tx] }) {e:TypeId} {v v2:Value} (hs:a.eval s=v) (hx:a.eval x=v2) (hC:AppSrc P t tx e 1) {w0:World} {fp0:List Nat} {L:List Asn} {m:Nat} {xs news:List Value}
 (hS:St w0 fp0 (slA e v xs::L) w) (hsrc:Go.Src P 1 tx v2 m news w) (hl:xs.length+m < 1099511627776)
 (h:∀v' w',Hid (St w0 fp0 (slA e v' (xs++news)::L) w')->wpList P ops Q rest (a.put o.dst v') w'):wpList P ops Q (o::rest) a w:=by
 refine wpList_plain hgd λ K hK=> ?_;obtain ⟨v',w',hr,h2⟩:=St.appSl hC o.type hS hsrc hl;unfold Oper.wp execOp;simp only [ho,resolve,invoke,builtin,Sem.run_bind,Sem.run_pure,Result.andThen_ok,List.map_toArray,List.map_cons,List.map_nil,hs,hx,hr];exact hK _ _ (h v' w' h2)
theorem src_lit {tx e':TypeId} (hk:P.underlying tx=some (.slice e')) (w:World) (b n c:Nat) (t:TypeId) (fr:Nat×Nat) (cs:Array Value) (h:w.heap[b]? =some (.cells cs t fr)) (hn:cs.size=n) (h1:∀u∈cs.toList,u.oneCell'=true):Go.Src P 1 tx (.slice (some ⟨b,0,none⟩) n c) n cs.toList w:=
 Go.Src.ofSlice w hk _ n c _ (by simp [hn]) (λ j u hj=> by rw [add_plain,Nat.zero_add,cell_of_row w b j cs t fr h];simpa using hj) h1
end
theorem appBS:AppSrc Tryz.prog 52 52 5 1:=appSrc (z:=.int .u8 0) (bytes:=1) (by kernel_rfl) (by kernel_rfl) rfl (by decide) (by decide)
theorem appBT:AppSrc Tryz.prog 52 9 5 1:=appSrc (z:=.int .u8 0) (bytes:=1) (by kernel_rfl) (by kernel_rfl) rfl (by decide) (by decide)
theorem u8C_one (l:List UInt8):∀u∈l.map u8C,u.oneCell'=true:=by
 intro u hu;obtain ⟨b,_,rfl⟩:=List.mem_map.1 hu;rfl
theorem bytesRow_get (s:ByteArray) (cap j:Nat) (hj:j < s.size):(bytesRow s cap)[j]? =some (.int .u8 (s[j]'hj).toNat):=by
 have h:j < (s.data.map λ b=> Value.int .u8 b.toNat).size:=by simpa using hj
 rw [bytesRow,Array.getElem?_append_left h,Array.getElem?_map,Array.getElem?_eq_getElem (by simpa using hj)];rfl
theorem St.snoc8 {w0 w:World} {fp0:List Nat} {R:List Asn} {v:Value} {xs ys:List UInt8} {t:TypeId} {news:List Value} (h:St w0 fp0 (slA t v (xs.map u8C++news)::R) w) (hn:news=ys.map u8C):St w0 fp0 (slA t v ((xs++ys).map u8C)::R) w:=by
 rw [List.map_append,<-hn];exact h
end
def RowSpec (P:Program) (ts e:TypeId) (size:Nat):Prop:=∀(ty:TypeId) (w:World) (v:Value) (n:Nat) (xs:List Value) (f:List Nat) (vb:Nat) (news:List Value),(rowA e size v n xs).p w f->w.heap[vb]? =some (.cells news.toArray e (0,0))->news.length=size->(∀u∈news,u.oneCell'=true)->n+1 < 1099511627776->
 ∃v' w' f',(Builtin.append_ #[ts,ts] ty #[v, .slice (some ⟨vb,0,none⟩) 1 1]).run P w=.ok v' w'/\(rowA e size v' (n+1) (xs++news)).p w' f'/\Tr w w' f f'
theorem rowSpec {P:Program} {ts e:TypeId} {size bytes:Nat} {z:Value} (hi:(P.info? e).map (λ i=> (i.zero,i.size,i.bytes))=some (some z,size,bytes)) (ht:P.underlying ts=some (.slice e)) (hz:z.cells.size=size) (h0:0 < size) (hb:bytes<=128):RowSpec P ts e size:=by
 intro ty w v n xs f vb news h1 h2 h3 h4 h5;obtain ⟨i0,ii,iz0,iz1,iz2⟩:=info_parts hi;exact row_append w ts ty e i0 z size bytes ht ii iz0 iz1 iz2 hz h0 h1 vb news e h2 h3 h4 (by unfold maxLen;omega) (by have:(n+1) * bytes<=1099511627776 * 128:=Nat.mul_le_mul (by omega) hb;omega)
theorem Rg.Ob.boxs (G:Rg) (i k:Nat) {d:Nat} {t:TypeId} {cs:Array Value} (hk:G.pcs[k]? =some (.new i [d] λ g=> boxsA t (g d) cs):=by rfl)
 (hr:∀a w,(execOp (G.env i a) (opAt G.ops i)).run G.P w=.ok (.value (.slice (some ⟨w.heap.size,0,none⟩) 1 1)) (w.alloc (.cells cs t)):=by intro _ _;exact kr (by kernel_rfl))
 (hd:dstOf G.ops i=some d:=by exact kr (by kernel_rfl)) (hself:((closOf G.ops).getD i []).elem i=false:=by exact kr (by kernel_rfl)) (hsh:∀g n,G.shp i g (.slice (some ⟨n,0,none⟩) 1 1)=.slice (some ⟨n,0,none⟩) 1 1:=by intro _ _;exact kr (by kernel_rfl))
 (hq:G.quiet i k=true:=by exact kr (by kernel_rfl)) (hw:∀a,wantE G.ops (opAt G.ops i) (G.env i a)=some true:=by intro _;exact kr (by kernel_rfl)):G.Ob i:=Rg.Ob.eff G i k hk (λ L a w fp _ _ hp=> by
 rw [new_before hself] at hp;obtain rfl:fp=[]:=hp;rw [hr a w];refine ⟨G.shp_of (hsh _ _),?_⟩;rw [new_after,hd];obtain ⟨h1,h2⟩:=boxs_new w t cs;refine ⟨_,?_,h2⟩;have e:rv [d] (sput (slots a) (some d) (.slice (some ⟨w.heap.size,0,none⟩) 1 1)) d=.slice (some ⟨w.heap.size,0,none⟩) 1 1:=by unfold rv sput;simp
 rw [e];exact h1) hq hw
theorem Rg.Ob.appE (G:Rg) (i kx k:Nat) {ts e:TypeId} {size n ib d dx:Nat} {v:Value} {xs news:List Value} (hC:RowSpec G.P ts e size) (hl:n+1 < 1099511627776) (hn:news.length=size) (h1:∀u∈news,u.oneCell'=true)
 {s:Operand} (hkx:G.pcs[kx]? =some (.new ib [dx] λ g=> boxsA e (g dx) news.toArray):=by rfl) (hk:G.pcs[k]? =some (.gen [i] [d] λ L g=> match L i with | true=> rowA e size (g d) (n+1) (xs++news) | false=> rowA e size v n xs):=by rfl)
 (hop:(opAt G.ops i).op=.call ⟨.builtin .append,#[s, .tmp dx],#[ts,ts]⟩:=by rfl) (hs:∀a,G.env i a s=v:=by intro _;exact kr (by kernel_rfl)) (hd:dstOf G.ops i=some d:=by exact kr (by kernel_rfl))
 (hsh:∀g a n c,G.shp i g (.slice a n c)=.slice a n c:=by intro _ _ _ _;exact kr (by kernel_rfl)) (hself:((closOf G.ops).getD i []).elem i=false:=by exact kr (by kernel_rfl))
 (hin:((closOf G.ops).getD i []).elem ib=true:=by exact kr (by kernel_rfl)) (hq:G.quiet i k=true:=by exact kr (by kernel_rfl)) (hw:∀a,wantE G.ops (opAt G.ops i) (G.env i a)=some true:=by intro _;exact kr (by kernel_rfl)):G.Ob i:=Rg.Ob.eff G i k hk (λ L a w fp he hS hp=> by
 obtain ⟨g,hg⟩:=Rg.has hkx hS;rw [new_there hin] at hg;have e1:rv [dx] (slots a) dx=slots a dx:=by unfold rv;simp
 rw [e1] at hg;obtain ⟨vb,hgb,hvb,rfl⟩:=hg;have hp':(rowA e size v n xs).p w fp:=by
  have e2:(Pc.gen [i] [d] λ L g=> match L i with | true=> rowA e size (g d) (n+1) (xs++news) | false=> rowA e size v n xs).at (lk (closOf G.ops) i L) (slots a)=rowA e size v n xs:=by
   show (match rb [i] (lk (closOf G.ops) i L) i with | true=> _ | false=> _)=_;have e3:rb [i] (lk (closOf G.ops) i L) i=false:=by unfold rb lk;rw [hself];simp
   rw [e3]
  rw [e2] at hp;exact hp
 obtain ⟨v',w',f',hr,h3,h4⟩:=hC (opAt G.ops i).type w v n xs fp vb news hp' hvb hn h1 hl;rw [he,run_append_op hop ((congrFun he s).symm.trans (hs a)) hgb hr];obtain ⟨aa,c,rfl,_⟩:=row_shape h3;refine ⟨G.shp_of (hsh _ _ _ _),f',?_,h4⟩;have e2:(Pc.gen [i] [d] λ L g=> match L i with | true=> rowA e size (g d) (n+1) (xs++news) | false=> rowA e size v n xs).at (ln (closOf G.ops) i L) (sput (slots a) (dstOf G.ops i) (.slice aa (n+1) c))=rowA e size (.slice aa (n+1) c) (n+1) (xs++news):=by
  show (match rb [i] (ln (closOf G.ops) i L) i with | true=> _ | false=> _)=_;have e3:rb [i] (ln (closOf G.ops) i L) i=true:=by unfold rb ln;simp
  rw [e3,hd];have e4:rv [d] (sput (slots a) (some d) (.slice aa (n+1) c)) d=.slice aa (n+1) c:=by unfold rv sput;simp
  show rowA e size (rv [d] _ d) _ _=_;rw [e4]
 rw [e2];exact h3) hq hw
theorem Rg.Ob.eqlT (G:Rg) (i p q:Nat) (h:p=q) {ty r:TypeId} {x y:Operand} (hop:(opAt G.ops i).op=.binOp .eql ty x y r:=by rfl) (hx:∀a,G.env i a x=.int .i64 p:=by intro _;exact kr (by kernel_rfl)) (hy:∀a,G.env i a y=.int .i64 q:=by intro _;exact kr (by kernel_rfl)) (hv:∀g,G.valD i g=.bool true:=by intro _;exact kr (by kernel_rfl))
 (hq:(G.quiet i G.pcs.length && G.okV i)=true:=by exact kr (by kernel_rfl)) (hw:∀a,wantE G.ops (opAt G.ops i) (G.env i a)=some true:=by intro _;exact kr (by kernel_rfl)):G.Ob i:=Rg.Ob.read G i hq hw λ L a w _ _=> by
 have e:((p:Int)==(q:Int))=true:=by rw [h];simp
 simp [execOp,hop,hx,hy,go_sem,hv,e]
theorem Rg.Ob.eqlF (G:Rg) (i p q:Nat) (h:p≠q) {ty r:TypeId} {x y:Operand} (hop:(opAt G.ops i).op=.binOp .eql ty x y r:=by rfl) (hx:∀a,G.env i a x=.int .i64 p:=by intro _;exact kr (by kernel_rfl)) (hy:∀a,G.env i a y=.int .i64 q:=by intro _;exact kr (by kernel_rfl)) (hv:∀g,G.valD i g=.bool false:=by intro _;exact kr (by kernel_rfl))
 (hq:(G.quiet i G.pcs.length && G.okV i)=true:=by exact kr (by kernel_rfl)) (hw:∀a,wantE G.ops (opAt G.ops i) (G.env i a)=some true:=by intro _;exact kr (by kernel_rfl)):G.Ob i:=Rg.Ob.read G i hq hw λ L a w _ _=> by
 have e:((p:Int)==(q:Int))=false:=beq_false_of_ne (by omega);simp [execOp,hop,hx,hy,go_sem,hv,e]
theorem Rg.Ob.geqI (G:Rg) (i:Nat) (p q:Int) {ty r:TypeId} {x y:Operand} (hop:(opAt G.ops i).op=.binOp .geq ty x y r:=by rfl) (hx:∀a,G.env i a x=.int .i64 p:=by intro _;exact kr (by kernel_rfl)) (hy:∀a,G.env i a y=.int .i64 q:=by intro _;exact kr (by kernel_rfl)) (hv:∀g,G.valD i g=.bool (decide (q<=p)):=by intro _;exact kr (by kernel_rfl))
 (hq:(G.quiet i G.pcs.length && G.okV i)=true:=by exact kr (by kernel_rfl)) (hw:∀a,wantE G.ops (opAt G.ops i) (G.env i a)=some true:=by intro _;exact kr (by kernel_rfl)):G.Ob i:=Rg.Ob.read G i hq hw λ L a w _ _=> by
 simp [execOp,hop,hx,hy,go_sem,hv]
theorem Rg.Ob.callV (G:Rg) (i:Nat) (PL:List Asn) (PN:Value->List Asn) {f:Nat} {args:Array Value} (hc:∀w,St G.w0 G.fp0 (PL++G.R) w->Calls G.P f args w λ e w'=> ∃v a n c,v=.slice a n c/\e=.returned v/\St G.w0 G.fp0 (PN v++G.R) w')
 (hr:∀a w,(execOp (G.env i a) (opAt G.ops i)).run G.P w=.ok (.enter f args) w:=by intro _ _;exact kr (by kernel_rfl)) (hL:∀L g,(G.pcs.map λ p=> p.at (lk (closOf G.ops) i L) g)=PL:=by intro _ _;exact kr (by kernel_rfl)) (hN:∀L g v,(G.pcs.map λ p=> p.at (ln (closOf G.ops) i L) (sput g (dstOf G.ops i) v))=PN v:=by intro _ _ _;exact kr (by kernel_rfl))
 (hv:∀g a n c,G.shp i g (.slice a n c)=.slice a n c:=by intro _ _ _ _;exact kr (by kernel_rfl)) (hw:∀a,wantE G.ops (opAt G.ops i) (G.env i a)=some true:=by intro _;exact kr (by kernel_rfl)):G.Ob i:=by
 intro o ho L a w hsz he hS;have hd:o.dst=dstOf G.ops i:=by rw [dstOf,ho];rfl
 have hw':=hw a;have h':=hr a w;rw [opAt_eq ho] at hw' h';rw [hw',h',hd];unfold stP at hS;rw [hL] at hS;refine Calls.mono (hc w hS) λ e w' h=> ?_;obtain ⟨_,aa,n,c,rfl,rfl,h2⟩:=h;refine ⟨_,rfl,G.shp_of (hv _ _ _ _),?_⟩;unfold stP;rw [hN];exact h2
theorem Rg.Ob.callN (G:Rg) (i n:Nat) (PL:List Asn) (PN:Value->List Asn) {f:Nat} {args:Array Value} (hc:∀w,St G.w0 G.fp0 (PL++G.R) w->Calls G.P f args w λ e w'=> ∃v a c,v=.slice a n c/\e=.returned v/\St G.w0 G.fp0 (PN v++G.R) w')
 (hr:∀a w,(execOp (G.env i a) (opAt G.ops i)).run G.P w=.ok (.enter f args) w:=by intro _ _;exact kr (by kernel_rfl)) (hL:∀L g,(G.pcs.map λ p=> p.at (lk (closOf G.ops) i L) g)=PL:=by intro _ _;exact kr (by kernel_rfl)) (hN:∀L g v,(G.pcs.map λ p=> p.at (ln (closOf G.ops) i L) (sput g (dstOf G.ops i) v))=PN v:=by intro _ _ _;exact kr (by kernel_rfl))
 (hv:∀g a c,G.shp i g (.slice a n c)=.slice a n c:=by intro _ _ _;exact kr (by kernel_rfl)) (hw:∀a,wantE G.ops (opAt G.ops i) (G.env i a)=some true:=by intro _;exact kr (by kernel_rfl)):G.Ob i:=by
 intro o ho L a w hsz he hS;have hd:o.dst=dstOf G.ops i:=by rw [dstOf,ho];rfl
 have hw':=hw a;have h':=hr a w;rw [opAt_eq ho] at hw' h';rw [hw',h',hd];unfold stP at hS;rw [hL] at hS;refine Calls.mono (hc w hS) λ e w' h=> ?_;obtain ⟨_,aa,c,rfl,rfl,h2⟩:=h;refine ⟨_,rfl,G.shp_of (hv _ _ _),?_⟩;unfold stP;rw [hN];exact h2
section
theorem Rg.Ob.callG (G:Rg) (i:Nat) (PL:(Nat->Value)->List Asn) (PN:(Nat->Value)->Value->List Asn) {f:Nat} {args:(Nat->Value)->Array Value}
 (hc:∀g w,St G.w0 G.fp0 (PL g++G.R) w->Calls G.P f (args g) w λ e w'=> ∃v,e=.returned v/\G.shp i g v=v/\St G.w0 G.fp0 (PN g v++G.R) w')
 (hr:∀a w,(execOp (G.env i a) (opAt G.ops i)).run G.P w=.ok (.enter f (args (slots a))) w:=by intro _ _;exact kr (by kernel_rfl)) (hL:∀L g,(G.pcs.map λ p=> p.at (lk (closOf G.ops) i L) g)=PL g:=by intro _ _;exact kr (by kernel_rfl)) (hN:∀L g v,(G.pcs.map λ p=> p.at (ln (closOf G.ops) i L) (sput g (dstOf G.ops i) v))=PN g v:=by intro _ _ _;exact kr (by kernel_rfl))
 (hw:∀a,wantE G.ops (opAt G.ops i) (G.env i a)=some true:=by intro _;exact kr (by kernel_rfl)):G.Ob i:=by
 intro o ho L a w hsz he hS;have hd:o.dst=dstOf G.ops i:=by rw [dstOf,ho];rfl
 have hw':=hw a;have h':=hr a w;rw [opAt_eq ho] at hw' h';rw [hw',h',hd];unfold stP at hS;rw [hL] at hS;refine Calls.mono (hc (slots a) w hS) λ e w' h=> ?_;obtain ⟨v,rfl,h1,h2⟩:=h;refine ⟨_,rfl,G.shp_of h1,?_⟩;unfold stP;rw [hN];exact h2
theorem Rg.Ob.runG (G:Rg) (i:Nat) (PL:(Nat->Value)->List Asn) (PN:(Nat->Value)->Value->List Asn)
 (hr:∀a w,St G.w0 G.fp0 (PL (slots a)++G.R) w->∃v w',(execOp (G.env i a) (opAt G.ops i)).run G.P w=.ok (.value v) w'/\G.shp i (slots a) v=v/\St G.w0 G.fp0 (PN (slots a) v++G.R) w')
 (hL:∀L g,(G.pcs.map λ p=> p.at (lk (closOf G.ops) i L) g)=PL g:=by intro _ _;exact kr (by kernel_rfl)) (hN:∀L g v,(G.pcs.map λ p=> p.at (ln (closOf G.ops) i L) (sput g (dstOf G.ops i) v))=PN g v:=by intro _ _ _;exact kr (by kernel_rfl))
 (hw:∀a,wantE G.ops (opAt G.ops i) (G.env i a)=some true:=by intro _;exact kr (by kernel_rfl)):G.Ob i:=by
 intro o ho L a w hsz he hS;have hd:o.dst=dstOf G.ops i:=by rw [dstOf,ho];rfl
 have hw':=hw a;have h':=hr a w;rw [opAt_eq ho] at hw' h';unfold stP at hS;rw [hL] at hS;obtain ⟨v,w',h1,h2,h3⟩:=h' hS;rw [hw',h1,hd];refine ⟨G.shp_of h2,?_⟩;unfold stP;rw [hN];exact h3
theorem Rg.Ob.appG (G:Rg) (i:Nat) (PL:(Nat->Value)->List Asn) (PN:(Nat->Value)->Value->List Asn) {t tx:TypeId} {s x:Operand} {vs vx:(Nat->Value)->Value}
 (hc:∀ty g w,St G.w0 G.fp0 (PL g++G.R) w->∃v w',(Builtin.append_ #[t,tx] ty #[vs g,vx g]).run G.P w=.ok v w'/\G.shp i g v=v/\St G.w0 G.fp0 (PN g v++G.R) w')
 (hop:(opAt G.ops i).op=.call ⟨.builtin .append,#[s,x],#[t,tx]⟩:=by rfl) (hs:∀a,G.env i a s=vs (slots a):=by intro _;exact kr (by kernel_rfl)) (hx:∀a,G.env i a x=vx (slots a):=by intro _;exact kr (by kernel_rfl))
 (hL:∀L g,(G.pcs.map λ p=> p.at (lk (closOf G.ops) i L) g)=PL g:=by intro _ _;exact kr (by kernel_rfl)) (hN:∀L g v,(G.pcs.map λ p=> p.at (ln (closOf G.ops) i L) (sput g (dstOf G.ops i) v))=PN g v:=by intro _ _ _;exact kr (by kernel_rfl))
 (hw:∀a,wantE G.ops (opAt G.ops i) (G.env i a)=some true:=by intro _;exact kr (by kernel_rfl)):G.Ob i:=
 Rg.Ob.runG G i PL PN (λ a w hS=> by obtain ⟨v,w',h1,h2⟩:=hc (opAt G.ops i).type (slots a) w hS;refine ⟨v,w',?_,h2⟩;unfold execOp;simp only [hop,resolve,invoke,builtin,Sem.run_bind,Sem.run_pure,Result.andThen_ok,List.map_toArray,List.map_cons,List.map_nil,hs,hx,h1]) hL hN hw
theorem Rg.Ob.cat (G:Rg) (i:Nat) (u v:ByteArray) (hl:u.size+v.size < 1099511627776) {ty r:TypeId} {x y:Operand} (hop:(opAt G.ops i).op=.binOp .add ty x y r:=by rfl) (hx:∀a,G.env i a x=.string u:=by intro _;exact kr (by kernel_rfl)) (hy:∀a,G.env i a y=.string v:=by intro _;exact kr (by kernel_rfl)) (hv:∀g,G.valD i g=.string (u++v):=by intro _;exact kr (by kernel_rfl))
 (hq:(G.quiet i G.pcs.length && G.okV i)=true:=by exact kr (by kernel_rfl)) (hw:∀a,wantE G.ops (opAt G.ops i) (G.env i a)=some true:=by intro _;exact kr (by kernel_rfl)):G.Ob i:=Rg.Ob.read G i hq hw λ _ a w _ _=> by
 have h1:¬ (9223372036854775807:Int) < (u.size:Int)+v.size:=by omega
 rw [hv];simp [execOp,hop,hx,hy,go_sem,Op.stringOp,IntKind.max,IntKind.bits,IntKind.signed,h1]
theorem Rg.Ob.boxsG (G:Rg) (i k:Nat) {d:Nat} {ds:List Nat} {t:TypeId} {cs:(Nat->Value)->Array Value} (hk:G.pcs[k]? =some (.new i (d::ds) λ g=> boxsA t (g d) (cs g)):=by rfl)
 (hr:∀a w,(execOp (G.env i a) (opAt G.ops i)).run G.P w=.ok (.value (.slice (some ⟨w.heap.size,0,none⟩) 1 1)) (w.alloc (.cells (cs (rv (d::ds) (slots a))) t)):=by intro _ _;exact kr (by kernel_rfl))
 (hcs:∀g v,cs (rv (d::ds) (sput g (some d) v))=cs (rv (d::ds) g):=by intro _ _;exact kr (by kernel_rfl))
 (hd:dstOf G.ops i=some d:=by exact kr (by kernel_rfl)) (hself:((closOf G.ops).getD i []).elem i=false:=by exact kr (by kernel_rfl)) (hsh:∀g n,G.shp i g (.slice (some ⟨n,0,none⟩) 1 1)=.slice (some ⟨n,0,none⟩) 1 1:=by intro _ _;exact kr (by kernel_rfl))
 (hq:G.quiet i k=true:=by exact kr (by kernel_rfl)) (hw:∀a,wantE G.ops (opAt G.ops i) (G.env i a)=some true:=by intro _;exact kr (by kernel_rfl)):G.Ob i:=Rg.Ob.eff G i k hk (λ L a w fp _ _ hp=> by
 rw [new_before hself] at hp;obtain rfl:fp=[]:=hp;rw [hr a w];refine ⟨G.shp_of (hsh _ _),?_⟩;rw [new_after,hd];obtain ⟨h1,h2⟩:=boxs_new w t (cs (rv (d::ds) (slots a)));refine ⟨_,?_,h2⟩;rw [hcs];have e:rv (d::ds) (sput (slots a) (some d) (.slice (some ⟨w.heap.size,0,none⟩) 1 1)) d=.slice (some ⟨w.heap.size,0,none⟩) 1 1:=by unfold rv sput;simp
 rw [e];exact h1) hq hw
theorem text_size (l:List UInt8):(textOf l).size=l.length:=by show l.toArray.size=_;simp
theorem num_size (n:Int):(textOf (numL n)).size=8:=by rw [text_size,numL_length]
section
variable {P:Program} {w0 w:World} {fp0:List Nat} {R:List Asn} {t tx e e':TypeId} {v s x:Value} {xs:List Value}
theorem box_src {f:List Nat} (hk:P.underlying tx=some (.slice e')) (h:(boxA e s x).p w f) (h1:x.oneCell'=true):Go.Src P 1 tx (.slice (some ⟨pb s,0,none⟩) 1 1) 1 [x] w:=by
 obtain ⟨vb,rfl,h2,_⟩:=h;exact src_lit hk w vb 1 1 e (0,0) #[x] h2 rfl (by simpa using h1)
theorem appB1 (hC:AppSrc P t tx e 1) (hk:P.underlying tx=some (.slice e')) (ty:TypeId) (h1:x.oneCell'=true) (hl:xs.length+1 < 1099511627776) (hS:St w0 fp0 (boxA e s x::slA e v xs::R) w):
 ∃v' w',(Builtin.append_ #[t,tx] ty #[v, .slice (some ⟨pb s,0,none⟩) 1 1]).run P w=.ok v' w'/\St w0 fp0 (boxA e s x::slA e v' (xs++[x])::R) w':=by
 obtain ⟨f,hf⟩:=hS.has 0 rfl;obtain ⟨v',w',h2,h3⟩:=St.appSl hC ty (hS.perm (List.Perm.swap _ _ _)) (box_src hk hf h1) hl;exact ⟨v',w',h2,h3.perm (List.Perm.swap _ _ _)⟩
theorem appT1 (hC:AppSrc P t tx e 1) (hk:P.underlying tx=some .string) (ty:TypeId) (u:ByteArray) (hl:xs.length+u.size < 1099511627776) (hS:St w0 fp0 (slA e v xs::R) w):
 ∃v' w',(Builtin.append_ #[t,tx] ty #[v, .string u]).run P w=.ok v' w'/\St w0 fp0 (slA e v' (xs++(bytes u).map u8C)::R) w':=
 St.appSl hC ty hS (Go.Src.ofString w hk u) hl
end
theorem cons_eq {d:Nat} {v v':Value} {l l':List (Nat×Value)} (h:v=v') (hl:l=l'):(d,v)::l=(d,v')::l':=by rw [h,hl]
theorem frame_eq {a a1:Act} {ks:List Nat} {l:List (Nat×Value)} (h:FrameLike a a1 ks) (hl:(ks.map λ k=> (k,slots a1 k))=l):a1=putL a l:=by
 rw [<-hl];exact h.eq
def Rg.outK (G:Rg) (us:List Nat) (g:Nat->Value) (k:Nat):Value:=if us.contains k then g k else ((G.vals.find? λ t=> t.d==k).map λ t=> t.at g).getD (g k)
theorem Rg.Next.fin {G:Rg} {a a1:Act} (N:G.Next a a1) (us:List Nat) {l:List (Nat×Value)} {w1:World} {Q:Exit->Act->World->Prop} (h:Q .normal (putL a l) w1) (hl:(G.ks.map λ k=> (k,G.outK us (slots a1) k))=l):Q .normal a1 w1:=by
 have e:a1=putL a l:=by
  refine frame_eq N.frame (Eq.trans (List.map_congr_left λ k _=> ?_) hl);unfold Rg.outK;split
  · rfl
  · cases e:G.vals.find? λ t=> t.d==k with
    | none=> rfl
    | some t=>
     have h1:=N.vals t (List.mem_of_find?_eq_some e);have h2:t.d=k:=by simpa using List.find?_some e
     rw [h2] at h1;rw [h1];rfl
 rw [e];exact h
end
def gRa3 (b:Value) (vb:Nat) (k n:Int) (t:ByteArray) (xs:List Value):=rgx Tryz.prog Tryz.f124 3 49 [11,12,13,14,15,16,17,4] [(0,b),(3,pV vb 0)] (Vq 0 11 [Kv b,Vf.box]++Vq 3 14 [Kp vb 1,Kv (.int .i64 n),Kv (.string (textOf (numL n)))]++Vq 7 4 [Fv [17] λ g=> g 17]) [.new 1 [12] λ g=> boxA 5 (g 12) (.int .u8 2), .gen [2,6] [13,17] λ L g=> match L 6 with | true=> slA 5 (g 17) (xs++[Value.int .u8 2]++(bytes (textOf (numL n))).map u8C) | false=> match L 2 with | true=> slA 5 (g 13) (xs++[Value.int .u8 2]) | false=> slA 5 b xs,Bk vb (68) [.int .i64 k, .int .i64 n, .string t]]
theorem rRa3 (b:Value) (vb:Nat) (k n:Int) (t:ByteArray) (xs:List Value) (w0:World) (fp0:List Nat) (R:List Asn) (hn:I64 n) (hl:xs.length+20 < 1099511627776) {w:World} {c:Code} {a:Act} {Q:Exit->Act->World->Prop} (c1:isReg c=true) (c2:cops c=opsR Tryz.f124 3) (c3:a.tmps.size=49) (_c4:a.defers=a.defers) (i0:a.eval (.tmp 0)=b) (i3:a.eval (.tmp 3)=.pointer (some ⟨vb,0,none⟩))
 (hS:St w0 fp0 ([emp,slA 5 b xs,blkA vb (68) #[.int .i64 k, .int .i64 n, .string t]]++R) w)
 (hQ:∀(u12 u13 u17:Value) (w1:World),(∃b,u12=.slice (some ⟨b,0,none⟩) 1 1)->St w0 fp0 ([boxA 5 (u12) (.int .u8 2),slA 5 (u17) (xs++[Value.int .u8 2]++(bytes (textOf (numL n))).map u8C),blkA vb (68) #[.int .i64 k, .int .i64 n, .string t]]++R) w1->Q .normal (putL a [(11,b),(12,u12),(13,u13),(14, .pointer (some ⟨vb,1,none⟩)),(15, .int .i64 n),(16, .string (textOf (numL n))),(17,u17),(4,u17)]) w1):c.wp Tryz.prog Q a w:=by
 have ok:(gRa3 b vb k n t xs w0 fp0 R).Ok 8:=Rg.ok _ 8 [1,2,4,5,6] ⟨.box _ 1 0 rfl, .appG _ 2 (λ g=> [boxA 5 (g 12) (.int .u8 2),slA 5 b xs,blkA vb 68 #[.int .i64 k, .int .i64 n, .string t]]) (λ g v=> [boxA 5 (g 12) (.int .u8 2),slA 5 v (xs++[Value.int .u8 2]),blkA vb 68 #[.int .i64 k, .int .i64 n, .string t]]) (λ ty g w h=> let ⟨v,w2,h1,h2⟩:=appB1 appBS (e':=5) (by kernel_rfl) ty rfl (by omega) h;⟨v,w2,h1,rfl,h2⟩), .load _ 4 2 1, .callG _ 5 (λ g=> [boxA 5 (g 12) (.int .u8 2),slA 5 (g 13) (xs++[Value.int .u8 2]),blkA vb 68 #[.int .i64 k, .int .i64 n, .string t]]) (λ g _=> [boxA 5 (g 12) (.int .u8 2),slA 5 (g 13) (xs++[Value.int .u8 2]),blkA vb 68 #[.int .i64 k, .int .i64 n, .string t]]) (λ g w h=> (number_calls n hn w).mono λ e w2 ⟨e1,hb⟩=> ⟨_,e1,rfl,h.mono hb⟩), .appG _ 6 (λ g=> [boxA 5 (g 12) (.int .u8 2),slA 5 (g 13) (xs++[Value.int .u8 2]),blkA vb 68 #[.int .i64 k, .int .i64 n, .string t]]) (λ g v=> [boxA 5 (g 12) (.int .u8 2),slA 5 v (xs++[Value.int .u8 2]++(bytes (textOf (numL n))).map u8C),blkA vb 68 #[.int .i64 k, .int .i64 n, .string t]]) (λ ty g w h=> let ⟨v,w2,h1,h2⟩:=appT1 appBT (by kernel_rfl) ty (textOf (numL n)) (by simp [textOf,numL,ByteArray.size];omega) (h.perm (List.Perm.swap _ _ _));⟨v,w2,h1,rfl,h2.perm (List.Perm.swap _ _ _)⟩),trivial⟩;refine wp_regD ok (by kernel_rfl) ⟨c1,c2⟩ ⟨c3,λ p hp=> ?_⟩ hS λ A1 w1 N1 H1=> ?_
 · simp only [gRa3,rgx,List.map_nil,List.append_nil,List.mem_cons,List.not_mem_nil,or_false] at hp
   rcases hp with rfl | rfl
   · exact i0
   · exact i3
 exact N1.fin [12,13,17] (hQ (slots A1 12) (slots A1 13) (slots A1 17) w1 ⟨_,(N1.val 1 rfl)⟩ H1) (by kernel_rfl)
def obA (b:Nat) (o:Obj):Asn:=
 ⟨λ w fp=> w.heap[b]? =some o/\fp=[b],λ h k hk=> by rw [h.2,List.mem_singleton] at hk;rw [hk];exact (Array.getElem?_eq_some_iff.1 h.1).1,λ h hs=> ⟨(hs b (by rw [h.2];simp)).trans h.1,h.2⟩⟩
theorem St.newob {w0 w w1:World} {fp0:List Nat} {L:List Asn} (h:St w0 fp0 L w) (hb:Below w.heap.size w w1) (he:w.heap.size=w1.heap.size) (o:Obj):St w0 fp0 (obA w.heap.size o::L) (w1.alloc o):=by
 have h1:St w0 fp0 (L++[obA w.heap.size o]) (w1.alloc o):=h.add (hb.alloc (by omega) o) ⟨by rw [he];exact heap_alloc_new w1 o,rfl⟩ (by simp);exact h1.perm List.perm_append_comm
theorem St.app8 {w0 w w':World} {fp0:List Nat} {R:List Asn} {t:TypeId} {v:Value} {xs:List UInt8} {news:List Value} (ys:List UInt8) (h:Hid (St w0 fp0 (slA t v (xs.map u8C++news)::R) w)) (hb:Below w.heap.size w w') (hn:news=ys.map u8C):Hid (St w0 fp0 (slA t v ((xs++ys).map u8C)::R) w'):=by
 have h2:=h.out.mono hb;rw [hn,<-List.map_append] at h2;exact h2
theorem radd_calls (v:Vl) (hv:I64 v.int) (b:Value) (xs:List UInt8) (hl:xs.length+2 * v.text.size+20 < 1099511627776) (w0 w:World) (fp0:List Nat) (R:List Asn) (hS:St w0 fp0 (slA 5 b (xs.map u8C)::R) w):
 Calls Tryz.prog 124 #[b,v.val] w λ e w'=> ∃b',e=.returned b'/\St w0 fp0 (slA 5 b' ((xs++encL v).map u8C)::R) w':=by
 obtain ⟨c0,c1,c2⟩:(w.alloc (.cells #[.int .i64 v.kind, .int .i64 v.int, .string v.text] 68)).cell? ⟨w.heap.size,0,none⟩=some (.int .i64 v.kind)/\(w.alloc (.cells #[.int .i64 v.kind, .int .i64 v.int, .string v.text] 68)).cell? ⟨w.heap.size,1,none⟩=some (.int .i64 v.int)/\(w.alloc (.cells #[.int .i64 v.kind, .int .i64 v.int, .string v.text] 68)).cell? ⟨w.heap.size,2,none⟩=some (.string v.text):=
  ⟨World.cell?_alloc_new _ _ _ 0,World.cell?_alloc_new _ _ _ 1,World.cell?_alloc_new _ _ _ 2⟩
 have HS0:=Lib.hid (hS.newblk 68 #[.int .i64 v.kind, .int .i64 v.int, .string v.text]);have HS:=Lib.hid HS0.out.drop;have HL:=Lib.hid hl;have HV:=Lib.hid hv;unfold Vl.val;clear hS hv hl;go_enter Tryz.func124,Tryz.ntmps124;go_upto_region 1 with (fail)
 generalize hW:w.alloc _=W at *;clear hW;have hbl:=World.block_lt_of_cell? W _ c0;by_cases h1:v.kind=1
 · have HE:Hid (encL v=[2]++numL v.int):=by show _=_;rw [encL,if_pos h1];rfl
   go_upto_region 3 with (fail)
   refine rRa3 (w0:=w0) (fp0:=fp0) b w.heap.size 1 v.int v.text (xs.map u8C) R HV.out (by have:=HL.out;simp;omega) rfl (by kernel_rfl) rfl rfl rfl rfl ?_ ?_
   · rw [<-h1]
     exact St.emp.2 (HS0.out.perm (List.Perm.swap _ _ _))
   · intro u12 u13 u17 w1 _ h
     have h2:St w0 fp0 (slA 5 u17 ((xs++encL v).map u8C)::R) w1:=by have h3:St w0 fp0 (slA 5 u17 (xs.map u8C++[.int .u8 2]++(bytes (textOf (numL v.int))).map u8C)::blkA w.heap.size 68 #[.int .i64 1, .int .i64 v.int, .string v.text]::R) w1:=h.drop;have h4:=(h3.perm (List.Perm.swap _ _ _)).drop;rw [bytes_textOf,show [Value.int .u8 2]=[(2:UInt8)].map u8C from rfl,<-List.map_append,<-List.map_append,List.append_assoc,<-HE.out] at h4;exact h4
     have H2:=Lib.hid h2;clear h h2;simp only [putL,List.foldl,Act.put,List.setIfInBounds_toArray,List.set_cons_succ,List.set_cons_zero];go_wp2;go_ret;have h:=H2.out;simp only [List.map_append] at h;exact ⟨_,rfl,h⟩
 · by_cases h2:v.kind=2
   · have HE:Hid (encL v=3::((bytes v.text).flatMap escB++[0])):=by show _=_;rw [encL,if_neg h1,if_pos h2]
     have hcv:∀w,(convert 9 52 (.string v.text)).run Tryz.prog w=.ok (.slice (some ⟨w.heap.size,0,none⟩) v.text.size (grownCap w v.text.size 0 5))
      (w.drew.alloc (.cells (bytesRow v.text (grownCap w v.text.size 0 5)) 5 ((bytesRow v.text (grownCap w v.text.size 0 5)).size,(bytesRow v.text (grownCap w v.text.size 0 5)).size+1))):=λ w=> run_bytes_of_string w 9 52 5 v.text (by kernel_rfl) (by kernel_rfl) (by kernel_rfl)
     have HCV:=Lib.hid hcv;clear hcv
     go_upto_region 6 with (first
      | (at_builtin;refine wpList_appSl rfl _ _ _ _ rfl rfl rfl appBS ((HS0.out.perm (List.Perm.swap _ _ _)).mono ((Below.refl _ _).alloc (Nat.le_refl _) _)) (src_lit (e':=5) (by kernel_rfl) _ _ _ _ _ _ #[.int .u8 3] (heap_alloc_new _ _) rfl (by simp;rfl)) (by have:=HL.out;simp;omega) ?_;intro b1 w1 h1))
     have H1:=Lib.hid (St.app8 [3] h1 (Below.refl _ _) rfl);clear c0 c1 c2 hbl;obtain ⟨_,hvb⟩:=H1.out.has 1 rfl;have c2:=(blk_get hvb).1 2;simp only [List.getElem?_toArray,List.getElem?_cons_zero,List.getElem?_cons_succ] at c2;clear h1 hvb;have hcv:=HCV.out w1;have hbr:∀j (hj:j < v.text.size),(bytesRow v.text (grownCap w1 v.text.size 0 5))[j]? =some (.int .u8 (v.text[j]'hj).toNat):=bytesRow_get v.text _;have H2:=Lib.hid ((H1.out.newob (Below.refl _ w1) rfl (.cells (bytesRow v.text (grownCap w1 v.text.size 0 5)) 5 ((bytesRow v.text (grownCap w1 v.text.size 0 5)).size,(bytesRow v.text (grownCap w1 v.text.size 0 5)).size+1))).mono (below_drew _));have hts:v.text.size<=1099511627776:=by have:=HL.out;omega
     generalize grownCap w1 v.text.size 0 5=G at *;generalize bytesRow v.text G=br at *;generalize (br.size,br.size+1)=fr at *;have Hbr:=Lib.hid hbr;clear hbr H1 HS HCV;go_upto_region 7 with (fail)
     generalize (w1.alloc _).drew=W2 at *;generalize w1.heap.size=B at *;clear hcv c2;obtain ⟨N,hN⟩:∃N,v.text.size=N:=⟨_,rfl⟩
     have HN:=Lib.hid hN;rw [hN] at hts ⊢;clear hN;have H3:Hid (St w0 fp0 (slA 5 b1 ((xs++[3]++((bytes v.text).take 0).flatMap escB).map u8C)::obA B (.cells br 5 fr)::blkA w.heap.size 68 #[.int .i64 v.kind, .int .i64 v.int, .string v.text]::R) W2):=by have h:=H2.out.perm (List.Perm.swap _ _ _);show St _ _ _ _;rw [List.take_zero,List.flatMap_nil,List.append_nil];exact h
     go_loopg [0,27] N (λ g z0 z27 wr=> ∃k:Nat,z27=.int .i64 k/\g+k=N/\Hid (St w0 fp0 (slA 5 z0 ((xs++[3]++((bytes v.text).take k).flatMap escB).map u8C)::obA B (.cells br 5 fr)::blkA w.heap.size 68 #[.int .i64 v.kind, .int .i64 v.int, .string v.text]::R) wr))
     case atStart=> exact ⟨0,rfl,by omega,H3⟩
     case round=>
      obtain ⟨k,rfl,hgk,Hs⟩:=hrel;by_cases hk:k < N
      · have hks:k < v.text.size:=by have:=HN.out;omega
        have HB1:=Lib.hid (Hbr.out k hks);have hst:((bytes v.text).take (k+1)).flatMap escB=((bytes v.text).take k).flatMap escB++escB (v.text[k]'hks):=by
         have hkb:k < (bytes v.text).length:=by simpa [bytes] using hks
         rw [List.take_add_one,List.getElem?_eq_getElem hkb,List.flatMap_append];simp [bytes];rfl
        have Hst:Hid (xs++[3]++((bytes v.text).take (k+1)).flatMap escB=xs++[3]++((bytes v.text).take k).flatMap escB++escB (v.text[k]'hks)):=by show _=_;rw [hst];simp only [List.append_assoc]
        have hfl:(((bytes v.text).take k).flatMap escB).length<=2 * k:=by
         have h:∀l:List UInt8,(l.flatMap escB).length<=2 * l.length:=by
          intro l
          induction l with
          | nil=> simp
          | cons c l ih=>
           rw [List.flatMap_cons,List.length_append,List.length_cons];have:(escB c).length<=2:=by unfold escB;split <;> simp
           omega
         have:=h ((bytes v.text).take k);rw [List.length_take] at this;omega
        have hlen:(xs++[3]++((bytes v.text).take k).flatMap escB).length+2 < 1099511627776:=by have:=HL.out;simp only [List.length_append,List.length_cons,List.length_nil];omega
        have Hlen:=Lib.hid hlen;obtain ⟨_,hob⟩:=Hs.out.has 1 rfl;have cB:=cell_of_row wr B k br 5 fr hob.1;rw [HB1.out] at cB;have hBl:=World.block_lt_of_cell? wr _ cB;have Hgk:=Lib.hid hgk;have hkn:(k:Int) < N:=by omega
        obtain ⟨C,hC⟩:∃C,v.text[k]'hks=C:=⟨_,rfl⟩
        rw [hC] at cB Hst;clear hC hst hfl hlen hgk hob HB1;clear hks;generalize xs++[3]++((bytes v.text).take k).flatMap escB=Y at *;have hC2:=C.toNat_lt;by_cases hc:C.toNat<=1
        · have HEs:Hid ([Value.int .u8 1, .int .u8 ((C.toNat:Int)+1)]=(escB C).map u8C):=by
           show _=_;rw [escB,if_pos (UInt8.le_iff_toNat_le.2 hc)];simp only [List.map_cons,List.map_nil,u8C,UInt8.toNat_add];have e1:(1:UInt8).toNat=1:=rfl;rw [e1,Nat.mod_eq_of_lt (by omega)];rfl
          have hci:(C.toNat:Int)<=1:=by omega
          have hw:IntKind.u8.wrap ((C.toNat:Int)+1)=(C.toNat:Int)+1:=by simp only [IntKind.wrap,IntKind.bits,IntKind.signed];simp;omega
          clear hc
          go_wp2_with (first
           | (at_builtin;refine wpList_appSl rfl _ _ _ _ rfl rfl rfl appBS (Hs.out.mono ((Below.refl _ _).alloc (Nat.le_refl _) _)) (src_lit (e':=5) (by kernel_rfl) _ _ _ _ _ _ #[.int .u8 1, .int .u8 ((C.toNat:Int)+1)] (heap_alloc_new _ _) rfl (by simp;exact ⟨rfl,rfl⟩)) (by have:=Hlen.out;simp at this ⊢;omega) ?_;intro b3 w3 h3))
          go_roundg (gk - 1)
          case rel=> exact ⟨k+1,by go_num,by have:=Hgk.out;omega,by rw [Hst.out];exact St.app8 _ h3 (Below.refl _ _) HEs.out⟩
          case measure=> have:=Hgk.out;omega
        · have HEs:Hid ([Value.int .u8 C.toNat]=(escB C).map u8C):=by
           show _=_;rw [escB,if_neg (λ h=> hc (UInt8.le_iff_toNat_le.1 h))];rfl
          have hci:¬ (C.toNat:Int)<=1:=by omega
          clear hc
          go_wp2_with (first
           | (at_builtin;refine wpList_appSl rfl _ _ _ _ rfl rfl rfl appBS (Hs.out.mono ((Below.refl _ _).alloc (Nat.le_refl _) _)) (src_lit (e':=5) (by kernel_rfl) _ _ _ _ _ _ #[.int .u8 C.toNat] (heap_alloc_new _ _) rfl (by simp;rfl)) (by have:=Hlen.out;simp at this ⊢;omega) ?_;intro b3 w3 h3))
          go_roundg (gk - 1)
          case rel=> exact ⟨k+1,by go_num,by have:=Hgk.out;omega,by rw [Hst.out];exact St.app8 _ h3 (Below.refl _ _) HEs.out⟩
          case measure=> have:=Hgk.out;omega
      · obtain rfl:k=N:=by omega
        have hl:(bytes v.text).take k=bytes v.text:=List.take_of_length_le (by have:=HN.out;simp [bytes];omega);rw [hl] at Hs;have hfl:((bytes v.text).flatMap escB).length<=2 * k:=by
         have h:∀l:List UInt8,(l.flatMap escB).length<=2 * l.length:=by
          intro l
          induction l with
          | nil=> simp
          | cons c l ih=>
           rw [List.flatMap_cons,List.length_append,List.length_cons];have:(escB c).length<=2:=by unfold escB;split <;> simp
           omega
         have h2:=h (bytes v.text);have:(bytes v.text).length=k:=by have:=HN.out;simpa [bytes] using this
         omega
        have Hlen:Hid ((xs++[3]++(bytes v.text).flatMap escB).length+2 < 1099511627776):=by show _ < _;have:=HL.out;have:=HN.out;simp only [List.length_append,List.length_cons,List.length_nil];omega
        clear hl hfl;have HE2:Hid (xs++encL v=xs++[3]++(bytes v.text).flatMap escB++[0]):=by show _=_;rw [HE.out];simp
        generalize xs++[3]++(bytes v.text).flatMap escB=Y at *;clear hgk hk
        go_wp2_with (first
         | (at_builtin;refine wpList_appSl rfl _ _ _ _ rfl rfl rfl appBS (Hs.out.mono ((Below.refl _ _).alloc (Nat.le_refl _) _)) (src_lit (e':=5) (by kernel_rfl) _ _ _ _ _ _ #[.int .u8 0] (heap_alloc_new _ _) rfl (by simp;rfl)) (by have:=Hlen.out;simp at this ⊢;omega) ?_;intro b3 w3 h3))
        go_ret;have h:=(St.app8 [0] h3 (Below.refl _ _) rfl).out;rw [<-HE2.out] at h;have h5:=St.dropAll (A:=[obA B (.cells br 5 fr),blkA w.heap.size 68 #[.int .i64 v.kind, .int .i64 v.int, .string v.text]]) (show St w0 fp0 ([obA B (.cells br 5 fr),blkA w.heap.size 68 #[.int .i64 v.kind, .int .i64 v.int, .string v.text]]++(slA 5 b3 ((xs++encL v).map u8C)::R)) w3 from St_re (L:=[_,_,_]) h [1,2,0] [] (by kernel_rfl));simp only [List.map_append] at h5;exact ⟨_,rfl,h5⟩
   · have HE:Hid (encL v=[1]):=by show _=_;rw [encL,if_neg h1,if_neg h2]
     go_wp2_with (first
      | (at_builtin;refine wpList_appSl rfl _ _ _ _ rfl rfl rfl appBS (HS.out.mono ((Below.refl _ _).alloc (Nat.le_refl _) _)) (src_lit (e':=5) (by kernel_rfl) _ _ _ _ _ _ #[.int .u8 1] (heap_alloc_new _ _) rfl (by simp;rfl)) (by have:=HL.out;simp;omega) ?_;intro b1 w1 h1))
     go_ret;have h:=(St.app8 [1] h1 (Below.refl _ _) rfl).out;rw [<-HE.out] at h;simp only [List.map_append] at h;exact ⟨_,rfl,h⟩
theorem St.below0 {w0 w:World} {L:List Asn} (h:St w0 [] L w):Below w0.heap.size w0 w:=by
 obtain ⟨fp, -,ht⟩:=h;exact ht.below (Nat.le_refl _) λ k hk=> nomatch hk
theorem esc_len:∀l:List UInt8,(l.flatMap escB).length<=2 * l.length:=by
 intro l
 induction l with
 | nil=> simp
 | cons c l ih=>
  rw [List.flatMap_cons,List.length_append,List.length_cons];have:(escB c).length<=2:=by unfold escB;split <;> simp
  omega
theorem encL_len (v:Vl):(encL v).length<=2 * v.text.size+9:=by
 have h1:=esc_len (bytes v.text);have h2:(bytes v.text).length=v.text.size:=by simp [bytes]
 unfold encL;split
 · simp [numL]
 · split
   · simp only [List.length_cons,List.length_append,List.length_nil];omega
   · simp
def RowS (r:Rw):Prop:=∀v∈r,I64 v.int/\v.text.size<=1048576
theorem RowS.col {r:Rw} (h:RowS r) (c:Int):I64 (colV r c).int/\(colV r c).text.size<=1048576:=by
 have h0:I64 nullV.int/\nullV.text.size<=1048576:=by
  refine ⟨?_,?_⟩
  · show I64 0
    unfold I64;omega
  · exact Nat.zero_le _
 unfold colV;split
 · by_cases hl:c.toNat < r.length
   · have:r.getD c.toNat nullV=r[c.toNat]:=by simp [List.getD,hl]
     rw [this];exact h _ (List.getElem_mem _)
   · have:r.getD c.toNat nullV=nullV:=by simp [List.getD,hl]
     rw [this];exact h0
 · exact h0
theorem keyL_len {r:Rw} (h:RowS r):∀cs:List Int,(keyL r cs).length<=cs.length * 2097161
 | []=> by simp [keyL]
 | c::cs=> by have h1:=encL_len (colV r c);have h2:=(h.col c).2;have h3:=keyL_len h cs;simp only [keyL,List.flatMap_cons,List.length_append,List.length_cons] at h3 ⊢;omega
theorem encR_len {r:Rw} (h:RowS r):(encR r).length<=r.length * 2097161:=by
 induction r with
 | nil=> simp [encR]
 | cons v r ih=>
  have h1:=encL_len v;have h2:=(h v (by simp)).2;have h3:=ih (λ u hu=> h u (by simp [hu]));simp only [encR,List.flatMap_cons,List.length_append,List.length_cons] at h3 ⊢;omega
theorem below_set {B:Nat} {w w':World} (h:Below B w w') (b j:Nat) (v:Value) (hb:B<=b):Below B w (w'.setCell ⟨b,j,none⟩ v):=h.setCell (p:=⟨b,j,none⟩) hb v
theorem run_back {w:World} {a:Option Addr} {n c:Nat} {l:List UInt8} {f:List Nat} (h:(slA 5 (.slice a n c) (l.map u8C)).p w f):(convert 52 9 (.slice a n c)).run Tryz.prog w=.ok (.string (textOf l)) w:=by
 obtain ⟨a',c',e,hxl,hxc,hx⟩:=sl_get h;obtain ⟨rfl,rfl,rfl⟩:=Value.slice.inj e;rcases hx with ⟨rfl,hx,_⟩ | ⟨g,rfl,hgl,hcs,_⟩
 · have hnil:l=[]:=by simpa using hx
   subst hnil;rw [run_convert_bytes_string w 52 9 5 none _ c (by kernel_rfl) (by kernel_rfl) (by kernel_rfl)];rfl
 · rw [List.length_map]
   refine run_convert_bytes_back w 52 9 5 ⟨g,0,none⟩ c l (by kernel_rfl) (by kernel_rfl) (by kernel_rfl) λ j hj=> ?_;rw [add_plain,Nat.zero_add,(hcs j (by simpa using hj))];simp [hj,u8C]
theorem key_calls (r:Rw) (cs:List Int) (rv cv:Value) (hr:RowS r) (hc:cs.length<=100000) (w:World) (hrv:ValsAt w r rv) (hcv:IntsX [] w cs cv):
 Calls Tryz.prog 85 #[rv,cv] w λ e w'=> e=.returned (.string (textOf (keyL r cs)))/\Below w.heap.size w w':=by
 obtain ⟨ra,n,rc,rfl,hn,hm⟩:=hrv.shape;obtain ⟨ca,m,cc,rfl,hmn,hmm⟩:=hcv.shape;have HR:=Lib.hid hrv;have HC:=Lib.hid hcv;have HN:=Lib.hid hn;have HM:=Lib.hid hmn;have HRS:=Lib.hid hr;have HCL:=Lib.hid hc;have hm2:n<=9223372036854775807:=by unfold maxLen at hm;omega
 have hmm2:m<=9223372036854775807:=by unfold maxLen at hmm;omega
 have hm0:m<=100000:=by omega
 have H0:Hid (St w [] [slA 5 (.slice none 0 0) ((keyL r (cs.take 0)).map u8C)] w):=St.nilA (t:=5) (St.start (L:=[]) (fp:=[]) rfl);clear hrv hcv hn hmn hr hc hm hmm;go_enter Tryz.func85,Tryz.ntmps85;go_wp2;go_loopg [5,11] m (λ g z5 z11 wr=> ∃k:Nat,z11=.int .i64 k/\g+k=m/\Hid (St w [] [slA 5 z5 ((keyL r (cs.take k)).map u8C)] wr))
 case atStart=> exact ⟨0,rfl,by omega,H0⟩
 case round=>
  clear H0;obtain ⟨k,rfl,hgk,Hs⟩:=hrel;by_cases hk:k < m
  · have hkc:k < cs.length:=by rw [<-HM.out];exact hk
    have hb0:=Hs.out.below0;obtain ⟨cb,co,rfl⟩:=HC.out.has k hk;have hcell:=(HC.out.mono hb0).cell k hkc;have hcl:=World.block_lt_of_cell? wr _ hcell;obtain ⟨C,hC⟩:∃C,cs[k]=C:=⟨_,rfl⟩
    rw [hC] at hcell;have hst:keyL r (cs.take (k+1))=keyL r (cs.take k)++encL (colV r C):=by rw [List.take_add_one,List.getElem?_eq_getElem hkc,hC];simp [keyL]
    have Hst:=Lib.hid hst;have hlen:(keyL r (cs.take k)).length+2 * (colV r C).text.size+20 < 1099511627776:=by
     have h1:=keyL_len HRS.out (cs.take k);have h2:=(HRS.out.col C).2;have h3:(cs.take k).length<=100000:=by rw [List.length_take];omega
     have:(cs.take k).length * 2097161<=100000 * 2097161:=Nat.mul_le_mul_right _ h3;omega
    have HA:Hid (∀b w',St w [] [slA 5 b ((keyL r (cs.take k)).map u8C)] w'->Calls Tryz.prog 124 #[b, .agg #[.int .i64 (colV r C).kind, .int .i64 (colV r C).int, .string (colV r C).text]] w' λ e w''=> ∃b',e=.returned b'/\St w [] [slA 5 b' ((keyL r (cs.take k)++encL (colV r C)).map u8C)] w''):=
     λ b w' h=> radd_calls (colV r C) (HRS.out.col C).1 b _ hlen w w' [] [] h
    rw [<-hst] at HA;have Hgk:=Lib.hid hgk;have hkm:(k:Int) < m:=by omega
    have Hb0:=Lib.hid hb0;clear hC hst hlen hgk hb0 hkc;by_cases h1:0<=C
    · by_cases h2:C < n
      · have hlt:C.toNat < r.length:=by have:=HN.out;omega
        have hcol:colV r C=r[C.toNat]:=by rw [colV,if_pos h1];simp [List.getD,hlt]
        obtain ⟨rb,ro,rfl⟩:=HR.out.has C.toNat (by omega);obtain ⟨v0,v1,v2⟩:=(HR.out.mono Hb0.out).cell C.toNat hlt;rw [<-hcol] at v0 v1 v2;have hrl:=World.block_lt_of_cell? wr _ v0;obtain ⟨D,rfl⟩:∃D:Nat,C=D:=⟨C.toNat,by omega⟩
        rw [Int.toNat_natCast] at v0 v1 v2;generalize colV r (D:Int)=V at *;obtain ⟨K,I,T⟩:=V;clear hcol hlt;simp only at v0 v1 v2 HA;go_wp2_with fail;(with_reducible refine (HA.out _ _ (Hs.out.mono ((Below.refl _ _).alloc (Nat.le_refl _) _))).mono ?_);rintro e w1 ⟨b',rfl,h3⟩;have H3:=Lib.hid h3;clear h3 HA Hs;go_wp2;go_roundg (gk - 1)
        case rel=> exact ⟨k+1,by go_num,by have:=Hgk.out;omega,H3⟩
        case measure=> have:=Hgk.out;omega
      · have hcol:colV r C=nullV:=by
         have:=HN.out;rw [colV,if_pos h1];simp [List.getD];rw [List.getElem?_eq_none (by omega)];rfl
        rw [hcol] at HA;clear hcol;unfold nullV at HA;simp only at HA;go_wp2_with fail;(with_reducible refine (HA.out _ _ (Hs.out.mono ((Below.refl _ _).alloc (Nat.le_refl _) _))).mono ?_);rintro e w1 ⟨b',rfl,h3⟩;have H3:=Lib.hid h3;clear h3 HA Hs;go_wp2;go_roundg (gk - 1)
        case rel=> exact ⟨k+1,by go_num,by have:=Hgk.out;omega,H3⟩
        case measure=> have:=Hgk.out;omega
    · have hcol:colV r C=nullV:=by rw [colV,if_neg h1]
      rw [hcol] at HA;clear hcol;unfold nullV at HA;simp only at HA;go_wp2_with fail;(with_reducible refine (HA.out _ _ (Hs.out.mono ((Below.refl _ _).alloc (Nat.le_refl _) _))).mono ?_);rintro e w1 ⟨b',rfl,h3⟩;have H3:=Lib.hid h3;clear h3 HA Hs;go_wp2;go_roundg (gk - 1)
      case rel=> exact ⟨k+1,by go_num,by have:=Hgk.out;omega,H3⟩
      case measure=> have:=Hgk.out;omega
  · obtain rfl:k=m:=by omega
    have hl:cs.take k=cs:=List.take_of_length_le (by rw [<-HM.out];exact Nat.le_refl _);rw [hl] at Hs;obtain ⟨_,hp⟩:=Hs.out.has 0 rfl;obtain ⟨a,c,rfl,hxl,hxc,hx⟩:=sl_get hp;have HB:=Lib.hid Hs.out.below0;have hcv:=run_back hp;rw [List.length_map] at *;have HS2:=Lib.hid Hs.out;clear hp hxl hxc hx hgk Hs hk;go_wp2;go_ret;exact ⟨rfl,HB.out⟩
theorem encodeRow_calls (r:Rw) (rv:Value) (hr:RowS r) (hc:r.length<=100000) (w:World) (hrv:ValsAt w r rv):
 Calls Tryz.prog 95 #[rv] w λ e w'=> ∃b,e=.returned b/\St w [] [slA 5 b ((encR r).map u8C)] w':=by
 obtain ⟨ra,n,rc,rfl,hn,hm⟩:=hrv.shape;have HR:=Lib.hid hrv;have HN:=Lib.hid hn;have HRS:=Lib.hid hr;have HCL:=Lib.hid hc;have hm2:n<=9223372036854775807:=by unfold maxLen at hm;omega
 have H0:Hid (St w [] [slA 5 (.slice none 0 0) ((encR (r.take 0)).map u8C)] w):=St.nilA (t:=5) (St.start (L:=[]) (fp:=[]) rfl);clear hrv hn hr hc hm;go_enter Tryz.func95,Tryz.ntmps95;go_wp2;go_loopg [3,8] n (λ g z3 z8 wr=> ∃k:Nat,z8=.int .i64 k/\g+k=n/\Hid (St w [] [slA 5 z3 ((encR (r.take k)).map u8C)] wr))
 case atStart=> exact ⟨0,rfl,by omega,H0⟩
 case round=>
  clear H0;obtain ⟨k,rfl,hgk,Hs⟩:=hrel;by_cases hk:k < n
  · have hlt:k < r.length:=by rw [<-HN.out];exact hk
    have hb0:=Hs.out.below0;obtain ⟨rb,ro,rfl⟩:=HR.out.has k hk;obtain ⟨v0,v1,v2⟩:=(HR.out.mono hb0).cell k hlt;have hrl:=World.block_lt_of_cell? wr _ v0;have hst:encR (r.take (k+1))=encR (r.take k)++encL r[k]:=by rw [encR,encR,List.take_add_one,List.getElem?_eq_getElem hlt,List.flatMap_append];simp only [Option.toList,List.flatMap_cons,List.flatMap_nil,List.append_nil]
    have hrs:=HRS.out r[k] (List.getElem_mem hlt);have hlen:(encR (r.take k)).length+2 * (r[k]).text.size+20 < 1099511627776:=by
     have h1:=encR_len (r:=r.take k) (λ v hv=> HRS.out v (List.mem_of_mem_take hv));have h3:(r.take k).length<=100000:=by rw [List.length_take];have:=HCL.out;omega
     have:(r.take k).length * 2097161<=100000 * 2097161:=Nat.mul_le_mul_right _ h3;omega
    have HA:Hid (∀b w',St w [] [slA 5 b ((encR (r.take k)).map u8C)] w'->Calls Tryz.prog 124 #[b, .agg #[.int .i64 r[k].kind, .int .i64 r[k].int, .string r[k].text]] w' λ e w''=> ∃b',e=.returned b'/\St w [] [slA 5 b' ((encR (r.take k)++encL r[k]).map u8C)] w''):=
     λ b w' h=> radd_calls r[k] hrs.1 b _ hlen w w' [] [] h
    rw [<-hst] at HA;have Hgk:=Lib.hid hgk;have hkm:(k:Int) < n:=by omega
    clear hst hlen hgk hb0 hrs;obtain ⟨V,hV⟩:∃V,r[k]=V:=⟨_,rfl⟩
    rw [hV] at v0 v1 v2 HA;clear hV hlt;obtain ⟨K,I,T⟩:=V;simp only at v0 v1 v2 HA;go_wp2_with fail;(with_reducible refine (HA.out _ _ (Hs.out.mono ((Below.refl _ _).alloc (Nat.le_refl _) _))).mono ?_);rintro e w1 ⟨b',rfl,h3⟩;have H3:=Lib.hid h3;clear h3 HA Hs;go_wp2;go_roundg (gk - 1)
    case rel=> exact ⟨k+1,by go_num,by have:=Hgk.out;omega,H3⟩
    case measure=> have:=Hgk.out;omega
  · obtain rfl:k=n:=by omega
    have hl:r.take k=r:=List.take_of_length_le (by rw [<-HN.out];exact Nat.le_refl _);rw [hl] at Hs;clear hgk hk hl;go_wp2;go_ret;exact ⟨_,rfl,Hs.out⟩
theorem has_calls (S cols:Nat) (c:Int) (w:World) (hc:w.cell? ⟨S,0,none⟩=some (.int .i64 cols)):
 Calls Tryz.prog 139 #[ptrV S, .int .i64 c] w λ e w'=> e=.returned (.bool (decide (0<=c/\c < cols)))/\w=w':=by
 have hl:=World.block_lt_of_cell? w _ hc;unfold ptrV;by_cases h1:0<=c
 · by_cases h2:c < cols
   · go_enter Tryz.func139,Tryz.ntmps139
     go_wp2;go_ret;exact ⟨by simp,rfl⟩
   · go_enter Tryz.func139,Tryz.ntmps139
     go_wp2;go_ret;exact ⟨by simp [h2],rfl⟩
 · go_enter Tryz.func139,Tryz.ntmps139
   go_wp2;go_ret;exact ⟨by simp;omega,rfl⟩
theorem enters_own {P:Program} {f:FuncId} {fn:Func} {c:Code} (hf:P.funcs[f]? =some fn) (hname:(fn.name== "runtime.NumGoroutine")=false) (hb:fn.body=some c) (args:Array Value) (w:World):(callFunc f args).run P w=.ok (.enter f args) w:=by
 have h1:fn.name≠ "runtime.NumGoroutine" :=by simpa using hname
 simp [callFunc,hf,h1,hb]
def firstI (p:Nat->Bool) (n:Nat):Int:=match (List.range n).find? p with
 | some i=> i
 | none=> -1
theorem firstI_at {p:Nat->Bool} {n k:Nat} (hk:k < n) (hp:p k=true) (h:∀j,j < k->p j=false):firstI p n=k:=by
 unfold firstI;have:(List.range n).find? p=some k:=by rw [List.find?_range_eq_some];exact ⟨hp,by simpa using hk,λ j hj=> by simp [h j hj]⟩
 rw [this]
theorem firstI_none {p:Nat->Bool} {n:Nat} (h:∀j,j < n->p j=false):firstI p n= -1:=by
 unfold firstI;have:(List.range n).find? p=none:=by rw [List.find?_eq_none];intro j hj;simp [h j (by simpa using hj)]
 rw [this]
theorem firstI_some {p:Nat->Bool} {n:Nat}:(0<=firstI p n↔∃k,k < n/\p k=true):=by
 unfold firstI;cases h:(List.range n).find? p with
 | some i=>
  rw [List.find?_range_eq_some] at h;exact ⟨λ _=> ⟨i,by simpa using h.2.1,h.1⟩,λ _=> by simp⟩
 | none=>
  rw [List.find?_eq_none] at h;constructor
  · intro h';simp at h'
  · rintro ⟨k,hk,hp⟩
    exact absurd hp (h k (by simpa using hk))
theorem indexI_calls (l:List Int) (v:Value) (f:Nat) (c:Value) (p:Int->Bool) (w:World) (he:∀args w,(callFunc f args).run Tryz.prog w=.ok (.enter f args) w) (hv:IntsX [] w l v) (hf:∀i∈l,∀w',Below w.heap.size w w'->Calls Tryz.prog f #[.int .i64 i,c] w' λ e w''=> e=.returned (.bool (p i))/\Below w'.heap.size w' w''):
 Calls Tryz.prog 174 #[v, .func (.func f) #[] #[c]] w λ e w'=> e=.returned (.int .i64 (firstI (λ i=> p (l.getD i 0)) l.length))/\Below w.heap.size w w':=by
 obtain ⟨a,n,cc,rfl,hn,hm⟩:=hv.shape;have HV:=Lib.hid hv;have HN:=Lib.hid hn;have HF:=Lib.hid hf;have hm2:n<=9223372036854775807:=by unfold maxLen at hm;omega
 clear hv hn hf hm;go_enter Tryz.func174,Tryz.ntmps174;go_wp2;go_loopg [8] n (λ g z wr=> ∃k:Nat,z=.int .i64 k/\g+k=n/\Hid (∀j,j < k->p (l.getD j 0)=false)/\Hid (Below w.heap.size w wr))
 case atStart=> exact ⟨0,rfl,rfl,λ j hj=> absurd hj (Nat.not_lt_zero j),Below.refl _ _⟩
 case round=>
  obtain ⟨k,rfl,hgk,Hp,Hb⟩:=hrel;by_cases hk:k < n
  · have hkl:k < l.length:=by rw [<-HN.out];exact hk
    obtain ⟨b,o,rfl⟩:=HV.out.has k hk;have hcell:=(HV.out.mono Hb.out).cell k hkl;have hlt:=World.block_lt_of_cell? wr _ hcell;have hk':(k:Int) < n:=by omega
    have HC:=Lib.hid (HF.out l[k] (List.getElem_mem hkl) wr Hb.out);have hget:l.getD k 0=l[k]:=by simp [List.getD,hkl]
    have Hget:=Lib.hid hget;have Hgk:=Lib.hid hgk;have Hkl:=Lib.hid hkl;clear hget hgk;generalize l[k]=x at *;clear hkl;cases hq:p x
    · rw [hq] at HC
      have Hq:=Lib.hid hq;clear hq;go_wp2_with fail;(with_reducible refine HC.out.mono ?_);rintro e w1 ⟨rfl,hb1⟩;have Hb1:=Lib.hid (Hb.out.trans (hb1.mono Hb.out.size));clear hb1;go_wp2;go_roundg (gk - 1)
      case rel=>
       refine ⟨k+1,by go_num,by have:=Hgk.out;omega,λ j hj=> ?_,Hb1⟩;rcases Nat.lt_succ_iff_lt_or_eq.1 hj with h | h
       · exact Hp.out j h
       · subst h;rw [Hget.out];exact Hq.out
      case measure=> have:=Hgk.out;omega
    · rw [hq] at HC
      have Hq:=Lib.hid hq;clear hq;go_wp2_with fail;(with_reducible refine HC.out.mono ?_);rintro e w1 ⟨rfl,hb1⟩;have Hb1:=Lib.hid (Hb.out.trans (hb1.mono Hb.out.size));clear hb1;go_wp2;go_ret;exact ⟨by rw [firstI_at Hkl.out (by rw [Hget.out];exact Hq.out) Hp.out];rfl,Hb1.out⟩
  · obtain rfl:k=n:=by omega
    have HR:Hid (firstI (λ i=> p (l.getD i 0)) l.length= -1):=firstI_none (by rw [<-HN.out];exact Hp.out);clear hgk hk;go_wp2;go_ret;exact ⟨by rw [HR.out];rfl,Hb.out⟩
theorem containsI_calls (l:List Int) (v:Value) (f:Nat) (c:Value) (p:Int->Bool) (w:World) (he:∀args w,(callFunc f args).run Tryz.prog w=.ok (.enter f args) w) (hv:IntsX [] w l v) (hf:∀i∈l,∀w',Below w.heap.size w w'->Calls Tryz.prog f #[.int .i64 i,c] w' λ e w''=> e=.returned (.bool (p i))/\Below w'.heap.size w' w''):
 Calls Tryz.prog 137 #[v, .func (.func f) #[] #[c]] w λ e w'=> e=.returned (.bool (l.any p))/\Below w.heap.size w w':=by
 have HC:=Lib.hid (indexI_calls l v f c p w he hv hf);have HE:Hid (decide (0<=firstI (λ i=> p (l.getD i 0)) l.length)=l.any p):=by
  show _=_;rw [Bool.eq_iff_iff,decide_eq_true_iff,firstI_some,List.any_eq_true];constructor
  · rintro ⟨k,hk,hp⟩
    exact ⟨l[k],List.getElem_mem hk,by simpa [List.getD,hk] using hp⟩
  · rintro ⟨x,hx,hp⟩
    obtain ⟨k,hk,rfl⟩:=List.mem_iff_getElem.1 hx;exact ⟨k,hk,by simpa [List.getD,hk] using hp⟩
 clear hv hf;go_enter Tryz.func137,Tryz.ntmps137;go_wp2_with fail;(with_reducible refine HC.out.mono ?_);rintro e w1 ⟨rfl,hb⟩;have Hb:=Lib.hid hb;clear hb HC;generalize firstI (λ i=> p (l.getD i 0)) l.length=z at *;go_wp2;go_ret;exact ⟨by rw [<-HE.out];rfl,Hb.out⟩
theorem indexV_calls (r:Rw) (v:Value) (f:Nat) (p:Vl->Bool) (w:World) (he:∀args w,(callFunc f args).run Tryz.prog w=.ok (.enter f args) w) (hv:ValsAt w r v) (hf:∀x∈r,∀w',Below w.heap.size w w'->Calls Tryz.prog f #[x.val] w' λ e w''=> e=.returned (.bool (p x))/\Below w'.heap.size w' w''):
 Calls Tryz.prog 92 #[v, .func (.func f) #[] #[]] w λ e w'=> e=.returned (.int .i64 (firstI (λ i=> p (r.getD i nullV)) r.length))/\Below w.heap.size w w':=by
 obtain ⟨a,n,cc,rfl,hn,hm⟩:=hv.shape;have HV:=Lib.hid hv;have HN:=Lib.hid hn;have HF:=Lib.hid hf;have hm2:n<=9223372036854775807:=by unfold maxLen at hm;omega
 clear hv hn hf hm;go_enter Tryz.func92,Tryz.ntmps92;go_wp2;go_loopg [8] n (λ g z wr=> ∃k:Nat,z=.int .i64 k/\g+k=n/\Hid (∀j,j < k->p (r.getD j nullV)=false)/\Hid (Below w.heap.size w wr))
 case atStart=> exact ⟨0,rfl,rfl,λ j hj=> absurd hj (Nat.not_lt_zero j),Below.refl _ _⟩
 case round=>
  obtain ⟨k,rfl,hgk,Hp,Hb⟩:=hrel;by_cases hk:k < n
  · have hkl:k < r.length:=by rw [<-HN.out];exact hk
    obtain ⟨b,o,rfl⟩:=HV.out.has k hk;obtain ⟨c0,c1,c2⟩:=(HV.out.mono Hb.out).cell k hkl;have hlt:=World.block_lt_of_cell? wr _ c0;have hk':(k:Int) < n:=by omega
    have HC:=Lib.hid (HF.out r[k] (List.getElem_mem hkl) wr Hb.out);have hget:r.getD k nullV=r[k]:=by simp [List.getD,hkl]
    have Hget:=Lib.hid hget;have Hgk:=Lib.hid hgk;have Hkl:=Lib.hid hkl;clear hget hgk;generalize r[k]=x at *;clear hkl;unfold Vl.val at HC;cases hq:p x
    · rw [hq] at HC
      have Hq:=Lib.hid hq;clear hq;go_wp2_with fail;(with_reducible refine HC.out.mono ?_);rintro e w1 ⟨rfl,hb1⟩;have Hb1:=Lib.hid (Hb.out.trans (hb1.mono Hb.out.size));clear hb1;go_wp2;go_roundg (gk - 1)
      case rel=>
       refine ⟨k+1,by go_num,by have:=Hgk.out;omega,λ j hj=> ?_,Hb1⟩;rcases Nat.lt_succ_iff_lt_or_eq.1 hj with h | h
       · exact Hp.out j h
       · subst h;rw [Hget.out];exact Hq.out
      case measure=> have:=Hgk.out;omega
    · rw [hq] at HC
      have Hq:=Lib.hid hq;clear hq;go_wp2_with fail;(with_reducible refine HC.out.mono ?_);rintro e w1 ⟨rfl,hb1⟩;have Hb1:=Lib.hid (Hb.out.trans (hb1.mono Hb.out.size));clear hb1;go_wp2;go_ret;exact ⟨by rw [firstI_at Hkl.out (by rw [Hget.out];exact Hq.out) Hp.out];rfl,Hb1.out⟩
  · obtain rfl:k=n:=by omega
    have HR:Hid (firstI (λ i=> p (r.getD i nullV)) r.length= -1):=firstI_none (by rw [<-HN.out];exact Hp.out);clear hgk hk;go_wp2;go_ret;exact ⟨by rw [HR.out];rfl,Hb.out⟩
theorem containsV_calls (r:Rw) (v:Value) (f:Nat) (p:Vl->Bool) (w:World) (he:∀args w,(callFunc f args).run Tryz.prog w=.ok (.enter f args) w) (hv:ValsAt w r v) (hf:∀x∈r,∀w',Below w.heap.size w w'->Calls Tryz.prog f #[x.val] w' λ e w''=> e=.returned (.bool (p x))/\Below w'.heap.size w' w''):
 Calls Tryz.prog 56 #[v, .func (.func f) #[] #[]] w λ e w'=> e=.returned (.bool (r.any p))/\Below w.heap.size w w':=by
 have HC:=Lib.hid (indexV_calls r v f p w he hv hf);have HE:Hid (decide (0<=firstI (λ i=> p (r.getD i nullV)) r.length)=r.any p):=by
  show _=_;rw [Bool.eq_iff_iff,decide_eq_true_iff,firstI_some,List.any_eq_true];constructor
  · rintro ⟨k,hk,hp⟩
    exact ⟨r[k],List.getElem_mem hk,by simpa [List.getD,hk] using hp⟩
  · rintro ⟨x,hx,hp⟩
    obtain ⟨k,hk,rfl⟩:=List.mem_iff_getElem.1 hx;exact ⟨k,hk,by simpa [List.getD,hk] using hp⟩
 clear hv hf;go_enter Tryz.func56,Tryz.ntmps56;go_wp2_with fail;(with_reducible refine HC.out.mono ?_);rintro e w1 ⟨rfl,hb⟩;have Hb:=Lib.hid hb;clear hb HC;generalize firstI (λ i=> p (r.getD i nullV)) r.length=z at *;go_wp2;go_ret;exact ⟨by rw [<-HE.out];rfl,Hb.out⟩
theorem storable1_calls (v:Vl) (w:World) (hs:v.text.size<=maxLen):Calls Tryz.prog 125 #[v.val] w λ e w'=> e=.returned (.bool (!okV v))/\Below w.heap.size w w':=by
 have HC:=Lib.hid (valid_calls v (w.alloc (.cells #[.int .i64 v.kind, .int .i64 v.int, .string v.text] 68)) hs);have HB:=Lib.hid ((Below.refl _ w).alloc (Nat.le_refl _) (.cells #[.int .i64 v.kind, .int .i64 v.int, .string v.text] 68));unfold Vl.val at *;generalize okV v=q at *;clear hs;go_enter Tryz.func125,Tryz.ntmps125;go_wp2_with fail;(with_reducible refine HC.out.mono ?_);rintro e w1 ⟨rfl,hb⟩;have Hb:=Lib.hid (HB.out.trans (hb.mono HB.out.size));clear hb HC;go_wp2;go_ret;exact ⟨rfl,Hb.out⟩
def storB (cols:Nat) (r:Rw):Bool:=decide (r.length=cols) && r.all okV
theorem storable_calls (S cols:Nat) (r:Rw) (v:Value) (w:World) (hc:w.cell? ⟨S,0,none⟩=some (.int .i64 cols)) (hv:ValsAt w r v):
 Calls Tryz.prog 87 #[ptrV S,v] w λ e w'=> e=.returned (.bool (storB cols r))/\Below w.heap.size w w':=by
 have hl:=World.block_lt_of_cell? w _ hc;have HC:=Lib.hid (containsV_calls r v 125 (λ x=> !okV x) w (enters_own Tryz.func125 (by kernel_rfl) rfl) hv λ x hx w' hb=> storable1_calls x w' (hv.txt x hx));obtain ⟨a,n,cc,rfl,hn,hm⟩:=hv.shape;have hq:r.any (λ x=> !okV x)=!r.all okV:=by rw [List.all_eq_not_any_not,Bool.not_not]
 rw [hq] at HC;obtain ⟨q,hq'⟩:∃q,storB cols r=q:=⟨_,rfl⟩
 have HQ:Hid ((decide (n=cols) && r.all okV)=q):=by show _=_;rw [hn];exact hq'
 rw [hq'];unfold ptrV;clear hv hn hq hq' hm;generalize r.all okV=t at *;by_cases he:n=cols
 · have he':((n:Int)==cols)=true:=by simp [he]
   have HE:=Lib.hid he;clear he;go_enter Tryz.func87,Tryz.ntmps87;go_wp2_with fail;(with_reducible refine HC.out.mono ?_);rintro e w1 ⟨rfl,hb⟩;have Hb:=Lib.hid hb;clear hb HC;go_wp2;go_ret;exact ⟨by rw [<-HQ.out];simp [HE.out],Hb.out⟩
 · have he':((n:Int)==cols)=false:=by simp;omega
   have HE:=Lib.hid he;clear he;go_enter Tryz.func87,Tryz.ntmps87;go_wp2;go_ret;exact ⟨by rw [<-HQ.out];simp [HE.out],Below.refl _ _⟩
end
end Go.Proofs.YtpdlkdoogojboaaGreat
