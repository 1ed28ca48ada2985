/- Part 7 of the proof. -/
import Derived.Test.YtcomoomndgbckaaGreatY04
import Derived.Test.YtcomoomndgbckaaGreatY06
set_option maxHeartbeats 16000000
set_option maxRecDepth 100000
open Go Go.RowKit
open Go.Lib (hid)
open List (getElem?_cons_zero getElem?_cons_succ getElem_mem getElem_cons_zero getElem_cons_succ length_append nil_append append_assoc mem_singleton mem_append drop_eq_getElem_cons length_nil length_cons append_nil mem_iff_getElem length_eq_zero_iff drop_of_length_le getElem?_append_right mem_cons_of_mem sizeOf_lt_of_mem)
open Nat (zero_le le_succ add_zero zero_add zero_mul one_mul)
namespace Go.Proofs.YtcomoomndgbckaaGreat
noncomputable section
theorem floor_calls (a b:Int) (hb:0 < b) (w:World):Calls Tryz.prog 122 #[qi a,qi b] w λ e w'=> e=.returned (qi (floorS a b))/\w=w':=by
 unfold floorS;go_enter Tryz.func122,Tryz.ntmps122;go_wp2
 all_goals go_ret
 all_goals exact ⟨rfl,rfl⟩
theorem rfloor_calls (a b:Int) (hb:0 < b) (w:World):Calls Tryz.prog 94 #[qi a,qi b] w λ e w'=> e=.returned (qi (floorS a b))/\w=w':=by
 have h1:=Int.tmod_nonneg b (a:=a);have o:a<=0->a.tmod b<=0:=λ h=> by have:=Int.tmod_nonneg b (a:= -a) (by omega);rw [Int.neg_tmod] at this;omega
 by_cases ha:a < 0
 . by_cases h0:a.tmod b=0
   . have hf:floorS a b=wrap64 (a.tdiv b):=by unfold floorS;rw [if_neg (by omega)]
     rw [hf];clear h1 o hf;have C:(a.tmod b !=0)=false:=by simp [h0]
     go_enter Tryz.func94,Tryz.ntmps94;go_wp2
     all_goals go_ret
     all_goals exact ⟨rfl,rfl⟩
   . have hf:floorS a b=wrap64 (wrap64 (a.tdiv b) - 1):=by unfold floorS;rw [if_pos (by have:=o (by omega);omega)]
     rw [hf];clear h1 o hf;have C:(a.tmod b !=0)=true:=by simp [h0]
     clear h0;have q:¬ b < 0:=by omega
     have A:(decide (a < 0) !=decide (b < 0))=true:=by simp [ha,q]
     go_enter Tryz.func94,Tryz.ntmps94;go_wp2
     all_goals go_ret
     all_goals exact ⟨rfl,rfl⟩
 . have hf:floorS a b=wrap64 (a.tdiv b):=by unfold floorS;rw [if_neg (by have:=h1 (by omega);omega)]
   rw [hf];clear h1 o hf;have q:¬ b < 0:=by omega
   have A:(decide (a < 0) !=decide (b < 0))=false:=by simp [ha,q]
   go_enter Tryz.func94,Tryz.ntmps94;go_wp2
   all_goals go_ret
   all_goals exact ⟨rfl,rfl⟩
theorem rinteger_calls (n:Int) (w:World):Calls Tryz.prog 93 #[qi n] w (Ret (Vl.val ⟨1,n,⟨#[]⟩⟩) w):=by
 go_enter Tryz.func93,Tryz.ntmps93;go_wp2;exact bodyPost_ret (v:=Vl.val ⟨1,n,⟨#[]⟩⟩) (by simp [results,Tryz.results93,go_sem,Vl.val]) rfl ⟨rfl,zi.alloc lr _⟩
theorem compute_calls (op:Int) (vs:Rw) (s:Value) (w:World) (hv:ValsAt w vs s) (n:Int) (hs:computeS op vs=some n):Calls Tryz.prog 92 #[qi op,s] w λ e w'=> e=.returned (qi n)/\w=w':=by
 match vs,hv,hs with
 | [],_,hs=> simp [computeS] at hs
 | [x],hv,hs=>
  cases hv with
  | lie _ b o k cap hn hlt hm hc ht=>
   obtain ⟨h0,h1,A⟩:=(ValsAt.lie _ b o k cap hn hlt hm hc ht).cell 0 (by simp);simp only [getElem_cons_zero,zero_mul,add_zero] at h0 h1 A;simp only [length_cons,length_nil,zero_add] at hn;subst hn;clear hc;simp only [computeS] at hs;by_cases h3:op=3
   . subst h3
     simp at hs;subst hs;go_enter Tryz.func92,Tryz.ntmps92;go_wp2;go_ret;exact ⟨rfl,rfl⟩
   . by_cases h9:op=9
     . subst h9
       simp at hs;subst hs;go_enter Tryz.func92,Tryz.ntmps92;go_wp2;go_ret;exact ⟨rfl,rfl⟩
     . simp [h3,h9] at hs
 | x::y::l,hv,hs=>
  cases hv with
  | lie _ b o k cap hn hlt hm hc ht=>
   obtain ⟨h0,h1,A⟩:=(ValsAt.lie _ b o k cap hn hlt hm hc ht).cell 0 (by simp);obtain ⟨F,D,C⟩:=(ValsAt.lie _ b o k cap hn hlt hm hc ht).cell 1 (by simp);simp only [getElem_cons_zero,getElem_cons_succ,zero_mul,add_zero,one_mul] at h0 h1 A F D C;simp only [length_cons] at hn;have G:2<=k:=by omega
   unfold maxLen at hm;clear hc hn;simp only [computeS] at hs;by_cases h3:op=3
   . subst h3
     simp at hs;subst hs;go_enter Tryz.func92,Tryz.ntmps92;go_wp2;go_ret;exact ⟨rfl,rfl⟩
   by_cases h9:op=9
   . subst h9
     simp at hs;subst hs;go_enter Tryz.func92,Tryz.ntmps92;go_wp2;go_ret;exact ⟨rfl,rfl⟩
   by_cases h4:op=4
   . subst h4
     simp at hs;subst hs;go_enter Tryz.func92,Tryz.ntmps92;go_wp2;go_ret;exact ⟨rfl,rfl⟩
   by_cases h5:op=5
   . subst h5
     simp at hs;subst hs;go_enter Tryz.func92,Tryz.ntmps92;go_wp2;go_ret;exact ⟨rfl,rfl⟩
   by_cases h6:op=6
   . subst h6
     simp at hs;subst hs;go_enter Tryz.func92,Tryz.ntmps92;go_wp2;go_ret;exact ⟨rfl,rfl⟩
   by_cases hy:y.int<=0
   . simp [*] at hs
   have q:0 < y.int:=by omega
   clear hy;by_cases h7:op=7
   . subst h7
     simp [q] at hs;subst hs;go_enter Tryz.func92,Tryz.ntmps92;go_wp2_with (first | (go_at_call 122;refine (floor_calls _ _ q _).mono ?_;rintro e w' ⟨rfl,rfl⟩));go_ret;exact ⟨rfl,rfl⟩
   simp only [h3,h4,h5,h6,h7,h9,if_false] at hs;rw [if_neg (by omega)] at hs;simp at hs;subst hs;go_enter Tryz.func92,Tryz.ntmps92;go_wp2_with (first | (go_at_call 122;refine (floor_calls _ _ q _).mono ?_;rintro e w' ⟨rfl,rfl⟩));go_ret;exact ⟨rfl,rfl⟩
theorem values_step (R:Rw) (es:List Ex) (k:Nat) (hk:k < es.length) (vs:Rw) (r:Option (Rw))
 (h:(Ex.values R (es.drop k)).map (λ r=> r.map (vs++ ·))=some r):
 ∃u,Ex.value R es[k]=some u/\(if u.kind=0 then r=none else (Ex.values R (es.drop (k+1))).map (λ r=> r.map ((vs++[u])++ ·))=some r):=by
 rw [drop_eq_getElem_cons hk,Ex.values] at h;cases hu:Ex.value R es[k] with
 | none=> rw [hu] at h;simp at h
 | some u=>
  rw [hu] at h;refine ⟨u,rfl,?_⟩;split
  . rename_i h0
    simp [h0] at h;exact h.symm
  . rename_i h0
    simp only [Option.bind_some,if_neg h0,Option.map_map] at h;rw [<-h];cases Ex.values R (es.drop (k+1)) with
    | none=> rfl
    | some x=> cases x <;> simp
theorem flat_snoc (vs:Rw) (u:Vl):flat (vs++[u])=flat vs++[qi u.kind,qi u.int,qt u.text]:=by simp [flat,Vl.cells]
theorem value_calls (m:Nat):∀(E:Ex),SizeOf.sizeOf E<=m->ExS E->∀(R:Rw) (s r:Value) (w:World) (v:Vl),ArgsAt w E.args s->ValsAt w R r->Ex.value R E=some v->
 Calls Tryz.prog 58 #[E.val s,r] w λ e w'=> e=.returned v.val/\Below w.heap.size w w':=by
 induction m with
 | zero=> intro E h;cases E;simp at h
 | succ m ih=>
  rintro ⟨op,table,name,index,V,args⟩ hm hE R s r w v hs hr D;have aI:Hid (∀e∈args,ExS e):=by
   cases hE with
   | mk _ _ _ _ _ _ h1 h2 h3 h4=> exact h4
  have aH:=hid hr.txt;clear hE;simp only [Ex.args] at hs;simp only [Ex.val,Vl.val,Ex.op,Ex.table,Ex.name,Ex.index,Ex.v];by_cases h1:op=1
  . subst h1
    simp [Ex.value] at D;subst D;clear ih hm hr hs;go_enter Tryz.func58,Tryz.ntmps58;go_wp2;exact bodyPost_ret (v:=.agg #[qi V.kind,qi V.int,qt V.text]) (by simp [results,Tryz.results58,go_sem]) rfl ⟨rfl,(zi.alloc lr _).alloc (by simp) _⟩
  by_cases h2:op=2
  . subst h2
    simp [Ex.value] at D;obtain ⟨hi,D⟩:=D;obtain ⟨i,rfl⟩:=Int.eq_ofNat_of_zero_le hi;rw [Int.toNat_natCast] at D;cases hr with
    | mt=> simp at D
    | lie _ b o k cap hn hlt hml hc ht=>
     obtain ⟨hk,D⟩:=List.getElem?_eq_some_iff.1 D;subst D;obtain ⟨h0,h1,h2⟩:=(ValsAt.lie _ b o k cap hn hlt hml hc ht).cell i hk;have aL:i < k:=by omega
     unfold maxLen at hml;clear hc hn ih hm hs;generalize R[i]=v at *;go_enter Tryz.func58,Tryz.ntmps58;go_wp2;exact bodyPost_ret (v:=.agg #[qi v.kind,qi v.int,qt v.text]) (by simp [results,Tryz.results58,go_sem]) rfl ⟨rfl,(zi.alloc lr _).alloc (by simp) _⟩
  simp only [Ex.value,if_neg h1,if_neg h2] at D;have b1:(op==1)=false:=by simp [h1]
  have b2:(op==2)=false:=by simp [h2]
  clear h1 h2;cases hs with
  | mt=> simp [Ex.values,computeS] at D
  | lie _ b o n cap ss hn hlt hml hc hss=>
   obtain ⟨rr,ai,C⟩:=Option.bind_eq_some_iff.1 D;clear D;have aD:=ArgsAt.lie args b o n cap ss hn hlt hml hc hss;clear hc hss;obtain ⟨i0,ii,av,au,ar⟩:=info_parts Tryz.info35';have ab:=hid C;clear C;have aE:Hid ((Ex.values R (args.drop 0)).map (λ r=> r.map (([]:Rw)++ ·))=some rr):=by show _=_;rw [List.drop_zero,ai];cases rr <;> simp
   clear ai;have Hn:=hid hn;clear hn;have aF:=hid ih;clear ih;have aK:n<=args.length:=by have:=Hn.out;omega
   go_enter Tryz.func58,Tryz.ntmps58;go_wp2;go_loopw [5,25] (λ v i wr=> ∃(k:Nat) (vs:Rw),k<=n/\i=qi k/\Hid (vs.length=k/\∀v∈vs,v.text.size<=maxLen)/\Hid ((Ex.values R (args.drop k)).map (λ r=> r.map (vs++ ·))=some rr)/\wr.ownsRow (w.heap.size+2) 35 3 v k (flat vs)/\
    Below (w.heap.size+2) ((w.alloc (.cells #[qi op,qt table,qt name,qi index,qi V.kind,qi V.int,qt V.text,qs (some ⟨b,o,none⟩) n cap] 37)).alloc (.cells q0c 35)) wr)
    (λ _ i _=> n - (intOf i).toNat)
   case atStart=> exact ⟨0,[],zero_le _,rfl,⟨rfl,by simp⟩,aE,World.ownsRow_nil _ _ _ _,zi⟩
   case round=>
    obtain ⟨k,vs,hk,rfl,H,aa,K,A⟩:=hrel;have az:=A.size;simp only [World.size_alloc] at az;have q:Below w.heap.size w wr:=(((Below.refl w.heap.size w).alloc lr _).alloc (by simp) _).trans (A.mono (by omega));have aC:wr.cell? ⟨w.heap.size,0,none⟩=some (qi op):=(A.cell (p:=⟨w.heap.size,0,none⟩) (by show w.heap.size < _;omega)).trans (by simp);have aq:wr.frozen? ⟨w.heap.size+1,0,none⟩=false:=(A.frozen (p:=⟨w.heap.size+1,0,none⟩) (by show w.heap.size+1 < _;omega)).trans (by simp);have ap:wr.frozen? ⟨w.heap.size+1,1,none⟩=false:=(A.frozen (p:=⟨w.heap.size+1,1,none⟩) (by show w.heap.size+1 < _;omega)).trans (by simp);have ao:wr.frozen? ⟨w.heap.size+1,2,none⟩=false:=(A.frozen (p:=⟨w.heap.size+1,2,none⟩) (by show w.heap.size+1 < _;omega)).trans (by simp);have af:wr.cell? ⟨w.heap.size+1,0,none⟩=some (qi 0):=(A.cell (p:=⟨w.heap.size+1,0,none⟩) (by show w.heap.size+1 < _;omega)).trans (by simp);have ae:wr.cell? ⟨w.heap.size+1,1,none⟩=some (qi 0):=(A.cell (p:=⟨w.heap.size+1,1,none⟩) (by show w.heap.size+1 < _;omega)).trans (by simp);have ad:wr.cell? ⟨w.heap.size+1,2,none⟩=some (qt ⟨#[]⟩):=(A.cell (p:=⟨w.heap.size+1,2,none⟩) (by show w.heap.size+1 < _;omega)).trans (by simp);by_cases hlt':k < n
    . obtain ⟨u,hu,L⟩:=values_step R args k (by omega) vs rr aa
      obtain ⟨s',al,c0,c1,c2,c3,c4,c5,c6,c7⟩:=aD.cell k (by omega);have d0:=(q.cell (p:=⟨b,o+k * 8,none⟩) hlt).trans c0;have d1:=(q.cell (p:=⟨b,o+k * 8+1,none⟩) hlt).trans c1;have d2:=(q.cell (p:=⟨b,o+k * 8+2,none⟩) hlt).trans c2;have d3:=(q.cell (p:=⟨b,o+k * 8+3,none⟩) hlt).trans c3;have d4:=(q.cell (p:=⟨b,o+k * 8+4,none⟩) hlt).trans c4;have d5:=(q.cell (p:=⟨b,o+k * 8+5,none⟩) hlt).trans c5;have d6:=(q.cell (p:=⟨b,o+k * 8+6,none⟩) hlt).trans c6;have d7:=(q.cell (p:=⟨b,o+k * 8+7,none⟩) hlt).trans c7;clear c0 c1 c2 c3 c4 c5 c6 c7;have ak:SizeOf.sizeOf args[k]<=m:=by have h1:=sizeOf_lt_of_mem (getElem_mem (show k < args.length by omega));simp at hm;omega
      have ac:=hid (aI.out _ (getElem_mem (show k < args.length by omega)));have aG:=hid (ex_txt ac aH hu);have aA:=al.mono q;have aB:=hr.mono q;obtain ⟨sa,sn,sc,rfl,-,-⟩:=al.shape;generalize args[k]=E' at *;have Hu:=hid hu;have T:=hid L;clear hu L;go_wp2_with fail;refine (aF.out E' ak ac R _ r _ u (aA.mono (zi.alloc lr _)) (aB.mono (zi.alloc lr _)) Hu).mono ?_;rintro e w1 ⟨rfl,F⟩;simp only [Vl.val];have aw:=F.size;simp only [World.size_alloc] at aw F;have W:∀p:Addr,p.block < wr.heap.size->w1.cell? p=wr.cell? p:=λ p hp=> (F.cell (by omega)).trans (World.cell?_alloc_lt _ _ _ hp);have I:∀p:Addr,p.block < wr.heap.size->w1.frozen? p=wr.frozen? p:=λ p hp=> (F.frozen (by omega)).trans (World.frozen?_alloc_old _ _ _ (Nat.ne_of_lt hp));have e0:=(W ⟨w.heap.size+1,0,none⟩ (by show w.heap.size+1 < _;omega)).trans af;have e1:=(W ⟨w.heap.size+1,1,none⟩ (by show w.heap.size+1 < _;omega)).trans ae;have e2:=(W ⟨w.heap.size+1,2,none⟩ (by show w.heap.size+1 < _;omega)).trans ad;have g0:=(I ⟨w.heap.size+1,0,none⟩ (by show w.heap.size+1 < _;omega)).trans aq;have g1:=(I ⟨w.heap.size+1,1,none⟩ (by show w.heap.size+1 < _;omega)).trans ap;have g2:=(I ⟨w.heap.size+1,2,none⟩ (by show w.heap.size+1 < _;omega)).trans ao;have ah:w.heap.size+1 < w1.heap.size:=by omega
      clear W I aC af ae ad aq ap ao d0 d1 d2 d3 d4 d5 d6 d7;by_cases hk0:u.kind=0
      . have an:(u.kind==0)=true:=by simp [hk0]
        have O:Hid (v=Vl.null):=by have:=T.out;rw [if_pos hk0] at this;have h:=ab.out;rw [this] at h;show v=_;simpa using h.symm
        clear hk0;go_wp2;refine bodyPost_ret (v:=.agg q0c) (by simp [results,Tryz.results58,go_sem,e0,e1,e2,ah]) rfl ?_;refine ⟨by rw [O.out];rfl,?_⟩;have ax:Below w.heap.size w w1:=(q.trans ((zi.alloc lr _).mono q.size)).trans (F.mono (by omega));exact (((ax.setCell (le_succ _) _).setCell (le_succ _) _).setCell (le_succ _) _).alloc (by simp;omega) _
      . have an:(u.kind==0)=false:=by simp [hk0]
        have O:Hid ((Ex.values R (args.drop (k+1))).map (λ r=> r.map ((vs++[u])++ ·))=some rr):=by have:=T.out;rw [if_neg hk0] at this;exact this
        clear hk0;have G:w1.ownsRow (w.heap.size+2) 35 3 u5 k (flat vs):=own_below (K.alloc _) (F.mono (by simp))
        go_wp2_with (first
         | (at_builtin;refine wpList_append_own _ rfl _ _ 59 rfl (w.heap.size+2) 35 i0 (.agg q0c) 3 32 Tryz.underlying59 ii av au ar rfl (by decide) _ _ _ rfl ((G.alloc _).alloc _) ⟨_,0,none⟩ 1 1 [qi u.kind,qi u.int,qt u.text] rfl rfl ?c1 ?c2 ?c3 ?c4 ?c5 ?_))
        case c1=>
         intro j u' U
         match j,U with
         | 0,U=> simp at U;subst U;simp [Addr.add]
         | 1,U=> simp at U;subst U;simp [Addr.add]
         | 2,U=> simp at U;subst U;simp [Addr.add]
        case c2=> intro u' aj;simp at aj;rcases aj with rfl | rfl | rfl <;> rfl
        case c3=> unfold maxLen;omega
        case c4=> omega
        case c5=> simp;omega
        intro v' w' J M _;have hB:Below (w.heap.size+2) ((w.alloc (.cells #[qi op,qt table,qt name,qi index,qi V.kind,qi V.int,qt V.text,qs (some ⟨b,o,none⟩) n cap] 37)).alloc (.cells q0c 35)) w':=
         ((((A.trans ((zi.alloc lr _).mono (by omega))).trans (F.mono (by omega))).alloc (by omega) _).alloc (by simp;omega) _).grown M (by simp;omega) (λ g hg=> (G.lt g hg).1)
        have ag:=H.1;rw [<-flat_snoc] at J;clear K G M F A q;go_wp2;go_roundw
        case rel=> exact ⟨k+1,vs++[u],by omega,by go_num,⟨by simp [ag],λ x hx=> (mem_append.1 hx).elim (H.2 x) (λ h=> by rw [mem_singleton.1 h];exact aG)⟩,O,J,hB⟩
        case measure=> simp [intOf];omega
    . obtain rfl:n=k:=by omega
      have ay:ValsAt wr vs u5:=vals_of_own K H.1 H.2;have am:rr=some vs:=by have h:=aa.out;rw [drop_of_length_le (by have:=Hn.out;omega)] at h;simpa [Ex.values] using h.symm
      have C:=ab.out;rw [am] at C;obtain ⟨c,hc,D⟩:=Option.map_eq_some_iff.1 C;have Hc:=hid hc;have Hv:=hid D;clear C am hc D;have aJ:¬ n < n:=by omega
      have ah:w.heap.size+1 < wr.heap.size:=by omega
      go_wp2_with fail;refine (compute_calls op vs u5 _ ay c Hc).mono ?_;rintro e w1 ⟨rfl,rfl⟩;go_wp2;refine bodyPost_ret (v:=.agg #[qi 1,qi c,qt ⟨#[]⟩]) (by simp [results,Tryz.results58,go_sem,af,ae,ad]) rfl ?_;refine ⟨by rw [<-Hv.out],?_⟩;exact ((q.setCell (le_succ _) _).setCell (le_succ _) _).setCell (le_succ _) _
theorem ExsAt.cell {w:World} {xs:List (List Ex)} {a:Option Addr} {n c:Nat} (h:LsAt 1 ExsE w xs (qs a n c)) (i:Nat) (hi:i < xs.length):∃b o a1 c1,a=some ⟨b,o,none⟩/\b < w.heap.size/\w.cell? ⟨b,o+i,none⟩=some (qs a1 xs[i].length c1)/\ArgsAt w xs[i] (qs a1 xs[i].length c1):=by
 obtain ⟨b,o,cs,h1,C,F,A,s,rfl,q⟩:=h.get i hi;obtain ⟨a1,D,c1,rfl,rfl,-⟩:=q.shape;exact ⟨b,o,a1,c1,h1,C,by simpa using A 0 (by omega),q⟩
theorem aInsr_calls (l:List (List Ex)) (la:Option Addr) (lc:Nat) (w:World) (hl:LsAt 1 ExsE w l (qs la l.length lc)) (hz:∀x∈l,∀e∈x,ExS e):Calls Tryz.prog 109 #[qs la l.length lc] w (BoolP (∀x∈l,∀e∈x,Fm e) w):=by
 have HL:=hid hl;have HZ:=hid hz;have h1:l.length<=2000000000000:=by obtain ⟨_,_,e,h⟩:=hl.shape;exact h
 obtain ⟨n,hn⟩:=gx l.length
 have HN:=hid hn;rw [hn] at HL h1 ⊢;clear hl hn hz;go_enter Tryz.func109,Tryz.ntmps109;go_wp2;go_loopw [3] (λ z wr=> ∃k:Nat,k<=n/\z=qi k/\Hid (∀j (h:j < l.length),j < k->∀e∈l[j],Fm e)/\Hid (Below w.heap.size w wr)) (λ z _=> n - (intOf z).toNat)
 case atStart=> exact ⟨0,zero_le _,rfl,(λ j _ h=> by omega),zi⟩
 case round=>
  obtain ⟨k,hk,rfl,Hj,J⟩:=hrel;by_cases hlt:k < n
  . have G:k < l.length:=by rw [HN.out];exact hlt
    have F:=HL.mono ExsE.mono J;rw [<-HN.out] at F;obtain ⟨b,o,a1,c1,rfl,aa,c0,L⟩:=ExsAt.cell F k G;have W:Hid (∀x,l[k]=x->(∀e∈x,Fm e)->∀j (h:j < l.length),j < k+1->∀e∈l[j],Fm e):=λ x e h j V hjk=> by
     by_cases e2:j=k
     . subst e2;rw [e];exact h
     . exact Hj.out j V (by omega)
    replace W:=hid (W.out _ rfl);have HY:=hid (HZ.out _ (getElem_mem G));have HW:=hid L;have O:l[k].length<=2000000000000:=by obtain ⟨_,_,_,e,h,h'⟩:=L.shape;cases e;exact h'
    obtain ⟨q,K⟩:=gx (l[k])
    rw [K] at W HY HW O c0;obtain ⟨I,D⟩:=gx q.length
    have U:=hid D;rw [D] at c0 HW O;clear F G L K D;go_wp2;go_loopw [4] (λ z wx=> ∃j:Nat,j<=I/\z=qi j/\Hid (∀i (h:i < q.length),i < j->Fm q[i])/\Hid (Below wr.heap.size wr wx)) (λ z _=> I - (intOf z).toNat)
    case atStart=> exact ⟨0,zero_le _,rfl,(λ j _ h=> by omega),zi⟩
    case round=>
     obtain ⟨j,V,rfl,Hi,A⟩:=hrel
     rename_i wx
     replace c0:=(A.cell (p:=⟨b,o+k,none⟩) aa).trans c0;by_cases hjn:j < I
     . have T:j < q.length:=by rw [U.out];exact hjn
       obtain ⟨b2,o2,rfl⟩:∃b o,a1=some ⟨b,o,none⟩:=by
        have:=HW.out;cases this with
        | mt=> omega
        | lie _ b o=> exact ⟨b,o,rfl⟩
       obtain ⟨s',M,d0,d1,d2,d3,d4,d5,d6,d7⟩:=(HW.mono A).cell j T;obtain ⟨sa,sn,sc,rfl,-,-⟩:=M.shape;have HE:=hid (HY.out _ (getElem_mem T));have H:Hid (∀x,q[j]=x->Fm x->∀i (h:i < q.length),i < j+1->Fm q[i]):=λ x e h i hi hij=> by
        by_cases e2:i=j
        . subst e2;rw [e];exact h
        . exact Hi.out i hi (by omega)
       replace H:=hid (H.out _ rfl);generalize q[j]=E' at *;go_wp2_with fail;refine (aForm_calls _ E' lr HE _ _ _ _ M).mono ?_;rintro e w3 ⟨t,rfl,ht,hb⟩;have Ht:=hid ht;have C:=hid (A.trans (hb.mono A.size));clear hb ht d0 d1 d2 d3 d4 d5 d6 d7;cases t with
       | true=>
        go_wp2;go_roundw
        case rel=> exact ⟨j+1,by omega,by go_num,H.out (Ht.out (by simp)),C⟩
        case measure=> simp [intOf];omega
       | false=>
        go_wp2;go_ret;exact ⟨false,rfl,(λ h=> (by cases h)),J.trans (C.mono J.size)⟩
     . obtain rfl:j=I:=by omega
       have HF:Hid (∀e∈q,Fm e):=λ e he=> by obtain ⟨i,hi,rfl⟩:=mem_iff_getElem.1 he;exact Hi.out i hi (by have:=U.out;omega)
       clear Hi;have C:=hid (J.trans (A.mono J.size));by_cases h0:j=0
       . subst h0
         go_wp2;go_ret;exact ⟨false,rfl,(λ h=> (by cases h)),C⟩
       . have ab:¬ (j:Int)=0:=by omega
         go_wp2;go_roundw
         case rel=> exact ⟨k+1,by omega,by go_num,W.out HF,C⟩
         case measure=> simp [intOf];omega
  . obtain rfl:k=n:=by omega
    have HF:Hid (∀x∈l,∀e∈x,Fm e):=λ x L=> by obtain ⟨j,V,rfl⟩:=mem_iff_getElem.1 L;exact Hj.out j V (by have:=HN.out;omega)
    clear Hj;go_wp2;go_ret;exact ⟨_,rfl,(λ _=> HF),J⟩
theorem AsgAt.cell {w:World} {xs:List Asg} {a:Option Addr} {n c:Nat} (h:LsAt 10 AsE w xs (qs a n c)) (i:Nat) (hi:i < xs.length):∃b o a1 q c1,a=some ⟨b,o,none⟩/\b < w.heap.size/\w.cell? ⟨b,o+i * 10,none⟩=some (qt xs[i].col)/\(∀j,j < 8->w.cell? ⟨b,o+i * 10+(2+j),none⟩=(xs[i].e.cells (qs a1 q c1))[j]?)/\ArgsAt w xs[i].e.args (qs a1 q c1):=by
 obtain ⟨b,o,cs,h1,D,F,C,s,rfl,A⟩:=h.get i hi;obtain ⟨a1,q,c1,rfl,-,-⟩:=A.shape;refine ⟨b,o,a1,q,c1,h1,D,by simpa using C 0 (by omega),λ j hj=> ?_,A⟩;have:=C (2+j) (by omega);rw [this,getElem?_append_right (by simp)];simp
theorem aSets_calls (l:List Asg) (la:Option Addr) (lc:Nat) (w:World) (hl:LsAt 10 AsE w l (qs la l.length lc)) (hz:∀x∈l,x.col.size<=2000000/\ExS x.e):Calls Tryz.prog 110 #[qs la l.length lc] w (BoolP (∀x∈l,Fm x.e) w):=by
 have HL:=hid hl;have HZ:=hid hz;have h1:l.length<=2000000000000:=by obtain ⟨_,_,e,h⟩:=hl.shape;exact h
 obtain ⟨n,O⟩:=gx l.length
 have HN:=hid O;rw [O] at HL h1 ⊢;clear hl O hz;go_enter Tryz.func110,Tryz.ntmps110;go_wp2;go_loopw [3] (λ z wr=> ∃k:Nat,k<=n/\z=qi k/\Hid (∀j (h:j < l.length),j < k->Fm l[j].e)/\Hid (Below w.heap.size w wr)) (λ z _=> n - (intOf z).toNat)
 case atStart=> exact ⟨0,zero_le _,rfl,(λ j _ h=> by omega),zi⟩
 case round=>
  obtain ⟨k,hk,rfl,Hj,L⟩:=hrel;by_cases hlt:k < n
  . have F:k < l.length:=by rw [HN.out];exact hlt
    have D:=HL.mono AsE.mono L;rw [<-HN.out] at D;obtain ⟨b,o,a1,n1,c1,rfl,U,c0,T,I⟩:=AsgAt.cell D k F;have M:Hid (∀x,l[k]=x->Fm x.e->∀j (h:j < l.length),j < k+1->Fm l[j].e):=λ x e h j J hjk=> by
     by_cases e2:j=k
     . subst e2;rw [e];exact h
     . exact Hj.out j J (by omega)
    replace M:=hid (M.out _ rfl);have HY:=hid (HZ.out _ (getElem_mem F));generalize l[k]=y at *;obtain ⟨H,ab,ye⟩:=y;simp only at c0 T I M HY;have HC:=hid T;have HW:=hid I;clear D F T I;go_wp2_with fail;refine (aName_calls H _ (by have:=HY.1;omega)).mono ?_;rintro e w1 ⟨q,rfl,-,C⟩;have G:=hid (L.trans (C.mono L.size));cases q with
    | false=>
     clear C;go_wp2;go_ret;exact ⟨false,rfl,(λ h=> (by cases h)),G⟩
    | true=>
     have A:Hid (∀j,j < 8->w1.cell? ⟨b,o+k * 10+(2+j),none⟩=(ye.cells (qs a1 n1 c1))[j]?):=λ j J=> (C.cell (p:=⟨b,o+k * 10+(2+j),none⟩) U).trans (HC.out j J);have aa:=hid (HW.mono C);have d0:=A.out 0 (by omega);have d1:=A.out 1 (by omega);have d2:=A.out 2 (by omega);have d3:=A.out 3 (by omega);have d4:=A.out 4 (by omega);have d5:=A.out 5 (by omega);have W:=A.out 6 (by omega);have V:=A.out 7 (by omega);clear C c0 HC HW;unfold Ex.cells at d0 d1 d2 d3 d4 d5 W V;simp only [getElem?_cons_zero,getElem?_cons_succ,Nat.reduceAdd] at d0 d1 d2 d3 d4 d5 W V;go_wp2_with fail;refine (aForm_calls _ ye lr HY.2 _ _ _ _ aa).mono ?_;rintro e w3 ⟨t,rfl,ht,C⟩;have Ht:=hid ht;have K:=hid (G.trans (C.mono G.size));clear C ht d0 d1 d2 d3 d4 d5 W V;cases t with
     | true=>
      go_wp2;go_roundw
      case rel=> exact ⟨k+1,by omega,by go_num,M.out (Ht.out (by simp)),K⟩
      case measure=> simp [intOf];omega
     | false=>
      go_wp2;go_ret;exact ⟨false,rfl,(λ h=> (by cases h)),K⟩
  . obtain rfl:k=n:=by omega
    have HF:Hid (∀x∈l,Fm x.e):=λ x I=> by obtain ⟨j,J,rfl⟩:=mem_iff_getElem.1 I;exact Hj.out j J (by have:=HN.out;omega)
    clear Hj;go_wp2;go_ret;exact ⟨_,rfl,(λ _=> HF),L⟩
def Blks (c:Rw->Rw->Int) (s:Nat) (L:List (List Cel)):Prop:=∀l∈L,l.length=s/\AscC (cc c) l
theorem blks_len {c:Rw->Rw->Int} {s:Nat} {L:List (List Cel)} (h:Blks c s L):L.flatten.length=L.length * s:=by
 induction L with
 | nil=> simp
 | cons l L ih=>
  have h1:=(h l (by simp)).1;rw [List.flatten_cons,length_append,ih λ x hx=> h x (mem_cons_of_mem _ hx),h1,length_cons,Nat.add_mul];omega
structure Pass (c:Rw->Rw->Int) (X:List Cel) (s a:Nat) (M L:List (List Cel)) (t:List Cel):Prop where
 m:Blks c (2 * s) M
 l:Blks c s L
 asc:AscC (cc c) t
 lt:t.length < s
 at':M.flatten.length=a
 st:StEq (cc c) X (M.flatten++L.flatten++t)
structure Base (c:Rw->Rw->Int) (X:List Cel) (s a:Nat) (L:List (List Cel)) (R:List Cel):Prop where
 l:Blks c s L
 at':L.flatten.length=a
 st:StEq (cc c) X (L.flatten++R)
theorem base_add {c:Rw->Rw->Int} {X:List Cel} {s a:Nat} {L:List (List Cel)} {u R Z:List Cel} (h:Base c X s a L (u++R)) (hu:u.length=s) (hc:Ord3 (cc c)) (hz:AscC (cc c) Z) (he:StEq (cc c) u Z):Base c X s (a+s) (L++[Z]) R:=by
 have hl:=(he.perm hc).length_eq;refine ⟨λ l hl'=> ?_,?_,?_⟩
 . rcases mem_append.1 hl' with h1 | h1
   . exact h.l l h1
   . rw [mem_singleton.1 h1];exact ⟨by omega,hz⟩
 . rw [List.flatten_append,length_append,h.at'];simp;omega
 . refine h.st.trans ?_
   rw [List.flatten_append,append_assoc];refine (StEq.refl _).app ?_;simpa using he.app (StEq.refl R)
theorem pass_start {c:Rw->Rw->Int} (hc:Ord3 (cc c)) {X:List Cel} {s a:Nat} {L:List (List Cel)} {R Z:List Cel} (h:Base c X s a L R) (hz:AscC (cc c) Z) (he:StEq (cc c) R Z) (hl:R.length < s):Pass c X s 0 [] L Z:=
 ⟨(λ l h=> by cases h),h.l,hz,by have:=(he.perm hc).length_eq;omega,rfl,by rw [List.flatten_nil,nil_append];exact h.st.trans ((StEq.refl _).app he)⟩
theorem pass_step {c:Rw->Rw->Int} (hc:Ord3 (cc c)) {X:List Cel} {s a:Nat} {M L:List (List Cel)} {x y t Z:List Cel} (h:Pass c X s a M (x::y::L) t) (hz:AscC (cc c) Z) (he:StEq (cc c) (x++y) Z):Pass c X s (a+2 * s) (M++[Z]) L t:=by
 have hl:=(he.perm hc).length_eq;have q:=(h.l x (by simp)).1;have o:=(h.l y (by simp)).1;rw [length_append] at hl;refine ⟨λ l hl'=> ?_,λ l hl'=> h.l l (by simp [hl']),h.asc,h.lt,?_,?_⟩
 . rcases mem_append.1 hl' with h1 | h1
   . exact h.m l h1
   . rw [mem_singleton.1 h1];exact ⟨by omega,hz⟩
 . rw [List.flatten_append,length_append,h.at'];simp;omega
 . refine h.st.trans ?_
   have:=((StEq.refl (c:=cc c) M.flatten).app he).app (StEq.refl (c:=cc c) (L.flatten++t));simpa only [List.flatten_append,List.flatten_cons,List.flatten_nil,append_assoc,append_nil] using this
theorem pass_next {c:Rw->Rw->Int} (hc:Ord3 (cc c)) {X:List Cel} {s a:Nat} {M L:List (List Cel)} {t Z:List Cel} (h:Pass c X s a M L t) (hz:AscC (cc c) Z) (he:StEq (cc c) (L.flatten++t) Z) (hl:(L.flatten++t).length < 2 * s):Pass c X (2 * s) 0 [] M Z:=
 ⟨(λ l h=> by cases h),h.m,hz,by have:=(he.perm hc).length_eq;omega,rfl,by rw [List.flatten_nil,nil_append];have:=h.st;rw [append_assoc] at this;exact this.trans ((StEq.refl _).app he)⟩
theorem pass_end {c:Rw->Rw->Int} {X:List Cel} {s n:Nat} {L:List (List Cel)} {t:List Cel} (h:Pass c X s 0 [] L t) (hn:(L.flatten++t).length=n) (hs:n<=s) (h0:0 < s):AscC (cc c) (L.flatten++t):=by
 have o:=blks_len h.l;rw [length_append,o] at hn
 match L with
 | []=> simpa using h.asc
 | [l]=> have ht:t=[]:=length_eq_zero_iff.1 (by simp at hn;omega);rw [ht];simpa using (h.l l (by simp)).2
 | l::l'::L'=> exfalso;simp only [length_cons,Nat.add_mul] at hn;omega
theorem pass_len {c:Rw->Rw->Int} {X:List Cel} {s a n:Nat} {M L:List (List Cel)} {t:List Cel} (h:Pass c X s a M L t) (hn:(M.flatten++L.flatten++t).length=n):a+L.length * s+t.length=n:=by
 have:=blks_len h.l;have:=h.at';simp only [length_append] at hn;omega
theorem stable_calls (K:FuncId) (cap:Array Value) (c:Rw->Rw->Int) (w0:World) (B g n cp:Nat) (X:List Cel) (w:World)
 (hC:CmpOk K cap c X w0 g) (C:Arr w0 B g n cp X w) (hmx:n<=1099511627776):
 Calls Tryz.prog 62 #[qs (some ⟨g,0,none⟩) n cp,qi n,.func (.func K) #[] cap] w (SortsTo w0 B g n cp c [] X []):=by
 have aa:=C.len;have HL:=hid aa;have J:=hid C;have I:=hid hC;have HM:=hid hmx;clear C aa hC;go_enter Tryz.func62,Tryz.ntmps62;go_wp2;go_loopg [7,8] n (λ gk z7 z8 wr=> ∃a:Nat,a<=n/\z7=qi a/\z8=qi ((a:Int)+20)/\gk+a=n/\Hid (∃L R,Base c X 20 a L R/\Arr w0 B g n cp (L.flatten++R) wr))
 case atStart=> exact ⟨0,zero_le _,rfl,rfl,by omega,hid ⟨[],X,⟨(λ l h=> by cases h),rfl,StEq.refl _⟩,by simpa using J.out⟩⟩
 case round=>
  clear J;obtain ⟨a,am,rfl,rfl,T,V⟩:=hrel;obtain ⟨L,R,hb,C⟩:=V.out;have HB:=hid hb;have J:=hid C;have G:=hid T;have ac:R.length=n - a:=by have:=C.len;have:=hb.at';rw [length_append] at *;omega
  have ap:=hid ac;have al:(a:Int)+20<=9223372036854775807:=by omega
  have ah:(a:Int)+20+20<=9223372036854775807:=by omega
  clear V hb C T;by_cases hle:a+20<=n
  . obtain ⟨u,R',hu,ad,ak⟩:=split2 R 20 (by omega)
    have F:=hid (insertion_calls K cap c X w0 B g n cp L.flatten u R' wr a (a+20) HB.at' (by omega) I (λ x hx=> HB.st.mem I.ord (by rw [hu];simp [hx])) (by have:=J.out;rw [hu] at this;simpa only [append_assoc] using this) HM);rw [show ((a+20:Nat):Int)=(a:Int)+20 by omega] at F;have H:Hid (∀Z wx,AscC (cc c) Z->StEq (cc c) u Z->Arr w0 B g n cp (L.flatten++Z++R') wx->Hid (∃L R,Base c X 20 (a+20) L R/\Arr w0 B g n cp (L.flatten++R) wx)):=by refine hid λ Z wx h1 o q=> hid ⟨L++[Z],R',base_add (by have:=HB.out;rwa [hu] at this) ad I.ord h1 o,?_⟩;simpa only [List.flatten_append,List.flatten_cons,List.flatten_nil,append_nil,append_assoc] using q
    clear hu ad ak ac;have D:(a:Int)+20<=n:=by omega
    go_wp2_with fail;(with_reducible refine F.out.mono ?_);rintro e w1 ⟨rfl,Z,h1,o,q⟩;have W:=H.out Z w1 h1 o q;clear h1 o q F H;go_wp2;go_roundg (gk - 20)
    case rel=> exact ⟨a+20,hle,by go_num,by go_num,by have:=G.out;omega,W⟩
    case measure=> have:=G.out;omega
  . have F:=hid (insertion_calls K cap c X w0 B g n cp L.flatten R [] wr a n HB.at' (by omega) I (λ x hx=> HB.st.mem I.ord (by simp [hx])) (by have:=J.out;simpa only [append_nil] using this) HM)
    have H:Hid (∀Z wx,AscC (cc c) Z->StEq (cc c) R Z->Arr w0 B g n cp (L.flatten++Z++[]) wx->Hid (∃L t,Pass c X 20 0 [] L t/\Arr w0 B g n cp (L.flatten++t) wx)):=
     hid λ Z wx h1 o q=> hid ⟨L,Z,pass_start I.ord HB h1 o (by omega),by simpa only [append_nil] using q⟩
    clear ac;have D:¬ (a:Int)+20<=n:=by omega
    go_wp2_with fail;(with_reducible refine F.out.mono ?_);rintro e w1 ⟨rfl,Z,h1,o,q⟩;have W:=H.out Z w1 h1 o q;clear h1 o q F H HB J ap G hle D al ah;go_wp2;go_loopg [6] n (λ gk z6 wr=> ∃s:Nat,20<=s/\s<=2 * n+20/\z6=qi s/\n<=gk+s/\Hid (∃L t,Pass c X s 0 [] L t/\Arr w0 B g n cp (L.flatten++t) wr))
    case atStart=> exact ⟨20,lr,by omega,rfl,by omega,W⟩
    case round=>
     clear W;obtain ⟨s,av,au,rfl,T,V⟩:=hrel;have G:=hid T;clear T;by_cases hsn:s < n
     . have az:(2:Int) * s<=9223372036854775807:=by omega
       have ar:(s:Int) * 2<=9223372036854775807:=by omega
       go_wp2;go_loopg [7,8] n (λ gj z7 z8 wr=> ∃a:Nat,a<=n/\z7=qi a/\z8=qi ((a:Int)+2 * s)/\gj+a=n/\Hid (∃M L t,Pass c X s a M L t/\Arr w0 B g n cp (M.flatten++L.flatten++t) wr))
       case atStart=>
        refine ⟨0,zero_le _,rfl,by go_num,by omega,?_⟩;obtain ⟨L,t,h1,o⟩:=V.out;exact hid ⟨[],L,t,h1,by simpa using o⟩
       case round=>
        clear V;obtain ⟨a,am,rfl,rfl,ag,V⟩:=hrel;obtain ⟨M,L,t,hp,C⟩:=V.out;have U:=hid hp;have J:=hid C;have ai:=hid ag;have hl:=pass_len hp C.len;have aA:=hid hl;have ab:=hp.lt;have A:=hp.at';have ay:(a:Int)+2 * s<=9223372036854775807:=by omega
        have ax:(a:Int)+s<=9223372036854775807:=by omega
        have aw:(a:Int)+2 * s+2 * s<=9223372036854775807:=by omega
        clear V hp C ag;by_cases hle:a+2 * s<=n
        . have an:∃x y L',L=x::y::L':=by
           match L with
           | []=> simp at hl;omega
           | [x]=> simp at hl;omega
           | x::y::L'=> exact ⟨x,y,L',rfl⟩
          obtain ⟨x,y,L',rfl⟩:=an;have lx:=U.l x (by simp);have ly:=U.l y (by simp);have F:=hid (symMerge_calls K cap c X w0 B g n cp I HM (2 * s+1) M.flatten x y (L'.flatten++t) wr a (a+s) (a+2 * s) (by omega) A (by omega) (by omega) (by omega) (by omega) (λ z O=> U.st.mem I.ord (by simp only [List.flatten_cons,mem_append] at O ⊢;rcases O with O | O <;> simp [O])) lx.2 ly.2 (by have:=J.out;simpa only [List.flatten_cons,append_assoc] using this));rw [show ((a+s:Nat):Int)=(a:Int)+s by omega,show ((a+2 * s:Nat):Int)=(a:Int)+2 * s by omega] at F;have H:Hid (∀Z wx,AscC (cc c) Z->StEq (cc c) (x++y) Z->Arr w0 B g n cp (M.flatten++Z++(L'.flatten++t)) wx->Hid (∃M L t,Pass c X s (a+2 * s) M L t/\Arr w0 B g n cp (M.flatten++L.flatten++t) wx)):=by refine hid λ Z wx h1 o q=> hid ⟨M++[Z],L',t,pass_step I.ord U h1 o,?_⟩;simpa only [List.flatten_append,List.flatten_cons,List.flatten_nil,append_nil,append_assoc] using q
          clear lx ly hl ab A;have D:(a:Int)+2 * s<=n:=by omega
          go_wp2_with fail;(with_reducible refine F.out.mono ?_);rintro e w1 ⟨rfl,Z,h1,o,q⟩;have W:=H.out Z w1 h1 o q;clear h1 o q F H;go_wp2;go_roundg (gk - 2 * s)
          case rel=> exact ⟨a+2 * s,hle,by go_num,by go_num,by have:=ai.out;omega,W⟩
          case measure=> have:=ai.out;omega
        . have H:Hid (∀Z wx,AscC (cc c) Z->StEq (cc c) (L.flatten++t) Z->Arr w0 B g n cp (M.flatten++Z) wx->Hid (∃L t,Pass c X (2 * s) 0 [] L t/\Arr w0 B g n cp (L.flatten++t) wx)):=
           hid λ Z wx h1 o q=> hid ⟨M,Z,pass_next I.ord U h1 o (by rw [length_append,blks_len U.l];omega),q⟩
          have D:¬ (a:Int)+2 * s<=n:=by omega
          by_cases hmn:a+s < n
          . have ao:∃x,L=[x]/\0 < t.length:=by
             match L with
             | []=> simp at hl;omega
             | [x]=> exact ⟨x,rfl,by simp at hl;omega⟩
             | x::y::L'=> exfalso;simp only [length_cons,Nat.add_mul] at hl;omega
            obtain ⟨x,rfl,ae⟩:=ao;have lx:=U.l x (by simp);have F:=hid (symMerge_calls K cap c X w0 B g n cp I HM (2 * s+1) M.flatten x t [] wr a (a+s) n (by omega) A (by omega) (by simp at hl;omega) (by omega) ae (λ z O=> U.st.mem I.ord (by simp only [List.flatten_cons,mem_append] at O ⊢;rcases O with O | O <;> simp [O])) lx.2 U.asc (by have:=J.out;simpa only [List.flatten_cons,List.flatten_nil,append_nil,append_assoc] using this));rw [show ((a+s:Nat):Int)=(a:Int)+s by omega] at F;have aj:Hid (∀Z wx,AscC (cc c) Z->StEq (cc c) (x++t) Z->Arr w0 B g n cp (M.flatten++Z++[]) wx->Hid (∃L t,Pass c X (2 * s) 0 [] L t/\Arr w0 B g n cp (L.flatten++t) wx)):=
             hid λ Z wx h1 o q=> H.out Z wx h1 (by simpa using o) (by simpa using q)
            clear lx hl ab A ae H;have af:(a:Int)+s < n:=by omega
            go_wp2_with fail;(with_reducible refine F.out.mono ?_);rintro e w1 ⟨rfl,Z,h1,o,q⟩;have W:=aj.out Z w1 h1 o q;clear h1 o q F aj;go_wp2;go_roundg (n - 2 * s)
            case rel=> exact ⟨2 * s,by omega,by omega,by go_num,by omega,W⟩
            case measure=> have:=G.out;omega
          . have W:=H.out (L.flatten++t) wr (by
             match L with
             | []=> simpa using U.asc
             | [x]=> have ht:t=[]:=length_eq_zero_iff.1 (by simp at hl;omega);rw [ht];simpa using (U.l x (by simp)).2
             | x::y::L'=> exfalso;simp only [length_cons,Nat.add_mul] at hl;omega) (StEq.refl _) (by have:=J.out;rwa [append_assoc] at this)
            have af:¬ (a:Int)+s < n:=by omega
            clear H hl ab A;go_wp2;go_roundg (n - 2 * s)
            case rel=> exact ⟨2 * s,by omega,by omega,by go_num,by omega,W⟩
            case measure=> have:=G.out;omega
     . obtain ⟨L,t,hp,C⟩:=V.out
       have HE:=hid (pass_end hp C.len (by omega) (by omega));have HS:=hid hp.st;have J:=hid C;have aq:¬ (s:Int) < n:=by omega
       clear hp C V;go_wp2;go_end0;exact ⟨rfl,_,HE,by have:=HS.out;rwa [List.flatten_nil,nil_append] at this,by have:=J.out;simpa using this⟩
theorem sortStable_calls (K:FuncId) (cap:Array Value) (c:Rw->Rw->Int) (w0:World) (B g n cp:Nat) (X:List Cel) (w:World)
 (hC:CmpOk K cap c X w0 g) (hA:Arr w0 B g n cp X w) (hmx:n<=1099511627776):
 Calls Tryz.prog 32 #[qs (some ⟨g,0,none⟩) n cp,.func (.func K) #[] cap] w (SortsTo w0 B g n cp c [] X []):=by
 have A:=hid (stable_calls K cap c w0 B g n cp X w hC hA hmx);clear hC hA;go_enter Tryz.func32,Tryz.ntmps32;go_wp2_with fail;(with_reducible refine A.out.mono ?_);rintro e C ⟨rfl,Z,h1,q,o⟩;have D:=hid (show ∃Z,AscC (cc c) Z/\StEq (cc c) X Z/\Arr w0 B g n cp ([]++Z++[]) C from ⟨Z,h1,q,o⟩);clear h1 q o A;go_wp2;go_end0;exact ⟨rfl,D⟩
end
end Go.Proofs.YtcomoomndgbckaaGreat
