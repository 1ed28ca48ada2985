/- Part 13 of the proof. -/
import Derived.Test.YtcomoomndgbckaaGreatY12
set_option maxHeartbeats 16000000
set_option maxRecDepth 100000
open Go Go.RowKit
open Go.Lib (hid)
open List (getElem_mem length_append nil_append append_assoc length_take mem_cons mem_singleton cons_append length_map mem_of_getElem? getElem?_eq_getElem map_append take_length length_nil length_cons take_append_drop not_mem_nil all_eq_true take_append_getElem)
open Nat (zero_le le_succ lt_succ_self le_trans lt_of_lt_of_le zero_add)
namespace Go.Proofs.YtcomoomndgbckaaGreat
noncomputable section
theorem Tryz.info37':(Tryz.prog.info? 37).map (λ i=> (i.zero,i.size,i.bytes))=some (some (.agg q0f),8,104):=by kernel_rfl
theorem bl_cast {α:Type} {t:TypeId} {sz:Nat} {E:World->α->List Value->Prop} {B:Nat} {X:Nat->Prop} {w:World} {xs ys:List α} {v:Value} (h:Bl t sz E B X w xs v) (e:xs=ys):Hid (Bl t sz E B X w ys v):=e ▸ h
theorem wpList_pushE {ops:Array Oper} {rest:List Oper} {o:Oper} {a:Act} {Q:Exit->Act->World->Prop} {w0 w:World} {B:Nat} (hgd:o.guard=none) (s0 x:Operand) (ho:o.op=.call { callee:=.builtin .append,args:=#[s0,x],argTypes:=#[27,27] }) {xs:List Ex} {v:Value} (hs:a.eval s0=v) (h1:Bl 37 8 ExE B (λ _=> False) w xs v) (e:Ex) {s:Value} (hx:a.eval x=qs (some ⟨w.heap.size,0,none⟩) 1 1) (he:ArgsAt w0 e.args s) (hb0:Below w0.heap.size w0 w) (hB0:w0.heap.size<=B) (hB:B<=w.heap.size) (hlen:xs.length<=1000000000)
 (h:∀v' w',Hid (Bl 37 8 ExE B (λ _=> False) w' (xs++[e]) v')->Hid (Below B w w')->wpList Tryz.prog ops Q rest (a.put o.dst v') w'):wpList Tryz.prog ops Q (o::rest) a (w.alloc (.cells #[qi e.op,qt e.table,qt e.name,qi e.index,qi e.v.kind,qi e.v.int,qt e.v.text,s] 37)):=by
 obtain ⟨G,F,D,C,A⟩:=info_parts Tryz.info37';refine wpList_push (et:=37) (y:=e) (news:=e.cells s) hgd s0 x 27 ho G _ 104 Tryz.underlying27 F D C A rfl (by decide) (by decide) hs h1 hx rfl (ExE.one w0 e _ ⟨s,rfl,he⟩) ?_ hlen hB (λ _ h=> h.elim) λ v' w' h2 h3 _ _=> h v' w' h2 h3;refine (Ind.of (λ w' hb=> ExE.mono _ _ _ _ ⟨s,rfl,he⟩ hb) hb0).sub λ k _ q=> ?_;rcases q with q | q
 . exact q.elim
 . exact le_trans hB0 (h1.ge k q).1
theorem wpList_pushX {ops:Array Oper} {rest:List Oper} {o:Oper} {a:Act} {Q:Exit->Act->World->Prop} {w0 w:World} {B:Nat} (hgd:o.guard=none) (s0 x:Operand) (ho:o.op=.call { callee:=.builtin .append,args:=#[s0,x],argTypes:=#[27,27] }) {xs:List Ex} {v:Value} (hs:a.eval s0=v) (h1:Bl 37 8 ExE B (λ _=> False) w xs v) {ys:List Ex} {src:Value} (hx:a.eval x=src) (he:ArgsAt w0 ys src) (hb0:Below w0.heap.size w0 w) (hB0:w0.heap.size<=B) (hB:B<=w.heap.size) (hlen:xs.length+ys.length<=1000000000)
 (h:∀v' w',Hid (Bl 37 8 ExE B (λ _=> False) w' (xs++ys) v')->Hid (Below B w w')->wpList Tryz.prog ops Q rest (a.put o.dst v') w'):wpList Tryz.prog ops Q (o::rest) a w:=by
 obtain ⟨F,D,C,A,q⟩:=info_parts Tryz.info37';exact wpList_pushL hgd s0 x 27 ho F _ 104 Tryz.underlying27 D C A q rfl (by decide) (by decide) hs h1 hx w0 (ls_of_args he) ExE.mono hb0 ExE.one hlen hB0 hB (λ _ h=> h.elim) (λ _ h=> h.elim) λ v' w' h2 h3 _ _=> h v' w' h2 h3
def allE (s:Stt):List Ex:=s.create.checks++s.values.flatten++s.sets.map (·.e)++s.items.map (·.e)++[s.cond]++s.group
theorem allE_eq (s:Stt):allE s=s.create.checks++s.values.flatten++s.sets.map (·.e)++s.items.map (·.e)++[s.cond]++s.group:=rfl
def AllP (s:Stt) (w:World) (e:Ending) (w':World):Prop:=∃v,e=.returned v/\ArgsAt w' (allE s) v/\Below w.heap.size w w'
theorem aAll_calls (s:Stt) (v:StV) (w:World) (h:SttAt w s v) (hn:(allE s).length<=1000000000):Calls Tryz.prog 76 #[.agg (s.cells v).toArray] w (AllP s w):=by
 obtain ⟨a1,n1,k1,a2,n2,k2,a3,n3,k3,a4,n4,k4,a5,n5,k5,a6,n6,k6,a7,n7,k7,a8,n8,k8,a9,n9,k9,a10,T,L,a11,O,K,rfl,h1,m1,h2,m2,h3,m3,h4,m4,h5,m5,h6,m6,h7,m7,h8,m8,h9,m9,ax,ba,aw,aZ⟩:=h.shapes;have aX:=hid h1;have aW:=hid h2;have aV:=hid h3;have aL:=hid h4;have aq:=hid h5;have ap:=hid h6;have ao:=hid h7;have aU:=hid h8;have aK:=hid h9;have ad:=hid ax;have aM:=hid aw;clear h1 h2 h3 h4 h5 h6 h7 h8 h9 ax aw;have V:=hid hn;have HD:Hid (SttAt w s ⟨qs a1 s.create.cols.length k1,qs a2 s.create.keys.length k2,qs a3 s.create.fks.length k3,qs a4 s.create.checks.length k4,qs a5 s.values.length k5,qs a6 s.sets.length k6,qs a7 s.items.length k7,qs a8 s.src.length k8,qs a9 s.cond.args.length k9,qs a10 s.group.length L,qs a11 s.order.length K⟩):=by show SttAt _ _ _;rw [aX.out,aW.out,aV.out,aL.out,aq.out,ap.out,ao.out,aU.out,aK.out,ad.out,aM.out];exact h
 clear h hn;simp only [Stt.cells,Ex.cells,cons_append,nil_append];obtain ⟨U,hl⟩:=gx s.limit
 have HL:=hid hl;obtain ⟨kd,an⟩:=gx s.kind
 obtain ⟨tb,al⟩:=gx s.table
 obtain ⟨wo,ah⟩:=gx s.cond.op
 obtain ⟨wt,ag⟩:=gx s.cond.table
 obtain ⟨wn,ai⟩:=gx s.cond.name
 obtain ⟨wi,ak⟩:=gx s.cond.index
 obtain ⟨wk,aj⟩:=gx s.cond.v.kind
 obtain ⟨wv,af⟩:=gx s.cond.v.int
 obtain ⟨wx,ae⟩:=gx s.cond.v.text
 obtain ⟨nm,am⟩:=gx s.name
 rw [an,al,ah,ag,ai,ak,aj,af,ae,am,hl];have HK:=hid an;have bb:=hid al;have bc:=hid am;have HC:=hid (And.intro ah (And.intro ag (And.intro ai (And.intro ak (And.intro aj (And.intro af ae))))));clear an al ah ag ai ak aj af ae am hl;have Hv:=hid (VarIs.new w (q1a kd tb a1 n1 k1 a2 n2 k2 a3 n3 k3 a4 n4 k4 a5 n5 k5 a6 n6 k6 a7 n7 k7 a8 n8 k8 wo wt wn wi wk wv wx a9 n9 k9 a10 T L a11 O K U nm) 40);have aa:Hid (∀o,Below w.heap.size w (w.alloc o)):=λ o=> zi.alloc lr o;go_enter Tryz.func76,Tryz.ntmps76;go_upto_region 1 with (fail)
 have ar:=hid (Below.refl (w.heap.size+1) (w.alloc (.cells (q1a kd tb a1 n1 k1 a2 n2 k2 a3 n3 k3 a4 n4 k4 a5 n5 k5 a6 n6 k6 a7 n7 k7 a8 n8 k8 wo wt wn wi wk wv wx a9 n9 k9 a10 T L a11 O K U nm) 40)));have ck:=(Hv.out.below ar.out (lt_succ_self _)).cell 5;simp only [q2a] at ck;have aO:=hid HD.out.create.checks;simp only [aL.out] at aO;have aI:=hid (Below.alloc ar.out (by simp) (.cells #[] 37));have ac:=hid ((aa.out (.cells (q1a kd tb a1 n1 k1 a2 n2 k2 a3 n3 k3 a4 n4 k4 a5 n5 k5 a6 n6 k6 a7 n7 k7 a8 n8 k8 wo wt wn wi wk wv wx a9 n9 k9 a10 T L a11 O K U nm) 40)).trans (aI.out.mono (le_succ _)));have aP:Hid (Bl 37 8 ExE (w.heap.size+1) (λ _=> False) ((w.alloc (.cells (q1a kd tb a1 n1 k1 a2 n2 k2 a3 n3 k3 a4 n4 k4 a5 n5 k5 a6 n6 k6 a7 n7 k7 a8 n8 k8 wo wt wn wi wk wv wx a9 n9 k9 a10 T L a11 O K U nm) 40)).alloc (.cells #[] 37)) [] (qs (some ⟨w.heap.size+1,0,none⟩) 0 0)):=Bl.made1 _ lr;have aH:Hid (([]:List Ex).length+s.create.checks.length<=1000000000):=by show _<=_;refine le_trans ?_ V.out;rw [allE_eq];simp only [length_append,length_nil];omega
 go_wp2_with (at_builtin;go_loud (refine wpList_pushX rfl _ _ rfl rfl aP.out rfl aO.out ac.out (le_succ _) (by simp) aH.out ?_));intro v' w' HB D;have I:=hid (aI.out.trans D.out);clear D ck ar ac aH aP;go_wp2;go_loopw [3,4] (λ v z wr=> ∃k:Nat,k<=n5/\z=qi k/\Hid (Bl 37 8 ExE (w.heap.size+1) (λ _=> False) wr (s.create.checks++(s.values.take k).flatten) v)/\Hid (Below (w.heap.size+1) (w.alloc (.cells (q1a kd tb a1 n1 k1 a2 n2 k2 a3 n3 k3 a4 n4 k4 a5 n5 k5 a6 n6 k6 a7 n7 k7 a8 n8 k8 wo wt wn wi wk wv wx a9 n9 k9 a10 T L a11 O K U nm) 40)) wr)) (λ _ z _=> n5 - (intOf z).toNat)
 case atStart=> exact ⟨0,zero_le _,rfl,bl_cast HB.out (by simp),I⟩
 case round=>
  obtain ⟨k,hk,rfl,HB,I⟩:=hrel;have q:=hid ((aa.out _).trans (I.out.mono (le_succ _)));obtain ⟨v1,F,-⟩:=Hv.out.below I.out (lt_succ_self _);have c6:=F 6;simp only [q2a] at c6;clear F;by_cases hlt:k < n5
  . have G:k < s.values.length:=by rw [aq.out];exact hlt
    obtain ⟨b,o,a12,au,rfl,A,d0,hx⟩:=ExsAt.cell HD.out.values k G;replace d0:=(q.out.cell (p:=⟨b,o+k,none⟩) A).trans d0;have HX:=hid hx;have HT:Hid ((s.values.take (k+1)).flatten=(s.values.take k).flatten++s.values[k]):=by show _=_;rw [<-take_append_getElem G,List.flatten_append];simp
    have C:Hid ((s.create.checks++(s.values.take k).flatten).length+s.values[k].length<=1000000000):=by
     show _<=_;rw [<-length_append,append_assoc,<-HT.out];refine le_trans ?_ V.out;rw [<-take_append_drop (k+1) s.values,allE_eq,take_append_drop]
     conv=> rhs;rw [<-take_append_drop (k+1) s.values,List.flatten_append]
     simp only [length_append];omega
    generalize s.values[k]=y at *;clear hx G;have H:Hid (w.heap.size+1<=wr.heap.size):=by show _<=_;have:=I.out.size;simp at this;omega
    go_wp2_with (at_builtin;go_loud (refine wpList_pushX rfl _ _ rfl rfl HB.out rfl HX.out q.out (le_succ _) H.out C.out ?_));intro v' w' W D;have J:=hid (I.out.trans D.out);clear D;go_wp2;go_roundw
    case rel=> exact ⟨k+1,by omega,by go_num,bl_cast W.out (by rw [HT.out];try simp),J⟩
    case measure=> simp [intOf];omega
  . obtain rfl:n5=k:=by omega
    have M:=hid HB.out;simp only [<-aq.out,take_length] at M;go_wp2;clear c6 v1;go_loopw [3,5] (λ v z wr=> ∃k:Nat,k<=n6/\z=qi k/\Hid (Bl 37 8 ExE (w.heap.size+1) (λ _=> False) wr (s.create.checks++s.values.flatten++(s.sets.take k).map (·.e)) v)/\Hid (Below (w.heap.size+1) (w.alloc (.cells (q1a kd tb a1 n1 k1 a2 n2 k2 a3 n3 k3 a4 n4 k4 a5 n5 k5 a6 n6 k6 a7 n7 k7 a8 n8 k8 wo wt wn wi wk wv wx a9 n9 k9 a10 T L a11 O K U nm) 40)) wr)) (λ _ z _=> n6 - (intOf z).toNat)
    case atStart=> exact ⟨0,zero_le _,rfl,bl_cast M.out (by simp),I⟩
    case round=>
     obtain ⟨k,hk,rfl,HB,I⟩:=hrel;have q:=hid ((aa.out _).trans (I.out.mono (le_succ _)));obtain ⟨v1,F,-⟩:=Hv.out.below I.out (lt_succ_self _);have c7:=F 7;simp only [q2a] at c7;clear F;by_cases hlt:k < n6
     . have G:k < s.sets.length:=by rw [ap.out];exact hlt
       obtain ⟨b,o,a12,aS,au,rfl,A,hx,d0,d2,d3,d4,d5,d6,d7,d8,d9⟩:=AsAt.cell HD.out.sets k G;replace d2:=(q.out.cell (p:=⟨b,o+k * 10+2,none⟩) A).trans d2;replace d3:=(q.out.cell (p:=⟨b,o+k * 10+3,none⟩) A).trans d3;replace d4:=(q.out.cell (p:=⟨b,o+k * 10+4,none⟩) A).trans d4;replace d5:=(q.out.cell (p:=⟨b,o+k * 10+5,none⟩) A).trans d5;replace d6:=(q.out.cell (p:=⟨b,o+k * 10+6,none⟩) A).trans d6;replace d7:=(q.out.cell (p:=⟨b,o+k * 10+7,none⟩) A).trans d7;replace d8:=(q.out.cell (p:=⟨b,o+k * 10+8,none⟩) A).trans d8;replace d9:=(q.out.cell (p:=⟨b,o+k * 10+9,none⟩) A).trans d9;have HX:=hid hx;have HT:Hid ((s.sets.take (k+1)).map (·.e)=(s.sets.take k).map (·.e)++[s.sets[k].e]):=by show _=_;rw [<-take_append_getElem G,map_append];rfl
       have C:Hid ((s.create.checks++s.values.flatten++(s.sets.take k).map (·.e)).length<=1000000000):=by show _<=_;refine le_trans ?_ V.out;rw [allE_eq];simp only [length_append,length_map,length_take];omega
       generalize s.sets[k]=y at *;clear hx G;have H:Hid (w.heap.size+1<=wr.heap.size):=by show _<=_;have:=I.out.size;simp at this;omega
       go_wp2_with (at_builtin;go_loud (refine wpList_pushE rfl _ _ rfl rfl HB.out y.e rfl HX.out q.out (le_succ _) H.out C.out ?_));intro v' w' W D;have J:=hid (I.out.trans D.out);clear D;go_wp2;go_roundw
       case rel=> exact ⟨k+1,by omega,by go_num,bl_cast W.out (by rw [HT.out];try simp),J⟩
       case measure=> simp [intOf];omega
     . obtain rfl:n6=k:=by omega
       have M:=hid HB.out;simp only [<-ap.out,take_length] at M;go_wp2;clear c7 v1;go_loopw [3,6] (λ v z wr=> ∃k:Nat,k<=n7/\z=qi k/\Hid (Bl 37 8 ExE (w.heap.size+1) (λ _=> False) wr (s.create.checks++s.values.flatten++s.sets.map (·.e)++(s.items.take k).map (·.e)) v)/\Hid (Below (w.heap.size+1) (w.alloc (.cells (q1a kd tb a1 n1 k1 a2 n2 k2 a3 n3 k3 a4 n4 k4 a5 n5 k5 a6 n6 k6 a7 n7 k7 a8 n8 k8 wo wt wn wi wk wv wx a9 n9 k9 a10 T L a11 O K U nm) 40)) wr)) (λ _ z _=> n7 - (intOf z).toNat)
       case atStart=> exact ⟨0,zero_le _,rfl,bl_cast M.out (by simp),I⟩
       case round=>
        obtain ⟨k,hk,rfl,HB,I⟩:=hrel;have q:=hid ((aa.out _).trans (I.out.mono (le_succ _)));obtain ⟨v1,F,-⟩:=Hv.out.below I.out (lt_succ_self _);have c8:=F 8;simp only [q2a] at c8;clear F;by_cases hlt:k < n7
        . have G:k < s.items.length:=by rw [ao.out];exact hlt
          obtain ⟨b,o,a12,aS,au,rfl,A,hx,d0,d1,d2,d3,d4,d5,d6,d7,d8⟩:=ItAt.cell HD.out.items k G;replace d1:=(q.out.cell (p:=⟨b,o+k * 9+1,none⟩) A).trans d1;replace d2:=(q.out.cell (p:=⟨b,o+k * 9+2,none⟩) A).trans d2;replace d3:=(q.out.cell (p:=⟨b,o+k * 9+3,none⟩) A).trans d3;replace d4:=(q.out.cell (p:=⟨b,o+k * 9+4,none⟩) A).trans d4;replace d5:=(q.out.cell (p:=⟨b,o+k * 9+5,none⟩) A).trans d5;replace d6:=(q.out.cell (p:=⟨b,o+k * 9+6,none⟩) A).trans d6;replace d7:=(q.out.cell (p:=⟨b,o+k * 9+7,none⟩) A).trans d7;replace d8:=(q.out.cell (p:=⟨b,o+k * 9+8,none⟩) A).trans d8;have HX:=hid hx;have HT:Hid ((s.items.take (k+1)).map (·.e)=(s.items.take k).map (·.e)++[s.items[k].e]):=by show _=_;rw [<-take_append_getElem G,map_append];rfl
          have C:Hid ((s.create.checks++s.values.flatten++s.sets.map (·.e)++(s.items.take k).map (·.e)).length<=1000000000):=by show _<=_;refine le_trans ?_ V.out;rw [allE_eq];simp only [length_append,length_map,length_take];omega
          generalize s.items[k]=y at *;clear hx G;have H:Hid (w.heap.size+1<=wr.heap.size):=by show _<=_;have:=I.out.size;simp at this;omega
          go_wp2_with (at_builtin;go_loud (refine wpList_pushE rfl _ _ rfl rfl HB.out y.e rfl HX.out q.out (le_succ _) H.out C.out ?_));intro v' w' W D;have J:=hid (I.out.trans D.out);clear D;go_wp2;go_roundw
          case rel=> exact ⟨k+1,by omega,by go_num,bl_cast W.out (by rw [HT.out];try simp),J⟩
          case measure=> simp [intOf];omega
        . obtain rfl:n7=k:=by omega
          have M:=hid HB.out;simp only [<-ao.out,take_length] at M;have H:Hid (w.heap.size+1<=wr.heap.size):=by show _<=_;have:=I.out.size;simp at this;omega
          have C:Hid ((s.create.checks++s.values.flatten++s.sets.map (·.e)++s.items.map (·.e)).length<=1000000000):=by show _<=_;refine le_trans ?_ V.out;rw [allE_eq];simp only [length_append,length_map,length_cons,length_nil];omega
          obtain ⟨v1,F,-⟩:=Hv.out.below I.out (lt_succ_self _);have aG:=F 10;have aF:=F 11;have aE:=F 12;have aD:=F 13;have aC:=F 14;have aB:=F 15;have aA:=F 16;have az:=F 17;simp only [q2a] at aG aF aE aD aC aB aA az;clear F;have aJ:=hid HD.out.cond;simp only [aK.out] at aJ;have E1:=HC.out;go_wp2_with (at_builtin;go_loud (refine wpList_pushE rfl _ _ rfl rfl M.out (.mk wo wt wn wi ⟨wk,wv,wx⟩ s.cond.args) rfl aJ.out q.out (le_succ _) H.out C.out ?_));intro v' w' W D;have J:=hid (I.out.trans D.out);have ab:=hid ((aa.out _).trans (J.out.mono (le_succ _)));have HE:Hid (Ex.mk wo wt wn wi ⟨wk,wv,wx⟩ s.cond.args=s.cond):=by obtain ⟨h1,h2,h3,h4,h5,h6,h7⟩:=HC.out;subst h1 h2 h3 h4 h5 h6 h7;show _=_;cases s.cond;rfl
          clear D E1 H C c8 aG aF aE aD aC aB aA az v1;obtain ⟨v1,F,-⟩:=Hv.out.below J.out (lt_succ_self _);have ay:=F 18;simp only [q2a] at ay;clear F;have H:Hid (w.heap.size+1<=w'.heap.size):=by show _<=_;have:=J.out.size;simp at this;omega
          have C:Hid ((s.create.checks++s.values.flatten++s.sets.map (·.e)++s.items.map (·.e)++[s.cond]).length+s.group.length<=1000000000):=by show _<=_;refine le_trans ?_ V.out;rw [allE_eq];simp only [length_append,length_map,length_cons,length_nil];omega
          have aR:Hid (Bl 37 8 ExE (w.heap.size+1) (λ _=> False) w' (s.create.checks++s.values.flatten++s.sets.map (·.e)++s.items.map (·.e)++[s.cond]) v'):=bl_cast W.out (by rw [HE.out];try simp);have aN:=hid HD.out.group;simp only [ad.out] at aN;go_wp2_with (at_builtin;go_loud (refine wpList_pushX rfl _ _ rfl rfl aR.out rfl aN.out ab.out (le_succ _) H.out C.out ?_));intro F w2 aY av;have aT:=hid (ab.out.trans (av.out.mono (le_succ _)));have aQ:Hid (Bl 37 8 ExE (w.heap.size+1) (λ _=> False) w2 (allE s) F):=bl_cast aY.out (by rw [allE_eq];try simp);have HF:=hid (args_of_ls (aQ.out.at (le_trans V.out (by decide))));clear av ay v1;go_wp2;go_ret;exact ⟨_,rfl,HF.out,aT.out⟩
section
open Go.Sort
def FlP {α:Type} (sz:Nat) (E:World->α->List Value->Prop) (l:List α) (w:World) (e:Ending) (w':World):Prop:=∃v,e=.returned v/\Ind (λ k=> k < w.heap.size) w' (λ w=> LsAt sz E w l v)/\Below w.heap.size w w'
theorem Bl.fin {α:Type} {t:TypeId} {sz:Nat} {E:World->α->List Value->Prop} {w0 w:World} {B:Nat} {xs:List α} {v:Value} (hB:w0.heap.size<=B) (h:Bl t sz E B (λ k=> k < w0.heap.size) w xs v) (hn:xs.length<=2000000000000):Ind (λ k=> k < w0.heap.size) w λ w=> LsAt sz E w xs v:=
 (h.done hn).sub λ k _ hk=> ⟨hk,λ e=> by have:=(h.ge k e).1;omega⟩
def VaE (_:World) (c:Cl) (cs:List Value):Prop:=cs=[qi c.type,qi c.low,qi c.high,qi c.max,.bool (!c.nn)]
theorem VaE.mono:EMono VaE:=λ _ _ _ _ h _=> h
theorem Tryz.info68':(Tryz.prog.info? 68).map (λ i=> (i.zero,i.size,i.bytes))=some (some (.agg #[qi 0,qi 0,qi 0,qi 0,.bool false]),5,40):=by kernel_rfl
theorem Tryz.info3':(Tryz.prog.info? 3).map (λ i=> (i.zero,i.size,i.bytes))=some (some (qi 0),1,8):=by kernel_rfl
theorem one_va (c:Cl):∀u∈[qi c.type,qi c.low,qi c.high,qi c.max,.bool (!c.nn)],u.oneCell'=true:=by
 intro u o;simp only [mem_cons,not_mem_nil,or_false] at o;rcases o with rfl | rfl | rfl | rfl | rfl <;> rfl
theorem one_int (x:Int):∀u∈[qi x],u.oneCell'=true:=by
 intro u h;rw [mem_singleton.1 h];rfl
theorem bVars_calls (nm:ByteArray) (l:List Cl) (ca:Option Addr) (cc:Nat) (k2 k3 k4:Value) (w:World) (hl:LsAt 6 ClE w l (qs ca l.length cc)) (hn9:l.length<=100000000):Calls Tryz.prog 121 #[.agg #[qt nm,qs ca l.length cc,k2,k3,k4]] w (FlP 5 VaE l w):=by
 have HL:=hid hl;obtain ⟨n,M⟩:=gx l.length
 have W:=hid M;rw [M] at HL hn9 ⊢;have Hv:=hid (VarIs.new w #[qt nm,qs ca n cc,k2,k3,k4] 108);have T:Hid (∀o,Below w.heap.size w (w.alloc o)):=λ o=> zi.alloc lr o;obtain ⟨i0,ii,L,K,J⟩:=info_parts Tryz.info68';clear hl M;go_enter Tryz.func121,Tryz.ntmps121;go_wp2;go_loopw [3,4] (λ v z wr=> ∃k:Nat,k<=n/\z=qi k/\Hid (Bl 68 5 VaE (w.heap.size+1) (λ k=> k < w.heap.size) wr (l.take k) v)/\Hid (Below (w.heap.size+1) (w.alloc (.cells #[qt nm,qs ca n cc,k2,k3,k4] 108)) wr)) (λ _ z _=> n - (intOf z).toNat)
 case atStart=> exact ⟨0,zero_le _,rfl,Bl.nil _ _ _ _ _ _,zi⟩
 case round=>
  obtain ⟨k,hk,rfl,HB,I⟩:=hrel;have F:=hid ((T.out _).trans (I.mono (le_succ _)));have c1:=(Hv.below I (lt_succ_self _)).a1;by_cases hlt:k < n
  . have q:k < l.length:=by rw [W.out];exact hlt
    have A:=HL.mono ClE.mono F;obtain ⟨b,o,rfl,aa,d0,d1,d2,d3,d4,d5⟩:=ClAt.cell A k q;have HT:Hid (l.take (k+1)=l.take k++[l[k]]):=by show _=_;rw [<-take_append_getElem q]
    have D:Hid ((l.take k).length<=1000000000):=by show _<=_;rw [length_take];omega
    generalize l[k]=y at *;clear A q;have H:=hid (((Below.refl wr.heap.size wr).alloc lr (.cells #[qt y.name,qi y.type,qi y.low,qi y.high,qi y.max,.bool y.nn] 125)).alloc (by simp) (.cells #[qi y.type,qi y.low,qi y.high,qi y.max,.bool (!y.nn)] 68));have HV:=hid (VarIs.new1 wr (.cells #[qt y.name,qi y.type,qi y.low,qi y.high,qi y.max,.bool y.nn] 125) #[qi y.type,qi y.low,qi y.high,qi y.max,.bool (!y.nn)] 68);have V:=hid (HB.below H);have G:=hid (I.trans (H.mono (by have:=I.size;simp at this;omega)));go_wp2_with (at_builtin;go_loud (refine wpList_pushG (E:=VaE) rfl _ _ 44 rfl i0 _ 40 Tryz.underlying44 ii L K J rfl (by decide) (by decide) rfl V.out y [qi y.type,qi y.low,qi y.high,qi y.max,.bool (!y.nn)] _ rfl HV.out.cell rfl (one_va y) (Ind.triv λ _=> rfl) D.out ?c1 (λ _ h=> Nat.lt_succ_of_lt h) ?_))
    case c1=> have:=G.size;simp at this ⊢;omega
    intro v' w' U C _ _;have O:=hid (G.trans C);clear C;go_wp2;go_roundw
    case rel=> exact ⟨k+1,by omega,by go_num,bl_cast U HT.symm,O⟩
    case measure=> simp [intOf];omega
  . obtain rfl:n=k:=by omega
    have HF:Hid (Ind (λ k=> k < w.heap.size) wr λ w=> LsAt 5 VaE w l u3):=by have h:=Bl.fin (le_succ _) HB (by rw [length_take];omega);rw [<-W.out,take_length] at h;exact h
    go_wp2;go_ret;exact ⟨_,rfl,HF,F⟩
def nmsOf (cols:List Cl) (l:List Int):List ByteArray:=l.map λ i=> ((cols[i.toNat]?).map (·.name)).getD ⟨#[]⟩
theorem bNames_calls (nm:ByteArray) (cs:List Cl) (ca:Option Addr) (cc:Nat) (k2 k3 k4:Value) (l:List Int) (la:Option Addr) (lc:Nat) (w:World) (hc:LsAt 6 ClE w cs (qs ca cs.length cc)) (hl:NosAt w l (qs la l.length lc)) (hi:∀x∈l,0<=x/\x < cs.length) (hn9:l.length<=100000000):
 Calls Tryz.prog 101 #[.agg #[qt nm,qs ca cs.length cc,k2,k3,k4],qs la l.length lc] w (FlP 1 NmE (nmsOf cs l) w):=by
 have HL:=hid hl;have HC:=hid hc;have HI:=hid hi;obtain ⟨n,hn⟩:=gx l.length
 obtain ⟨m,hm⟩:=gx cs.length
 have HN:=hid hn;have HM:=hid hm;rw [hn] at HL hn9 ⊢;rw [hm] at HC HI ⊢;have ak:m<=2000000000000:=by obtain ⟨_,_,e,h⟩:=hc.shape;omega
 have Hv:=hid (VarIs.new w #[qt nm,qs ca m cc,k2,k3,k4] 108);have ab:Hid (∀o,Below w.heap.size w (w.alloc o)):=λ o=> zi.alloc lr o;clear hl hn hc hm hi;go_enter Tryz.func101,Tryz.ntmps101;go_wp2;go_loopw [5,6] (λ v z wr=> ∃k:Nat,k<=n/\z=qi k/\Hid (Bl 9 1 NmE (w.heap.size+1) (λ k=> k < w.heap.size) wr (nmsOf cs (l.take k)) v)/\Hid (Below (w.heap.size+1) (w.alloc (.cells #[qt nm,qs ca m cc,k2,k3,k4] 108)) wr)) (λ _ z _=> n - (intOf z).toNat)
 case atStart=> exact ⟨0,zero_le _,rfl,Bl.nil _ _ _ _ _ _,zi⟩
 case round=>
  obtain ⟨k,hk,rfl,HB,M⟩:=hrel;have H:=hid ((ab.out _).trans (M.mono (le_succ _)));obtain ⟨v1,v2,-⟩:=Hv.below M (lt_succ_self _);have c1:=v2 1;simp only [q2a] at c1;clear v2;by_cases hlt:k < n
  . have A:k < l.length:=by rw [HN.out];exact hlt
    have F:=HL.mono NoE.mono H;rw [<-HN.out] at F;obtain ⟨b,o,rfl,al,d0⟩:=NosAt.cell F k A;have HT:Hid (nmsOf cs (l.take (k+1))=nmsOf cs (l.take k)++[((cs[l[k].toNat]?).map (·.name)).getD ⟨#[]⟩]):=by show _=_;unfold nmsOf;rw [<-take_append_getElem A,map_append];rfl
    have K:Hid ((nmsOf cs (l.take k)).length<=1000000000):=by show _<=_;simp only [nmsOf,length_map,length_take];omega
    have HY:=hid (HI.out _ (getElem_mem A));generalize l[k]=y at *;obtain ⟨p,rfl⟩:∃p:Nat,y=p:=⟨y.toNat,by have:=HY.1;omega⟩
    have W:p < m:=by have:=HY.2;omega
    have D:p < cs.length:=by rw [HM.out];exact W
    have I:=HC.mono ClE.mono H;obtain ⟨b2,o2,rfl,ae,e0,-,-,-,-,-⟩:=ClAt.cell I p D;have e:((cs[(p:Int).toNat]?).map (·.name)).getD ⟨#[]⟩=cs[p].name:=by
     have e1:(p:Int).toNat=p:=by omega
     rw [e1,getElem?_eq_getElem D];rfl
    rw [e] at HT;generalize cs[p]=q at *;have ag:(0:Int)<=(k:Int):=by omega
    have kk:(k:Int) < (n:Int):=by omega
    have af:(0:Int)<=(p:Int):=by omega
    have pp:(p:Int) < (m:Int):=by omega
    clear F A I D e;go_upto_region 5 with (fail)
    refine wp_region_segs [([0,1,2,3,4,5,6,7,8,9],10)] [] [11,12] (by kernel_rfl) (by kernel_rfl) ?_;simp only [q2c,wpSegs];have aj:=cell_regrown (w:=wr.drew) c1;have ai:=cell_regrown (w:=wr.drew) d0;have ah:=cell_regrown (w:=wr.drew) e0;clear c1 d0 e0 v1;have C:Hid (Below wr.heap.size wr wr.drew):=zi.drew
    repeat (quiet_step (fail))
    refine wpQuiet_nil ?_;refine ⟨rfl,λ wy hby=> ?_⟩;go_simp;have Hy:=hid (C.trans (hby.mono C.size));refine uponV_box λ wv O Hbv=> ⟨Hbv,?_⟩
    replace C:=hid (Hy.trans (Hbv.mono Hy.size));clear hby Hy;go_simp
    repeat (quiet_step (fail))
    refine wpQuiet_nil ?_;intro wz G;replace C:=hid (C.trans (G.mono C.size));replace O:=hid (O.below G O.lt);clear G;have ad:=hid (HB.below C);have L:=hid (M.trans (C.mono (by have:=M.size;simp at this;omega)));obtain ⟨i0,ii,V,U,T⟩:=info_parts Tryz.info9';go_wp2_with (at_builtin;go_loud (refine wpList_pushG (E:=NmE) rfl _ _ 127 rfl i0 (qt ⟨#[]⟩) 16 Tryz.underlying127 ii V U T rfl (by decide) (by decide) rfl ad.out q.name [qt q.name] _ rfl O.out.cell rfl (one_str q.name) (Ind.triv λ _=> rfl) K.out ?c1 (λ _ h=> Nat.lt_succ_of_lt h) ?_))
    case c1=> have:=L.size;simp at this;omega
    intro v' w' ac J _ _;have aa:=hid (L.trans J);clear J;go_wp2;go_roundw
    case rel=> exact ⟨k+1,by omega,by go_num,bl_cast ac HT.symm,aa⟩
    case measure=> simp [intOf];omega
  . obtain rfl:n=k:=by omega
    have HF:Hid (Ind (λ k=> k < w.heap.size) wr λ w=> LsAt 1 NmE w (nmsOf cs l) u5):=by have h:=Bl.fin (le_succ _) HB (by simp only [nmsOf,length_map,length_take];omega);rw [<-HN.out,take_length] at h;exact h
    clear c1 v1;go_wp2;go_ret;exact ⟨_,rfl,HF,H⟩
end
section
open Go.Sort
def NumsP (n m:Nat) (w:World) (e:Ending) (w':World):Prop:=∃(v:Value) (q:Bool),e=.returned (.tuple #[v,.bool q])/\(q=true->∃ks:List Int,ks.length=n/\(∀x∈ks,0<=x/\x < m)/\Ind (λ k=> k < w.heap.size) w' λ w=> LsAt 1 NoE w ks v)/\(∃a k c,v=qs a k c)/\Below w.heap.size w w'
theorem bNums_calls (nm:ByteArray) (cs:List Cl) (ca:Option Addr) (cc:Nat) (k2 k3 k4:Value) (l:List ByteArray) (la:Option Addr) (lc:Nat) (w:World) (hc:LsAt 6 ClE w cs (qs ca cs.length cc)) (hl:NmsAt w l (qs la l.length lc)) (hn9:l.length<=100000000):
 Calls Tryz.prog 129 #[.agg #[qt nm,qs ca cs.length cc,k2,k3,k4],qs la l.length lc] w (NumsP l.length cs.length w):=by
 have HL:=hid hl;have HC:=hid hc;obtain ⟨n,hn⟩:=gx l.length
 obtain ⟨m,hm⟩:=gx cs.length
 have HN:=hid hn;have HM:=hid hm;rw [hn] at HL hn9 ⊢;rw [hm] at HC ⊢;have M:=hid λ w' nm2 (h:LsAt 6 ClE w' cs (qs ca m cc))=> bColn_calls nm cs ca cc k2 k3 k4 nm2 w' (by rw [HM.out];exact h);simp only [HM.out] at M;have Hv:=hid (VarIs.new w #[qt nm,qs ca m cc,k2,k3,k4] 108);have L:Hid (∀o,Below w.heap.size w (w.alloc o)):=λ o=> zi.alloc lr o;obtain ⟨i0,ii,W,V,U⟩:=info_parts Tryz.info3';clear hl hn hc hm;go_enter Tryz.func129,Tryz.ntmps129;go_wp2;go_loopw [6,7] (λ v z wr=> ∃(k:Nat) (ks:List Int),k<=n/\z=qi k/\Hid (ks.length=k)/\Hid (∀x∈ks,0<=x/\x < (m:Int))/\Hid (Bl 3 1 NoE (w.heap.size+1) (λ k=> k < w.heap.size) wr ks v)/\Hid (Below (w.heap.size+1) (w.alloc (.cells #[qt nm,qs ca m cc,k2,k3,k4] 108)) wr)) (λ _ z _=> n - (intOf z).toNat)
 case atStart=> exact ⟨0,[],zero_le _,rfl,rfl,(λ x h=> by cases h),Bl.nil _ _ _ _ _ _,zi⟩
 case round=>
  obtain ⟨k,ks,hk,rfl,C,Hm,HB,T⟩:=hrel;have F:=hid ((L.out _).trans (T.mono (le_succ _)));obtain ⟨v1,H,-⟩:=Hv.below T (lt_succ_self _);have c0:=H 0;have c1:=H 1;have c2:=H 2;have c3:=H 3;have c4:=H 4;simp only [q2a] at c0 c1 c2 c3 c4;clear H;by_cases hlt:k < n
  . have I:k < l.length:=by rw [HN.out];exact hlt
    have D:=HL.mono NmE.mono F;rw [<-HN.out] at D;obtain ⟨b,o,rfl,ao,d0⟩:=NmsAt.cell D k I;generalize l[k]=y at *;have ah:(0:Int)<=(k:Int):=by omega
    have kk:(k:Int) < (n:Int):=by omega
    have ae:=hid (HC.mono ClE.mono F);clear D I;go_upto_region 5 with (fail)
    refine wp_region_segs [([0,1,2,3,4],5)] [6,7,8,9,10] [] (by kernel_rfl) (by kernel_rfl) ?_;simp only [q2c,wpSegs];have an:=cell_regrown (w:=wr.drew) c0;have am:=cell_regrown (w:=wr.drew) c1;have al:=cell_regrown (w:=wr.drew) c2;have ak:=cell_regrown (w:=wr.drew) c3;have aj:=cell_regrown (w:=wr.drew) c4;have ai:=cell_regrown (w:=wr.drew) d0;clear c0 c1 c2 c3 c4 d0;have A:Hid (Below (wr).heap.size (wr) (wr).drew):=zi.drew
    repeat (quiet_step (fail))
    refine wpQuiet_nil ?_;refine ⟨rfl,λ wy hby=> ?_⟩;go_simp;simp only [uponV];have O:=hid (A.trans (hby.mono A.size));refine (M.out _ y (ae.mono ClE.mono O)).mono ?_;rintro e w1 ⟨p,q,rfl,hp,hb⟩;refine ⟨_,rfl,hb,?_⟩;replace A:=hid (O.trans (hb.mono O.size));clear hb hby O;have Hp:=hid hp;clear hp;go_simp
    repeat (quiet_step (fail))
    refine wpQuiet_nil ?_;intro wz J;replace A:=hid (A.trans (J.mono A.size));clear J;simp only [wpList];have ag:=hid (HB.below A);have G:=hid (T.trans (A.mono (by have:=T.size;simp at this;omega)));clear A v1;cases q with
    | false=>
     go_wp2;go_ret2;exact ⟨_,false,rfl,(λ h=> (by cases h)),⟨none,0,0,rfl⟩,(L.out _).trans (G.mono (le_succ _))⟩
    | true=>
     obtain ⟨ab,aa⟩:=Hp.out rfl;clear Hp;go_wp2_with (at_builtin;go_loud (refine wpList_push (E:=NoE) rfl _ _ 43 rfl i0 (qi 0) 8 Tryz.underlying43 ii W V U rfl (by decide) (by decide) rfl ag.out p [qi p] 3 rfl rfl (one_int p) (Ind.triv λ _=> rfl) ?c0 ?c1 (λ _ h=> Nat.lt_succ_of_lt h) ?_))
     case c0=> have:=C.out;omega
     case c1=> have:=G.size;simp at this;omega
     intro v' w' af K _ _;have ac:=hid (G.trans K);have ad:Hid (∀x∈ks++[p],0<=x/\x < (m:Int)):=all_snoc Hm ⟨ab,aa⟩;clear K;go_wp2;go_roundw
     case rel=> exact ⟨k+1,ks++[p],by omega,by go_num,(by show _=_;rw [length_append,C.out];rfl),ad,af,ac⟩
     case measure=> simp [intOf];omega
  . obtain rfl:n=k:=by omega
    have HF:=hid (Bl.fin (le_succ _) HB (by have:=C.out;omega));have HS:=hid HB.shape;go_wp2;go_ret2;exact ⟨_,true,rfl,(λ _=> ⟨ks,C,Hm,HF⟩),(by obtain ⟨a,c,h⟩:=HS.out;exact ⟨a,_,c,h⟩),F⟩
end
section
open Go.Sort
theorem Tryz.info127':(Tryz.prog.info? 127).map (λ i=> (i.zero,i.size,i.bytes))=some (some (q0),1,24):=by kernel_rfl
theorem Tryz.info129':(Tryz.prog.info? 129).map (λ i=> (i.zero,i.size,i.bytes))=some (some (.agg #[q0,qt ⟨#[]⟩,q0]),3,64):=by kernel_rfl
theorem one_sl {a:Option Addr} {n c:Nat}:∀u∈[qs a n c],u.oneCell'=true:=by
 intro u h;rw [mem_singleton.1 h];rfl
theorem agr_setCell (w:World) (a:Addr) (v:Value):Agr (λ k=> k=a.block) w (w.setCell a v):=⟨rfl,rfl,rfl,by simp [World.setCell],λ k _ hk=> Below.heap_setCell w a v k hk⟩
theorem agr_drew {X:Nat->Prop} (w:World):Agr X w w.drew:=⟨rfl,rfl,rfl,lr,λ _ _ _=> rfl⟩
theorem Agr.weak {X X':Nat->Prop} {w w':World} (h:Agr X w w') (hX:∀k,X k->X' k):Agr X' w w':=⟨h.os,h.tape,h.output,h.size,λ k hk hn=> h.block k hk λ hx=> hn (hX k hx)⟩
theorem results_cell_var {P:Program} {fn:Func} {p:Tmp} {ty:TypeId} (h:fn.results=#[.cell p ty]) (tmps:Array Value) (w:World) {g:Nat} {cs:List Value} {d:TypeDesc}
 (hp:tmps.getD p undef=.pointer (some ⟨g,0,none⟩)) (hv:VarIs w g cs.toArray) (hu:P.underlying ty=some d) (hd:d.isRow=true) (hi:(P.info? ty).map (·.size)=some cs.length):
 (results fn tmps).run P w=.ok (.agg cs.toArray) w:=by
 have o:tmps[p]?.getD undef=.pointer (some ⟨g,0,none⟩):=by simpa using hp
 have hl:=run_loadVar_mid (P:=P) w g 0 ty cs d (λ j v hj=> by rw [zero_add,hv.cell j];simpa using hj) hu hd hi;simp [results,h,o,asAddr,hl]
theorem agr_setCells (b:Nat):∀(vs:List Value) (o:Nat) (w:World),Agr (λ k=> k=b) w (w.setCells b o vs)
 | [],_,w=> Agr.refl _ w
 | v::vs,o,w=> (agr_setCell w ⟨b,o,none⟩ v).trans (agr_setCells b vs (o+1) _) λ _ _ h=> h
theorem varIs_setCells {b:Nat}:∀(vs:List Value) (o:Nat) {w:World} {c:Array Value},VarIs w b c->o+vs.length<=c.size->∃q,VarIs (w.setCells b o vs) b q/\q.size=c.size
 | [],_,_,c,h,_=> ⟨c,h,rfl⟩
 | v::vs,o,w,c,h,hl=> by
  have A:o+1+vs.length<=c.size:=by simp at hl;omega
  obtain ⟨q,h1,C⟩:=varIs_setCells vs (o+1) (h.set o (by omega) v) (by simpa using A);exact ⟨q,h1,by simpa using C⟩
theorem wpList_store_row {P:Program} {ops:Array Oper} {rest:List Oper} {op:Oper} {a:Act} {w:World} {Q:Exit->Act->World->Prop} (hgd:op.guard=none) (ty:TypeId) (x y:Operand) (ho:op.op=.store ty x y) (b:Nat) {c:Array Value} {cs:List Value} (hx:a.eval x=.pointer (some ⟨b,0,none⟩)) (hy:a.eval y=.agg cs.toArray)
 (hv:VarIs w b c) (hsz:cs.length=c.size) (hi:(P.info? ty).map (·.size)=some cs.length) (h1:cs.all (·.oneCell')=true)
 (h:∀w',Hid (VarIs w' b cs.toArray)->Hid (Agr (λ k=> k=b) w w')->wpList P ops Q rest (a.put op.dst undef) w'):wpList P ops Q (op::rest) a w:=by
 have ht:w.there b 0 cs.toArray.size:=λ j hj=> by
  have o:j < c.size:=by rw [<-hsz];simpa using hj
  refine ⟨?_,hv.free _⟩;rw [hv.cell,Array.getElem?_eq_getElem (by simpa using o)];rfl
 refine wpList_store_mid hgd ty x y ho b 0 cs.toArray hx hy ht (by simpa using hi) (all_oneCell_toArray λ v hv=> all_eq_true.1 h1 v hv) (h _ ?_ (agr_setCells b _ 0 w));obtain ⟨D,q,C⟩:=varIs_setCells cs 0 hv (by omega);refine ⟨q.lt,λ j=> ?_,q.free⟩;by_cases hj:j < cs.length
 . have:=World.rangeAt_setCells_same w b 0 cs (by simpa using ht) j cs[j] (getElem?_eq_getElem hj)
   rw [zero_add] at this;simpa [hj] using this
 . have A:=q.cell j
   rw [Array.getElem?_eq_none (by omega)] at A;rw [A];simp;omega
theorem VarIs.agr {w w':World} {g:Nat} {c:Array Value} {X:Nat->Prop} (h:VarIs w g c) (ha:Agr X w w') (hg:¬ X g):VarIs w' g c:=by
 have e:=ha.block g h.lt hg;exact ⟨lt_of_lt_of_le h.lt ha.size,λ j=> (World.cell?_of_block (w:=w) (a:=⟨g,j,none⟩) e).trans (h.cell j),λ j=> (World.frozen?_of_block (w:=w) (a:=⟨g,j,none⟩) e).trans (h.free j)⟩
def TbI (S:List Tb) (t:Tb):Prop:=(∀k∈t.keys,(∀x∈k,0<=x/\x < t.cols.length)/\k.length<=100000000)/\
 ∀f∈t.fks,(∀x∈f.cols,0<=x/\x < t.cols.length)/\f.cols.length<=100000000/\∃(i p:Nat) (q:Tb) (key:List Int),f.table=i/\f.key=p/\S[i]? =some q/\q.keys[p]? =some key/\(∀x∈key,0<=x/\x < q.cols.length)/\key.length<=100000000
theorem rf_ind {x:Rf} {a b:List ByteArray} {c:ByteArray} (e:x=⟨a,c,b⟩) {X:Nat->Prop} {w:World} {s1 s2:Value} (h1:Ind X w λ w=> LsAt 1 NmE w a s1) (h2:Ind X w λ w=> LsAt 1 NmE w b s2):Ind X w λ w=> RfE w x [s1,qt c,s2]:=by
 subst e;exact λ w' ha=> ⟨s1,s2,rfl,h1 w' ha,h2 w' ha⟩
def rfOf (S:List Tb) (y:Tb) (f:Fk):Rf:=match S[f.table.toNat]? with
 | some u=> ⟨nmsOf y.cols f.cols,u.name,nmsOf u.cols ((u.keys[f.key.toNat]?).getD [])⟩
 | none=> ⟨[],⟨#[]⟩,[]⟩
theorem one_rf {a b:Option Addr} {n m c d:Nat} {s:ByteArray}:∀u∈[qs a n c,qt s,qs b m d],u.oneCell'=true:=by
 intro u o;simp only [mem_cons,not_mem_nil,or_false] at o;rcases o with rfl | rfl | rfl <;> rfl
def defS (S:List Tb) (y:Tb):Stt:=⟨1,y.name,⟨y.cols,y.keys.map (nmsOf y.cols),y.fks.map (rfOf S y),y.checks⟩,[],[],[],[],.mk 0 ⟨#[]⟩ ⟨#[]⟩ 0 ⟨0,0,⟨#[]⟩⟩ [],[],[],0,⟨#[]⟩⟩
def DefP (S:List Tb) (y:Tb) (W0 w:World) (e:Ending) (w':World):Prop:=∃v:StV,e=.returned (.agg ((defS S y).cells v).toArray)/\Ind (λ j=> W0.heap.size<=j/\j < w.heap.size) w' (λ w=> SttAt w (defS S y) v)/\Below w.heap.size w w'
theorem bDefn_calls (S:List Tb) (sa:Option Addr) (sc:Nat) (i:Nat) (hi:i < S.length) (W0 w:World) (hs0:SchAt W0 S (qs sa S.length sc)) (hW:Below W0.heap.size W0 w) (hI:TbI S S[i]) (hl2:S[i].keys.length<=100000000) (hl3:S[i].fks.length<=100000000):
 Calls Tryz.prog 74 #[qs sa S.length sc,qi i] w (DefP S S[i] W0 w):=by
 have hs:=hs0.mono TbE.mono hW;obtain ⟨n,hn⟩:=gx S.length
 obtain ⟨b,o,a1,k1,a2,k2,a3,k3,a4,k4,rfl,H,g0,g1,g2,g3,g4,ar⟩:=SchAt.cell hs0 i hi;have cI:=lt_of_lt_of_le H hW.size;have e0:=(hW.cell (p:=⟨b,o+i * 5,none⟩) H).trans g0;have e1:=(hW.cell (p:=⟨b,o+i * 5+1,none⟩) H).trans g1;have e2:=(hW.cell (p:=⟨b,o+i * 5+2,none⟩) H).trans g2;have e3:=(hW.cell (p:=⟨b,o+i * 5+3,none⟩) H).trans g3;have e4:=(hW.cell (p:=⟨b,o+i * 5+4,none⟩) H).trans g4;have h5:=ar.mono hW;have HW:=hid hW;clear g0 g1 g2 g3 g4;have HS:=hid hs;have HN:=hid hn;have cG:(i:Int) < (n:Int):=by omega
 have cH:(0:Int)<=(i:Int):=by omega
 generalize S[i]=y at *;obtain ⟨tn,aG⟩:=gx y.name
 obtain ⟨n1,h1⟩:=gx y.cols.length
 obtain ⟨n2,T⟩:=gx y.keys.length
 obtain ⟨n3,h3⟩:=gx y.fks.length
 obtain ⟨n4,h4⟩:=gx y.checks.length
 rw [aG] at e0;rw [h1] at e1;rw [T] at e2;rw [h3] at e3;rw [h4] at e4;rw [h1,T,h3,h4] at h5 ar;have bO:=hid ar;have ca:=hid aG;rw [hn];have cF:n2<=100000000:=T ▸ hl2;have cE:n3<=100000000:=h3 ▸ hl3;clear hl2 hl3;have HD:=hid h5;have bL:=hid h1;have bK:=hid T;have bJ:=hid h3;clear h5 ar h1 T h3 h4 aG hs hs0 hW hi hn H;have HI:=hid hI;clear hI;go_enter Tryz.func74,Tryz.ntmps74;go_wp2_with (refine wpList_store_row rfl _ _ _ rfl _ rfl rfl (VarIs.new1 _ _ _ _) rfl (by kernel_rfl) rfl ?_);intro C K A1;have V0:Hid (VarIs C w.heap.size q0b):=((VarIs.new w q0b 40).alloc _).agr A1 (by simp);have aU:Hid (Below w.heap.size w C):=(((zi.alloc lr _).alloc (by simp) _).trans (A1.below (by simp <;> omega) (λ k hk=> by show ¬ k=_;omega)))
 have I:Hid (w.heap.size+2<=C.heap.size):=by show _<=_;have:=A1.size;simp at this;omega
 clear A1;obtain ⟨D,A,-⟩:=K.out;have t0:=A 0;simp only [q2a] at t0;clear A;go_wp2_with (refine wpList_store_row rfl _ _ _ rfl _ rfl rfl (VarIs.new _ _ _) rfl (by kernel_rfl) rfl ?_);intro w3 U A2;clear t0 D;replace V0:=hid ((V0.alloc (.cells q0b 40)).agr A2 (by have:=I.out;omega));replace K:=hid ((K.alloc (.cells q0b 40)).agr A2 (by have:=I.out;omega));have aT:Hid (Below w.heap.size w w3):=(aU.alloc aU.size _).trans (A2.below (by have:=I.out;simp <;> omega) (λ k hk=> by have:=I.out;show ¬ k=_;omega));have bD:Hid (C.heap.size+1<=w3.heap.size):=by show _<=_;have:=A2.size;simp at this;omega
 clear A2;go_upto_region 3 with (fail)
 go_cut [] from 18 to 25 (λ wy=> Hid (VarIs wy C.heap.size (q1a 1 tn a1 n1 k1 none 0 0 none 0 0 a4 n4 k4 none 0 0 none 0 0 none 0 0 none 0 0 0 ⟨#[]⟩ ⟨#[]⟩ 0 0 0 ⟨#[]⟩ none 0 0 none 0 0 none 0 0 0 ⟨#[]⟩))/\Hid (Agr (λ k=> k=C.heap.size) w3 wy))
 case first=>
  obtain ⟨D,A,-⟩:=K.out;have t1:=A 1;have t4:=A 4;simp only [q2a] at t1 t4;clear A;obtain ⟨x1,x2,x3⟩:=U.out;have y2:=x2 2;have y5:=x2 5;simp only [q2a] at y2 y5;clear x2;have bp:w.heap.size+1≠C.heap.size:=by have:=I.out;omega
  go_region_with (fail)
  all_goals
   go_wp2_with fail;go_meet;exact ⟨((U.drew.set 2 (by simp) (qs a1 n1 k1)).set 5 (by simp) (qs a4 n4 k4)),((agr_drew w3).trans (agr_setCell w3.drew ⟨C.heap.size,2,none⟩ _) (λ _ _ h=> h)).trans (agr_setCell _ ⟨C.heap.size,5,none⟩ _) (λ _ _ h=> h)⟩
 rename World=> w4
 obtain ⟨bx,A4⟩:=hcut;replace V0:=hid (V0.agr A4 (by have:=I.out;omega));replace K:=hid (K.agr A4 (by have:=I.out;omega));have bH:Hid (Below w.heap.size w w4):=aT.trans (A4.below aT.size (λ k hk=> by have:=I.out;show ¬ k=_;omega));have bC:Hid (C.heap.size+1<=w4.heap.size):=le_trans bD A4.size;clear A4 aT bD U aU;have U:=bx;clear bx;go_wp2;go_loopw [7] (λ z wr=> ∃(k:Nat) (v:Value),k<=n2/\z=qi k/\Hid (Bl 127 1 (LlE 1 NmE) (C.heap.size+1) (λ k=> k < C.heap.size+1) wr ((y.keys.take k).map (nmsOf y.cols)) v)/\Hid (VarIs wr C.heap.size #[qi 1,qt tn,qs a1 n1 k1,v,q0,qs a4 n4 k4,q0,q0,q0,q0,qi 0,qt ⟨#[]⟩,qt ⟨#[]⟩,qi 0,qi 0,qi 0,qt ⟨#[]⟩,q0,q0,q0,qi 0,qt ⟨#[]⟩])/\Hid (VarIs wr w.heap.size q0b)/\Hid (VarIs wr (w.heap.size+1) #[qt tn,qs a1 n1 k1,qs a2 n2 k2,qs a3 n3 k3,qs a4 n4 k4])/\Hid (Below w.heap.size w wr)/\Hid (C.heap.size+1<=wr.heap.size)) (λ z _=> n2 - (intOf z).toNat)
 case atStart=> exact ⟨0,_,zero_le _,rfl,Bl.nil _ _ _ _ _ _,U,V0,K,bH,bC⟩
 case round=>
  clear V0 K U bH bC;obtain ⟨k,v,hk,rfl,HB,U,V0,K,Hb,Hs⟩:=hrel;obtain ⟨D,A,-⟩:=K.out;have t2:=A 2;simp only [q2a] at t2;clear A;by_cases hlt:k < n2
  . clear D t2
    have M:k < y.keys.length:=by rw [bK.out];exact hlt
    have ah:=HD.keys.mono (LlE.mono NoE.mono) Hb;obtain ⟨b2,o2,a12,av,rfl,bv,d0,hx⟩:=LlAt.cell ah k M;have HK:=hid (HI.1 _ (getElem_mem M));have HT:Hid ((y.keys.take (k+1)).map (nmsOf y.cols)=(y.keys.take k).map (nmsOf y.cols)++[nmsOf y.cols y.keys[k]]):=by show _=_;rw [<-take_append_getElem M,map_append];rfl
    have am:Hid (((y.keys.take k).map (nmsOf y.cols)).length<=1000000000):=by show _<=_;rw [length_map,length_take];omega
    generalize y.keys[k]=z at *;obtain ⟨mz,W⟩:=gx z.length
    have HC:=hid λ w' h1 T=> bNames_calls tn y.cols a1 k1 (qs (some ⟨b2,o2,none⟩) n2 k2) (qs a3 n3 k3) (qs a4 n4 k4) z a12 av w' h1 T HK.1 HK.2;rw [W] at d0 HC;simp only [bL.out] at HC;have ao:=hid hx;rw [W] at ao;have aV:=hid (HD.cols.mono ClE.mono Hb);have bU:(0:Int)<=(k:Int):=by omega
    have kk:(k:Int) < (n2:Int):=by omega
    have bp:w.heap.size+1≠C.heap.size:=by have:=I.out;omega
    have bo:w.heap.size+2<=C.heap.size:=I;clear ah M hx W;obtain ⟨D,A,-⟩:=K.out;have t0:=A 0;have t1:=A 1;have t2:=A 2;have t3:=A 3;have t4:=A 4;simp only [q2a] at t0 t1 t2 t3 t4;clear A;obtain ⟨D,ag,-⟩:=U.out;have x3:=ag 3;simp only [q2a] at x3;clear ag;clear D;go_upto_region 7 with (fail)
    refine wp_region_segs [([0,1,2,3,4,5,6,7,8],9),([],10)] [] [11,12,13,14] (by kernel_rfl) (by kernel_rfl) ?_;simp only [q2c,wpSegs];have bT:=cell_regrown (w:=wr.drew) t0;have bS:=cell_regrown (w:=wr.drew) t1;have bR:=cell_regrown (w:=wr.drew) t2;have bQ:=cell_regrown (w:=wr.drew) t3;have bP:=cell_regrown (w:=wr.drew) t4;have cr:=cell_regrown (w:=wr.drew) x3;have cB:=cell_regrown (w:=wr.drew) d0;clear t0 t1 t2 t3 t4 x3 d0;have F:Hid (Below (wr).heap.size (wr) (wr).drew):=zi.drew
    repeat (quiet_step (fail))
    refine wpQuiet_nil ?_;refine ⟨rfl,λ wy hby=> ?_⟩;go_simp;simp only [uponV];have bY:Hid (wr.heap.size<=wy.heap.size):=hby.size;have O:=hid (F.trans (hby.mono F.size));refine (HC.out _ (aV.mono ClE.mono O) (ao.mono NoE.mono O)).mono ?_;rintro e w1 ⟨v2,rfl,aF,hb⟩
    rename_i ch
    refine ⟨_,rfl,hb,?_⟩;obtain ⟨cn,ck,rfl,-⟩:=aF.here.shape;have b9:=hid aF;replace F:=hid (O.trans (hb.mono O.size));clear hb hby O aF;go_simp
    repeat (quiet_step (fail))
    refine wpQuiet_nil ?_;refine ⟨rfl,λ wy hby=> ?_⟩;go_simp;refine uponV_box λ wv HV Hbv=> ⟨Hbv,?_⟩
    have Hq:=hid (hby.trans (Hbv.mono hby.size));clear hby;go_simp
    repeat (quiet_step (fail))
    refine wpQuiet_nil ?_;intro wz aa;replace Hq:=hid (Hq.trans (aa.mono Hq.size));replace HV:=hid (HV.below aa HV.lt);replace F:=hid (F.trans (Hq.mono F.size));clear aa;have ap:=hid (HB.below F);have al:=hid (V0.below F V0.lt);have ak:=hid (K.below F K.lt);have aj:=hid (U.below F U.lt);have an:=hid (Hb.trans (F.mono Hb.size));have ae:=hid (le_trans Hs F.size);obtain ⟨i0,ii,ay,ax,aw⟩:=info_parts Tryz.info127';go_wp2_with (at_builtin;go_loud (refine wpList_pushG (E:=(LlE 1 NmE)) rfl _ _ 25 rfl i0 (q0) 24 Tryz.underlying25 ii ay ax aw rfl (by decide) (by decide) rfl ap.out (nmsOf y.cols z) [_] _ rfl HV.out.cell rfl one_sl ?hE am.out ae.out (λ _ h=> h) ?_))
    case hE=> exact ((b9.mono Hq (Y:=λ j=> j < C.heap.size+1\/v.ownBlock=some j) λ j _ J=> by
     have h1:=Hs.out;have T:=bY.out;rcases J with J | J
     . omega
     . have:=(HB.ge j J).2
       omega).imp λ w h=> ⟨_,rfl,h⟩)
    intro v' w' ab G _ _;obtain ⟨va,vn,vc,rfl⟩:∃a n c,v'=qs a n c:=by obtain ⟨a,c,h⟩:=ab.shape;exact ⟨a,_,c,h⟩
    have aO:=hid (al.below G (by omega));have aM:=hid (ak.below G (by omega));have ai:=hid (aj.below G (lt_succ_self _));have aS:=hid (an.trans (G.mono (by omega)));have aQ:=hid (le_trans ae G.size);clear G ap al ak aj an ae F;obtain ⟨q1,q2,q3⟩:=ai.out;have bc:=q2 3;simp only [q2a] at bc;clear q2;go_wp2;clear q1 bc q3;have aW:=hid (ab.other (Z:=λ k=> k < C.heap.size+1) (agr_setCell w' ⟨C.heap.size,3,none⟩ (qs va vn vc)) (λ k _ h=> by have:k=C.heap.size:=h;omega) (λ k hk h=> by have h1:=(ab.ge k hk).1;have:k=C.heap.size:=h;omega) (λ _ _ h=> h));have aN:=hid (aO.setOther (g:=C.heap.size) (by omega) 3 (qs va vn vc));have aL:=hid (aM.setOther (g:=C.heap.size) (by omega) 3 (qs va vn vc));have aK:=hid (ai.set 3 (by simp) (qs va vn vc));have aR:=hid (aS.setCell (p:=⟨C.heap.size,3,none⟩) (by show _<=C.heap.size;omega) (qs va vn vc));have aP:=hid (le_trans aQ (agr_setCell w' ⟨C.heap.size,3,none⟩ (qs va vn vc)).size);go_roundw
    case rel=> exact ⟨k+1,_,by omega,by go_num,bl_cast aW (by rw [HT.out];simp only [List.map_take]),aK,aN,aL,aR,aP⟩
    case measure=> simp [intOf];omega
  . obtain rfl:n2=k:=by omega
    rename World=> wk
    obtain ⟨va,vn,vc,rfl⟩:∃a n c,v=qs a n c:=by obtain ⟨a,c,h⟩:=HB.shape;exact ⟨a,_,c,h⟩
    have bN:=hid (λ j (e:(qs va vn vc).ownBlock=some j)=> (HB.ge j e).1);have ce:=hid (HB.done (by rw [length_map,length_take];omega));have cK:C.heap.size+1<=wk.heap.size:=Hs;have bo:w.heap.size+2<=C.heap.size:=I;go_wp2;go_loopw [8] (λ z wr=> ∃(k:Nat) (u:Value),k<=n3/\z=qi k/\Hid (Bl 129 3 RfE wk.heap.size (λ j=> j < wk.heap.size) wr ((y.fks.take k).map (rfOf S y)) u)/\Hid (VarIs wr C.heap.size #[qi 1,qt tn,qs a1 n1 k1,qs va vn vc,u,qs a4 n4 k4,q0,q0,q0,q0,qi 0,qt ⟨#[]⟩,qt ⟨#[]⟩,qi 0,qi 0,qi 0,qt ⟨#[]⟩,q0,q0,q0,qi 0,qt ⟨#[]⟩])/\Hid (VarIs wr w.heap.size q0b)/\Hid (VarIs wr (w.heap.size+1) #[qt tn,qs a1 n1 k1,qs a2 n2 k2,qs a3 n3 k3,qs a4 n4 k4])/\Hid (Below w.heap.size w wr)/\Hid (C.heap.size+1<=wr.heap.size)/\Hid (Agr (λ j=> j=C.heap.size\/wk.heap.size<=j) wk wr)) (λ z _=> n3 - (intOf z).toNat)
    case atStart=> exact ⟨0,_,zero_le _,rfl,Bl.nil _ _ _ _ _ _,U,V0,K,Hb,Hs,Agr.refl _ _⟩
    case round=>
     clear V0 K U Hb Hs HB;obtain ⟨k,u,hk,rfl,HB,U,V0,K,Hb,Hs,HA⟩:=hrel;obtain ⟨D,A,-⟩:=K.out;have t3:=A 3;simp only [q2a] at t3;clear A;by_cases hlt:k < n3
     . have M:k < y.fks.length:=by rw [bJ.out];exact hlt
       have ah:=HD.fks.mono FkE.mono Hb;obtain ⟨bf,of,a12,av,rfl,bv,d0,d1,d2,hx⟩:=FkAt.cell ah k M;obtain ⟨bh,bg,t,p,q,key,aC,aB,aA,az,be,bd⟩:=HI.2 _ (getElem_mem M);have HT:Hid ((y.fks.take (k+1)).map (rfOf S y)=(y.fks.take k).map (rfOf S y)++[rfOf S y y.fks[k]]):=by show _=_;rw [<-take_append_getElem M,map_append];rfl
       have am:Hid (((y.fks.take k).map (rfOf S y)).length<=1000000000):=by show _<=_;rw [length_map,length_take];omega
       generalize y.fks[k]=z at *;rw [aC] at d1;rw [aB] at d2;have cd:Hid (rfOf S y z=⟨nmsOf y.cols z.cols,q.name,nmsOf q.cols key⟩):=by show _=_;unfold rfOf;rw [aC,aB,show (t:Int).toNat=t from rfl,show (p:Int).toNat=p from rfl,aA];simp only [az,Option.getD_some]
       obtain ⟨bj,bi⟩:=List.getElem?_eq_some_iff.1 aA;obtain ⟨bn,bm⟩:=List.getElem?_eq_some_iff.1 az;have bl:=HS.mono TbE.mono Hb;obtain ⟨bs,os,b1,c1,b2,c2,b3,c3,b4,c4,es,V,f0,f1,f2,f3,f4,aq⟩:=SchAt.cell bl t bj;cases es;rw [bi] at f0 f1 f2 f3 f4 aq;obtain ⟨bk,ok,a14,bV,rfl,bu,g0,aJ⟩:=LlAt.cell aq.keys p bn;rw [bm] at g0 aJ;obtain ⟨m1,aI⟩:=gx q.cols.length
       obtain ⟨m2,bt⟩:=gx q.keys.length
       obtain ⟨m3,br⟩:=gx q.fks.length
       obtain ⟨m4,bq⟩:=gx q.checks.length
       obtain ⟨mk,aH⟩:=gx key.length
       obtain ⟨mz,W⟩:=gx z.cols.length
       have HC:=hid λ w' h1 T=> bNames_calls tn y.cols a1 k1 (qs a2 n2 k2) (qs (some ⟨bf,of,none⟩) n3 k3) (qs a4 n4 k4) z.cols a12 av w' h1 T bh bg;have HG:=hid λ w' h1 T=> bNames_calls q.name q.cols b1 c1 (qs (some ⟨bk,ok,none⟩) m2 c2) (qs b3 m3 c3) (qs b4 m4 c4) key a14 bV w' h1 T be bd;rw [W] at d0 HC;simp only [bL.out] at HC;rw [aH] at g0 HG;simp only [aI] at HG f1;rw [bt] at f2;rw [br] at f3;rw [bq] at f4;have ao:=hid hx;rw [W] at ao;have bM:=hid aJ;rw [aH] at bM;have bI:=hid aq.cols;rw [aI] at bI;have aV:=hid (HD.cols.mono ClE.mono Hb);have bU:(0:Int)<=(k:Int):=by omega
       have kk:(k:Int) < (n3:Int):=by omega
       have co:(0:Int)<=(t:Int):=by omega
       have tt:(t:Int) < (n:Int):=by have:=HN.out;omega
       have cp:(0:Int)<=(p:Int):=by omega
       have pp:(p:Int) < (m2:Int):=by omega
       clear ah M hx W bh bg aC aB aA az be bd bj bi bn bm bl aq aJ aI bt br bq aH;go_wp2_with (refine wpList_store_row rfl _ _ _ rfl _ rfl rfl (VarIs.new _ _ _) rfl (by kernel_rfl) rfl ?_);intro w5 V5 A5;clear D t3 d0 d1 d2;have H5:Hid (Below wr.heap.size wr w5):=(zi.alloc lr _).trans (A5.below (by simp) (λ k hk=> by show ¬ k=_;omega));have l5:wr.heap.size < w5.heap.size:=V5.lt;clear A5;replace f0:=(H5.cell (p:=⟨b,o+t * 5,none⟩) V).trans f0;replace f1:=(H5.cell (p:=⟨b,o+t * 5+1,none⟩) V).trans f1;replace f2:=(H5.cell (p:=⟨b,o+t * 5+2,none⟩) V).trans f2;replace f3:=(H5.cell (p:=⟨b,o+t * 5+3,none⟩) V).trans f3;replace f4:=(H5.cell (p:=⟨b,o+t * 5+4,none⟩) V).trans f4;obtain ⟨D,ad,-⟩:=V5.out;have h1:=ad 1;simp only [q2a] at h1;clear ad;go_wp2_with (refine wpList_store_row rfl _ _ _ rfl _ rfl rfl (VarIs.new _ _ _) rfl (by kernel_rfl) rfl ?_);intro L V6 A6;clear D h1 f0 f1 f2 f3 f4;have H6:Hid (Below wr.heap.size wr L):=(H5.alloc (by omega) _).trans (A6.below (by simp;omega) (λ k hk=> by show ¬ k=_;omega));replace V5:=hid ((V5.alloc (.cells q0g 108)).agr A6 (by omega));clear A6;replace g0:=(H6.cell (p:=⟨bk,ok+p,none⟩) bu).trans g0;have bX:w.heap.size+1 < wr.heap.size:=K.lt;have bW:C.heap.size < wr.heap.size:=U.lt;have cD:w.heap.size+1≠C.heap.size:=by omega
       have cC:wr.heap.size≠w5.heap.size:=by omega
       have bz:=hid (K.below H6 bX);have bw:=hid (U.below H6 bW);obtain ⟨D,A,-⟩:=bz.out;have t0:=A 0;have t1:=A 1;have t2:=A 2;have t3:=A 3;have t4:=A 4;simp only [q2a] at t0 t1 t2 t3 t4;clear A;obtain ⟨ba,ag,-⟩:=bw.out;have x4:=ag 4;simp only [q2a] at x4;clear ag;obtain ⟨aZ,ad,-⟩:=V5.out;have h0:=ad 0;have T:=ad 2;simp only [q2a] at h0 T;clear ad;obtain ⟨aY,ac,-⟩:=V6.out;have u0:=ac 0;have u1:=ac 1;have u2:=ac 2;have u3:=ac 3;have u4:=ac 4;simp only [q2a] at u0 u1 u2 u3 u4;clear ac;clear D ba aZ aY;go_upto_region 13 with (fail)
       refine wp_region_segs [([0,1,2,3,4,5,7,8,9,10,11,12,13,14,15],6),([],16),([17],18)] [] [19,20,21,22] (by kernel_rfl) (by kernel_rfl) ?_;simp only [q2c,wpSegs];have bT:=cell_regrown (w:=L.drew) t0;have bS:=cell_regrown (w:=L.drew) t1;have bR:=cell_regrown (w:=L.drew) t2;have bQ:=cell_regrown (w:=L.drew) t3;have bP:=cell_regrown (w:=L.drew) t4;have cq:=cell_regrown (w:=L.drew) x4;have cz:=cell_regrown (w:=L.drew) h0;have cy:=cell_regrown (w:=L.drew) T;have cx:=cell_regrown (w:=L.drew) u0;have cw:=cell_regrown (w:=L.drew) u1;have cv:=cell_regrown (w:=L.drew) u2;have cu:=cell_regrown (w:=L.drew) u3;have ct:=cell_regrown (w:=L.drew) u4;have cA:=cell_regrown (w:=L.drew) g0;clear t0 t1 t2 t3 t4 x4 h0 T u0 u1 u2 u3 u4 g0;have F:Hid (Below (L).heap.size (L) (L).drew):=zi.drew
       repeat (quiet_step (fail))
       replace F:Hid (Below wr.heap.size wr L.drew):=H6.drew;refine wpQuiet_nil ?_;refine ⟨rfl,λ wy hby=> ?_⟩;go_simp;simp only [uponV];have O:=hid (F.trans (hby.mono (F.size)));have bB:Hid (wr.heap.size<=wy.heap.size):=O.size;refine (HC.out _ (aV.mono ClE.mono O) (ao.mono NoE.mono O)).mono ?_;rintro e w7 ⟨v7,rfl,aE,hb⟩;refine ⟨_,rfl,hb,?_⟩;obtain ⟨cm,cj,rfl,-⟩:=aE.here.shape;have b8:=hid aE;replace F:=hid (O.trans (hb.mono O.size));clear hb hby O aE;go_simp
       repeat (quiet_step (fail))
       refine wpQuiet_nil ?_;refine ⟨rfl,λ wy hby=> ?_⟩;go_simp;simp only [uponV];have O:=hid (F.trans (hby.mono F.size));have bA:Hid (wr.heap.size<=wy.heap.size):=O.size;refine (HG.out _ (bI.mono ClE.mono O) (bM.mono NoE.mono O)).mono ?_;rintro e w8 ⟨v8,rfl,aD,hb⟩;refine ⟨_,rfl,hb,?_⟩;obtain ⟨cl,ci,rfl,-⟩:=aD.here.shape;have b7:=hid aD;have au:=hid (hby.trans (hb.mono hby.size));replace F:=hid (O.trans (hb.mono O.size));clear hb hby O aD;go_simp
       repeat (quiet_step (fail))
       refine wpQuiet_nil ?_;refine ⟨rfl,λ wy hby=> ?_⟩;go_simp;refine uponV_box λ wv HV Hbv=> ⟨Hbv,?_⟩
       have af:=hid (hby.trans (Hbv.mono hby.size));clear hby;go_simp
       repeat (quiet_step (fail))
       refine wpQuiet_nil ?_;intro wz aa;replace af:=hid (af.trans (aa.mono af.size));replace HV:=hid (HV.below aa HV.lt);replace au:=hid (au.trans (af.mono au.size));replace F:=hid (F.trans (af.mono F.size));clear aa H5 H6 V5 V6 bz bw;have ap:=hid (HB.below F);have al:=hid (V0.below F V0.lt);have ak:=hid (K.below F K.lt);have aj:=hid (U.below F U.lt);have an:=hid (Hb.trans (F.mono Hb.size));have ae:=hid (le_trans Hs F.size);have aX:=hid (HA.trans (Agr.of F) (λ j J h=> .inr (le_trans HA.size h)));obtain ⟨i0,ii,ay,ax,aw⟩:=info_parts Tryz.info129';go_wp2_with (at_builtin;go_loud (refine wpList_pushG (E:=RfE) rfl _ _ 26 rfl i0 _ 64 Tryz.underlying26 ii ay ax aw rfl (by decide) (by decide) rfl ap.out (rfOf S y z) [qs _ _ _,qt q.name,qs _ _ _] _ rfl HV.out.cell rfl one_rf ?hE am.out aX.out.size (λ _ h=> h) ?_))
       case hE=> exact rf_ind cd ((b8.mono au (Y:=λ j=> j < wk.heap.size\/u.ownBlock=some j) λ j _ J=> by
        have h1:=HA.size;have T:=bB.out;rcases J with J | J
        . omega
        . have:=(HB.ge j J).2
          omega)) ((b7.mono af (Y:=λ j=> j < wk.heap.size\/u.ownBlock=some j) λ j _ J=> by
        have h1:=HA.size;have T:=bA.out;rcases J with J | J
        . omega
        . have:=(HB.ge j J).2
          omega))
       intro v' w' ab G _ _;obtain ⟨ya,yn,yc,rfl⟩:∃a n c,v'=qs a n c:=by obtain ⟨a,c,h⟩:=ab.shape;exact ⟨a,_,c,h⟩
       have aO:=hid (al.below G (by omega));have aM:=hid (ak.below G (by omega));have ai:=hid (aj.below G (by omega));have aS:=hid (an.trans (G.mono (by omega)));have aQ:=hid (le_trans ae G.size);have cg:=hid (aX.trans (Agr.of G) (λ j J h=> .inr h));clear G ap al ak aj an ae aX F;obtain ⟨q1,q2,q3⟩:=ai.out;have bb:=q2 4;simp only [q2a] at bb;clear q2;go_wp2;clear q1 bb q3;have aW:=hid (ab.other (Z:=λ k=> k < wk.heap.size) (agr_setCell w' ⟨C.heap.size,4,none⟩ (qs ya yn yc)) (λ k _ h=> by have:k=C.heap.size:=h;omega) (λ k hk h=> by have h1:=(ab.ge k hk).1;have:k=C.heap.size:=h;omega) (λ _ _ h=> h));have aN:=hid (aO.setOther (g:=C.heap.size) (by omega) 4 (qs ya yn yc));have aL:=hid (aM.setOther (g:=C.heap.size) (by omega) 4 (qs ya yn yc));have aK:=hid (ai.set 4 (by simp) (qs ya yn yc));have aR:=hid (aS.setCell (p:=⟨C.heap.size,4,none⟩) (by show _<=C.heap.size;omega) (qs ya yn yc));have aP:=hid (le_trans aQ (agr_setCell w' ⟨C.heap.size,4,none⟩ (qs ya yn yc)).size);have cf:=hid (cg.trans (agr_setCell w' ⟨C.heap.size,4,none⟩ (qs ya yn yc)) (λ j J h=> .inl h));go_roundw
       case rel=> exact ⟨k+1,_,by omega,by go_num,bl_cast aW (by rw [HT.out];simp only [List.map_take]),aK,aN,aL,aR,aP,cf⟩
       case measure=> simp [intOf];omega
     . obtain rfl:n3=k:=by omega
       obtain ⟨ua,un,uc,rfl⟩:∃a n c,u=qs a n c:=by obtain ⟨a,c,h⟩:=HB.shape;exact ⟨a,_,c,h⟩
       have bE:=hid U.cell;clear D;go_wp2_with (first | (refine wpList_load_stmt rfl _ rfl _ rfl bE.out rfl ?_) | (refine wpList_store_row rfl _ _ _ rfl _ rfl rfl V0.out rfl (by kernel_rfl) rfl ?_));intro wE VE AE;have bZ:Hid (Ind (λ j=> W0.heap.size<=j/\j < w.heap.size) wE λ w=> LsAt 1 (LlE 1 NmE) w (y.keys.map (nmsOf y.cols)) (qs va vn vc)):=by
        have h:=ce.agr (Y:=λ j=> (j=C.heap.size\/wk.heap.size<=j)\/j=w.heap.size) (Z:=λ j=> W0.heap.size<=j/\j < w.heap.size) ((HA.weak (X':=λ j=> (j=C.heap.size\/wk.heap.size<=j)\/j=w.heap.size) (λ _ h=> .inl h)).trans AE (λ j J h=> .inr h)) ?_ ?_
        . rw [<-bK.out,take_length] at h
          exact h
        . intro j J hY
          refine ⟨by omega,λ e=> ?_⟩;have:=bN.out j e;omega
        . intro j J hZ
          refine ⟨by omega,λ e=> ?_⟩;have:=bN.out j e;omega
       have b6:Hid (Ind (λ j=> W0.heap.size<=j/\j < w.heap.size) wE λ w=> LsAt 3 RfE w (y.fks.map (rfOf S y)) (qs ua un uc)):=by
        have h:=(HB.done (by rw [length_map,length_take];omega)).agr (Z:=λ j=> W0.heap.size<=j/\j < w.heap.size) AE ?_ ?_
        . rw [<-bJ.out,take_length] at h
          exact h
        . intro j J hY
          have cJ:j=w.heap.size:=hY;refine ⟨by omega,λ e=> ?_⟩;have:=(HB.ge j e).1;omega
        . intro j J hZ
          refine ⟨by omega,λ e=> ?_⟩;have:=(HB.ge j e).1;omega
       have bG:Hid (Below w.heap.size w wE):=Hb.trans (AE.below Hb.size (λ k hk=> by show ¬ k=_;omega));have bF:=hid (HW.trans (bG.mono HW.size));have cb:Hid (Ind (λ j=> W0.heap.size<=j/\j < w.heap.size) wE λ w=> SttAt w (defS S y) ⟨qs a1 n1 k1,qs va vn vc,qs ua un uc,qs a4 n4 k4,q0,q0,q0,q0,q0,q0,q0⟩):=λ w' ha=>
        ⟨⟨(Ind.of (λ w' h=> bO.cols.mono ClE.mono h) bF).sub (λ j _ h=> h.1) w' ha,bZ.out w' ha,b6.out w' ha,(Ind.of (λ w' h=> bO.checks.mono h) bF).sub (λ j _ h=> h.1) w' ha⟩,.inl ⟨rfl,none,rfl⟩,.inl ⟨rfl,none,rfl⟩,.inl ⟨rfl,none,rfl⟩,.inl ⟨rfl,none,rfl⟩,.mt,.mt,.inl ⟨rfl,none,rfl⟩⟩
       have cL:=hid VE.cell;clear t3 bE;go_wp2;refine bodyPost_ret (v:=.agg (q1a 1 tn a1 n1 k1 va vn vc ua un uc a4 n4 k4 none 0 0 none 0 0 none 0 0 none 0 0 0 ⟨#[]⟩ ⟨#[]⟩ 0 0 0 ⟨#[]⟩ none 0 0 none 0 0 none 0 0 0 ⟨#[]⟩)) ?_ rfl ?_
       . exact results_cell_var rfl _ _ rfl VE Tryz.underlying40 rfl (by kernel_rfl)
       . exact ⟨_,by rw [<-ca.out];rfl,cb,bG⟩
end
section
open Go.Sort
def ValP (s:Stt) (w:World) (e:Ending) (w':World):Prop:=∃t:Int,e=.returned (qi t)/\(t=0->StF s)/\Below w.heap.size w w'
theorem aValid_calls (s:Stt) (v:StV) (w:World) (h:SttAt w s v) (hs:SttS s) (hz:SttZ s) (hn:(allE s).length<=1000000000):Calls Tryz.prog 51 #[.agg (s.cells v).toArray] w (ValP s w):=by
 obtain ⟨a1,n1,k1,a2,n2,k2,a3,n3,k3,a4,n4,k4,a5,n5,k5,a6,n6,k6,a7,n7,W,a8,n8,V,a9,n9,U,a10,F,C,a11,D,A,rfl,h1,m1,h2,m2,h3,m3,h4,m4,h5,m5,h6,m6,h7,m7,h8,m8,h9,m9,aH,aS,aG,aR⟩:=h.shapes;have aF:=hid h1;have aE:=hid h2;have aD:=hid h3;have aC:=hid h4;have aB:=hid h5;have aA:=hid h6;have az:=hid h7;have ay:=hid h8;have ax:=hid h9;have ad:=hid aH;have ac:=hid aG;clear h1 h2 h3 h4 h5 h6 h7 h8 h9 aH aG;have aL:=hid hn;have HS:=hid hs;have HZ:=hid hz;have HD:Hid (SttAt w s ⟨qs a1 s.create.cols.length k1,qs a2 s.create.keys.length k2,qs a3 s.create.fks.length k3,qs a4 s.create.checks.length k4,qs a5 s.values.length k5,qs a6 s.sets.length k6,qs a7 s.items.length W,qs a8 s.src.length V,qs a9 s.cond.args.length U,qs a10 s.group.length C,qs a11 s.order.length A⟩):=by show SttAt _ _ _;rw [aF.out,aE.out,aD.out,aC.out,aB.out,aA.out,az.out,ay.out,ax.out,ad.out,ac.out];exact h
 clear h hs hz hn;simp only [Stt.cells,Ex.cells,cons_append,nil_append];obtain ⟨I,hl⟩:=gx s.limit
 have HL:=hid hl;obtain ⟨kd,ar⟩:=gx s.kind
 obtain ⟨tb,ap⟩:=gx s.table
 obtain ⟨wo,al⟩:=gx s.cond.op
 obtain ⟨wt,ak⟩:=gx s.cond.table
 obtain ⟨wn,am⟩:=gx s.cond.name
 obtain ⟨wi,ao⟩:=gx s.cond.index
 obtain ⟨wk,an⟩:=gx s.cond.v.kind
 obtain ⟨wv,aj⟩:=gx s.cond.v.int
 obtain ⟨wx,ai⟩:=gx s.cond.v.text
 obtain ⟨nm,aq⟩:=gx s.name
 rw [ar,ap,al,ak,am,ao,an,aj,ai,aq,hl];have HK:=hid ar;have av:=hid ap;have aw:=hid aq;have H:=hid (And.intro al (And.intro ak (And.intro am (And.intro ao (And.intro an (And.intro aj ai))))));clear ar ap al ak am ao an aj ai aq hl;have Hv:=hid (VarIs.new w (q1a kd tb a1 n1 k1 a2 n2 k2 a3 n3 k3 a4 n4 k4 a5 n5 k5 a6 n6 k6 a7 n7 W a8 n8 V wo wt wn wi wk wv wx a9 n9 U a10 F C a11 D A I nm) 40);have L:Hid (∀o,Below w.heap.size w (w.alloc o)):=λ o=> zi.alloc lr o;go_enter Tryz.func51,Tryz.ntmps51;have af:Hid (Below (w.heap.size+1) (w.alloc (.cells (q1a kd tb a1 n1 k1 a2 n2 k2 a3 n3 k3 a4 n4 k4 a5 n5 k5 a6 n6 k6 a7 n7 W a8 n8 V wo wt wn wi wk wv wx a9 n9 U a10 F C a11 D A I nm) 40)) (w.alloc (.cells (q1a kd tb a1 n1 k1 a2 n2 k2 a3 n3 k3 a4 n4 k4 a5 n5 k5 a6 n6 k6 a7 n7 W a8 n8 V wo wt wn wi wk wv wx a9 n9 U a10 F C a11 D A I nm) 40))):=hid zi;have ab:Hid (SttAt (w.alloc (.cells (q1a kd tb a1 n1 k1 a2 n2 k2 a3 n3 k3 a4 n4 k4 a5 n5 k5 a6 n6 k6 a7 n7 W a8 n8 V wo wt wn wi wk wv wx a9 n9 U a10 F C a11 D A I nm) 40)) s ⟨qs a1 n1 k1,qs a2 n2 k2,qs a3 n3 k3,qs a4 n4 k4,qs a5 n5 k5,qs a6 n6 k6,qs a7 n7 W,qs a8 n8 V,qs a9 n9 U,qs a10 F C,qs a11 D A⟩):=by have:=HD.mono (L.out (.cells (q1a kd tb a1 n1 k1 a2 n2 k2 a3 n3 k3 a4 n4 k4 a5 n5 k5 a6 n6 k6 a7 n7 W a8 n8 V wo wt wn wi wk wv wx a9 n9 U a10 F C a11 D A I nm) 40));rw [aF.out,aE.out,aD.out,aC.out,aB.out,aA.out,az.out,ay.out,ax.out,ad.out,ac.out] at this;exact this
 have aM:Hid (∀w',SttAt w' s ⟨qs a1 n1 k1,qs a2 n2 k2,qs a3 n3 k3,qs a4 n4 k4,qs a5 n5 k5,qs a6 n6 k6,qs a7 n7 W,qs a8 n8 V,qs a9 n9 U,qs a10 F C,qs a11 D A⟩->Calls Tryz.prog 76 #[.agg (q1a kd tb a1 n1 k1 a2 n2 k2 a3 n3 k3 a4 n4 k4 a5 n5 k5 a6 n6 k6 a7 n7 W a8 n8 V wo wt wn wi wk wv wx a9 n9 U a10 F C a11 D A I nm)] w' (AllP s w')):=λ w' h=> by have:=aAll_calls s _ w' h aL;simp only [Stt.cells,Ex.cells,cons_append,nil_append,HK.out,av.out,aw.out,HL.out,H.1,H.2.1,H.2.2.1,H.2.2.2.1,H.2.2.2.2.1,H.2.2.2.2.2.1,H.2.2.2.2.2.2] at this;exact this
 have J:=hid (Hv.below af (lt_succ_self _)).cell;go_wp2_with (refine wpList_load_stmt rfl _ rfl _ rfl J.out rfl ?_);refine (aM.out _ ab).mono ?_;rintro e wl ⟨v,rfl,hv,T⟩;obtain ⟨va,nE,vc,rfl,ah,-⟩:=hv.shape;have aK:=hid ah.symm;have ag:=hid hv;have aQ:nE<=1000000000:=ah ▸ aL.out;have K:=hid (af.trans (T.mono (by have:=af.size;simp at this ⊢)));clear hv T ah J ab aM af;go_wp2;go_loopw [4,5] (λ v z wr=> ∃(k:Nat) (x:Int),k<=nE/\z=qi k/\v=qi x/\Hid (Below wl.heap.size wl wr)) (λ _ z _=> nE - (intOf z).toNat)
 case atStart=> exact ⟨0,_,zero_le _,rfl,rfl,zi⟩
 case round=>
  obtain ⟨k,x,hk,rfl,rfl,G⟩:=hrel;by_cases hx4:400 < x
  . have aN:¬ x<=400:=by omega
    by_cases hlt:k < nE
    . go_wp2
      go_ret;exact ⟨3,rfl,(λ h=> absurd h (by decide)),((L.out _).trans ((K.trans (G.mono (by have:=K.size;simp at this;omega))).mono (le_succ _)))⟩
    . go_wp2
      go_ret;exact ⟨3,rfl,(λ h=> absurd h (by decide)),((L.out _).trans ((K.trans (G.mono (by have:=K.size;simp at this;omega))).mono (le_succ _)))⟩
  have aN:x<=400:=by omega
  by_cases hlt:k < nE
  . have O:k < (allE s).length:=by rw [aK.out];exact hlt
    obtain ⟨b,o,rfl⟩:=ag.addr O;obtain ⟨s',M,d0,d1,d2,d3,d4,d5,d6,d7⟩:=(ag.mono (show Below wl.heap.size wl wr from G)).cell k O;obtain ⟨sa,sn,sc,rfl,-,-⟩:=M.shape;generalize (allE s)[k]=E' at *;have au:=hid (aUpTo_calls _ E' lr 400 sa sn sc _ M);clear M O;go_wp2_with fail;refine au.mono ?_;rintro e w3 ⟨t,rfl,T⟩;have aa:=hid (G.trans (T.mono G.size));clear T d0 d1 d2 d3 d4 d5 d6 d7;go_wp2;go_roundw
    case rel=> exact ⟨k+1,_,by omega,by go_num,rfl,aa⟩
    case measure=> simp [intOf];omega
  . obtain rfl:nE=k:=by omega
    go_wp2;go_loopw [6] (λ z wr=> ∃k:Nat,k<=nE/\z=qi k/\Hid (Below wl.heap.size wl wr)) (λ z _=> nE - (intOf z).toNat)
    case atStart=> exact ⟨0,zero_le _,rfl,G⟩
    case round=>
     clear G;obtain ⟨k,hk,rfl,G⟩:=hrel;by_cases hlt:k < nE
     . have O:k < (allE s).length:=by rw [aK.out];exact hlt
       obtain ⟨b,o,rfl⟩:=ag.addr O;obtain ⟨s',M,d0,d1,d2,d3,d4,d5,d6,d7⟩:=(ag.mono (show Below wl.heap.size wl wr from G)).cell k O;obtain ⟨sa,sn,sc,rfl,-,-⟩:=M.shape;generalize (allE s)[k]=E' at *;have au:=hid (aDepth_calls _ E' lr sa sn sc _ M);clear M O;go_wp2_with fail;refine au.mono ?_;rintro e w3 ⟨t,rfl,T⟩;have aa:=hid (G.trans (T.mono G.size));clear T d0 d1 d2 d3 d4 d5 d6 d7;by_cases h50:50 < t
       . go_wp2
         go_ret;exact ⟨3,rfl,(λ h=> absurd h (by decide)),((L.out _).trans ((K.trans (aa.mono (by have:=K.size;simp at this;omega))).mono (le_succ _)))⟩
       . go_wp2
         go_roundw
         case rel=> exact ⟨k+1,by omega,by go_num,aa⟩
         case measure=> simp [intOf];omega
     . obtain rfl:nE=k:=by omega
       have Hb:=hid (K.trans (G.mono (by have:=K.size;simp at this;omega)));clear G;have ab:Hid (SttAt wr s ⟨qs a1 n1 k1,qs a2 n2 k2,qs a3 n3 k3,qs a4 n4 k4,qs a5 n5 k5,qs a6 n6 k6,qs a7 n7 W,qs a8 n8 V,qs a9 n9 U,qs a10 F C,qs a11 D A⟩):=by have:=HD.mono ((L.out _).trans (Hb.mono (le_succ _)));rw [aF.out,aE.out,aD.out,aC.out,aB.out,aA.out,az.out,ay.out,ax.out,ad.out,ac.out] at this;exact this
       have aO:Hid (∀w',SttAt w' s ⟨qs a1 n1 k1,qs a2 n2 k2,qs a3 n3 k3,qs a4 n4 k4,qs a5 n5 k5,qs a6 n6 k6,qs a7 n7 W,qs a8 n8 V,qs a9 n9 U,qs a10 F C,qs a11 D A⟩->Calls Tryz.prog 81 #[.agg (q1a kd tb a1 n1 k1 a2 n2 k2 a3 n3 k3 a4 n4 k4 a5 n5 k5 a6 n6 k6 a7 n7 W a8 n8 V wo wt wn wi wk wv wx a9 n9 U a10 F C a11 D A I nm)] w' (BoolP (StF s) w')):=λ w' h=> by have:=aFormS_calls s _ w' h HS;simp only [Stt.cells,Ex.cells,cons_append,nil_append,HK.out,av.out,aw.out,HL.out,H.1,H.2.1,H.2.2.1,H.2.2.2.1,H.2.2.2.2.1,H.2.2.2.2.2.1,H.2.2.2.2.2.2] at this;exact this
       have aP:Hid (∀w',StF s->SttAt w' s ⟨qs a1 n1 k1,qs a2 n2 k2,qs a3 n3 k3,qs a4 n4 k4,qs a5 n5 k5,qs a6 n6 k6,qs a7 n7 W,qs a8 n8 V,qs a9 n9 U,qs a10 F C,qs a11 D A⟩->Calls Tryz.prog 82 #[.agg (q1a kd tb a1 n1 k1 a2 n2 k2 a3 n3 k3 a4 n4 k4 a5 n5 k5 a6 n6 k6 a7 n7 W a8 n8 V wo wt wn wi wk wv wx a9 n9 U a10 F C a11 D A I nm)] w' (SizeS 6000000000000000 w')):=λ w' hf h=> by have:=aBody_calls s _ w' h hf HS HZ;simp only [Stt.cells,Ex.cells,cons_append,nil_append,HK.out,av.out,aw.out,HL.out,H.1,H.2.1,H.2.2.1,H.2.2.2.1,H.2.2.2.2.1,H.2.2.2.2.2.1,H.2.2.2.2.2.2] at this;exact this
       have J:=hid (Hv.below Hb (lt_succ_self _)).cell;go_wp2_with (refine wpList_load_stmt rfl _ rfl _ rfl J.out rfl ?_);refine (aO.out _ ab).mono ?_;rintro e w4 ⟨q,rfl,hq,T⟩;have Hq:=hid hq;have aJ:=hid (ab.mono T);have ae:=hid (Hb.trans (T.mono (by have:=Hb.size;simp at this;omega)));clear hq T J ab;cases q with
       | false=>
        go_wp2;go_ret;exact ⟨1,rfl,(λ h=> absurd h (by decide)),(L.out _).trans (ae.mono (le_succ _))⟩
       | true=>
        have J:=hid (Hv.below ae (lt_succ_self _)).cell;go_wp2_with (refine wpList_load_stmt rfl _ rfl _ rfl J.out rfl ?_);refine (aP.out _ (Hq.out (by simp)) aJ).mono ?_;rintro e w5 ⟨x,rfl,hx,T⟩;have aI:=hid (ae.trans (T.mono (by have:=ae.size;simp at this;omega)));have aT:x.size<=6000000000000000:=hx;clear hx T J;by_cases h6:16384 < x.size
        . go_wp2
          go_ret;exact ⟨3,rfl,(λ h=> absurd h (by decide)),(L.out _).trans (aI.mono (le_succ _))⟩
        . go_wp2
          go_ret;exact ⟨0,rfl,(λ _=> Hq.out (by simp)),(L.out _).trans (aI.mono (le_succ _))⟩
end
def keyC (es:List Xp) (x y:Rw):Int:=cmpR (keyV es x) (keyV es y)
theorem keyC_ord3 (es:List Xp):Ord3 (cc (keyC es)):=
 ⟨λ x y=> by unfold cc keyC;have:=cmpR_swap (keyV es x.r) (keyV es y.r);omega,λ x y z h1 h2=> cmpR_le h1 h2⟩
def oGc:Array Oper:=((Tryz.f33.body).bind λ c=> opsOf c 1).getD #[]
theorem Tryz.size46:(Tryz.prog.info? 46).map (·.size)=some 26:=by kernel_rfl
theorem exec_load_row {P:Program} {o:Oper} {a:Act} {w:World} (ty:TypeId) (x:Operand) (ho:o.op=.load ty x)
 (g:Nat) (hx:a.eval x=.pointer (some ⟨g,0,none⟩)) (t:TypeId) (cs:Array Value) (fr:Nat×Nat) (d:TypeDesc) (hg:w.heap[g]? =some (.cells cs t fr))
 (hu:P.underlying ty=some d) (hd:(match d with | .struct _ | .array _ _=> true | _=> false)=true) (hi:(P.info? ty).map (·.size)=some cs.size):
 (execOp a.eval o).run P w=.ok (.value (.agg cs)) w:=by
 unfold execOp;simp only [ho,hx,Instr.loadAt,Instr.sureAddr,Sem.run_bind,Sem.run_pure,Result.andThen_ok,run_loadVar_row w g t ty cs fr d hg hu hd hi]
structure GcE (W:World) (KX KY:Rw) (c:Int) (L:Nat->Bool) (g:Nat->Value) (w:World):Prop where
 below:Below W.heap.size W w
 x:L 2=true->ValsAt w KX (g 8)
 y:L 5=true->ValsAt w KY (g 11)
 z:L 6=true->g 12=qi c
 r:L 7=true->g 5=qi c
theorem rGc {Q:Exit->Act->World->Prop} {a:Act} {w:World} (A:Array Value) (hA:A.size=26) (bb:Nat) (sx sy:Value) (KX KY:Rw) (hsz:a.tmps.size=13) (h0:a.eval (.tmp 0)=sx) (h1:a.eval (.tmp 1)=sy) (h2:a.eval (.tmp 2)=.pointer (some ⟨bb,0,none⟩))
 (hbb:w.heap[bb]? =some (.cells A 46 (0,0)))
 (HX:∀w',Below w.heap.size w w'->Calls Tryz.prog 35 #[.agg A,sx] w' λ e w''=> ∃v,e=.returned v/\ValsAt w'' KX v/\Below w'.heap.size w' w'')
 (HY:∀w',Below w.heap.size w w'->Calls Tryz.prog 35 #[.agg A,sy] w' λ e w''=> ∃v,e=.returned v/\ValsAt w'' KY v/\Below w'.heap.size w' w'')
 (ops:Array Oper) (hops:ops=oGc) (hQ:∀a1 I,FrameLike a a1 [6,7,8,9,10,11,12,5]->a1.eval (.tmp 5)=qi (cmpR KX KY)->Below w.heap.size w I->Q .normal a1 I):(Code.region 1 ops true).wp Tryz.prog Q a w:=by
 subst hops;have V:oGc.size=8:=by kernel_rfl
 have ae:bb < w.heap.size:=(Array.getElem?_eq_some_iff.1 hbb).1;have hE:Looks (GcE w KX KY (cmpR KX KY)) [2,5,6,7] [8,11,12,5]:=by intro L L' g g' I H hg h;exact ⟨h.below,λ e=> by rw [<-hg 8 (by decide)];exact h.x (by rw [H 2 (by decide)];exact e),λ e=> by rw [<-hg 11 (by decide)];exact h.y (by rw [H 5 (by decide)];exact e),λ e=> by rw [<-hg 12 (by decide)];exact h.z (by rw [H 6 (by decide)];exact e),λ e=> by rw [<-hg 5 (by decide)];exact h.r (by rw [H 7 (by decide)];exact e)⟩
 have M:(([(0,6,.agg A),(1,7,sx),(3,9,.agg A),(4,10,sy)]:List (Nat×Nat×Value)).map (·.1)).Nodup:=by show List.Nodup [0,1,3,4];decide
 have K:(([(0,6,.agg A),(1,7,sx),(3,9,.agg A),(4,10,sy)]:List (Nat×Nat×Value)).map (·.2.1)).Nodup:=by show List.Nodup [6,7,9,10];decide
 refine wp_region_vals (ops':=oGc) [6,7,8,9,10,11,12,5] [(0,6,.agg A),(1,7,sx),(3,9,.agg A),(4,10,sy)] (GcE w KX KY (cmpR KX KY)) rfl (by kernel_rfl) (by kernel_rfl) ⟨Below.drew zi,λ h=> (by cases h),λ h=> (by cases h),λ h=> (by cases h),λ h=> (by cases h)⟩ ?_ ?_
 . intro J o L a1 I ho H q D
   have af:J < 8:=by have:=(Array.getElem?_eq_some_iff.1 ho).1;omega
   have G:a1.tmps.size=13:=D.frame.size.trans hsz;have O:I.heap[bb]? =some (.cells A 46 (0,0)):=(D.eff.below.block bb ae).trans hbb;rcases (by omega:J=0\/J=1\/J=2\/J=3\/J=4\/J=5\/J=6\/J=7) with rfl | rfl | rfl | rfl | rfl | rfl | rfl | rfl
   . have hl:oGc[0]? =some ⟨some 6,Op.load _ (Operand.tmp 2),_,_,_,none⟩:=rfl
     obtain rfl:=Option.some.inj (ho.symm.trans hl);have x2:=D.old 2 (.pointer (some ⟨bb,0,none⟩)) (by decide) h2;exact D.read hE 0 6 (.agg A) ho rfl rfl q (by decide) (by rw [hsz];decide) (by decide) (by decide) (vals_at M K 0 rfl) (exec_load_row 46 (.tmp 2) rfl bb (by simpa [Act.eval] using x2) 46 A (0,0) _ O Tryz.underlying46 rfl (by rw [hA];exact Tryz.size46))
   . have hl:oGc[1]? =some ⟨some 7,Op.move (Operand.tmp 0),_,_,_,none⟩:=rfl
     obtain rfl:=Option.some.inj (ho.symm.trans hl);have x0:=D.old 0 sx (by decide) h0;exact D.read hE 1 7 sx ho rfl rfl q (by decide) (by rw [hsz];decide) (by decide) (by decide) (vals_at M K 1 rfl) (by simp [go_sem,execOp,Act.eval,x0])
   . have hl:oGc[2]? =some ⟨some 8,Op.call ⟨Callee.value (Operand.func _),#[Operand.tmp 6,Operand.tmp 7],_⟩,_,_,_,none⟩:=rfl
     obtain rfl:=Option.some.inj (ho.symm.trans hl);have x6:=D.val 0 6 (.agg A) (mem_of_getElem? (i:=0) rfl) (dep_of ho q (by kernel_rfl:waitsB oGc 2 0=true));have x7:=D.val 1 7 sx (mem_of_getElem? (i:=1) rfl) (dep_of ho q (by kernel_rfl:waitsB oGc 2 1=true));have C:=D.eff;have e2:L 2=false:=H;have e5:L 5=false:=D.no H (by kernel_rfl:waitsB oGc 5 2=true);have T:L 6=false:=D.no H (by kernel_rfl:waitsB oGc 6 2=true);have e7:L 7=false:=D.no T (by kernel_rfl:waitsB oGc 7 6=true);refine inv_call ho rfl (f:=35) (by simp [go_sem,Act.eval,x6,x7]) (HX I C.below) ?_;rintro e w2 ⟨v2,rfl,U,F⟩;refine ⟨_,rfl,D.put 2 8 _ ho q (by decide) (by intro t ht;exact vals_ne2 rfl rfl (by decide:2 ∉ [0,1,3,4]) (by decide:8 ∉ [6,7,9,10]) ht) ?_⟩;exact ⟨C.below.trans (F.mono C.below.size),λ _=> by rw [eval_put_same (by rw [G];decide:8 < a1.tmps.size)];exact U,λ h=> by simp [e5] at h,λ h=> by simp [T] at h,λ h=> by simp [e7] at h⟩
   . have hl:oGc[3]? =some ⟨some 9,Op.load _ (Operand.tmp 2),_,_,_,none⟩:=rfl
     obtain rfl:=Option.some.inj (ho.symm.trans hl);have x2:=D.old 2 (.pointer (some ⟨bb,0,none⟩)) (by decide) h2;exact D.read hE 3 9 (.agg A) ho rfl rfl q (by decide) (by rw [hsz];decide) (by decide) (by decide) (vals_at M K 2 rfl) (exec_load_row 46 (.tmp 2) rfl bb (by simpa [Act.eval] using x2) 46 A (0,0) _ O Tryz.underlying46 rfl (by rw [hA];exact Tryz.size46))
   . have hl:oGc[4]? =some ⟨some 10,Op.move (Operand.tmp 1),_,_,_,none⟩:=rfl
     obtain rfl:=Option.some.inj (ho.symm.trans hl);have x1:=D.old 1 sy (by decide) h1;exact D.read hE 4 10 sy ho rfl rfl q (by decide) (by rw [hsz];decide) (by decide) (by decide) (vals_at M K 3 rfl) (by simp [go_sem,execOp,Act.eval,x1])
   . have hl:oGc[5]? =some ⟨some 11,Op.call ⟨Callee.value (Operand.func _),#[Operand.tmp 9,Operand.tmp 10],_⟩,_,_,_,none⟩:=rfl
     obtain rfl:=Option.some.inj (ho.symm.trans hl);have x9:=D.val 3 9 (.agg A) (mem_of_getElem? (i:=2) rfl) (dep_of ho q (by kernel_rfl:waitsB oGc 5 3=true));have ad:=D.val 4 10 sy (mem_of_getElem? (i:=3) rfl) (dep_of ho q (by kernel_rfl:waitsB oGc 5 4=true));have C:=D.eff;have e2:L 2=true:=dep_of ho q (by kernel_rfl:waitsB oGc 5 2=true);have e5:L 5=false:=H;have T:L 6=false:=D.no H (by kernel_rfl:waitsB oGc 6 5=true);have e7:L 7=false:=D.no T (by kernel_rfl:waitsB oGc 7 6=true);refine inv_call ho rfl (f:=35) (by simp [go_sem,Act.eval,x9,ad]) (HY I C.below) ?_;rintro e w2 ⟨v2,rfl,U,F⟩;refine ⟨_,rfl,D.put 5 11 _ ho q (by decide) (by intro t ht;exact vals_ne2 rfl rfl (by decide:5 ∉ [0,1,3,4]) (by decide:11 ∉ [6,7,9,10]) ht) ?_⟩;exact ⟨C.below.trans (F.mono C.below.size),λ _=> by rw [eval_put_ne (by decide:11≠8)];exact (C.x e2).mono F,λ _=> by rw [eval_put_same (by rw [G];decide:11 < a1.tmps.size)];exact U,λ h=> by simp [T] at h,λ h=> by simp [e7] at h⟩
   . have hl:oGc[6]? =some ⟨some 12,Op.call ⟨Callee.value (Operand.func _),#[Operand.tmp 8,Operand.tmp 11],_⟩,_,_,_,none⟩:=rfl
     obtain rfl:=Option.some.inj (ho.symm.trans hl);have C:=D.eff;have e2:L 2=true:=dep_of ho q (by kernel_rfl:waitsB oGc 6 2=true);have e5:L 5=true:=dep_of ho q (by kernel_rfl:waitsB oGc 6 5=true);have e7:L 7=false:=D.no H (by kernel_rfl:waitsB oGc 7 6=true);obtain ⟨vx,aa⟩:=gx (a1.eval (.tmp 8))
     obtain ⟨vy,W⟩:=gx (a1.eval (.tmp 11))
     have x8:=eval_spell aa;have ac:=eval_spell W;have q1:=C.x e2;have q2:=C.y e5;rw [aa] at q1;rw [W] at q2;refine inv_call ho rfl (f:=34) (by simp [go_sem,Act.eval,x8,ac]) (compareRows_calls KX KY vx vy I q1 q2) ?_;rintro e w2 ⟨rfl,F⟩;refine ⟨_,rfl,D.put 6 12 _ ho q (by decide) (by intro t ht;exact vals_ne2 rfl rfl (by decide:6 ∉ [0,1,3,4]) (by decide:12 ∉ [6,7,9,10]) ht) ?_⟩;exact ⟨C.below.trans (F.mono C.below.size),λ _=> by rw [eval_put_ne (by decide:12≠8)];exact (C.x e2).mono F,λ _=> by rw [eval_put_ne (by decide:12≠11)];exact (C.y e5).mono F,λ _=> eval_put_same (by rw [G];decide:12 < a1.tmps.size),λ h=> by simp [e7] at h⟩
   . have hl:oGc[7]? =some ⟨some 5,Op.assign (Operand.tmp 12),_,_,_,none⟩:=rfl
     obtain rfl:=Option.some.inj (ho.symm.trans hl);have C:=D.eff;have T:L 6=true:=dep_of ho q (by kernel_rfl:waitsB oGc 7 6=true);have hz:a1.eval (.tmp 12)=qi (cmpR KX KY):=C.z T;have ab:=eval_spell hz;refine inv_value (w':=I) ho rfl (v:=qi (cmpR KX KY)) (by simp [go_sem,execOp,Act.eval,ab]) ?_;refine D.put 7 5 _ ho q (by decide) (by intro t ht;exact vals_ne2 rfl rfl (by decide:7 ∉ [0,1,3,4]) (by decide:5 ∉ [6,7,9,10]) ht) ?_;exact ⟨C.below,λ h=> by rw [eval_put_ne (by decide:5≠8)];exact C.x (by simpa using h),λ h=> by rw [eval_put_ne (by decide:5≠11)];exact C.y (by simpa using h),λ _=> by rw [eval_put_ne (by decide:5≠12)];exact C.z T,λ _=> eval_put_same (by rw [G];decide:5 < a1.tmps.size)⟩
 . intro L a1 I H D
   exact hQ a1 I D.frame (D.eff.r (H 7 (by rw [V];decide))) D.eff.below
theorem groups1_calls (bd:Bd) (es:List Xp) (X Y:Rw) (sx sy:Value) (bb:Nat) (w:World) (hx:ValsAt w X sx) (hy:ValsAt w Y sy) (he:XpsAt w es (qs bd.group.a bd.group.n bd.group.c)) (hb:w.heap[bb]? =some (.cells bd.arr 46 (0,0))) (hfx:KeyFit es X.length) (hfy:KeyFit es Y.length) (hl:es.length < 1099511627776):
 Calls Tryz.prog 33 #[sx,sy,.pointer (some ⟨bb,0,none⟩)] w λ e w'=> e=.returned (qi (keyC es X Y))/\Below w.heap.size w w':=by
 have I:Hid (∀w',Below w.heap.size w w'->Calls Tryz.prog 35 #[.agg bd.arr,sx] w' (λ e o=> ∃v,e=.returned v/\ValsAt o (keyV es X) v/\Below w'.heap.size w' o)):=by refine hid λ w' h=> ?_;refine (key_calls bd es X _ w' (he.mono h) (hx.mono h) hfx hl).mono ?_;rintro e o ⟨v,h1,D,C⟩;exact ⟨v,h1,D.vals,C⟩
 have H:Hid (∀w',Below w.heap.size w w'->Calls Tryz.prog 35 #[.agg bd.arr,sy] w' (λ e o=> ∃v,e=.returned v/\ValsAt o (keyV es Y) v/\Below w'.heap.size w' o)):=by refine hid λ w' h=> ?_;refine (key_calls bd es Y _ w' (he.mono h) (hy.mono h) hfy hl).mono ?_;rintro e o ⟨v,h1,D,C⟩;exact ⟨v,h1,D.vals,C⟩
 have J:=hid hb;have K:=hid (show bd.arr.size=26 from rfl);clear hx hy he hfx hfy hl hb;generalize bd.arr=A at *;go_enter Tryz.func33,Tryz.ntmps33;go_upto_region 1 with (fail)
 refine rGc A K bb sx sy (keyV es X) (keyV es Y) rfl rfl rfl rfl J I H _ (by kernel_rfl) ?_;intro a1 F hf G q;go_step;go_step;go_step;exact bodyPost_ret (v:=qi (keyC es X Y)) ((results_tmp Tryz.results33 _ _ _).trans (congrArg (λ v=> Result.ok v F) G)) hf.defers ⟨rfl,q⟩
end
end Go.Proofs.YtcomoomndgbckaaGreat
