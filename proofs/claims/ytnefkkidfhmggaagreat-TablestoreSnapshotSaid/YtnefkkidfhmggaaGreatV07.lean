/- Part 7 of the proof: Su, Sa, Sb, Sw, Rf, Rg2, Rh2, Ri2, Ea, Cp, Cs -/
import Derived.Test.YtnefkkidfhmggaaGreatV06
import Derived.Test.YtnefkkidfhmggaaGreatV02
import Derived.Test.YtnefkkidfhmggaaGreatV01
import Derived.OwnWalkIn
import Derived.TacticsInMore
import Derived.LoopIn
import Derived.LoopNIn
import Derived.Test.YtnefkkidfhmggaaGreatV05
import Derived.Test.YtnefkkidfhmggaaGreatV03
set_option maxHeartbeats 16000000
set_option maxRecDepth 100000
namespace Go.Proofs.YtnefkkidfhmggaaGreat
open Go Go.RowKit
noncomputable section
def putOk (cols:Nat) (id:Int) (r:Rw):Bool:=decide (1<=id/\id<=4611686018427387904) && storB cols r
def errV (q:Bool):Value:=.int .i64 (if q then 0 else 1)
def putLL (cols:Nat) (id:Int) (r:Rw) (L:LL):LL:=if putOk cols id r then putL' id r L else L
def putN (cols:Nat) (id:Int) (r:Rw) (next:Int):Int:=if putOk cols id r then max next (id+1) else next
def putK (id:Int) (r:Rw) (cs:List Int) (km:MM):MM:=putM km (.str (ixKey id r cs)) (.int id)
theorem storB_ok {cols:Nat} {r:Rw} (hi:∀v∈r,I64 v.int) (h:storB cols r=true):RowOk cols r:=by
 unfold storB at h;simp only [Bool.and_eq_true,decide_eq_true_eq,List.all_eq_true] at h;exact ⟨h.1,λ v hv=> ⟨h.2 v hv,hi v hv⟩⟩
theorem Sto.Ok.put {s:Sto} {cols:Nat} {I:List (List Int)} {L:LL} {next:Int} (h:s.Ok cols I L next) {A B:List Re} {id:Int} {va:Va} {r:Rw} (he:s.es=A++B) (hA:∀a∈A,a.id < id) (hB:∀b∈B,id < b.id) (h1:1<=id) (h2:id<=4611686018427387904) (hr:RowOk cols r)
 {ys:List Ix} (hu:UpTo (putK id r) s.ixs ys) (hy:∀y∈ys,AscM y.km) (h':Nat):
 ({ s with h:=h',es:=A++⟨id,va,r⟩::B,ixs:=ys,next:=max next (id+1) }:Sto).Ok cols I (putL' id r L) (max next (id+1)):=by
 have hL:L=reL A++reL B:=by rw [<-h.rows,he,reL_append]
 have hn:∀x∈L,x.1≠id:=by
  intro x hx;rw [hL] at hx;rcases List.mem_append.1 hx with hx | hx
  · have:=reL_lt hA x hx;omega
  · have:=reL_gt hB x hx;omega
 have hid:I64 id:=by unfold I64;omega
 refine ⟨(upTo_cs hu).trans h.eixs,h.ecols,rfl,?_,asc_putL h.asc _ _,?_,λ x hx=> ?_,λ y hy'=> ?_⟩
 · rw [hL,putL_split (reL_lt hA) (reL_gt hB)]
   exact reL_append A _
 · have:=h.nx;omega
 · rcases mem_putL.1 hx with rfl | ⟨h3, -⟩
   · exact ⟨h1,by dsimp only;omega,hr⟩
   · obtain ⟨p1,p2,p3⟩:=h.row x h3
     exact ⟨p1,by omega,p3⟩
 · obtain ⟨x,hx,h3⟩:=upTo_mem hu hy'
   obtain ⟨p1,p2,p3,p4,p5⟩:=h.ixs x hx;refine ⟨by rw [h3.cs];exact p1,by rw [h3.cs];exact p2,by rw [h3.cs];exact p3,?_,hy y hy'⟩;rw [h3.cs,h3.km];exact p4.put h.asc p5 h.i64 hid r hn
theorem St.setB {w0 w:World} {fp0:List Nat} {R:List Asn} {b:Nat} {t:TypeId} {c:Array Value} (h:St w0 fp0 (blkA b t c::R) w) (i:Nat) (_hi:i < c.size) (v:Value):St w0 fp0 (blkA b t (c.setIfInBounds i v)::R) (w.setCell ⟨b,i,none⟩ v):=by
 obtain ⟨f,h1,h2⟩:=h.get 0 rfl;obtain ⟨h3,h4⟩:=blk_set h1 i v;exact h2 _ _ _ h3 h4
theorem ixAsc {w0 w:World} {fp0:List Nat} {R R1:List Asn} {ys:List Ix} (h:St w0 fp0 (R1++(ys.map ixA++R)) w):∀y∈ys,AscM y.km:=by
 intro y hy;obtain ⟨A2,B2,rfl⟩:=List.append_of_mem hy;have h3:St w0 fp0 (ixA y::(R1++(A2.map ixA++(B2.map ixA++R)))) w:=by
  refine h.perm ?_
  classical exact List.perm_iff_count.2 λ a=> by simp only [List.map_append,List.map_cons,List.count_append,List.count_cons];omega
 exact obj_asc ((St.star.1 h3).perm (List.Perm.swap _ _ _))
def PutP (S cols:Nat) (I:List (List Int)) (L:LL) (next:Int) (es:List Re) (w0:World) (fp0:List Nat) (R:List Asn) (w:World):Prop:=∃(s':Sto) (M:List Asn),s'.Ok cols I L next/\(∀x∈es,x∈s'.es\/reA x∈M)/\St w0 fp0 (stoL S s'++(M++R)) w
theorem SPutS_calls (S cols:Nat) (I:List (List Int)) (L:LL) (next id:Int) (r:Rw) (v:Value) (hid:I64 id) (hri:∀v∈r,I64 v.int) (hc:cols<=1000000) (hlen:L.length < 1099511627775) (w0 w:World) (fp0:List Nat) (R:List Asn) (hv:Rd w0 fp0 R λ w=> ValsAt w r v) (s0:Sto) (hok0:s0.Ok cols I L next) (hS:St w0 fp0 (stoL S s0++R) w):
 Calls Tryz.prog 20 #[ptrV S, .int .i64 id,v] w λ e w'=> e=.returned (errV (putOk cols id r))/\PutP S cols I (putLL cols id r L) (putN cols id r next) s0.es w0 fp0 R w':=by
 have hvw:=hv.at hS;obtain ⟨va,vn,vc,rfl, -⟩:=hvw.shape;have hcell:w.cell? ⟨S,0,none⟩=some (.int .i64 cols):=by obtain ⟨_,hb⟩:=hS.has 0 rfl;have c0:=(blk_get hb).1 0;rw [<-hok0.ecols];exact c0
 have HST:=Lib.hid (storable_calls S cols r _ w hcell hvw);have HS:=Lib.hid hS;have HNO:Hid (∀w',St w0 fp0 (stoL S s0++R) w'->PutP S cols I L next s0.es w0 fp0 R w'):=λ w' h=> ⟨s0,[],hok0,λ x hx=> .inl hx,h⟩
 unfold putLL putN;obtain ⟨q,hq⟩:∃q,putOk cols id r=q:=⟨_,rfl⟩
 have HQ:Hid ((decide (1<=id/\id<=4611686018427387904) && storB cols r)=q):=hq;rw [hq];by_cases h1:id < 1
 · have hqf:q=false:=by rw [<-HQ.out,decide_eq_false (by omega)];rfl
   subst hqf;clear hv hS hok0 hvw hq HST hcell HQ;unfold ptrV;go_enter Tryz.func20,Tryz.ntmps20;go_wp2;go_ret;exact ⟨rfl,HNO.out _ HS.out⟩
 · by_cases h2:id > 4611686018427387904
   · have hqf:q=false:=by rw [<-HQ.out,decide_eq_false (by omega)];rfl
     subst hqf;clear hv hS hok0 hvw hq HST hcell HQ;unfold ptrV;go_enter Tryz.func20,Tryz.ntmps20;go_wp2;go_ret;exact ⟨rfl,HNO.out _ HS.out⟩
   · have hd:decide (1<=id/\id<=4611686018427387904)=true:=decide_eq_true (by omega)
     rw [hd,Bool.true_and] at HQ;rw [HQ.out] at HST;cases q
     · clear hv hS hok0 hvw hq hcell hd
       unfold ptrV at *;go_enter Tryz.func20,Tryz.ntmps20;go_wp2_with fail;(with_reducible refine HST.out.mono ?_);rintro e w1 ⟨rfl,hb⟩;have H1:=Lib.hid (HS.out.mono hb);clear HST HS hb;go_wp2;go_ret;exact ⟨rfl,HNO.out _ H1.out⟩
     · have hro:=storB_ok hri HQ.out
       have HRO:=Lib.hid hro;have HHV:=Lib.hid hv;have HH1:Hid (1<=id):=by show _<=_;omega
       have HH2:Hid (id<=4611686018427387904):=by show _<=_;omega
       have HID:=Lib.hid hid;have HDEL0:Hid (∀w',St w0 fp0 (stoL S s0++R) w'->Calls Tryz.prog 21 #[ptrV S, .int .i64 id] w' λ e w''=> (∃v,e=.returned v)/\∃(s:Sto) (A1:Asn),s.Ok cols I (delL id L) next/\(∀x∈s0.es,x∈s.es\/reA x=A1)/\St w0 fp0 (stoL S s++(A1::R)) w''):=λ w' h=>
        (SDeleteS_calls S cols I L next id hid hc hlen w0 w' fp0 R s0 hok0 h).mono λ e w'' ⟨u,e1,s,h1,h2,h3⟩=> ⟨⟨_,e1⟩,s,_,h1,h2,h3.perm List.perm_middle.symm⟩
       have HLEN:Hid ((delL id L).length < 1099511627775):=Nat.lt_of_le_of_lt (delL_len _ _) hlen;have HND:Hid (∀x∈delL id L,x.1≠id):=λ x hx=> (mem_delL.1 hx).2;have HPD:Hid (putL' id r (delL id L)=putL' id r L):=putL_delL _ _ _;have HC1:=Lib.hid hc;clear hv hS hok0 hvw hq hcell hd hro hlen hri hc hid h1 h2;have h1:¬ id < 1:=by have:=HH1.out;omega
       have h2:¬ 4611686018427387904 < id:=by have:=HH2.out;omega
       unfold ptrV at *;go_enter Tryz.func20,Tryz.ntmps20;go_wp2_with fail;(with_reducible refine HST.out.mono ?_);rintro e w1 ⟨rfl,hb⟩;have H1:=Lib.hid (HDEL0.out w1 (HS.out.mono hb));clear HST HS hb;go_wp2_with fail;(with_reducible refine H1.out.mono ?_);rintro e w2 ⟨⟨u,rfl⟩,s,A1,hok,hkeep,h3⟩;have hv1:=HHV.out.cons A1;obtain ⟨R1,hR1⟩:∃R1,A1::R=R1:=⟨_,rfl⟩
       rw [hR1] at h3 hv1;have hrw:=hv1.at h3;have HKEEP:Hid (∀(s':Sto) (w':World),s'.Ok cols I (putL' id r L) (max next (id+1))->(∀x∈s.es,x∈s'.es)->St w0 fp0 (stoL S s'++R1) w'->PutP S cols I (putL' id r L) (max next (id+1)) s0.es w0 fp0 R w'):=λ s' w' h1 h2 h4=> ⟨s',[A1],h1,λ x hx=> (hkeep x hx).imp (h2 x) (λ h=> by rw [h];exact List.mem_singleton_self _),by rw [<-hR1] at h4;exact h4⟩
       clear hkeep hv1;have hrl:r.length<=1000000:=by rw [HRO.out.1];exact HC1.out
       have HCL:=Lib.hid (cloneW (flat r) r.length _ w2 hrw.1 (one_flat _) (by omega));have H3:=Lib.hid h3;clear H1 h3 hrw hrl;go_wp2_with fail;(with_reducible refine HCL.out.mono ?_);rintro e w3 ⟨v',f',rfl,h4,h5,h6⟩;have h7:=St.add H3.out h5 h4 h6;have hs:St w0 fp0 (stoL S s++(R1++[rowA 29 3 v' r.length (flat r)])) w3:=by rw [<-List.append_assoc];exact h7
       have hes:(reM s.es).length=(delL id L).length:=by rw [<-hok.rows];simp [reM,reL]
       have hasc:=reL_asc (es:=s.es) (by rw [hok.rows];exact hok.asc);obtain ⟨A,B,he,hA,hB⟩:∃A B,s.es=A++B/\(∀a∈A,a.id < id)/\∀b∈B,id < b.id:=by
        rcases split_id (λ e:Re=> e.id) s.es hasc id with ⟨A,e,B,he,he2,hA,hB⟩ | ⟨A,B,he,hA,hB⟩
        · exfalso
          refine HND.out (e.id,e.r) ?_ he2;rw [<-hok.rows,he,reL_append,reL_cons];simp
        · exact ⟨A,B,he,hA,hB⟩
       obtain ⟨ra,rc,rfl, -⟩:=row_shape h4;have hP:=Put_calls (β:=false) (o:=16) (by omega) (by omega) s.h (reM s.es) s.tb (.int id) (.sl ra r.length rc) trivial (okR s.es) w0 w3 fp0 _ (by rw [hes];exact HLEN.out) (show St w0 fp0 (objA false 16 s.h (reM s.es) s.tb::blkA S 119 #[.int .i64 s.cols,ptrV s.tb, .int .i64 s.next,s.iv]::rowA 97 2 s.iv s.ixs.length (ixV s.ixs)::(s.es.map reA++s.ixs.map ixA)++(R1++[rowA 29 3 (.slice ra r.length rc) r.length (flat r)])) w3 from hs.perm (List.Perm.swap _ _ _));have hpM:putM (reM s.es) (.int id) (.sl ra r.length rc)=reM (A++⟨id, .sl ra r.length rc,r⟩::B):=by rw [he,reM_append,reM_append,reM_cons,putM_new (reM_lt hA) (reM_gt hB)]
       rw [hpM] at hP;generalize encV ((getM (reM s.es) (.int id)).getD (va0 false))=uu at hP;generalize (getM (reM s.es) (.int id)).isSome=ub at hP;obtain ⟨_,hb⟩:=hs.has 0 rfl;have c1:=(blk_get hb).1 1;have hbl:=(blk_get hb).2.2;simp only [List.getElem?_toArray,List.getElem?_cons_zero,List.getElem?_cons_succ] at c1;have HKEY:Hid (∀(x:Ix),x∈s.ixs->∀(w:World),ValsAt w r (.slice ra r.length rc)->IntsX [] w x.cs x.cv->Calls Tryz.prog 65 #[.slice ra r.length rc,x.cv] w λ e' w'=> e'=.returned (.string (textOf (keyL r x.cs)))/\Below w.heap.size w w'):=
        λ x hx w h1 h2=> key_calls r x.cs _ _ HRO.out.s (by have:=(hok.ixs x hx).2.1;omega) w h1 h2
       have HPUT:Hid (∀(x:Ix),x∈s.ixs->∀(L':List Asn) (w:World),St w0 fp0 (objA true 16 x.kh x.km x.kb::L') w->Calls Tryz.prog 64 #[.pointer (some ⟨x.kb,0,none⟩), .string (textOf (keyL r x.cs)++textOf (numL id)), .int .i64 id] w λ e' w2=> (∃v,e'=.returned v)/\St w0 fp0 (exA (λ h'=> objA true 16 h' (putK id r x.cs x.km) x.kb)::L') w2):=by intro x hx L' w h;have hk:=(hok.ixs x hx).2.2.2.1;have h1:=Put_calls (β:=true) (o:=16) (by omega) (by omega) x.kh x.km x.kb (.str (ixKey id r x.cs)) (.int id) trivial (okK hk) w0 w fp0 L' (by rw [hk.len];exact HLEN.out) h;rw [textOf_append];exact h1.mono λ e' w2 ⟨h2,h',h3⟩=> ⟨⟨_,h2⟩,h3.exI h'⟩
       have HKL:Hid (∀x∈s.ixs,(textOf (keyL r x.cs)).size < 1000000000000):=λ x hx=> by rw [text_size];have h1:(keyL r x.cs).length<=x.cs.length * 2097161:=keyL_len HRO.out.s x.cs;have h2:=(hok.ixs x hx).2.1;have:x.cs.length * 2097161<=1000 * 2097161:=Nat.mul_le_mul_right _ h2;omega
       have HVAL:Hid (∀(w:World) (f:List Nat),(reA ⟨id, .sl ra r.length rc,r⟩).p w f->ValsAt w r (.slice ra r.length rc)):=λ w f hf=> ⟨row_sl hf (length_flat _),λ v hv=> by have:=(HRO.out.s v hv).2;unfold maxLen;omega⟩
       have HFIN:Hid (∀ys h' w',UpTo (putK id r) s.ixs ys->St w0 fp0 (stoH S { s with h:=h',es:=A++⟨id, .sl ra r.length rc,r⟩::B,next:=max next (id+1) } s.ixs.length (ixV s.ixs) ys []++R1) w'->PutP S cols I (putL' id r L) (max next (id+1)) s0.es w0 fp0 R w'):=by
        intro ys h' w' hu h;have hv:=upTo_V hu;have h2:St w0 fp0 (stoL S { s with h:=h',es:=A++⟨id, .sl ra r.length rc,r⟩::B,ixs:=ys,next:=max next (id+1) }++R1) w':=by unfold stoL;rw [hv.1,hv.2];simp only [stoH,List.map_nil,List.append_nil] at h;exact h
        have hya:∀y∈ys,AscM y.km:=ixAsc (w0:=w0) (fp0:=fp0) (R:=R1) (w:=w') (R1:=[blkA S 119 #[.int .i64 s.cols,ptrV s.tb, .int .i64 (max next (id+1)),s.iv],objA false 16 h' (reM (A++⟨id, .sl ra r.length rc,r⟩::B)) s.tb,rowA 97 2 s.iv ys.length (ixV ys)]++(A++⟨id, .sl ra r.length rc,r⟩::B).map reA) (h2.perm (by classical exact List.perm_iff_count.2 λ a=> by simp only [stoL,List.map_append,List.map_cons,List.cons_append,List.nil_append,List.count_append,List.count_cons];omega));have h3:=hok.put (va:=.sl ra r.length rc) he hA hB HH1.out HH2.out HRO.out hu hya h';rw [HPD.out] at h3;refine HKEEP.out _ w' h3 (λ x hx=> ?_) h2;rw [he] at hx;rcases List.mem_append.1 hx with hx | hx
        · exact List.mem_append_left _ hx
        · exact List.mem_append_right _ (List.mem_cons_of_mem _ hx)
       have HH0:Hid (∀h' w',St w0 fp0 (objA false 16 h' (reM (A++⟨id, .sl ra r.length rc,r⟩::B)) s.tb::blkA S 119 #[.int .i64 s.cols,ptrV s.tb, .int .i64 s.next,s.iv]::rowA 97 2 s.iv s.ixs.length (ixV s.ixs)::(s.es.map reA++s.ixs.map ixA)++(R1++[rowA 29 3 (.slice ra r.length rc) r.length (flat r)])) w'->St w0 fp0 (stoH S { s with h:=h',es:=A++⟨id, .sl ra r.length rc,r⟩::B } s.ixs.length (ixV s.ixs) [] (s.ixs.drop 0)++R1) w'):=by
        intro h' w' h;refine h.perm ?_;rw [he]
        classical exact List.perm_iff_count.2 λ a=> by simp only [stoH,reA,encV,List.map_append,List.map_cons,List.map_nil,List.cons_append,List.count_append,List.count_cons,List.count_nil,List.drop_zero];omega
       have HNX:Hid (s.next=next):=hok.enext;have hnb:=hok.nx;obtain ⟨sc,snx,sh,stb,siv,ses,sixs⟩:=s;simp only at *;obtain ⟨new,hnew⟩:∃new,(⟨id, .sl ra r.length rc,r⟩:Re)=new:=⟨_,rfl⟩
       rw [hnew] at HVAL HFIN HH0 hP;clear hnew;have HP:=Lib.hid hP;obtain ⟨n,hn⟩:∃n,sixs.length=n:=⟨_,rfl⟩
       have HN:=Lib.hid hn;obtain ⟨V,hV⟩:∃V,ixV sixs=V:=⟨_,rfl⟩
       have HV:=Lib.hid hV;rw [hn,hV] at HFIN HH0;have hnx':snx=next:=HNX.out
       subst hnx';clear hs hb hP hok hpM hasc he hA hB hn hV hes h4 h5 h6 h7 H3 HDEL0 HNX HCL;dsimp only [fPut,encK,encV] at HP;unfold ptrV at *;go_wp2_with fail;(with_reducible refine HP.out.mono ?_);rintro e w4 ⟨rfl,h',h1'⟩;have H1:Hid (∃ys,UpTo (putK id r) (sixs.take 0) ys/\St w0 fp0 (stoH S ⟨sc,snx,h',stb,siv,A++new::B,sixs⟩ n V ys (sixs.drop 0)++R1) w4):=by
        refine ⟨[],?_,HH0.out _ _ ?_⟩
        · rw [List.take_zero];exact .nil
        · rw [HN.out,HV.out] at h1'
          exact h1'
       obtain ⟨_,hb⟩:=h1'.has 1 rfl;have c3:=(blk_get hb).1 3;have hbl:=(blk_get hb).2.2;simp only [List.getElem?_toArray,List.getElem?_cons_zero,List.getElem?_cons_succ] at c3;obtain ⟨_,hr⟩:=h1'.has 2 rfl;obtain ⟨ia,ic,rfl,hic,hicm, -⟩:=row_shape hr;rw [HN.out] at hic c3 H1 HFIN;have hn63:n<=9223372036854775807:=by unfold maxLen at hicm;omega
       clear h1' hb hr c1 hic hicm HP HH0;go_wp2;go_loopg [38] n (λ g z wr=> ∃k:Nat,z=.int .i64 k/\g+k=n/\Hid (∃ys,UpTo (putK id r) (sixs.take k) ys/\St w0 fp0 (stoH S ⟨sc,snx,h',stb, .slice ia n ic,A++new::B,sixs⟩ n V ys (sixs.drop k)++R1) wr))
       case atStart=> exact ⟨0,rfl,by omega,H1⟩
       case round=>
        clear H1;obtain ⟨k,rfl,hgk,Hs⟩:=hrel;by_cases hk:k < n
        · obtain ⟨ys,hu,hst⟩:=Hs.out
          have hkl:k < sixs.length:=by rw [HN.out];exact hk
          have hdr:sixs.drop k=sixs[k]::sixs.drop (k+1):=List.drop_eq_getElem_cons hkl;have htk:sixs.take (k+1)=sixs.take k++[sixs[k]]:=by rw [List.take_add_one,List.getElem?_eq_getElem hkl];rfl
          rw [hdr] at hst;have hop:=stoH_open hst;obtain ⟨_,hr⟩:=hop.has 4 rfl;have hrow:=row_sl hr (by rw [<-HV.out,ixV_len,HN.out]);rw [<-HV.out,<-HN.out] at hrow;obtain ⟨ib,io,ic',e4,q1,q2⟩:=ix_cells hrow k hkl;obtain ⟨rfl, -,rfl⟩:=Value.slice.inj e4;have HKEY2:=Lib.hid (HKEY.out sixs[k] (List.getElem_mem hkl));have HDEL2:=Lib.hid (HPUT.out sixs[k] (List.getElem_mem hkl));have HKL2:=Lib.hid (HKL.out sixs[k] (List.getElem_mem hkl));generalize sixs[k]=x at *;obtain ⟨xcv,xcs,xkb,xkh,xkm⟩:=x;obtain ⟨_,hsl⟩:=hop.has 1 rfl;obtain ⟨xa,xn,xc,hxv⟩:=sl_shape hsl;simp only at q1 q2 hsl hxv HKEY2 HDEL2 HKL2 hop;subst hxv;have HOP:=Lib.hid hop;have HU:=Lib.hid hu;have HTK:=Lib.hid htk;have Hgk:=Lib.hid hgk;have hql:=World.block_lt_of_cell? wr _ q1;have hkn:(k:Int) < n:=by omega
          unfold ptrV at q2;clear hu hst hkl hdr htk hop hr hrow e4 hsl hgk Hs;go_upto_region 9 with (fail)
          refine rSp9 (w0:=w0) (fp0:=fp0) wr.heap.size xkb (.slice xa xn xc) (.slice ra r.length rc) (textOf (keyL r xcs)) id (objA true 16 xkh xkm xkb) (exA λ h'=> objA true 16 h' (putK id r xcs xkm) xkb) (slA 3 (.slice xa xn xc) (xcs.map intC)::(stoH S ⟨sc,snx,h',stb, .slice (some ⟨ib,io,none⟩) n ic,A++new::B,sixs⟩ n V ys (sixs.drop (k+1))++R1)) ?_ HID.out HKL2.out HDEL2.out rfl (by kernel_rfl) rfl rfl rfl rfl rfl ?_ ?_
          · intro L' w' h
            obtain ⟨f1,h1⟩:=h.hasM (A:=slA 3 (.slice xa xn xc) (xcs.map intC)) (by simp);obtain ⟨f2,h2⟩:=h.hasM (A:=reA new) (by simp [stoH]);exact HKEY2.out w' (HVAL.out w' f2 h2) (intsX_of h1)
          · exact (HOP.out.newblk 97 #[.slice xa xn xc, .pointer (some ⟨xkb,0,none⟩)]).perm (List.Perm.swap _ _ _)
          · intro u52 w5 h
            have H2:Hid (∃ys,UpTo (putK id r) (sixs.take (k+1)) ys/\St w0 fp0 (stoH S ⟨sc,snx,h',stb, .slice (some ⟨ib,io,none⟩) n ic,A++new::B,sixs⟩ n V ys (sixs.drop (k+1))++R1) w5):=by obtain ⟨h2,h3⟩:=St.exE (show St w0 fp0 (exA (λ h'=> objA true 16 h' (putK id r xcs xkm) xkb)::blkA wr.heap.size 97 #[.slice xa xn xc, .pointer (some ⟨xkb,0,none⟩)]::(slA 3 (.slice xa xn xc) (xcs.map intC)::(stoH S ⟨sc,snx,h',stb, .slice (some ⟨ib,io,none⟩) n ic,A++new::B,sixs⟩ n V ys (sixs.drop (k+1))++R1))) w5 from h);have h4:=(h3.perm (List.Perm.swap _ _ _)).drop;refine ⟨ys++[⟨.slice xa xn xc,xcs,xkb,h2,putK id r xcs xkm⟩],?_,stoH_shut (y:=⟨.slice xa xn xc,xcs,xkb,h2,putK id r xcs xkm⟩) h4⟩;rw [HTK.out];exact upTo_snoc HU.out ⟨rfl,rfl,rfl,rfl⟩
            clear h;simp only [putL,List.foldl,Act.put,List.setIfInBounds_toArray,List.set_cons_succ,List.set_cons_zero];go_wp2;go_roundg (gk - 1)
            case rel=> exact ⟨k+1,by go_num,by have:=Hgk.out;omega,H2⟩
            case measure=> have:=Hgk.out;omega
        · obtain rfl:k=n:=by omega
          obtain ⟨ys,hu,hst⟩:=Hs.out;rw [List.drop_of_length_le (by rw [HN.out];exact Nat.le_refl _)] at hst;rw [List.take_of_length_le (by rw [HN.out];exact Nat.le_refl _)] at hu;obtain ⟨_,hb⟩:=hst.has 0 rfl;have d2:=(blk_get hb).1 2;have d3:=(blk_get hb).2.1 2;have hbl2:=(blk_get hb).2.2;simp only [List.getElem?_toArray,List.getElem?_cons_zero,List.getElem?_cons_succ] at d2;have HF:Hid (PutP S cols I (putL' id r L) (max snx (id+1)) s0.es w0 fp0 R (wr.setCell ⟨S,2,none⟩ (.int .i64 (max snx (id+1))))):=
           HFIN.out ys h' _ hu (hst.setB 2 (by simp) (.int .i64 (max snx (id+1))))
          have hw:IntKind.i64.wrap (id+1)=id+1:=IntWalk.i64_in _ (by have:=HH1.out;have:=HH2.out;omega);clear hgk hk Hs hst hu hb;go_wp2
          all_goals go_ret
          all_goals
           refine ⟨rfl,?_⟩;have h:=HF.out
           first
            | (rw [show Value.int .i64 (max snx (id+1))=.int .i64 (id+1) by rw [show max snx (id+1)=id+1 by omega]] at h;exact h)
            | (rw [show Value.int .i64 (max snx (id+1))=.int .i64 snx by rw [show max snx (id+1)=snx by omega]] at h;exact h)
theorem SPut_calls (S cols:Nat) (I:List (List Int)) (L:LL) (next id:Int) (r:Rw) (v:Value) (hid:I64 id) (hri:∀v∈r,I64 v.int) (hc:cols<=1000000) (hlen:L.length < 1099511627775) (w0 w:World) (fp0:List Nat) (R:List Asn) (hv:Rd w0 fp0 R λ w=> ValsAt w r v) (hS:St w0 fp0 (storeA S cols I L next::R) w):
 Calls Tryz.prog 20 #[ptrV S, .int .i64 id,v] w λ e w'=> e=.returned (errV (putOk cols id r))/\St w0 fp0 (storeA S cols I (putLL cols id r L) (putN cols id r next)::R) w':=by
 obtain ⟨s,hok,hs⟩:=hS.openS;refine (SPutS_calls S cols I L next id r v hid hri hc hlen w0 w fp0 R hv s hok hs).mono ?_;rintro e w' ⟨rfl,s',M,h1, -,h2⟩;exact ⟨rfl,St.shutS h1 (St.dropAll (A:=M) (B:=stoL S s'++R) (h2.perm (by classical refine List.perm_iff_count.2 λ a=> ?_;simp only [List.count_append];omega)))⟩
theorem appIX:AppSrc Tryz.prog 117 117 97 2:=appSrc (z:=.agg #[.slice none 0 0, .pointer none]) (bytes:=32) (by kernel_rfl) (by kernel_rfl) rfl (by decide) (by decide)
theorem boxs_src {P:Program} {w:World} {tx e e':TypeId} {s:Value} {size:Nat} {f:List Nat} {cs:Array Value} (hk:P.underlying tx=some (.slice e')) (h:(boxsA e s cs).p w f) (hn:cs.size=size) (h1:∀u∈cs.toList,u.oneCell'=true):Go.Src P size tx (.slice (some ⟨pb s,0,none⟩) 1 1) 1 cs.toList w:=by
 obtain ⟨vb,rfl,h2,_⟩:=h;exact Go.Src.ofSlice w hk _ 1 1 _ (by simp [hn]) (λ j u hj=> by show w.cell? ((⟨vb,0,none⟩:Addr).add j)=_;rw [add_plain,Nat.zero_add,cell_of_row w vb j cs e (0,0) h2];simpa using hj) h1
theorem clamp16:clampO 16=16:=by decide
def gSa4 (vb S tb n cols:Nat) (next:Int) (iv cv:Value) (V:List Value) (cs:List Value):=rgx Tryz.prog Tryz.f71 4 40 [27,28,29,30,31,32,33,34,35,36,37,38,39] [(1,cv),(2,pV vb 0)] (Vq 0 27 [Kp S 0,Kp S 0,Kp S 0,Kp S 3,Kv iv,Kv cv,Vf.slice,Vf.ptr,Fv [33,34] λ g=> .agg #[.slice (sa (g 33)) (sn (g 33)) (sc (g 33)), .pointer (some ⟨pb (g 34),0,none⟩)],Vf.box,Vf.slice,Kp S 0,Kp S 3]) [Bk vb (34) [pV S 0], .blk S (119) [⟨.int .i64 cols,[]⟩,⟨pV tb 0,[]⟩,⟨.int .i64 next,[]⟩,⟨iv,[(13, .s 37)]⟩], .new 6 [33] λ g=> slA 3 (g 33) cs, .new 7 [34] λ g=> objA true 16 0 [] (pb (g 34)), .new 9 [36,33,34] λ g=> boxsA 97 (g 36) #[.slice (sa (g 33)) (sn (g 33)) (sc (g 33)), .pointer (some ⟨pb (g 34),0,none⟩)], .gen [10] [37,33,34] λ L g=> match L 10 with | true=> rowA 97 2 (g 37) (n+1) (V++[Value.slice (sa (g 33)) (sn (g 33)) (sc (g 33)),Value.pointer (some ⟨pb (g 34),0,none⟩)]) | false=> rowA 97 2 iv n V]
theorem rSa4 (vb S tb n cols:Nat) (next:Int) (iv cv:Value) (V:List Value) (cs:List Value) (w0:World) (fp0:List Nat) (R:List Asn) (hcl:∀(L:List Asn) (w:World),St w0 fp0 (L++R) w->Calls Tryz.prog 36 #[cv] w λ e w2=> ∃v f,e=.returned v/\(slA 3 v cs).p w2 f/\Below w.heap.size w w2/\∀k∈f,w.heap.size<=k) (hl:n+1 < 1099511627776) {w:World} {c:Code} {a:Act} {Q:Exit->Act->World->Prop} (c1:isReg c=true) (c2:cops c=opsR Tryz.f71 4) (c3:a.tmps.size=40) (_c4:a.defers=a.defers) (i1:a.eval (.tmp 1)=cv) (i2:a.eval (.tmp 2)=.pointer (some ⟨vb,0,none⟩))
 (hS:St w0 fp0 ([blkA vb (34) #[.pointer (some ⟨S,0,none⟩)],blkA S (119) #[.int .i64 cols, .pointer (some ⟨tb,0,none⟩), .int .i64 next,iv],emp,emp,emp,rowA 97 2 iv n V]++R) w)
 (hQ:∀(u33 u34 u35 u36 u37:Value) (w1:World),(∃a n c,u33=.slice a n c)->(∃b,u34=.pointer (some ⟨b,0,none⟩))->u35=.agg #[.slice (sa (u33)) (sn (u33)) (sc (u33)), .pointer (some ⟨pb (u34),0,none⟩)]->(∃b,u36=.slice (some ⟨b,0,none⟩) 1 1)->(∃a n c,u37=.slice a n c)->St w0 fp0 ([blkA vb (34) #[.pointer (some ⟨S,0,none⟩)],blkA S (119) #[.int .i64 cols, .pointer (some ⟨tb,0,none⟩), .int .i64 next,u37],slA 3 (u33) cs,objA true 16 0 [] (pb (u34)),boxsA 97 (u36) #[.slice (sa (u33)) (sn (u33)) (sc (u33)), .pointer (some ⟨pb (u34),0,none⟩)],rowA 97 2 (u37) (n+1) (V++[Value.slice (sa (u33)) (sn (u33)) (sc (u33)),Value.pointer (some ⟨pb (u34),0,none⟩)])]++R) w1->Q .normal (putL a [(27, .pointer (some ⟨S,0,none⟩)),(28, .pointer (some ⟨S,0,none⟩)),(29, .pointer (some ⟨S,0,none⟩)),(30, .pointer (some ⟨S,3,none⟩)),(31,iv),(32,cv),(33,u33),(34,u34),(35,u35),(36,u36),(37,u37),(38, .pointer (some ⟨S,0,none⟩)),(39, .pointer (some ⟨S,3,none⟩))]) w1):c.wp Tryz.prog Q a w:=by
 have ok:(gSa4 vb S tb n cols next iv cv V cs w0 fp0 R).Ok 14:=Rg.ok _ 14 [0,1,4,6,7,9,10,13] ⟨.load _ 0 0 0, .load _ 1 0 0, .load _ 4 1 3, .callG _ 6 (λ g=> [blkA vb 34 #[.pointer (some ⟨S,0,none⟩)],blkA S 119 #[.int .i64 cols, .pointer (some ⟨tb,0,none⟩), .int .i64 next,iv],emp,emp,emp,rowA 97 2 iv n V]) (λ g v=> [blkA vb 34 #[.pointer (some ⟨S,0,none⟩)],blkA S 119 #[.int .i64 cols, .pointer (some ⟨tb,0,none⟩), .int .i64 next,iv],slA 3 v cs,emp,emp,rowA 97 2 iv n V]) (λ g w h=> (hcl _ _ h).mono λ e w2 ⟨v,f,e1,h2,h3,h4⟩=> (by obtain ⟨a,n,c,rfl⟩:=sl_shape h2;exact ⟨_,e1,kr (by kernel_rfl),h.newA 2 rfl h2 h3 h4⟩)), .callG _ 7 (λ g=> [blkA vb 34 #[.pointer (some ⟨S,0,none⟩)],blkA S 119 #[.int .i64 cols, .pointer (some ⟨tb,0,none⟩), .int .i64 next,iv],slA 3 (g 33) cs,emp,emp,rowA 97 2 iv n V]) (λ g v=> [blkA vb 34 #[.pointer (some ⟨S,0,none⟩)],blkA S 119 #[.int .i64 cols, .pointer (some ⟨tb,0,none⟩), .int .i64 next,iv],slA 3 (g 33) cs,objA true 16 0 [] (pb v),emp,rowA 97 2 iv n V]) (λ g w h=> (NewT_calls (β:=true) 16 w0 w fp0 _ h).mono λ e w2 ⟨tb,e1,h2⟩=> ⟨_,e1,kr (by kernel_rfl),by rw [clamp16] at h2;exact St.emp.1 (St_re (L:=[_,_,_,_,_,_,_]) h2 [4,1,2,3,0,5,6] [] (by kernel_rfl))⟩), .boxsG _ 9 4, .appG _ 10 (λ g=> [blkA vb 34 #[.pointer (some ⟨S,0,none⟩)],blkA S 119 #[.int .i64 cols, .pointer (some ⟨tb,0,none⟩), .int .i64 next,iv],slA 3 (g 33) cs,objA true 16 0 [] (pb (g 34)),boxsA 97 (g 36) #[.slice (sa (g 33)) (sn (g 33)) (sc (g 33)), .pointer (some ⟨pb (g 34),0,none⟩)],rowA 97 2 iv n V]) (λ g v=> [blkA vb 34 #[.pointer (some ⟨S,0,none⟩)],blkA S 119 #[.int .i64 cols, .pointer (some ⟨tb,0,none⟩), .int .i64 next,iv],slA 3 (g 33) cs,objA true 16 0 [] (pb (g 34)),boxsA 97 (g 36) #[.slice (sa (g 33)) (sn (g 33)) (sc (g 33)), .pointer (some ⟨pb (g 34),0,none⟩)],rowA 97 2 v (n+1) (V++[Value.slice (sa (g 33)) (sn (g 33)) (sc (g 33)),Value.pointer (some ⟨pb (g 34),0,none⟩)])]) (λ ty g w h=> (by obtain ⟨fb,hfb⟩:=h.has 4 rfl;obtain ⟨v,w2,h1,h2⟩:=St.appSrc appIX ty (St_re (L:=[_,_,_,_,_,_]) h [5,0,1,2,3,4] [] (by kernel_rfl)) (boxs_src (tx:=117) (e':=97) (by kernel_rfl) hfb rfl (by simp;exact ⟨rfl,rfl⟩)) hl;obtain ⟨_,hr⟩:=h2.has 0 rfl;obtain ⟨a,c,rfl, -⟩:=row_shape hr;exact ⟨_,w2,h1,kr (by kernel_rfl),St_re (L:=[_,_,_,_,_,_]) h2 [1,2,3,4,5,0] [] (by kernel_rfl)⟩)), .store _ 13 1 3,trivial⟩;refine wp_regD ok (by kernel_rfl) ⟨c1,c2⟩ ⟨c3,λ p hp=> ?_⟩ hS λ A1 w1 N1 H1=> ?_
 · simp only [gSa4,rgx,List.map_nil,List.append_nil,List.mem_cons,List.not_mem_nil,or_false] at hp
   rcases hp with rfl | rfl
   · exact i1
   · exact i2
 exact N1.fin [33,34,35,36,37] (hQ (slots A1 33) (slots A1 34) (slots A1 35) (slots A1 36) (slots A1 37) w1 ⟨_,_,_,(N1.val 6 rfl)⟩ ⟨_,(N1.val 7 rfl)⟩ (N1.val 8 rfl) ⟨_,(N1.val 9 rfl)⟩ ⟨_,_,_,(N1.val 10 rfl)⟩ H1) (by kernel_rfl)
def gSn1 (tv n cc:Nat) (nm kv fv xv:Value) (ca:Option Addr):=rgx Tryz.prog Tryz.f26 1 38 [8,9,10,11,12,13,3] [(1,pV tv 0)] (Vq 0 8 [Kp tv 1,Kv (.slice ca n cc),Kv (.int .i64 n),Vf.ptr,Fv [11] λ g=> .agg #[.int .i64 n, .pointer (some ⟨pb (g 11),0,none⟩), .int .i64 1, .slice none 0 0],Vf.ptr]++Vq 6 3 [Fv [13] λ g=> .pointer (some ⟨pb (g 13),0,none⟩)]) [Bk tv (75) [nm, .slice ca n cc,kv,fv,xv], .new 3 [11] λ g=> objA false 16 0 [] (pb (g 11)), .new 5 [13,11] λ g=> atA 119 (g 13) #[.int .i64 n, .pointer (some ⟨pb (g 11),0,none⟩), .int .i64 1, .slice none 0 0]]
theorem rSn1 (tv n cc:Nat) (nm kv fv xv:Value) (ca:Option Addr) (w0:World) (fp0:List Nat) (R:List Asn)  {w:World} {c:Code} {a:Act} {Q:Exit->Act->World->Prop} (c1:isReg c=true) (c2:cops c=opsR Tryz.f26 1) (c3:a.tmps.size=38) (_c4:a.defers=a.defers) (i1:a.eval (.tmp 1)=.pointer (some ⟨tv,0,none⟩))
 (hS:St w0 fp0 ([blkA tv (75) #[nm, .slice ca n cc,kv,fv,xv],emp,emp]++R) w)
 (hQ:∀(u3 u11 u12 u13:Value) (w1:World),(∃b,u11=.pointer (some ⟨b,0,none⟩))->u12=.agg #[.int .i64 n, .pointer (some ⟨pb (u11),0,none⟩), .int .i64 1, .slice none 0 0]->(∃b,u13=.pointer (some ⟨b,0,none⟩))->u3=.pointer (some ⟨pb (u13),0,none⟩)->St w0 fp0 ([blkA tv (75) #[nm, .slice ca n cc,kv,fv,xv],objA false 16 0 [] (pb (u11)),atA 119 (u13) #[.int .i64 n, .pointer (some ⟨pb (u11),0,none⟩), .int .i64 1, .slice none 0 0]]++R) w1->Q .normal (putL a [(8, .pointer (some ⟨tv,1,none⟩)),(9, .slice ca n cc),(10, .int .i64 n),(11,u11),(12,u12),(13,u13),(3,u3)]) w1):c.wp Tryz.prog Q a w:=by
 have ok:(gSn1 tv n cc nm kv fv xv ca w0 fp0 R).Ok 7:=Rg.ok _ 7 [1,3,5] ⟨.load _ 1 0 1, .callG _ 3 (λ _=> [blkA tv 75 #[nm, .slice ca n cc,kv,fv,xv],emp,emp]) (λ g v=> [blkA tv 75 #[nm, .slice ca n cc,kv,fv,xv],objA false 16 0 [] (pb v),emp]) (λ g w h=> (NewT_calls (β:=false) 16 w0 w fp0 _ h).mono λ e w2 ⟨tb,e1,h2⟩=> ⟨_,e1,kr (by kernel_rfl),by rw [clamp16] at h2;exact St.emp.1 (St_re (L:=[_,_,_,_]) h2 [2,1,0,3] [] (by kernel_rfl))⟩), .lay _ 5 2,trivial⟩;refine wp_regD ok (by kernel_rfl) ⟨c1,c2⟩ ⟨c3,λ p hp=> ?_⟩ hS λ A1 w1 N1 H1=> ?_
 · simp only [gSn1,rgx,List.map_nil,List.append_nil,List.mem_cons,List.not_mem_nil,or_false] at hp
   subst hp
   · exact i1
 exact N1.fin [11,12,13,3] (hQ (slots A1 3) (slots A1 11) (slots A1 12) (slots A1 13) w1 ⟨_,(N1.val 3 rfl)⟩ (N1.val 4 rfl) ⟨_,(N1.val 5 rfl)⟩ (N1.val 6 rfl) H1) (by kernel_rfl)
theorem add1_calls (S cols vb:Nat) (c:Int) (w:World) (hv:w.cell? ⟨vb,0,none⟩=some (ptrV S)) (hc:w.cell? ⟨S,0,none⟩=some (.int .i64 cols)):
 Calls Tryz.prog 103 #[.int .i64 c, .pointer (some ⟨vb,0,none⟩)] w λ e w'=> e=.returned (.bool (!decide (0<=c/\c < cols)))/\Below w.heap.size w w':=by
 have HC:=Lib.hid (has_calls S cols c w hc);have hl:=World.block_lt_of_cell? w _ hv;unfold ptrV at *;generalize decide (0<=c/\c < (cols:Int))=q at *;clear hc;go_enter Tryz.func103,Tryz.ntmps103;go_wp2_with fail;(with_reducible refine HC.out.mono ?_);rintro e w1 ⟨rfl,rfl⟩;clear HC;go_wp2;go_ret;exact ⟨rfl,Below.refl _ _⟩
def addB (cols:Nat) (I:List (List Int)) (cs:List Int):Bool:=!(cs.any λ c=> !decide (0<=c/\c < (cols:Int))) && (!(I.any λ x=> decide (x=cs)) && decide (0 < cs.length))
def addI (cols:Nat) (I:List (List Int)) (cs:List Int):List (List Int):=if addB cols I cs then I++[cs] else I
theorem findIx_some (ixs:List Ix) (cs:List Int):(findIx ixs cs).isSome=(ixs.map (·.cs)).any λ x=> decide (x=cs):=by
 unfold findIx;rw [List.any_map,Bool.eq_iff_iff,List.find?_isSome,List.any_eq_true];rfl
theorem ix_ints {w:World} {f:List Nat} {S:Nat} {s:Sto} (h:Star w (stoL S s) f) {x:Ix} (hx:x∈s.ixs):IntsX [] w x.cs x.cv:=by
 obtain ⟨i,hi,rfl⟩:=List.mem_iff_getElem.1 hx;obtain ⟨g,hg, -⟩:=Star.get (s.es.length+i+3) (A:=ixA s.ixs[i]) (by show (blkA _ _ _::_::_::(s.es.map reA++s.ixs.map ixA))[s.es.length+i+3]? =_;simp only [List.getElem?_cons_succ];rw [List.getElem?_append_right (by simp),List.length_map,Nat.add_sub_cancel_left,List.getElem?_map,List.getElem?_eq_getElem hi];rfl) h;have hg':Star w [slA 3 s.ixs[i].cv (s.ixs[i].cs.map intC),objA true 16 s.ixs[i].kh s.ixs[i].km s.ixs[i].kb] g:=hg;obtain ⟨g2,hg2, -⟩:=Star.get 0 rfl hg';exact intsX_of hg2
theorem sto_row {w:World} {f:List Nat} {S:Nat} {s:Sto} (h:Star w (stoL S s) f):SlX [] w 2 s.ixs.length (ixV s.ixs) s.iv:=by
 obtain ⟨g,hg, -⟩:=Star.get 2 (A:=rowA 97 2 s.iv s.ixs.length (ixV s.ixs)) rfl h;exact row_sl hg (ixV_len _)
theorem sto_blk {w:World} {f:List Nat} {S:Nat} {s:Sto} (h:Star w (stoL S s) f):∀j,w.cell? ⟨S,j,none⟩=#[Value.int .i64 s.cols,ptrV s.tb, .int .i64 s.next,s.iv][j]? :=by
 obtain ⟨g,hg, -⟩:=Star.get 0 (A:=blkA S 119 #[.int .i64 s.cols,ptrV s.tb, .int .i64 s.next,s.iv]) rfl h;exact (blk_get hg).1
theorem SAdd_calls (S cols:Nat) (I:List (List Int)) (cs:List Int) (cv:Value) (hcl:cs.length<=1000) (hI:I.length+1 < 1099511627776) (w0 w:World) (fp0:List Nat) (R:List Asn) (hv:Rd w0 fp0 R λ w=> IntsX [] w cs cv) (hS:St w0 fp0 (storeA S cols I [] 1::R) w):
 Calls Tryz.prog 71 #[ptrV S,cv] w λ e w'=> e=.returned (.tuple #[])/\St w0 fp0 (storeA S cols (addI cols I cs) [] 1::R) w':=by
 obtain ⟨s,hok,hs⟩:=hS.openS;have hb1:Below w.heap.size w (w.alloc (.cells #[ptrV S] 34)):=(Below.refl _ _).alloc (Nat.le_refl _) _;have hs1:=(hs.newblk 34 #[ptrV S])
 obtain ⟨f1,hf1⟩:=(hs.mono hb1).star_of;have hvb:(w.alloc (.cells #[ptrV S] 34)).cell? ⟨w.heap.size,0,none⟩=some (ptrV S):=World.cell?_alloc_new _ _ _ 0;have hcell:(w.alloc (.cells #[ptrV S] 34)).cell? ⟨S,0,none⟩=some (.int .i64 cols):=by rw [sto_blk hf1 0,<-hok.ecols];rfl
 have hrd:∀w',St w0 fp0 (blkA w.heap.size 34 #[ptrV S]::(stoL S s++R)) w'->IntsX [] w' cs cv:=λ w' h=> hv.at (M:=blkA w.heap.size 34 #[ptrV S]::stoL S s) h;obtain ⟨ca,cn,cc,rfl,hcn, -⟩:=(hrd _ hs1).shape;have HC:=Lib.hid (containsI_calls cs _ 103 (.pointer (some ⟨w.heap.size,0,none⟩)) (λ c=> !decide (0<=c/\c < (cols:Int))) _ (enters_own Tryz.func103 (by kernel_rfl) rfl) (hrd _ hs1) λ i _ w' hb=> add1_calls S cols w.heap.size i w' ((hb.cell (p:=⟨w.heap.size,0,none⟩) (by simp)).trans hvb) ((hb.cell (p:=⟨S,0,none⟩) (World.block_lt_of_cell? _ _ hcell)).trans hcell));have HF:Hid (∀w',St w0 fp0 (blkA w.heap.size 34 #[ptrV S]::(stoL S s++R)) w'->Calls Tryz.prog 47 #[ptrV S, .slice ca cn cc] w' λ e w''=> e=.returned (.tuple #[findV (findIx s.ixs cs), .bool (findIx s.ixs cs).isSome])/\Below w'.heap.size w' w''):=by intro w' h;obtain ⟨f,hf⟩:=h.drop.star_of;exact sfind_calls S s.ixs s.iv cs _ w' (by rw [sto_blk hf 3];rfl) (sto_row hf) (λ x hx=> ix_ints hf hx) (hrd _ h)
 have hfi:=findIx_some s.ixs cs;rw [hok.eixs] at hfi;obtain ⟨q1,hq1⟩:∃q,(cs.any λ c=> !decide (0<=c/\c < (cols:Int)))=q:=⟨_,rfl⟩
 rw [hq1] at HC;have HQ:Hid (addI cols I cs=if (!q1 && (!(findIx s.ixs cs).isSome && decide (0 < cs.length))) then I++[cs] else I):=by show _=_;rw [addI,addB,hq1,hfi]
 have HSH:Hid (∀x,findIx s.ixs cs=some x->x∈s.ixs):=λ x hx=> List.mem_of_find?_eq_some hx;have HS1:=Lib.hid hs1;have HNO:Hid (∀w',St w0 fp0 (blkA w.heap.size 34 #[ptrV S]::(stoL S s++R)) w'->St w0 fp0 (storeA S cols I [] 1::R) w'):=λ w' h=> St.shutS hok h.drop;generalize findIx s.ixs cs=fo at *;rw [<-hcn] at HQ;have HCN:=Lib.hid hcn;have HADD:Hid (q1=false->0 < cn->∀(w':World) (xa:Option Addr) (xn xc kb b:Nat) (bx:Asn),St w0 fp0 ([blkA w.heap.size 34 #[ptrV S],blkA S 119 #[.int .i64 s.cols,ptrV s.tb, .int .i64 s.next, .slice (some ⟨b,0,none⟩) xn xc],bx]++R) w'->True):=λ _ _ _ _ _ _ _ _ _ _=> trivial;clear HADD;have hok':=hok;have HOK:=Lib.hid hok;have HCL:=Lib.hid hcl;have HIL:=Lib.hid hI;have HV:=Lib.hid hv;have HQ1:=Lib.hid hq1;have hixl:s.ixs.length=I.length:=by rw [<-hok.eixs,List.length_map]
 have HIXL:=Lib.hid hixl;clear hS hs hb1 hs1 hf1 hvb hcell hrd hv hok hok' hfi hq1 hcl hI hcn hixl;obtain ⟨scl,snx,sh,stb,siv,ses,sixs⟩:=s;simp only at *;generalize addI cols I cs=I2 at *;unfold ptrV at *;go_enter Tryz.func71,Tryz.ntmps71;go_wp2_with fail;(with_reducible refine HC.out.mono ?_);rintro e w1 ⟨rfl,hb⟩;have H1:=Lib.hid (HS1.out.mono hb);have HF1:=Lib.hid (HF.out w1 H1.out);obtain ⟨_,hbv⟩:=H1.out.has 0 rfl;have v0:=(blk_get hbv).1 0;have vl:=(blk_get hbv).2.2;simp only [List.getElem?_toArray,List.getElem?_cons_zero] at v0;clear hb HC HS1 HF hbv;generalize w.heap.size=vb at *;go_wp2_with fail;(with_reducible refine HF1.out.mono ?_);rintro e w2 ⟨rfl,hb⟩;have H2:=Lib.hid (H1.out.mono hb);obtain ⟨_,hbv⟩:=H2.out.has 0 rfl;have v0:=(blk_get hbv).1 0;have vl:=(blk_get hbv).2.2;simp only [List.getElem?_toArray,List.getElem?_cons_zero] at v0;clear hb HF1 H1 hbv;cases fo with
 | some x=>
  have HE:Hid (I2=I):=by show _=_;rw [HQ.out];simp
  obtain ⟨_,hsx⟩:∃f,IntsX [] w2 x.cs x.cv/\f=0:=by obtain ⟨f,hf⟩:=H2.out.drop.star_of;exact ⟨0,ix_ints hf (HSH.out x rfl),rfl⟩
  obtain ⟨xa,xn,xc,hxv, -⟩:=hsx.1.shape;obtain ⟨xcv,xcs,xkb,xkh,xkm⟩:=x;simp only at hxv;subst hxv;unfold findV ptrV;have HFI:Hid (∀w',Below w2.heap.size w2 w'->St w0 fp0 (storeA S cols I2 [] 1::R) w'):=λ w' hb=> by rw [HE.out];exact HNO.out w' (H2.out.mono hb)
  clear hsx HSH HNO H2;cases q1
  all_goals
   go_wp2;go_end0;exact ⟨rfl,HFI.out _ ((Below.refl _ _).alloc (Nat.le_refl _) _)⟩
 | none=>
  unfold findV;cases q1
  · by_cases h0:0 < cn
    · have h0':(0:Int) < cn:=by omega
      have H0:=Lib.hid h0;have HE:Hid (I2=I++[cs]):=by show _=_;rw [HQ.out];simp [h0]
      clear HQ h0 HNO;go_upto_region 4 with (fail)
      refine rSa4 (w0:=w0) (fp0:=fp0) vb S stb sixs.length scl snx siv (.slice ca cn cc) (ixV sixs) (cs.map intC) (objA false 16 sh (reM ses) stb::(ses.map reA++sixs.map ixA)++R) (λ L w' h=> ?_) (by have:=HIL.out;have:=HIXL.out;omega) rfl (by kernel_rfl) rfl rfl rfl rfl ?_ ?_
      · have h1:IntsX [] w' cs (.slice ca cn cc):=HV.out.at (M:=L++(objA false 16 sh (reM ses) stb::(ses.map reA++sixs.map ixA))) (by rw [List.append_assoc];exact h)
        have h2:=cloneI (cs.map intC) cs.length _ w' h1 (by intro u hu;obtain ⟨b,_,rfl⟩:=List.mem_map.1 hu;rfl) (by have:=HCL.out;omega);refine h2.mono λ e w3 ⟨v,f,e1,h3,h4,h5⟩=> ⟨v,f,e1,?_,h4,h5⟩
        rw [<-List.length_map (f:=intC)] at h3;exact h3
      · have h1:=H2.out.mono ((Below.refl _ w2).alloc (Nat.le_refl _) (.cells #[.slice none 0 0, .pointer none] 97))
        have h2:=St.emp.2 (St.emp.2 (St.emp.2 h1));refine h2.perm ?_
        classical exact List.perm_iff_count.2 λ a=> by simp only [stoL,ptrV,List.cons_append,List.nil_append,List.count_append,List.count_cons];omega
      · intro u33 u34 u35 u36 u37 w3 s33 s34 s35 s36 s37 h
        obtain ⟨xa,xn,xc,rfl⟩:=s33;obtain ⟨xb,rfl⟩:=s34;have HF:Hid (St w0 fp0 (storeA S cols I2 [] 1::R) w3):=by
         have hok:=HOK.out;have h1:St w0 fp0 (stoL S ⟨scl,snx,sh,stb,u37,ses,sixs++[⟨.slice xa xn xc,cs,xb,0,[]⟩]⟩++R) w3:=by
          have h2:St w0 fp0 ([blkA vb 34 #[.pointer (some ⟨S,0,none⟩)],boxsA 97 u36 #[.slice xa xn xc, .pointer (some ⟨xb,0,none⟩)]]++([blkA S 119 #[.int .i64 scl, .pointer (some ⟨stb,0,none⟩), .int .i64 snx,u37],slA 3 (.slice xa xn xc) (cs.map intC),objA true 16 0 [] xb,rowA 97 2 u37 (sixs.length+1) (ixV sixs++[Value.slice xa xn xc,Value.pointer (some ⟨xb,0,none⟩)])]++(objA false 16 sh (reM ses) stb::(ses.map reA++sixs.map ixA)++R))) w3:=by
           refine h.perm ?_
           classical exact List.perm_iff_count.2 λ a=> by simp only [sa,sn,sc,pb,List.cons_append,List.nil_append,List.count_append,List.count_cons];omega
          have h3:=St.dropAll h2;have h4:St w0 fp0 (ixA ⟨.slice xa xn xc,cs,xb,0,[]⟩::(blkA S 119 #[.int .i64 scl, .pointer (some ⟨stb,0,none⟩), .int .i64 snx,u37]::rowA 97 2 u37 (sixs.length+1) (ixV sixs++[Value.slice xa xn xc,Value.pointer (some ⟨xb,0,none⟩)])::(objA false 16 sh (reM ses) stb::(ses.map reA++sixs.map ixA)++R))) w3:=by
           refine St.star.2 (h3.perm ?_)
           classical exact List.perm_iff_count.2 λ a=> by simp only [List.cons_append,List.nil_append,List.count_append,List.count_cons];omega
          refine h4.perm ?_;have e1:ixV (sixs++[⟨.slice xa xn xc,cs,xb,0,[]⟩])=ixV sixs++[Value.slice xa xn xc,Value.pointer (some ⟨xb,0,none⟩)]:=by simp [ixV,ptrV]
          classical exact List.perm_iff_count.2 λ a=> by simp only [stoL,ptrV,e1,List.length_append,List.length_cons,List.length_nil,Nat.zero_add,List.map_append,List.map_cons,List.map_nil,List.cons_append,List.count_append,List.count_cons,List.count_nil];omega
         rw [HE.out];refine St.shutS (s:=⟨scl,snx,sh,stb,u37,ses,sixs++[⟨.slice xa xn xc,cs,xb,0,[]⟩]⟩) ⟨?_,hok.ecols,hok.enext,hok.rows,hok.asc,hok.nx,hok.row,λ y hy=> ?_⟩ h1
         · have:=hok.eixs
           simp only at this;simp only [List.map_append,List.map_cons,List.map_nil,this]
         · rcases List.mem_append.1 hy with hy | hy
           · exact hok.ixs y hy
           · rw [List.mem_singleton.1 hy]
             refine ⟨?_,HCL.out,?_,IxOk.nil _,List.Pairwise.nil⟩
             · intro e
               have:=H0.out;rw [HCN.out,show cs=[] from e] at this;exact absurd this (by simp)
             · have:=HQ1.out
               rw [List.any_eq_false] at this;intro c hc;simpa using this c hc
        clear h HSH H2 HV HOK;simp only [putL,List.foldl,Act.put,List.setIfInBounds_toArray,List.set_cons_succ,List.set_cons_zero];go_wp2;go_end0;exact ⟨rfl,HF.out⟩
    · have HE:Hid (I2=I):=by show _=_;rw [HQ.out];simp [h0]
      have HFI:Hid (∀w',Below w2.heap.size w2 w'->St w0 fp0 (storeA S cols I2 [] 1::R) w'):=λ w' hb=> by rw [HE.out];exact HNO.out w' (H2.out.mono hb)
      have h0':¬ (0:Int) < cn:=by omega
      clear HSH HNO H2 HQ h0;go_wp2;go_end0;exact ⟨rfl,HFI.out _ ((Below.refl _ _).alloc (Nat.le_refl _) _)⟩
  · have HE:Hid (I2=I):=by show _=_;rw [HQ.out];simp
    have HFI:Hid (∀w',Below w2.heap.size w2 w'->St w0 fp0 (storeA S cols I2 [] 1::R) w'):=λ w' hb=> by rw [HE.out];exact HNO.out w' (H2.out.mono hb)
    clear HSH HNO H2 HQ;go_wp2;go_end0;exact ⟨rfl,HFI.out _ ((Below.refl _ _).alloc (Nat.le_refl _) _)⟩
def KeysX (w:World) (vs:List Value) (ks:List (List Int)) (v:Value):Prop:=SlX [] w 1 ks.length vs v/\∀i (h:i < ks.length),∃u,vs[i]? =some u/\IntsX [] w ks[i] u
def ForsX (w:World) (vs:List Value) (ks:List (List Int)) (v:Value):Prop:=SlX [] w 3 ks.length vs v/\∀i (h:i < ks.length),∃u a b,vs[i * 3]? =some u/\vs[i * 3+1]? =some (.int .i64 a)/\vs[i * 3+2]? =some (.int .i64 b)/\IntsX [] w ks[i] u
theorem addI_len (n:Nat):∀(l:List (List Int)) (I:List (List Int)),(l.foldl (addI n) I).length<=I.length+l.length
 | [],I=> by simp
 | c::l,I=> by
  have h1:=addI_len n l (addI n I c);have h2:(addI n I c).length<=I.length+1:=by unfold addI;split <;> simp
  simp only [List.foldl_cons,List.length_cons];omega
theorem SlX.some {X:List Nat} {w:World} {size n:Nat} {xs:List Value} {v:Value} (h:SlX X w size n xs v) {j:Nat} {u:Value} (hj:xs[j]? =some u):∃b o c,v=.slice (some ⟨b,o,none⟩) n c/\w.cell? ⟨b,o+j,none⟩=some u:=by
 obtain ⟨hl,rfl⟩:=List.getElem?_eq_some_iff.1 hj;obtain ⟨_,_,a,c,rfl,h4⟩:=h;obtain ⟨b,o,rfl,_,h7⟩:=h4 j hl;exact ⟨b,o,c,rfl,h7⟩
theorem SNew_calls (nm:ByteArray) (ca xa:Option Addr) (n cc xn xc:Nat) (kv fv:Value) (K F:List (List Int)) (kvs fvs:List Value) (hK:∀c∈K,c.length<=1000) (hF:∀c∈F,c.length<=1000) (hKl:K.length<=1000000) (hFl:F.length<=1000000) (w0 w:World) (fp0:List Nat) (R:List Asn)
 (hk:Rd w0 fp0 R λ w=> KeysX w kvs K kv) (hf:Rd w0 fp0 R λ w=> ForsX w fvs F fv) (hS:St w0 fp0 R w):
 Calls Tryz.prog 26 #[.agg #[.string nm, .slice ca n cc,kv,fv, .slice xa xn xc]] w λ e w'=> ∃S,e=.returned (ptrV S)/\St w0 fp0 (storeA S n ((K++F).foldl (addI n) []) [] 1::R) w':=by
 obtain ⟨ka,kc,rfl⟩:=(hk.here hS).1.shape;obtain ⟨fa,fc,rfl⟩:=(hf.here hS).1.shape;have HS:=Lib.hid (hS.newblk 75 #[.string nm, .slice ca n cc, .slice ka K.length kc, .slice fa F.length fc, .slice xa xn xc]);have HK:=Lib.hid hk;have HF:=Lib.hid hf;have HKC:=Lib.hid hK;have HFC:=Lib.hid hF;have HKL:=Lib.hid hKl;have HFL:=Lib.hid hFl;obtain ⟨IF,hIF⟩:∃IF,(K++F).foldl (addI n) []=IF:=⟨_,rfl⟩
 have HIF:=Lib.hid hIF;rw [hIF];obtain ⟨kn,hkn⟩:∃kn,K.length=kn:=⟨_,rfl⟩
 obtain ⟨fn,hfn⟩:∃fn,F.length=fn:=⟨_,rfl⟩
 have HKN:=Lib.hid hkn;have HFN:=Lib.hid hfn;have hkn63:kn<=9223372036854775807:=by omega
 have hfn63:fn<=9223372036854775807:=by omega
 have hkn6:kn<=1000000:=by omega
 rw [hkn] at HK;rw [hfn] at HF;rw [hkn,hfn] at HS ⊢;clear hk hf hS hK hF hIF hkn hfn hKl hFl;go_enter Tryz.func26,Tryz.ntmps26;go_upto_region 1 with (fail)
 obtain ⟨tv,htv⟩:∃tv,w.heap.size=tv:=⟨_,rfl⟩
 rw [htv] at HS ⊢;clear htv;refine rSn1 (w0:=w0) (fp0:=fp0) tv n cc (.string nm) (.slice ka kn kc) (.slice fa fn fc) (.slice xa xn xc) ca R rfl (by kernel_rfl) rfl rfl rfl ?_ ?_
 · refine (St.emp.2 (St.emp.2 HS.out)).perm ?_
   classical exact List.perm_iff_count.2 λ a=> by simp only [List.cons_append,List.nil_append,List.count_cons];omega
 intro u3 u11 u12 u13 w1 s11 s12 s13 s3 h;obtain ⟨tb,rfl⟩:=s11;obtain ⟨S,rfl⟩:=s13;obtain rfl:u3=.pointer (some ⟨S,0,none⟩):=s3;have H1:Hid (St w0 fp0 (storeA S n ((K.take 0).foldl (addI n) []) [] 1::blkA tv 75 #[.string nm, .slice ca n cc, .slice ka kn kc, .slice fa fn fc, .slice xa xn xc]::R) w1):=by
  have h2:St w0 fp0 (atA 119 (.pointer (some ⟨S,0,none⟩)) #[.int .i64 n, .pointer (some ⟨tb,0,none⟩), .int .i64 1, .slice none 0 0]::objA false 16 0 [] tb::blkA tv 75 #[.string nm, .slice ca n cc, .slice ka kn kc, .slice fa fn fc, .slice xa xn xc]::R) w1:=by
   refine h.perm ?_
   classical exact List.perm_iff_count.2 λ a=> by simp only [pb,List.cons_append,List.nil_append,List.count_cons];omega
  obtain ⟨b,e,h3⟩:=St.at_open h2;injection e with e;injection e with e;injection e with e;subst e;have h4:=St.nilR 97 2 h3;have h5:St w0 fp0 (stoL S ⟨n,1,0,tb, .slice none 0 0,[],[]⟩++(blkA tv 75 #[.string nm, .slice ca n cc, .slice ka kn kc, .slice fa fn fc, .slice xa xn xc]::R)) w1:=by
   refine h4.perm ?_
   classical exact List.perm_iff_count.2 λ a=> by simp only [stoL,ptrV,reM,ixV,List.map_nil,List.flatMap_nil,List.length_nil,List.cons_append,List.nil_append,List.count_cons];omega
  refine St.shutS ⟨rfl,rfl,rfl,rfl,List.Pairwise.nil,⟨by omega,by omega⟩,λ x hx=> absurd hx (by simp),λ x hx=> absurd hx (by simp)⟩ h5
 clear h HS s12;simp only [putL,List.foldl,Act.put,List.setIfInBounds_toArray,List.set_cons_succ,List.set_cons_zero];obtain ⟨_,hb⟩:=H1.out.has 1 rfl;have c2:=(blk_get hb).1 2;have hbl:=(blk_get hb).2.2;simp only [List.getElem?_toArray,List.getElem?_cons_zero,List.getElem?_cons_succ] at c2;clear hb;go_wp2;go_loopg [17] kn (λ g z wr=> ∃k:Nat,z=.int .i64 k/\g+k=kn/\Hid (St w0 fp0 (storeA S n ((K.take k).foldl (addI n) []) [] 1::blkA tv 75 #[.string nm, .slice ca n cc, .slice ka kn kc, .slice fa fn fc, .slice xa xn xc]::R) wr))
 case atStart=> exact ⟨0,rfl,rfl,H1⟩
 case round=>
  clear H1;obtain ⟨k,rfl,hgk,Hs⟩:=hrel;by_cases hk:k < kn
  · have hkl:k < K.length:=by rw [HKN.out];exact hk
    have hrd:=HK.out.at (M:=[_,_]) Hs.out;obtain ⟨u,hu, -⟩:=hrd.2 k hkl;have hrdk:Rd w0 fp0 (blkA tv 75 #[.string nm, .slice ca n cc, .slice ka kn kc, .slice fa fn fc, .slice xa xn xc]::R) λ w=> IntsX [] w K[k] u:=(HK.out.imp λ w h=> by obtain ⟨u',hu',h'⟩:=h.2 k hkl;rw [hu] at hu';obtain rfl:=Option.some.inj hu';exact h').cons _;obtain ⟨b,o,c,e1,q1⟩:=hrd.1.some hu;obtain ⟨rfl, -,rfl⟩:=Value.slice.inj e1;have hql:=World.block_lt_of_cell? wr _ q1;have hA:=SAdd_calls S n ((K.take k).foldl (addI n) []) K[k] u (HKC.out _ (List.getElem_mem hkl)) (by have:=addI_len n (K.take k) [];rw [List.length_take,List.length_nil] at this;omega) w0 wr fp0 _ hrdk Hs.out;have hst:addI n ((K.take k).foldl (addI n) []) K[k]=(K.take (k+1)).foldl (addI n) []:=by rw [List.take_add_one,List.getElem?_eq_getElem hkl,List.foldl_append];rfl
    rw [hst] at hA;have HA:=Lib.hid hA;have Hgk:=Lib.hid hgk;have hk':(k:Int) < kn:=by omega
    unfold ptrV at HA;clear hrd hrdk hA hst hu e1 hkl hgk Hs;go_wp2_with fail;(with_reducible refine HA.out.mono ?_);rintro e w3 ⟨rfl,h3⟩;have H3:=Lib.hid h3;clear h3 HA;go_wp2;go_roundg (gk - 1)
    case rel=> exact ⟨k+1,by go_num,by have:=Hgk.out;omega,H3⟩
    case measure=> have:=Hgk.out;omega
  · obtain rfl:k=kn:=by omega
    have H1:Hid (St w0 fp0 (storeA S n ((K++F.take 0).foldl (addI n) []) [] 1::blkA tv 75 #[.string nm, .slice ca n cc, .slice ka k kc, .slice fa fn fc, .slice xa xn xc]::R) wr):=by have h:=Hs.out;rw [List.take_of_length_le (by rw [HKN.out];exact Nat.le_refl _)] at h;rw [List.take_zero,List.append_nil];exact h
    obtain ⟨_,hb⟩:=H1.out.has 1 rfl;have c3:=(blk_get hb).1 3;have hbl:=(blk_get hb).2.2;simp only [List.getElem?_toArray,List.getElem?_cons_zero,List.getElem?_cons_succ] at c3;clear hb Hs hgk hk;go_wp2;go_loopg [28] fn (λ g z wr=> ∃k2:Nat,z=.int .i64 k2/\g+k2=fn/\Hid (St w0 fp0 (storeA S n ((K++F.take k2).foldl (addI n) []) [] 1::blkA tv 75 #[.string nm, .slice ca n cc, .slice ka k kc, .slice fa fn fc, .slice xa xn xc]::R) wr))
    case atStart=> exact ⟨0,rfl,rfl,H1⟩
    case round=>
     clear H1;obtain ⟨k2,rfl,hgk,Hs⟩:=hrel;by_cases hk:k2 < fn
     · have hkl:k2 < F.length:=by rw [HFN.out];exact hk
       have hrd:=HF.out.at (M:=[_,_]) Hs.out;obtain ⟨u,ua,ub,hu,hua,hub, -⟩:=hrd.2 k2 hkl;have hrdk:Rd w0 fp0 (blkA tv 75 #[.string nm, .slice ca n cc, .slice ka k kc, .slice fa fn fc, .slice xa xn xc]::R) λ w=> IntsX [] w F[k2] u:=(HF.out.imp λ w h=> by obtain ⟨u',_,_,hu',_,_,h'⟩:=h.2 k2 hkl;rw [hu] at hu';obtain rfl:=Option.some.inj hu';exact h').cons _;obtain ⟨b,o,c,e1,q1⟩:=hrd.1.some hu;obtain ⟨_,_,_,e2,q2⟩:=hrd.1.some hua;obtain ⟨_,_,_,e3,q3⟩:=hrd.1.some hub;obtain ⟨rfl, -,rfl⟩:=Value.slice.inj e1;obtain ⟨e2, -, -⟩:=Value.slice.inj e2;obtain ⟨e3, -, -⟩:=Value.slice.inj e3;injection e2 with e2;injection e2 with e2 e2';injection e3 with e3;injection e3 with e3 e3';subst e2 e2' e3 e3';rw [<-Nat.add_assoc] at q2 q3;obtain ⟨ua',un',uc',rfl, -⟩:=(hrdk.at (M:=[_]) Hs.out).shape;have hql:=World.block_lt_of_cell? wr _ q1;have hA:=λ w' hb=> SAdd_calls S n ((K++F.take k2).foldl (addI n) []) F[k2] (.slice ua' un' uc') (HFC.out _ (List.getElem_mem hkl)) (by have:=addI_len n (K++F.take k2) [];rw [List.length_append,List.length_take,List.length_nil,HKN.out] at this;have:=HFN.out;have:=HKL.out;have:=HFL.out;have:=HKN.out;omega) w0 w' fp0 _ hrdk (Hs.out.mono hb);have hst:addI n ((K++F.take k2).foldl (addI n) []) F[k2]=(K++F.take (k2+1)).foldl (addI n) []:=by rw [List.take_add_one,List.getElem?_eq_getElem hkl,<-List.append_assoc,List.foldl_append (l:=K++F.take k2)];rfl
       rw [hst] at hA;have HA:=Lib.hid hA;have Hgk:=Lib.hid hgk;have hk':(k2:Int) < fn:=by omega
       unfold ptrV at HA;clear hrd hrdk hA hst hu hua hub e1 hkl hgk Hs;go_wp2_with fail;(with_reducible refine (HA.out _ ((Below.refl _ _).alloc (Nat.le_refl _) _)).mono ?_);rintro e w3 ⟨rfl,h3⟩;have H3:=Lib.hid h3;clear h3 HA;go_wp2;go_roundg (gk - 1)
       case rel=> exact ⟨k2+1,by go_num,by have:=Hgk.out;omega,H3⟩
       case measure=> have:=Hgk.out;omega
     · obtain rfl:k2=fn:=by omega
       have HR:Hid (St w0 fp0 (storeA S n IF [] 1::R) wr):=by have h:=Hs.out;rw [List.take_of_length_le (by rw [HFN.out];exact Nat.le_refl _),HIF.out] at h;exact (h.perm (List.Perm.swap _ _ _)).drop
       clear Hs hgk hk;go_wp2;go_ret;exact ⟨_,rfl,HR.out⟩
def insV (cols:Nat) (r:Rw) (next:Int):Int:=if putOk cols next r then next else 0
theorem SInsert_calls (S cols:Nat) (I:List (List Int)) (L:LL) (next:Int) (r:Rw) (v:Value) (hri:∀v∈r,I64 v.int) (hc:cols<=1000000) (hlen:L.length < 1099511627775) (w0 w:World) (fp0:List Nat) (R:List Asn) (hv:Rd w0 fp0 R λ w=> ValsAt w r v) (hS:St w0 fp0 (storeA S cols I L next::R) w):
 Calls Tryz.prog 23 #[ptrV S,v] w λ e w'=> e=.returned (.int .i64 (insV cols r next))/\St w0 fp0 (storeA S cols I (putLL cols next r L) (putN cols next r next)::R) w':=by
 obtain ⟨s,hok,hs⟩:=hS.openS;have hnx:=hok.nx;obtain ⟨f,hf⟩:=hs.star_of;have c2:=sto_blk hf 2;rw [show (#[Value.int .i64 s.cols,ptrV s.tb, .int .i64 s.next,s.iv]:Array Value)[2]? =some (.int .i64 s.next) from rfl,hok.enext] at c2;have hl:=World.block_lt_of_cell? w _ c2;have HP:=Lib.hid (SPut_calls S cols I L next next r v (by unfold I64;omega) hri hc hlen w0 w fp0 R hv hS);unfold insV;obtain ⟨va,vn,vc,rfl, -⟩:=(hv.at (M:=[_]) hS).shape;obtain ⟨q,hq⟩:∃q,putOk cols next r=q:=⟨_,rfl⟩
 rw [hq] at HP ⊢;unfold errV at HP;generalize putLL cols next r L=L2 at *
 generalize putN cols next r next=n2 at *
 clear hS hs hf hok hv hri hlen hc hq;unfold ptrV at *;cases q
 all_goals
  go_enter Tryz.func23,Tryz.ntmps23;go_wp2_with fail;(with_reducible refine HP.out.mono ?_);rintro e w1 ⟨rfl,h1⟩;have H1:=Lib.hid h1;clear h1 HP;go_wp2;go_ret;exact ⟨rfl,H1.out⟩
section
structure Ri where
 id:Int
 a:Option Addr
 n:Nat
 c:Nat
 r:Rw
def Ri.v (x:Ri):Value:=.slice x.a x.n x.c
def riV (l:List Ri):List Value:=l.flatMap λ x=> [.int .i64 x.id,x.v]
def riA (v:Value) (l:List Ri):Asn:=rowA 56 2 v l.length (riV l)
def riL (l:List Ri):LL:=l.map λ x=> (x.id,x.r)
theorem riV_len (l:List Ri):(riV l).length=l.length * 2:=by
 induction l with
 | nil=> rfl
 | cons x l ih=> simp only [riV,List.flatMap_cons,List.length_append,List.length_cons,List.length_nil] at ih ⊢;omega
theorem riV_append (l m:List Ri):riV (l++m)=riV l++riV m:=List.flatMap_append
theorem riV_at (l:List Ri) (k:Nat) (hk:k < l.length):(riV l)[k * 2]? =some (.int .i64 l[k].id)/\(riV l)[k * 2+1]? =some l[k].v:=by
 induction l generalizing k with
 | nil=> simp at hk
 | cons x l ih=>
  have e:riV (x::l)=.int .i64 x.id::x.v::riV l:=rfl;cases k with
  | zero=> exact ⟨rfl,rfl⟩
  | succ k=>
   have:=ih k (by simpa using hk);rw [e,show (k+1) * 2=k * 2+1+1 by omega,show k * 2+1+1+1=(k * 2+1)+1+1 by omega];simpa using this
theorem ri_cells {X:List Nat} {w:World} {l:List Ri} {v:Value} (h:SlX X w 2 l.length (riV l) v) (k:Nat) (hk:k < l.length):∃b o c,v=.slice (some ⟨b,o,none⟩) l.length c/\w.cell? ⟨b,o+k * 2,none⟩=some (.int .i64 l[k].id)/\w.cell? ⟨b,o+k * 2+1,none⟩=some l[k].v:=by
 obtain ⟨e1,e2⟩:=riV_at l k hk;obtain ⟨b,o,c,h1,h2⟩:=h.some e1;obtain ⟨b',o',c',h3,h4⟩:=h.some e2;rw [h1] at h3;obtain ⟨h3, -, -⟩:=Value.slice.inj h3;injection h3 with h3;injection h3 with h3 h5;subst h3 h5;exact ⟨b,o,c,h1,h2,by rw [Nat.add_assoc];exact h4⟩
theorem riA_sl {w:World} {v:Value} {l:List Ri} {f:List Nat} (h:(riA v l).p w f):SlX [] w 2 l.length (riV l) v:=row_sl h (riV_len l)
section
variable {P:Program}
theorem wpList_appR {w:World} {ops:Array Oper} {rest:List Oper} {o:Oper} {a:Act} {Q:Exit->Act->World->Prop} (hgd:o.guard=none) (s x:Operand) (t tx:TypeId)
 (ho:o.op=.call { callee:=.builtin .append,args:=#[s,x],argTypes:=#[t,tx] }) {e:TypeId} {size:Nat} {v v2:Value} (hs:a.eval s=v) (hx:a.eval x=v2) (hC:AppSrc P t tx e size) {w0:World} {fp0:List Nat} {L:List Asn} {n m:Nat} {xs news:List Value}
 (hS:St w0 fp0 (rowA e size v n xs::L) w) (hsrc:Go.Src P size tx v2 m news w) (hl:n+m < 1099511627776)
 (h:∀v' w',Hid (St w0 fp0 (rowA e size v' (n+m) (xs++news)::L) w')->wpList P ops Q rest (a.put o.dst v') w'):wpList P ops Q (o::rest) a w:=by
 refine wpList_plain hgd λ K hK=> ?_;obtain ⟨v',w',hr,h2⟩:=St.appSrc hC o.type hS hsrc hl;unfold Oper.wp execOp;simp only [ho,resolve,invoke,builtin,Sem.run_bind,Sem.run_pure,Result.andThen_ok,List.map_toArray,List.map_cons,List.map_nil,hs,hx,hr];exact hK _ _ (h v' w' h2)
theorem src_litk {tx e':TypeId} (hk:P.underlying tx=some (.slice e')) (w:World) (size b m c:Nat) (t:TypeId) (fr:Nat×Nat) (cs:Array Value) (h:w.heap[b]? =some (.cells cs t fr)) (hn:cs.size=m * size) (h1:∀u∈cs.toList,u.oneCell'=true):Go.Src P size tx (.slice (some ⟨b,0,none⟩) m c) m cs.toList w:=
 Go.Src.ofSlice w hk _ m c _ (by simpa using hn) (λ j u hj=> by rw [add_plain,Nat.zero_add,cell_of_row w b j cs t fr h];simpa using hj) h1
end
theorem appRI:AppSrc Tryz.prog 35 35 56 2:=appSrc (z:=.agg #[.int .i64 0, .slice none 0 0]) (bytes:=32) (by kernel_rfl) (by kernel_rfl) rfl (by decide) (by decide)
def rsV (cols:Nat) (lv:Value) (next:Int):Value:=.agg #[.int .i64 cols,lv, .int .i64 next]
theorem RNew_calls (cols:Nat) (w:World):Calls Tryz.prog 31 #[.int .i64 cols] w λ e w'=> e=.returned (rsV cols (.slice none 0 0) 1)/\Below w.heap.size w w':=by
 unfold rsV;have hb:Below w.heap.size w (w.alloc (.cells #[.int .i64 0, .slice none 0 0, .int .i64 0] 37)):=(Below.refl _ _).alloc (Nat.le_refl _) _;have Hb:=Lib.hid hb;obtain ⟨V0,V1,V2⟩:=VarIs.new w #[.int .i64 0, .slice none 0 0, .int .i64 0] 37;clear hb;go_enter Tryz.func31,Tryz.ntmps31;go_wp2;refine bodyPost_ret (v:=.agg #[.int .i64 cols, .slice none 0 0, .int .i64 1]) (by simp [results,Tryz.results31,go_sem]) rfl ?_;exact ⟨rfl,(Below.refl _ _).alloc (Nat.le_refl _) _⟩
def findRi (l:List Ri) (k:Int):Option Ri:=l.find? λ x=> x.id==k
def riGet:Option Ri->Value
 | some x=> x.v
 | none=> .slice none 0 0
theorem findRi_step {l:List Ri} {k:Int} {i:Nat} (hi:i < l.length):findRi (l.drop i) k=if l[i].id==k then some l[i] else findRi (l.drop (i+1)) k:=by
 rw [findRi,List.drop_eq_getElem_cons hi,List.find?_cons];cases h:(l[i].id==k) <;> rfl
theorem RGet_calls (cols:Nat) (lv:Value) (next k:Int) (l:List Ri) (w:World) (hs:SlX [] w 2 l.length (riV l) lv):
 Calls Tryz.prog 32 #[rsV cols lv next, .int .i64 k] w λ e w'=> e=.returned (.tuple #[riGet (findRi l k), .bool (findRi l k).isSome])/\Below w.heap.size w w':=by
 obtain ⟨a,c,rfl⟩:=hs.shape;obtain ⟨n,hn⟩:∃n,l.length=n:=⟨_,rfl⟩
 have hb:Below w.heap.size w (w.alloc (.cells #[.int .i64 cols, .slice a n c, .int .i64 next] 37)):=(Below.refl _ _).alloc (Nat.le_refl _) _;have HS:=Lib.hid (hs.mono hb);have hn63:n<=9223372036854775807:=by have:=hs.1;unfold maxLen at this;omega
 have HN:=Lib.hid hn;obtain ⟨fo,hfo⟩:∃fo,findRi l k=fo:=⟨_,rfl⟩
 have HF:Hid (findRi (l.drop 0) k=fo):=by show _=_;rw [List.drop_zero];exact hfo
 have V1:=World.cell?_alloc_new w #[.int .i64 cols, .slice a n c, .int .i64 next] 37 1;simp only [List.getElem?_toArray,List.getElem?_cons_zero,List.getElem?_cons_succ] at V1;have Hb:=Lib.hid hb;rw [hfo,hn];clear hs hfo hn hb;unfold rsV;go_enter Tryz.func32,Tryz.ntmps32;go_upto_region 1 with (fail)
 generalize hW:w.alloc _=W at *;clear hW;have Vl:=World.block_lt_of_cell? W _ V1;go_wp2;go_loopg [6] n (λ g z wr=> ∃i:Nat,z=.int .i64 i/\g+i=n/\wr=W/\Hid (findRi (l.drop i) k=fo))
 case atStart=> exact ⟨0,rfl,rfl,rfl,HF⟩
 case round=>
  clear HF;obtain ⟨i,rfl,hgi,rfl,Hf⟩:=hrel;by_cases hi:i < n
  · have hil:i < l.length:=by rw [HN.out];exact hi
    have hst:=findRi_step (k:=k) hil;have hs:=HS.out;obtain ⟨b,o,c',e1,q1,q2⟩:=ri_cells hs i hil;obtain ⟨rfl, -,rfl⟩:=Value.slice.inj e1;have hql:=World.block_lt_of_cell? _ _ q1;have hi':(i:Int) < n:=by omega
    have Hgi:=Lib.hid hgi;have Hst:=Lib.hid hst;clear e1 hgi hst hs;generalize l[i]=x at *;clear hil;obtain ⟨xid,xa,xn,xc,xr⟩:=x;unfold Ri.v at q2;simp only at q1 q2 Hst;by_cases hx:xid=k
    · subst hx
      have HE:Hid (fo=some ⟨xid,xa,xn,xc,xr⟩):=by show _=_;rw [<-Hf.out,Hst.out];simp
      obtain rfl:=HE.out;have hxx:(xid==xid)=true:=by simp
      clear Hst HE Hf;go_wp2;refine bodyPost_ret (v:=.tuple #[.slice xa xn xc, .bool true]) (by simp [results,Tryz.results32,go_sem]) rfl ?_;exact ⟨rfl,Hb.out⟩
    · have hxk:(xid==k)=false:=by simp [hx]
      have Hn:Hid (findRi (l.drop (i+1)) k=fo):=by show _=_;rw [<-Hf.out,Hst.out,hxk];rfl
      clear Hst Hf hx;go_wp2;go_roundg (gk - 1)
      case rel=> exact ⟨i+1,by go_num,by have:=Hgi.out;omega,rfl,Hn⟩
      case measure=> have:=Hgi.out;omega
  · obtain rfl:i=n:=by omega
    have HE:Hid (fo=none):=by show _=_;rw [<-Hf.out,List.drop_of_length_le (by rw [HN.out];exact Nat.le_refl _)];rfl
    obtain rfl:=HE.out;clear HE Hf hgi hi;go_wp2;refine bodyPost_ret (v:=.tuple #[.slice none 0 0, .bool false]) (by simp [results,Tryz.results32,go_sem]) rfl ?_;exact ⟨rfl,Hb.out⟩
def delR (k:Int) (l:List Ri):List Ri:=l.filter λ x=> x.id !=k
theorem riL_delR (k:Int) (l:List Ri):riL (delR k l)=delL k (riL l):=by
 unfold riL delR delL;rw [List.filter_map];rfl
theorem delR_snoc (k:Int) (l:List Ri) (i:Nat) (hi:i < l.length):delR k (l.take (i+1))=if l[i].id !=k then delR k (l.take i)++[l[i]] else delR k (l.take i):=by
 rw [List.take_add_one,List.getElem?_eq_getElem hi,delR,List.filter_append];cases h:(l[i].id !=k) <;> simp [h,delR]
theorem delR_len (k:Int) (l:List Ri):(delR k l).length<=l.length:=List.length_filter_le _ _
theorem setRS {w0 w:World} {fp0:List Nat} {R:List Asn} {A:Asn} {vb rb cols:Nat} {o:Value} {next:Int} {r0 r1 r2:Value} (h:St w0 fp0 (A::blkA vb 37 #[.int .i64 cols,o, .int .i64 next]::blkA rb 37 #[r0,r1,r2]::R) w) (v:Value):
 St w0 fp0 (A::R) ((((w.setCell ⟨vb,1,none⟩ v).setCell ⟨rb,0,none⟩ (.int .i64 cols)).setCell ⟨rb,1,none⟩ v).setCell ⟨rb,2,none⟩ (.int .i64 next)):=by
 have h1:=(h.perm (List.Perm.swap _ _ _)).setB 1 (by simp) v;have h2:=((h1.perm (List.Perm.swap _ _ _)).perm (List.Perm.cons _ (List.Perm.swap _ _ _))).perm (List.Perm.swap _ _ _);have h3:=((h2.setB 0 (by simp) (.int .i64 cols)).setB 1 (by simp) v).setB 2 (by simp) (.int .i64 next);exact (h3.drop.perm (List.Perm.swap _ _ _)).drop
theorem RDelete_callsZ (Z:Asn) (cols:Nat) (lv:Value) (next k:Int) (l:List Ri) (hlen:l.length < 1099511627775) (w0 w:World) (fp0:List Nat) (R:List Asn) (hz:Rd w0 fp0 (Z::R) λ w=> SlX [] w 2 l.length (riV l) lv) (hS:St w0 fp0 (Z::R) w):
 Calls Tryz.prog 34 #[rsV cols lv next, .int .i64 k] w λ e w'=> ∃lv2,e=.returned (rsV cols lv2 next)/\St w0 fp0 (riA lv2 (delR k l)::Z::R) w':=by
 obtain ⟨a,c,rfl⟩:=(hz.here hS).shape;have HZ:=Lib.hid hz;obtain ⟨n,hn⟩:∃n,l.length=n:=⟨_,rfl⟩
 have hn63:n<=9223372036854775807:=by omega
 have HN:=Lib.hid hn;have HL:=Lib.hid hlen;have H0:Hid (St w0 fp0 (riA (.slice none 0 0) (delR k (l.take 0))::blkA w.heap.size 37 #[.int .i64 cols, .slice a n c, .int .i64 next]::blkA (w.heap.size+1) 37 #[.int .i64 0, .slice none 0 0, .int .i64 0]::Z::R) ((w.alloc (.cells #[.int .i64 cols, .slice a n c, .int .i64 next] 37)).alloc (.cells #[.int .i64 0, .slice none 0 0, .int .i64 0] 37))):=by have h1:=((hS.newblk 37 #[.int .i64 cols, .slice a n c, .int .i64 next]).newblk 37 #[.int .i64 0, .slice none 0 0, .int .i64 0]).nilR 56 2;simp only [World.size_alloc] at h1;exact St_re (L:=[_,_,_,_]) h1 [0,2,1,3] [] (by kernel_rfl)
 rw [hn];clear hS hz hn hlen;unfold rsV;go_enter Tryz.func34,Tryz.ntmps34;go_upto_region 1 with (fail)
 generalize hW:(w.alloc _).alloc _=W at *;clear hW;obtain ⟨vb,hvb⟩:∃vb,w.heap.size=vb:=⟨_,rfl⟩
 rw [hvb] at H0 ⊢;clear hvb;obtain ⟨_,hb1⟩:=H0.out.has 1 rfl;have c1:=(blk_get hb1).1 1;have bl1:=(blk_get hb1).2.2;simp only [List.getElem?_toArray,List.getElem?_cons_zero,List.getElem?_cons_succ] at c1;clear hb1;go_wp2;go_loopg [5,6] n (λ g z5 z wr=> ∃i:Nat,z=.int .i64 i/\g+i=n/\Hid (St w0 fp0 (riA z5 (delR k (l.take i))::blkA vb 37 #[.int .i64 cols, .slice a n c, .int .i64 next]::blkA (vb+1) 37 #[.int .i64 0, .slice none 0 0, .int .i64 0]::Z::R) wr))
 case atStart=> exact ⟨0,rfl,rfl,H0⟩
 case round=>
  clear H0 c1 bl1;obtain ⟨i,rfl,hgi,Hs⟩:=hrel;obtain ⟨_,hb1⟩:=Hs.out.has 1 rfl;have c1:=(blk_get hb1).1 1;have bl1:=(blk_get hb1).2.2;simp only [List.getElem?_toArray,List.getElem?_cons_zero,List.getElem?_cons_succ] at c1;by_cases hi:i < n
  · have hil:i < l.length:=by rw [HN.out];exact hi
    have hst:=delR_snoc k l i hil;have hp:=HZ.out.at (M:=[_,_,_]) Hs.out;rw [HN.out] at hp;obtain ⟨b,o,c',e1,q1,q2⟩:=ri_cells (by rw [HN.out];exact hp) i hil;obtain ⟨rfl, -,rfl⟩:=Value.slice.inj e1;have hql:=World.block_lt_of_cell? _ _ q1;have hi':(i:Int) < n:=by omega
    have hlen:(delR k (l.take i)).length+1 < 1099511627776:=by have h1:=delR_len k (l.take i);rw [List.length_take] at h1;have:=HL.out;omega
    have Hlen:=Lib.hid hlen;have Hgi:=Lib.hid hgi;have Hst:=Lib.hid hst;clear e1 hgi hst hp hlen hb1;generalize l[i]=x at *;clear hil;obtain ⟨xid,xa,xn,xc,xr⟩:=x;unfold Ri.v at q2;simp only at q1 q2 Hst;by_cases hx:xid=k
    · have hxk:(xid !=k)=false:=by simp [hx]
      have Hn:Hid (delR k (l.take (i+1))=delR k (l.take i)):=by show _=_;rw [Hst.out,hxk];rfl
      clear Hst hx;go_wp2;go_roundg (gk - 1)
      case rel=> exact ⟨i+1,by go_num,by have:=Hgi.out;omega,by rw [Hn.out];exact Hs.out⟩
      case measure=> have:=Hgi.out;omega
    · have hxk:(xid !=k)=true:=by simp [hx]
      have Hn:Hid (delR k (l.take (i+1))=delR k (l.take i)++[⟨xid,xa,xn,xc,xr⟩]):=by show _=_;rw [Hst.out,hxk];rfl
      clear Hst hx
      go_wp2_with (first
       | (at_builtin;refine wpList_appR rfl _ _ _ _ rfl rfl rfl appRI (Hs.out.mono ((Below.refl _ _).alloc (Nat.le_refl _) _)) (src_litk (e':=56) (by kernel_rfl) _ 2 _ 1 _ _ _ #[.int .i64 xid, .slice xa xn xc] (heap_alloc_new _ _) rfl (by simp;exact ⟨rfl,rfl⟩)) Hlen.out ?_;intro v3 w3 h3))
      go_roundg (gk - 1)
      case rel=>
       refine ⟨i+1,by go_num,by have:=Hgi.out;omega,?_⟩;rw [Hn.out];have h4:=h3.out;show St w0 fp0 (rowA 56 2 v3 (delR k (l.take i)++[(⟨xid,xa,xn,xc,xr⟩:Ri)]).length (riV (delR k (l.take i)++[(⟨xid,xa,xn,xc,xr⟩:Ri)]))::_) _;rw [riV_append,List.length_append];exact h4
      case measure=> have:=Hgi.out;omega
  · obtain rfl:i=n:=by omega
    have hs:=Hs.out;rw [List.take_of_length_le (by rw [HN.out];exact Nat.le_refl _)] at hs;obtain ⟨_,hrow⟩:=hs.has 0 rfl;obtain ⟨ya,yc,rfl⟩:=(riA_sl hrow).shape;obtain ⟨m,hm⟩:∃m,(delR k l).length=m:=⟨_,rfl⟩
    rw [hm] at hs;have H2:=Lib.hid (setRS hs (.slice ya m yc));obtain ⟨_,hb3⟩:=hs.has 2 rfl;have f1:=(blk_get hb1).2.1 1;have c0:=(blk_get hb1).1 0;have c2:=(blk_get hb1).1 2;have d0:=(blk_get hb3).1 0;have d1:=(blk_get hb3).1 1;have d2:=(blk_get hb3).1 2;have g0:=(blk_get hb3).2.1 0;have g1:=(blk_get hb3).2.1 1;have g2:=(blk_get hb3).2.1 2;have bl2:=(blk_get hb3).2.2;simp only [List.getElem?_toArray,List.getElem?_cons_zero,List.getElem?_cons_succ] at c0 c2 d0 d1 d2;rw [hm];clear hs hrow hb1 hb3 Hs hgi hi hm;go_wp2;refine bodyPost_ret (v:=.agg #[.int .i64 cols, .slice ya m yc, .int .i64 next]) (by simp [results,Tryz.results34,go_sem, *]) rfl ?_;exact ⟨_,rfl,H2.out⟩
theorem RDelete_calls (cols:Nat) (lv:Value) (next k:Int) (l:List Ri) (hlen:l.length < 1099511627775) (w0 w:World) (fp0:List Nat) (R:List Asn) (hS:St w0 fp0 (riA lv l::R) w):
 Calls Tryz.prog 34 #[rsV cols lv next, .int .i64 k] w λ e w'=> ∃lv2,e=.returned (rsV cols lv2 next)/\St w0 fp0 (riA lv2 (delR k l)::riA lv l::R) w':=RDelete_callsZ _ cols lv next k l hlen w0 w fp0 R (Rd.of_piece 0 rfl λ _ _ h=> riA_sl h) hS
structure RiX (w:World) (l:List Ri) (v:Value):Prop where
 sl:SlX [] w 2 l.length (riV l) v
 row:∀x∈l,ValsAt w x.r x.v
theorem RiX.mono {w w':World} {l:List Ri} {v:Value} (h:RiX w l v) (hb:Below w.heap.size w w'):RiX w' l v:=⟨h.sl.mono hb,λ x hx=> (h.row x hx).mono hb⟩
theorem findRi_get (k:Int) (m:List Ri):getL (riL m) k=(findRi m k).map (·.r):=by
 unfold getL riL findRi;rw [List.find?_map,Option.map_map];rfl
theorem riGet_at {w0:World} {fp0:List Nat} {R:List Asn} (k:Int) {m:List Ri} (h:∀x∈m,Rd w0 fp0 R λ w=> ValsAt w x.r x.v):Rd w0 fp0 R λ w=> ValsAt w ((getL (riL m) k).getD []) (riGet (findRi m k)):=by
 rw [findRi_get];cases e:findRi m k with
 | none=> exact λ _ w _=> ValsX.nil _ _ _ _
 | some x=> exact h x (List.mem_of_find?_eq_some e)
theorem riL_append (A B:List Ri):riL (A++B)=riL A++riL B:=List.map_append
theorem riL_len (A:List Ri):(riL A).length=A.length:=List.length_map _
end
theorem RStorable_calls (cols:Nat) (r:Rw) (v:Value) (w:World) (hv:ValsAt w r v):
 Calls Tryz.prog 75 #[.int .i64 cols,v] w λ e w'=> e=.returned (.bool (storB cols r))/\Below w.heap.size w w':=by
 obtain ⟨a,n,c,rfl,hn,hm⟩:=hv.shape;have HV:=Lib.hid hv;have HN:=Lib.hid hn;have hm2:n<=9223372036854775807:=by unfold maxLen at hm;omega
 obtain ⟨q,hq⟩:∃q,storB cols r=q:=⟨_,rfl⟩
 have HQ:Hid ((decide (r.length=cols) && r.all okV)=q):=hq;rw [hq];clear hv hn hm hq;go_enter Tryz.func75,Tryz.ntmps75;go_wp2;go_loopg [5] n (λ g z wr=> ∃k:Nat,z=.int .i64 k/\g+k=n/\Hid (r.all okV=(r.drop k).all okV)/\Hid (Below w.heap.size w wr))
 case atStart=> exact ⟨0,rfl,rfl,(by show _=_;rw [List.drop_zero]),Below.refl _ _⟩
 case round=>
  obtain ⟨k,rfl,hgk,Hp,Hb⟩:=hrel;by_cases hk:k < n
  · have hkl:k < r.length:=by rw [<-HN.out];exact hk
    obtain ⟨b,o,rfl⟩:=HV.out.has k hk;obtain ⟨c0,c1,c2⟩:=(HV.out.mono Hb.out).cell k hkl;have hlt:=World.block_lt_of_cell? wr _ c0;have hk':(k:Int) < n:=by omega
    have HC:=Lib.hid (rvalid_calls r[k] wr (HV.out.txt _ (List.getElem_mem hkl)));have hst:(r.drop k).all okV=(okV r[k] && (r.drop (k+1)).all okV):=by rw [List.drop_eq_getElem_cons hkl,List.all_cons]
    have Hst:=Lib.hid hst;have Hgk:=Lib.hid hgk;clear hst hgk;generalize r[k]=x at *;clear hkl;unfold Vl.val at HC;cases hq:okV x
    · rw [hq] at HC Hst
      have HQF:Hid (q=false):=by show _=_;rw [<-HQ.out,Hp.out,Hst.out];simp
      obtain rfl:=HQF.out;clear hq;go_wp2_with fail;(with_reducible refine HC.out.mono ?_);rintro e w1 ⟨rfl,hb1⟩;have Hb1:=Lib.hid (Hb.out.trans (hb1.mono Hb.out.size));clear hb1;go_wp2;go_ret;exact ⟨rfl,Hb1.out⟩
    · rw [hq] at HC Hst
      clear hq;go_wp2_with fail;(with_reducible refine HC.out.mono ?_);rintro e w1 ⟨rfl,hb1⟩;have Hb1:=Lib.hid (Hb.out.trans (hb1.mono Hb.out.size));clear hb1;go_wp2;go_roundg (gk - 1)
      case rel=> exact ⟨k+1,by go_num,by have:=Hgk.out;omega,(by show _=_;rw [Hp.out,Hst.out,Bool.true_and]),Hb1⟩
      case measure=> have:=Hgk.out;omega
  · obtain rfl:k=n:=by omega
    have HE:Hid (((k:Int)==cols)=q):=by show _=_;rw [<-HQ.out,Hp.out,List.drop_of_length_le (by rw [<-HN.out];exact Nat.le_refl _),List.all_nil,Bool.and_true,<-HN.out,Bool.eq_iff_iff];simp;omega
    clear hgk hk;go_wp2;go_ret;exact ⟨by rw [<-HE.out];rfl,Hb.out⟩
def stepP (k:Int) (x:Ri) (s:List Ri×Bool) (y:Ri):List Ri×Bool:=
 let s1:=if s.2=false/\k<=y.id then (s.1++[x],true) else s
 if y.id=k then s1 else (s1.1++[y],s1.2)
def putR (k:Int) (x:Ri) (l:List Ri):List Ri:=(l.filter λ e=> decide (e.id < k))++x::l.filter λ e=> decide (k < e.id)
theorem riL_putR (k:Int) (x:Ri) (hx:x.id=k) (l:List Ri):riL (putR k x l)=putL' k x.r (riL l):=by
 unfold riL putR putL';rw [List.map_append,List.map_cons,List.filter_map,List.filter_map,hx];rfl
theorem stepP_lt {k:Int} {x:Ri}:∀(A:List Ri) (o:List Ri),(∀a∈A,a.id < k)->A.foldl (stepP k x) (o,false)=(o++A,false)
 | [],o,_=> by simp
 | a::A,o,h=> by
  have ha:=h a (by simp);have h1:¬ k<=a.id:=by omega
  have h2:a.id≠k:=by omega
  rw [List.foldl_cons,show stepP k x (o,false) a=(o++[a],false) by simp [stepP,h1,h2],stepP_lt A _ (λ b hb=> h b (by simp [hb]))];simp
theorem stepP_gt {k:Int} {x:Ri}:∀(B:List Ri) (o:List Ri),(∀b∈B,k < b.id)->B.foldl (stepP k x) (o,true)=(o++B,true)
 | [],o,_=> by simp
 | b::B,o,h=> by
  have hb:=h b (by simp);have h2:b.id≠k:=by omega
  rw [List.foldl_cons,show stepP k x (o,true) b=(o++[b],true) by simp [stepP,h2],stepP_gt B _ (λ c hc=> h c (by simp [hc]))];simp
theorem filt_id {A B:List Ri} {k:Int} (hA:∀a∈A,a.id < k) (hB:∀b∈B,k < b.id):(A++B).filter (λ e=> decide (e.id < k))=A/\(A++B).filter (λ e=> decide (k < e.id))=B:=by
 constructor
 · rw [List.filter_append,List.filter_eq_self.2 (λ a ha=> decide_eq_true (hA a ha)),List.filter_eq_nil_iff.2 (λ b hb=> by have:=hB b hb;simp;omega),List.append_nil]
 · rw [List.filter_append,List.filter_eq_self.2 (λ b hb=> decide_eq_true (hB b hb)),List.filter_eq_nil_iff.2 (λ a ha=> by have:=hA a ha;simp;omega),List.nil_append]
theorem stepP_all {k:Int} {x:Ri} {l:List Ri} (h:l.Pairwise λ a b=> a.id < b.id):(let s:=l.foldl (stepP k x) ([],false);if s.2 then s.1 else s.1++[x])=putR k x l:=by
 have key:∀(A B:List Ri),(∀a∈A,a.id < k)->(∀b∈B,k < b.id)->(let s:=B.foldl (stepP k x) (A,false);if s.2 then s.1 else s.1++[x])=A++x::B:=by
  intro A B hA hB;cases B with
  | nil=> simp
  | cons b B=>
   have hb:=hB b (by simp);have h2:b.id≠k:=by omega
   have h3:k<=b.id:=by omega
   rw [List.foldl_cons,show stepP k x (A,false) b=(A++[x]++[b],true) by simp [stepP,h2,h3],stepP_gt B _ (λ c hc=> hB c (by simp [hc]))];simp
 rcases split_id (λ e:Ri=> e.id) l h k with ⟨A,e,B,rfl,he,hA,hB⟩ | ⟨A,B,rfl,hA,hB⟩
 · have h4:putR k x (A++e::B)=A++x::B:=by
    have:=filt_id hA hB;unfold putR;rw [List.filter_append,List.filter_append] at *;rw [List.filter_cons,List.filter_cons,if_neg (by simp [he]),if_neg (by simp [he]),this.1,this.2]
   rw [h4,List.foldl_append,stepP_lt A [] hA,List.nil_append,List.foldl_cons];rw [show stepP k x (A,false) e=(A++[x],true) by simp [stepP,he],stepP_gt B _ hB];simp
 · have h4:putR k x (A++B)=A++x::B:=by
    unfold putR;rw [(filt_id hA hB).1,(filt_id hA hB).2]
   rw [h4,List.foldl_append,stepP_lt A [] hA,List.nil_append];exact key A B hA hB
theorem stepP_len (k:Int) (x:Ri):∀(l:List Ri) (s:List Ri×Bool),(l.foldl (stepP k x) s).1.length<=s.1.length+2 * l.length
 | [],s=> by simp
 | y::l,s=> by
  have h1:=stepP_len k x l (stepP k x s y);have h2:(stepP k x s y).1.length<=s.1.length+2:=by unfold stepP;split <;> split <;> simp
  simp only [List.foldl_cons,List.length_cons];omega
theorem asc_putR {k:Int} {x:Ri} (hx:x.id=k) {l:List Ri} (h:l.Pairwise λ a b=> a.id < b.id):(putR k x l).Pairwise λ a b=> a.id < b.id:=by
 unfold putR;refine List.pairwise_append.2 ⟨h.sublist List.filter_sublist,List.pairwise_cons.2 ⟨λ b hb=> by rw [hx];simpa using (List.mem_filter.1 hb).2,h.sublist List.filter_sublist⟩,λ a ha b hb=> ?_⟩;have h1:a.id < k:=by simpa using (List.mem_filter.1 ha).2
 rcases List.mem_cons.1 hb with rfl | hb
 · omega
 · have:k < b.id:=by simpa using (List.mem_filter.1 hb).2
   omega
theorem limit_calls (w:World):Calls Tryz.prog 74 #[] w λ e w'=> e=.returned (.int .i64 4611686018427387904)/\w=w':=by
 go_enter Tryz.func74,Tryz.ntmps74;go_wp2;go_ret;exact ⟨rfl,rfl⟩
theorem cpRS {w0 w:World} {fp0:List Nat} {R:List Asn} {A:Asn} {vb rb:Nat} {c0 c1 c2 r0 r1 r2:Value} (h:St w0 fp0 (A::blkA vb 37 #[c0,c1,c2]::blkA rb 37 #[r0,r1,r2]::R) w):
 St w0 fp0 (A::R) (((w.setCell ⟨rb,0,none⟩ c0).setCell ⟨rb,1,none⟩ c1).setCell ⟨rb,2,none⟩ c2):=by
 have h2:=(h.perm (List.Perm.cons _ (List.Perm.swap _ _ _))).perm (List.Perm.swap _ _ _);have h3:=((h2.setB 0 (by simp) c0).setB 1 (by simp) c1).setB 2 (by simp) c2;exact (h3.drop.perm (List.Perm.swap _ _ _)).drop
theorem riA_snoc {w0 w:World} {fp0:List Nat} {R:List Asn} {v:Value} {l:List Ri} (x:Ri) (h:St w0 fp0 (rowA 56 2 v (l.length+1) (riV l++[.int .i64 x.id,x.v])::R) w):St w0 fp0 (riA v (l++[x])::R) w:=by
 unfold riA;rw [riV_append,List.length_append];exact h
theorem setRN {w0 w:World} {fp0:List Nat} {R:List Asn} {A:Asn} {vb rb cols:Nat} {o:Value} {next:Int} {r0 r1 r2:Value} (h:St w0 fp0 (A::blkA vb 37 #[.int .i64 cols,o, .int .i64 next]::blkA rb 37 #[r0,r1,r2]::R) w) (v:Value) (nx:Int):
 St w0 fp0 (A::R) (((((w.setCell ⟨vb,1,none⟩ v).setCell ⟨vb,2,none⟩ (.int .i64 nx)).setCell ⟨rb,0,none⟩ (.int .i64 cols)).setCell ⟨rb,1,none⟩ v).setCell ⟨rb,2,none⟩ (.int .i64 nx)):=by
 have h1:=((h.perm (List.Perm.swap _ _ _)).setB 1 (by simp) v).setB 2 (by simp) (.int .i64 nx);exact cpRS (h1.perm (List.Perm.swap _ _ _))
theorem rp_cells {w0 w:World} {fp0:List Nat} {R:List Asn} {A B Z:Asn} {vb lb lo n c i:Nat} {c0 c2:Value} {l:List Ri} {y:Ri} (hz:Rd w0 fp0 (Z::R) λ w=> SlX [] w 2 l.length (riV l) (.slice (some ⟨lb,lo,none⟩) n c)) (h:St w0 fp0 (A::blkA vb 37 #[c0, .slice (some ⟨lb,lo,none⟩) n c,c2]::B::Z::R) w) (hy:l[i]? =some y):
 w.cell? ⟨vb,1,none⟩=some (.slice (some ⟨lb,lo,none⟩) n c)/\vb < w.heap.size/\w.cell? ⟨lb,lo+i * 2,none⟩=some (.int .i64 y.id)/\w.cell? ⟨lb,lo+i * 2+1,none⟩=some y.v/\lb < w.heap.size:=by
 obtain ⟨_,hb⟩:=h.has 1 rfl;have hp:=hz.at (M:=[_,_,_]) h;obtain ⟨hi,rfl⟩:=List.getElem?_eq_some_iff.1 hy;obtain ⟨b,o,c',e1,q1,q2⟩:=ri_cells hp i hi;obtain ⟨e1, -, -⟩:=Value.slice.inj e1;injection e1 with e1;injection e1 with e1 e2;subst e1 e2;exact ⟨(blk_get hb).1 1,(blk_get hb).2.2,q1,q2,World.block_lt_of_cell? w _ q1⟩
def PutPostZ (Z:Asn) (w0:World) (fp0:List Nat) (R:List Asn) (q:Bool) (lv lv2:Value) (x:Ri) (l:List Ri) (w:World):Prop:=(q=true/\St w0 fp0 (riA lv2 (putR x.id x l)::Z::R) w)\/(q=false/\lv2=lv/\St w0 fp0 (Z::R) w)
def PutPost (w0:World) (fp0:List Nat) (R:List Asn) (q:Bool) (lv lv2:Value) (x:Ri) (l:List Ri) (w:World):Prop:=PutPostZ (riA lv l) w0 fp0 R q lv lv2 x l w
theorem RPut_callsZ (Z:Asn) (cols:Nat) (lv:Value) (next:Int) (x:Ri) (l:List Ri) (hasc:l.Pairwise λ a b=> a.id < b.id) (hlen:l.length < 400000000000) (w0 w:World) (fp0:List Nat) (R:List Asn) (hv:Rd w0 fp0 R λ w=> ValsAt w x.r x.v) (hz:Rd w0 fp0 (Z::R) λ w=> SlX [] w 2 l.length (riV l) lv) (hS:St w0 fp0 (Z::R) w):
 Calls Tryz.prog 33 #[rsV cols lv next, .int .i64 x.id,x.v] w λ e w'=> ∃lv2,e=.returned (.tuple #[rsV cols lv2 (putN cols x.id x.r next),errV (putOk cols x.id x.r)])/\PutPostZ Z w0 fp0 R (putOk cols x.id x.r) lv lv2 x l w':=by
 obtain ⟨a,c,rfl⟩:=(hz.here hS).shape;obtain ⟨n,hn⟩:∃n,l.length=n:=⟨_,rfl⟩
 have hn63:n<=9223372036854775807:=by omega
 have HN:=Lib.hid hn;rw [hn] at hz;have HZ:=Lib.hid hz;have HL:=Lib.hid hlen;have H0:Hid (St w0 fp0 (Z::blkA w.heap.size 37 #[.int .i64 cols, .slice a n c, .int .i64 next]::blkA (w.heap.size+1) 37 #[.int .i64 0, .slice none 0 0, .int .i64 0]::R) ((w.alloc (.cells #[.int .i64 cols, .slice a n c, .int .i64 next] 37)).alloc (.cells #[.int .i64 0, .slice none 0 0, .int .i64 0] 37))):=by
  have h1:=((hS.newblk 37 #[.int .i64 cols, .slice a n c, .int .i64 next]).newblk 37 #[.int .i64 0, .slice none 0 0, .int .i64 0])
  simp only [World.size_alloc] at h1;exact St_re (L:=[_,_,_]) h1 [2,1,0] [] (by kernel_rfl)
 have HV:Hid (∀M w',St w0 fp0 (M++R) w'->ValsAt w' x.r x.v):=λ M w' h=> hv.at h;have HAL:=Lib.hid (stepP_all (k:=x.id) (x:=x) hasc);have HSL:=Lib.hid (λ m=> stepP_len x.id x (l.take m) ([],false));have HST:Hid (∀i (hi:i < l.length),(l.take (i+1)).foldl (stepP x.id x) ([],false)=stepP x.id x ((l.take i).foldl (stepP x.id x) ([],false)) l[i]):=λ i hi=> by rw [List.take_add_one,List.getElem?_eq_getElem hi,List.foldl_append];rfl
 unfold putN;obtain ⟨q,hq⟩:∃q,putOk cols x.id x.r=q:=⟨_,rfl⟩
 have HQ:Hid ((decide (1<=x.id/\x.id<=4611686018427387904) && storB cols x.r)=q):=hq;rw [hq,hn];clear hS hz hn hlen hv hasc hq;obtain ⟨k,xa,xn,xc,xr⟩:=x;unfold Ri.v at *;unfold rsV;simp only at *;obtain ⟨X,hX⟩:∃X:Ri,(⟨k,xa,xn,xc,xr⟩:Ri)=X:=⟨_,rfl⟩
 have HX:=Lib.hid hX;rw [hX] at HAL HSL HST ⊢;clear hX;obtain ⟨vb,hvb⟩:∃vb,w.heap.size=vb:=⟨_,rfl⟩
 have H0':Hid (∃W,(w.alloc (.cells #[.int .i64 cols, .slice a n c, .int .i64 next] 37)).alloc (.cells #[.int .i64 0, .slice none 0 0, .int .i64 0] 37)=W/\St w0 fp0 (Z::blkA vb 37 #[.int .i64 cols, .slice a n c, .int .i64 next]::blkA (vb+1) 37 #[.int .i64 0, .slice none 0 0, .int .i64 0]::R) W):=⟨_,rfl,by rw [<-hvb];exact H0.out⟩
 clear H0;go_enter Tryz.func33,Tryz.ntmps33;go_upto_region 1 with (fail)
 obtain ⟨W,hW,hs⟩:=H0'.out;rw [hW];have H1:=Lib.hid hs;obtain ⟨_,hb1⟩:=hs.has 1 rfl;obtain ⟨_,hb2⟩:=hs.has 2 rfl;have c0:=(blk_get hb1).1 0;have c1:=(blk_get hb1).1 1;have c2:=(blk_get hb1).1 2;have d0:=(blk_get hb2).1 0;have d1:=(blk_get hb2).1 1;have d2:=(blk_get hb2).1 2;have g0:=(blk_get hb2).2.1 0;have g1:=(blk_get hb2).2.1 1;have g2:=(blk_get hb2).2.1 2;have bl1:=(blk_get hb1).2.2;have bl2:=(blk_get hb2).2.2;simp only [List.getElem?_toArray,List.getElem?_cons_zero,List.getElem?_cons_succ] at c0 c1 c2 d0 d1 d2;have HEND:Hid (St w0 fp0 (Z::R) (((W.setCell ⟨vb+1,0,none⟩ (.int .i64 cols)).setCell ⟨vb+1,1,none⟩ (.slice a n c)).setCell ⟨vb+1,2,none⟩ (.int .i64 next))):=cpRS hs;clear hW hvb H0' hs hb1 hb2;by_cases h1:k < 1
 · have HE:Hid (q=false):=by show _=_;rw [<-HQ.out,decide_eq_false (by omega)];rfl
   obtain rfl:=HE.out;go_wp2;refine bodyPost_ret (v:=.tuple #[.agg #[.int .i64 cols, .slice a n c, .int .i64 next], .int .i64 1]) (by clear HV HAL HSL HST HEND;simp [results,Tryz.results33,go_sem, *]) rfl ?_;exact ⟨_,rfl, .inr ⟨rfl,rfl,HEND.out⟩⟩
 · by_cases h2:4611686018427387904 < k
   · have HE:Hid (q=false):=by show _=_;rw [<-HQ.out,decide_eq_false (by omega)];rfl
     obtain rfl:=HE.out;go_wp2_with (first | (go_at_call 74;(with_reducible refine (limit_calls _).mono ?_);rintro e w1 ⟨rfl,rfl⟩));refine bodyPost_ret (v:=.tuple #[.agg #[.int .i64 cols, .slice a n c, .int .i64 next], .int .i64 1]) (by clear HV HAL HSL HST HEND;simp [results,Tryz.results33,go_sem, *]) rfl ?_;exact ⟨_,rfl, .inr ⟨rfl,rfl,HEND.out⟩⟩
   · have HSTO:=Lib.hid (RStorable_calls cols xr (.slice xa xn xc) W (HV.out [_,_,_] W H1.out))
     have HQ2:Hid (storB cols xr=q):=by show _=_;rw [<-HQ.out,decide_eq_true (by omega),Bool.true_and]
     rw [HQ2.out] at HSTO;have HQ3:Hid (q=true->decide (1<=k/\k<=4611686018427387904)=true):=λ _=> decide_eq_true (by omega);cases q
     · go_wp2_with (first
        | (go_at_call 74;(with_reducible refine (limit_calls _).mono ?_);rintro e w1 ⟨rfl,rfl⟩))
       (with_reducible refine HSTO.out.mono ?_);rintro e w1 ⟨rfl,hb⟩;have hs:=H1.out.mono hb;clear HEND c0 c1 c2 d0 d1 d2 g0 g1 g2 bl1 bl2 hb;obtain ⟨_,hb1⟩:=hs.has 1 rfl;obtain ⟨_,hb2⟩:=hs.has 2 rfl;have c0:=(blk_get hb1).1 0;have c1:=(blk_get hb1).1 1;have c2:=(blk_get hb1).1 2;have f1:=(blk_get hb1).2.1 1;have f2:=(blk_get hb1).2.1 2;have d0:=(blk_get hb2).1 0;have d1:=(blk_get hb2).1 1;have d2:=(blk_get hb2).1 2;have g0:=(blk_get hb2).2.1 0;have g1:=(blk_get hb2).2.1 1;have g2:=(blk_get hb2).2.1 2;have bl1:=(blk_get hb1).2.2;have bl2:=(blk_get hb2).2.2;simp only [List.getElem?_toArray,List.getElem?_cons_zero,List.getElem?_cons_succ] at c0 c1 c2 d0 d1 d2;have HEND:Hid (St w0 fp0 (Z::R) (((w1.setCell ⟨vb+1,0,none⟩ (.int .i64 cols)).setCell ⟨vb+1,1,none⟩ (.slice a n c)).setCell ⟨vb+1,2,none⟩ (.int .i64 next))):=cpRS hs;clear hb1 hb2 hs H1 HSTO;go_wp2;refine bodyPost_ret (v:=.tuple #[.agg #[.int .i64 cols, .slice a n c, .int .i64 next], .int .i64 1]) (by clear HV HAL HSL HST HEND;simp [results,Tryz.results33,go_sem, *]) rfl ?_;exact ⟨_,rfl, .inr ⟨rfl,rfl,HEND.out⟩⟩
     · go_wp2_with (first
        | (go_at_call 74;(with_reducible refine (limit_calls _).mono ?_);rintro e w1 ⟨rfl,rfl⟩))
       (with_reducible refine HSTO.out.mono ?_);rintro e w1 ⟨rfl,hb⟩;have H2:Hid (∃s,s=(l.take 0).foldl (stepP k X) ([],false)/\St w0 fp0 (riA (.slice none 0 0) s.1::blkA vb 37 #[.int .i64 cols, .slice a n c, .int .i64 next]::blkA (vb+1) 37 #[.int .i64 0, .slice none 0 0, .int .i64 0]::Z::R) w1):=by refine ⟨_,rfl,?_⟩;rw [List.take_zero];have h:=(H1.out.mono hb).nilR 56 2;exact St_re (L:=[_,_,_,_]) h [0,2,3,1] [] (by kernel_rfl)
       clear HEND c0 c1 c2 d0 d1 d2 g0 g1 g2 bl1 bl2 hb H1 HSTO;obtain ⟨s0,hs0,hs⟩:=H2.out;obtain ⟨_,hb1⟩:=hs.has 1 rfl;have c1:=(blk_get hb1).1 1;have bl1:=(blk_get hb1).2.2;simp only [List.getElem?_toArray,List.getElem?_cons_zero,List.getElem?_cons_succ] at c1;clear hs hs0 hb1;go_wp2;go_loopg [8,9,10] n (λ g z8 z9 z wr=> ∃(i:Nat) (b:Bool),z=.int .i64 i/\z9=.bool b/\g+i=n/\Hid (∃s,s=(l.take i).foldl (stepP k X) ([],false)/\b=s.2/\St w0 fp0 (riA z8 s.1::blkA vb 37 #[.int .i64 cols, .slice a n c, .int .i64 next]::blkA (vb+1) 37 #[.int .i64 0, .slice none 0 0, .int .i64 0]::Z::R) wr))
       case atStart=>
        obtain ⟨s0,hs0,hs⟩:=H2.out;exact ⟨0,false,rfl,rfl,rfl,s0,hs0,by rw [hs0];rfl,hs⟩
       case round=>
        clear H2 c1 bl1;obtain ⟨i,b,rfl,rfl,hgi,Hs⟩:=hrel;obtain ⟨s,hs0,hbs,hs⟩:=Hs.out;obtain ⟨_,hb1⟩:=hs.has 1 rfl;obtain ⟨_,hb2⟩:=hs.has 2 rfl;have c0:=(blk_get hb1).1 0;have c1:=(blk_get hb1).1 1;have c2:=(blk_get hb1).1 2;have f1:=(blk_get hb1).2.1 1;have f2:=(blk_get hb1).2.1 2;have d0:=(blk_get hb2).1 0;have d1:=(blk_get hb2).1 1;have d2:=(blk_get hb2).1 2;have g0:=(blk_get hb2).2.1 0;have g1:=(blk_get hb2).2.1 1;have g2:=(blk_get hb2).2.1 2;have bl1:=(blk_get hb1).2.2;have bl2:=(blk_get hb2).2.2;simp only [List.getElem?_toArray,List.getElem?_cons_zero,List.getElem?_cons_succ] at c0 c1 c2 d0 d1 d2;by_cases hi:i < n
        · have hil:i < l.length:=by rw [HN.out];exact hi
          have hst:=HST.out i hil;rw [<-hs0] at hst;have hp:=HZ.out.at (M:=[_,_,_]) hs;obtain ⟨lb,lo,c',e1,q1,q2⟩:=ri_cells (by rw [HN.out];exact hp) i hil;obtain ⟨rfl, -,rfl⟩:=Value.slice.inj e1;have hql:=World.block_lt_of_cell? _ _ q1;have hi':(i:Int) < n:=by omega
          have hlen:s.1.length+2 < 1099511627776:=by have h1:=HSL.out i;rw [<-hs0,List.length_take,List.length_nil] at h1;have:=HL.out;omega
          have Hlen:=Lib.hid hlen;have Hgi:=Lib.hid hgi;have Hst:=Lib.hid hst;have HS:=Lib.hid hs;have HY:=Lib.hid (List.getElem?_eq_getElem hil);clear e1 hgi hst hp hlen hb1 hb2 hs hs0 Hs d0 d1 d2 g0 g1 g2 bl2 f1 f2;generalize l[i]=y at *;clear hil;obtain ⟨yid,ya,yn,yc,yr⟩:=y;obtain ⟨out,pl⟩:=s;unfold Ri.v at q2;simp only at q1 q2 Hst hbs HS Hlen;subst hbs;cases b
          · by_cases hge:k<=yid
            · by_cases hx:yid=k
              · have hxk:(yid !=k)=false:=by simp [hx]
                have hx2:=Lib.hid hx;have hge2:=Lib.hid hge;clear hx;go_wp2_with (first | (at_builtin;refine wpList_appR rfl _ _ _ _ rfl rfl rfl appRI (HS.out.mono ((Below.refl _ _).alloc (Nat.le_refl _) _)) (src_litk (e':=56) (by kernel_rfl) _ 2 _ 1 _ _ _ #[.int .i64 k, .slice xa xn xc] (heap_alloc_new _ _) rfl (by simp;exact ⟨rfl,rfl⟩)) (by have:=Hlen.out;omega) ?_;intro v3 w3 h3;obtain ⟨k1,k2,k3,k4,k5⟩:=rp_cells (by rw [HN.out];exact HZ.out) h3.out HY.out;unfold Ri.v at k4;simp only at k3 k4));go_roundg (gk - 1)
                case rel=> exact ⟨i+1,true,by go_num,rfl,by have:=Hgi.out;omega,(out++[X],true),by rw [Hst.out];simp [stepP,hx2.out],rfl,(by have h4:=riA_snoc (⟨k,xa,xn,xc,xr⟩:Ri) h3.out;rw [HX.out] at h4;exact h4)⟩
                case measure=> have:=Hgi.out;omega
              · have hxk:(yid !=k)=true:=by simp [hx]
                have hx2:=Lib.hid hx;have hge2:=Lib.hid hge;clear hx
                go_wp2_with (first
                 | (at_builtin;refine wpList_appR rfl _ _ _ _ rfl rfl rfl appRI (HS.out.mono ((Below.refl _ _).alloc (Nat.le_refl _) _)) (src_litk (e':=56) (by kernel_rfl) _ 2 _ 1 _ _ _ #[.int .i64 k, .slice xa xn xc] (heap_alloc_new _ _) rfl (by simp;exact ⟨rfl,rfl⟩)) (by have:=Hlen.out;omega) ?_;intro v3 w3 h3;obtain ⟨k1,k2,k3,k4,k5⟩:=rp_cells (by rw [HN.out];exact HZ.out) h3.out HY.out;unfold Ri.v at k4;simp only at k3 k4)
                 | (at_builtin;refine wpList_appR rfl _ _ _ _ rfl rfl rfl appRI ((riA_snoc (⟨k,xa,xn,xc,xr⟩:Ri) h3.out).mono ((Below.refl _ _).alloc (Nat.le_refl _) _)) (src_litk (e':=56) (by kernel_rfl) _ 2 _ 1 _ _ _ #[.int .i64 yid, .slice ya yn yc] (heap_alloc_new _ _) rfl (by simp;exact ⟨rfl,rfl⟩)) (by have:=Hlen.out;simp;omega) ?_;intro v4 w4 h4))
                go_roundg (gk - 1)
                case rel=> exact ⟨i+1,true,by go_num,rfl,by have:=Hgi.out;omega,(out++[X]++[⟨yid,ya,yn,yc,yr⟩],true),by rw [Hst.out];simp [stepP,hx2.out,hge2.out],rfl,(by have h5:=riA_snoc (⟨yid,ya,yn,yc,yr⟩:Ri) h4.out;rw [HX.out] at h5;exact h5)⟩
                case measure=> have:=Hgi.out;omega
            · have hx:¬ yid=k:=by omega
              have hxk:(yid !=k)=true:=by simp [hx]
              have hx2:=Lib.hid hx;have hge2:=Lib.hid hge;clear hx;go_wp2_with (first | (at_builtin;refine wpList_appR rfl _ _ _ _ rfl rfl rfl appRI (HS.out.mono ((Below.refl _ _).alloc (Nat.le_refl _) _)) (src_litk (e':=56) (by kernel_rfl) _ 2 _ 1 _ _ _ #[.int .i64 yid, .slice ya yn yc] (heap_alloc_new _ _) rfl (by simp;exact ⟨rfl,rfl⟩)) (by have:=Hlen.out;omega) ?_;intro v3 w3 h3;obtain ⟨k1,k2,k3,k4,k5⟩:=rp_cells (by rw [HN.out];exact HZ.out) h3.out HY.out;unfold Ri.v at k4;simp only at k3 k4));go_roundg (gk - 1)
              case rel=> exact ⟨i+1,false,by go_num,rfl,by have:=Hgi.out;omega,(out++[⟨yid,ya,yn,yc,yr⟩],false),by rw [Hst.out];have h9:¬ k<=yid:=(by have:=hge2.out;omega);simp [stepP,hx2.out,if_neg h9],rfl,riA_snoc (⟨yid,ya,yn,yc,yr⟩:Ri) h3.out⟩
              case measure=> have:=Hgi.out;omega
          · by_cases hx:yid=k
            · have hxk:(yid !=k)=false:=by simp [hx]
              have hx2:=Lib.hid hx;clear hx;go_wp2;go_roundg (gk - 1)
              case rel=> exact ⟨i+1,true,by go_num,rfl,by have:=Hgi.out;omega,(out,true),by rw [Hst.out];simp [stepP,hx2.out],rfl,HS.out⟩
              case measure=> have:=Hgi.out;omega
            · have hxk:(yid !=k)=true:=by simp [hx]
              have hx2:=Lib.hid hx;clear hx;go_wp2_with (first | (at_builtin;refine wpList_appR rfl _ _ _ _ rfl rfl rfl appRI (HS.out.mono ((Below.refl _ _).alloc (Nat.le_refl _) _)) (src_litk (e':=56) (by kernel_rfl) _ 2 _ 1 _ _ _ #[.int .i64 yid, .slice ya yn yc] (heap_alloc_new _ _) rfl (by simp;exact ⟨rfl,rfl⟩)) (by have:=Hlen.out;omega) ?_;intro v3 w3 h3;obtain ⟨k1,k2,k3,k4,k5⟩:=rp_cells (by rw [HN.out];exact HZ.out) h3.out HY.out;unfold Ri.v at k4;simp only at k3 k4));go_roundg (gk - 1)
              case rel=> exact ⟨i+1,true,by go_num,rfl,by have:=Hgi.out;omega,(out++[⟨yid,ya,yn,yc,yr⟩],true),by rw [Hst.out];simp [stepP,hx2.out],rfl,riA_snoc (⟨yid,ya,yn,yc,yr⟩:Ri) h3.out⟩
              case measure=> have:=Hgi.out;omega
        · obtain rfl:i=n:=by omega
          rw [List.take_of_length_le (by rw [HN.out];exact Nat.le_refl _)] at hs0;obtain ⟨out,pl⟩:=s;simp only at hbs hs;subst hbs;have hal:=HAL.out;rw [<-hs0] at hal;have hlen:out.length+2 < 1099511627776:=by have h1:=HSL.out i;rw [List.take_of_length_le (by rw [HN.out];exact Nat.le_refl _),<-hs0,List.length_nil] at h1;have:=HL.out;simp only at h1;omega
          have Hlen:=Lib.hid hlen;have HS:=Lib.hid hs;have hw:IntKind.i64.wrap (k+1)=k+1:=IntWalk.i64_in _ (by omega);simp only at hal;have HALL:=Lib.hid hal;clear hs0 hgi hi hlen Hs hal hs hb1 hb2;cases b
          · go_upto_region 15 with (first | (at_builtin;refine wpList_appR rfl _ _ _ _ rfl rfl rfl appRI (HS.out.mono ((Below.refl _ _).alloc (Nat.le_refl _) _)) (src_litk (e':=56) (by kernel_rfl) _ 2 _ 1 _ _ _ #[.int .i64 k, .slice xa xn xc] (heap_alloc_new _ _) rfl (by simp;exact ⟨rfl,rfl⟩)) (by have:=Hlen.out;omega) ?_;intro v3 w3 h3))
            have H3:Hid (St w0 fp0 (riA v3 (putR k X l)::blkA vb 37 #[.int .i64 cols, .slice a i c, .int .i64 next]::blkA (vb+1) 37 #[.int .i64 0, .slice none 0 0, .int .i64 0]::Z::R) w3):=by have h4:=riA_snoc (⟨k,xa,xn,xc,xr⟩:Ri) h3.out;rw [HX.out] at h4;have h5:=HALL.out;rw [if_neg (by simp)] at h5;rw [h5] at h4;exact h4
            clear HS h3 c0 c1 c2 d0 d1 d2 f1 f2 g0 g1 g2 bl1 bl2 Hlen;have hs:=H3.out;obtain ⟨_,hb1⟩:=hs.has 1 rfl;obtain ⟨_,hb2⟩:=hs.has 2 rfl;have c0:=(blk_get hb1).1 0;have c1:=(blk_get hb1).1 1;have c2:=(blk_get hb1).1 2;have f1:=(blk_get hb1).2.1 1;have f2:=(blk_get hb1).2.1 2;have d0:=(blk_get hb2).1 0;have d1:=(blk_get hb2).1 1;have d2:=(blk_get hb2).1 2;have g0:=(blk_get hb2).2.1 0;have g1:=(blk_get hb2).2.1 1;have g2:=(blk_get hb2).2.1 2;have bl1:=(blk_get hb1).2.2;have bl2:=(blk_get hb2).2.2;simp only [List.getElem?_toArray,List.getElem?_cons_zero,List.getElem?_cons_succ] at c0 c1 c2 d0 d1 d2;obtain ⟨_,hrow⟩:=hs.has 0 rfl;obtain ⟨ya,yc,hyy⟩:=(riA_sl hrow).shape;subst hyy;obtain ⟨m,hm⟩:∃m,(putR k X l).length=m:=⟨_,rfl⟩
            rw [hm] at hs;have HF1:=Lib.hid (setRS hs (.slice ya m yc));have HF2:=Lib.hid (setRN hs (.slice ya m yc) (k+1));rw [hm];clear hs hrow hb1 hb2 hm H3;by_cases hnx:next<=k
            · have hmx:max next (k+1)=k+1:=by omega
              have HMX:=Lib.hid hmx;clear hmx;go_wp2;refine bodyPost_ret (v:=.tuple #[.agg #[.int .i64 cols, .slice ya m yc, .int .i64 (k+1)], .int .i64 0]) (by clear HV HAL HSL HST HF1 HF2;simp [results,Tryz.results33,go_sem, *]) rfl ?_;refine ⟨.slice ya m yc,?_, .inl ⟨rfl,?_⟩⟩
              · rw [HMX.out];rfl
              · rw [show X.id=k by rw [<-HX.out]]
                exact HF2.out
            · have hmx:max next (k+1)=next:=by omega
              have HMX:=Lib.hid hmx;clear hmx;go_wp2;refine bodyPost_ret (v:=.tuple #[.agg #[.int .i64 cols, .slice ya m yc, .int .i64 next], .int .i64 0]) (by clear HV HAL HSL HST HF1 HF2;simp [results,Tryz.results33,go_sem, *]) rfl ?_;refine ⟨.slice ya m yc,?_, .inl ⟨rfl,?_⟩⟩
              · rw [HMX.out];rfl
              · rw [show X.id=k by rw [<-HX.out]]
                exact HF1.out
          · have H3:Hid (St w0 fp0 (riA u8 (putR k X l)::blkA vb 37 #[.int .i64 cols, .slice a i c, .int .i64 next]::blkA (vb+1) 37 #[.int .i64 0, .slice none 0 0, .int .i64 0]::Z::R) wr):=by
             have h5:=HALL.out;rw [if_pos rfl] at h5;have h4:=HS.out;rw [h5] at h4;exact h4
            clear HS c0 c1 c2 d0 d1 d2 f1 f2 g0 g1 g2 bl1 bl2 Hlen;have hs:=H3.out;obtain ⟨_,hb1⟩:=hs.has 1 rfl;obtain ⟨_,hb2⟩:=hs.has 2 rfl;have c0:=(blk_get hb1).1 0;have c1:=(blk_get hb1).1 1;have c2:=(blk_get hb1).1 2;have f1:=(blk_get hb1).2.1 1;have f2:=(blk_get hb1).2.1 2;have d0:=(blk_get hb2).1 0;have d1:=(blk_get hb2).1 1;have d2:=(blk_get hb2).1 2;have g0:=(blk_get hb2).2.1 0;have g1:=(blk_get hb2).2.1 1;have g2:=(blk_get hb2).2.1 2;have bl1:=(blk_get hb1).2.2;have bl2:=(blk_get hb2).2.2;simp only [List.getElem?_toArray,List.getElem?_cons_zero,List.getElem?_cons_succ] at c0 c1 c2 d0 d1 d2;obtain ⟨_,hrow⟩:=hs.has 0 rfl;obtain ⟨ya,yc,hyy⟩:=(riA_sl hrow).shape;subst hyy;obtain ⟨m,hm⟩:∃m,(putR k X l).length=m:=⟨_,rfl⟩
            rw [hm] at hs;have HF1:=Lib.hid (setRS hs (.slice ya m yc));have HF2:=Lib.hid (setRN hs (.slice ya m yc) (k+1));rw [hm];clear hs hrow hb1 hb2 hm H3;by_cases hnx:next<=k
            · have hmx:max next (k+1)=k+1:=by omega
              have HMX:=Lib.hid hmx;clear hmx;go_wp2;refine bodyPost_ret (v:=.tuple #[.agg #[.int .i64 cols, .slice ya m yc, .int .i64 (k+1)], .int .i64 0]) (by clear HV HAL HSL HST HF1 HF2;simp [results,Tryz.results33,go_sem, *]) rfl ?_;refine ⟨.slice ya m yc,?_, .inl ⟨rfl,?_⟩⟩
              · rw [HMX.out];rfl
              · rw [show X.id=k by rw [<-HX.out]]
                exact HF2.out
            · have hmx:max next (k+1)=next:=by omega
              have HMX:=Lib.hid hmx;clear hmx;go_wp2;refine bodyPost_ret (v:=.tuple #[.agg #[.int .i64 cols, .slice ya m yc, .int .i64 next], .int .i64 0]) (by clear HV HAL HSL HST HF1 HF2;simp [results,Tryz.results33,go_sem, *]) rfl ?_;refine ⟨.slice ya m yc,?_, .inl ⟨rfl,?_⟩⟩
              · rw [HMX.out];rfl
              · rw [show X.id=k by rw [<-HX.out]]
                exact HF1.out
theorem RPut_calls (cols:Nat) (lv:Value) (next:Int) (x:Ri) (l:List Ri) (hasc:l.Pairwise λ a b=> a.id < b.id) (hlen:l.length < 400000000000) (w0 w:World) (fp0:List Nat) (R:List Asn) (hv:Rd w0 fp0 R λ w=> ValsAt w x.r x.v) (hS:St w0 fp0 (riA lv l::R) w):
 Calls Tryz.prog 33 #[rsV cols lv next, .int .i64 x.id,x.v] w λ e w'=> ∃lv2,e=.returned (.tuple #[rsV cols lv2 (putN cols x.id x.r next),errV (putOk cols x.id x.r)])/\PutPost w0 fp0 R (putOk cols x.id x.r) lv lv2 x l w':=RPut_callsZ _ cols lv next x l hasc hlen w0 w fp0 R hv (Rd.of_piece 0 rfl λ _ _ h=> riA_sl h) hS
theorem RInsert_callsZ (Z:Asn) (cols:Nat) (lv:Value) (x:Ri) (l:List Ri) (hasc:l.Pairwise λ a b=> a.id < b.id) (hlen:l.length < 400000000000) (w0 w:World) (fp0:List Nat) (R:List Asn) (hv:Rd w0 fp0 R λ w=> ValsAt w x.r x.v) (hz:Rd w0 fp0 (Z::R) λ w=> SlX [] w 2 l.length (riV l) lv) (hS:St w0 fp0 (Z::R) w):
 Calls Tryz.prog 22 #[rsV cols lv x.id,x.v] w λ e w'=> ∃lv2,e=.returned (.tuple #[rsV cols lv2 (putN cols x.id x.r x.id), .int .i64 (insV cols x.r x.id)])/\PutPostZ Z w0 fp0 R (putOk cols x.id x.r) lv lv2 x l w':=by
 obtain ⟨a,c,rfl⟩:=(hz.here hS).shape;obtain ⟨n,hn⟩:∃n,l.length=n:=⟨_,rfl⟩
 rw [hn] at hz ⊢;have h1:=(hS.newblk 37 #[.int .i64 cols, .slice a n c, .int .i64 x.id]).newblk 37 #[.int .i64 0, .slice none 0 0, .int .i64 0];simp only [World.size_alloc] at h1;have h2:St w0 fp0 (Z::(blkA (w.heap.size+1) 37 #[.int .i64 0, .slice none 0 0, .int .i64 0]::blkA w.heap.size 37 #[.int .i64 cols, .slice a n c, .int .i64 x.id]::R)) _:=St_re (L:=[_,_,_]) h1 [2,0,1] [] (by kernel_rfl);have HP:=Lib.hid (RPut_callsZ Z cols (.slice a n c) x.id x l hasc hlen w0 _ fp0 _ ((hv.cons _).cons _) (by rw [hn];exact (hz.app [_,_]).perm (List.perm_middle (l₁:=[_,_])).symm) h2);have H1:=Lib.hid h2;unfold insV;obtain ⟨N2,hN2⟩:∃N2,putN cols x.id x.r x.id=N2:=⟨_,rfl⟩
 obtain ⟨q,hq⟩:∃q,putOk cols x.id x.r=q:=⟨_,rfl⟩
 rw [hq,hN2] at HP ⊢;have HQF:Hid (q=false->N2=x.id):=λ e=> by rw [<-hN2,putN,hq,e];rfl
 unfold rsV at *;unfold Ri.v at *;clear hS h1 h2 hz hv hasc hlen hn hq hN2;have hb:True:=trivial;clear hb;go_enter Tryz.func22,Tryz.ntmps22;go_upto_region 1 with (fail)
 generalize hW:(w.alloc _).alloc _=W at *;clear hW;obtain ⟨vb,hvb⟩:∃vb,w.heap.size=vb:=⟨_,rfl⟩
 rw [hvb] at HP H1 ⊢;clear hvb;obtain ⟨_,hb1⟩:=H1.out.has 2 rfl;have c0:=(blk_get hb1).1 0;have c1:=(blk_get hb1).1 1;have c2:=(blk_get hb1).1 2;have bl1:=(blk_get hb1).2.2;simp only [List.getElem?_toArray,List.getElem?_cons_zero,List.getElem?_cons_succ] at c0 c1 c2;clear hb1 H1;go_wp2_with fail;(with_reducible refine HP.out.mono ?_);rintro e w1 ⟨lv2,rfl,hpp⟩;cases q with
 | true=>
  obtain ⟨-,hs⟩:True/\St w0 fp0 (riA lv2 (putR x.id x l)::Z::blkA (vb+1) 37 #[.int .i64 0, .slice none 0 0, .int .i64 0]::blkA vb 37 #[.int .i64 cols, .slice a n c, .int .i64 x.id]::R) w1:=by
   rcases hpp with ⟨_,h⟩ | ⟨h,_⟩
   · exact ⟨trivial,h⟩
   · cases h
  obtain ⟨_,hrow⟩:=hs.has 0 rfl;obtain ⟨ya,yc,hyy⟩:=(riA_sl hrow).shape;subst hyy;obtain ⟨m,hm⟩:∃m,(putR x.id x l).length=m:=⟨_,rfl⟩
  rw [hm] at hs ⊢;have hs':=hs.mono ((Below.refl _ w1).alloc (Nat.le_refl _) (.cells #[.int .i64 cols, .slice ya m yc, .int .i64 N2] 37));obtain ⟨_,hb2⟩:=hs'.has 2 rfl;have d0:=(blk_get hb2).1 0;have d1:=(blk_get hb2).1 1;have d2:=(blk_get hb2).1 2;have g0:=(blk_get hb2).2.1 0;have g1:=(blk_get hb2).2.1 1;have g2:=(blk_get hb2).2.1 2;have bl2:=(blk_get hb2).2.2;simp only [List.getElem?_toArray,List.getElem?_cons_zero,List.getElem?_cons_succ] at d0 d1 d2;have HF:Hid (PutPostZ Z w0 fp0 R true (.slice a n c) (.slice ya m yc) x l ((((w1.alloc (.cells #[.int .i64 cols, .slice ya m yc, .int .i64 N2] 37)).setCell ⟨vb+1,0,none⟩ (.int .i64 cols)).setCell ⟨vb+1,1,none⟩ (.slice ya m yc)).setCell ⟨vb+1,2,none⟩ (.int .i64 N2))):=by have h5:=((((St_re (L:=[_,_,_,_]) hs' [2,3,0,1] [] (by kernel_rfl)).setB 0 (by simp) (.int .i64 cols)).setB 1 (by simp) (.slice ya m yc)).setB 2 (by simp) (.int .i64 N2)).drop.drop;exact .inl ⟨rfl,h5⟩
  clear hs hs' hb2 hrow hm hpp HP c0 c1 c2 bl1;unfold errV;go_upto_region 3 with (fail)
  generalize hW:w1.alloc _=W3 at *;have k0:=World.cell?_alloc_new w1 #[.int .i64 cols, .slice ya m yc, .int .i64 N2] 37 0;have k1:=World.cell?_alloc_new w1 #[.int .i64 cols, .slice ya m yc, .int .i64 N2] 37 1;have k2:=World.cell?_alloc_new w1 #[.int .i64 cols, .slice ya m yc, .int .i64 N2] 37 2;rw [hW] at k0 k1 k2;simp only [List.getElem?_toArray,List.getElem?_cons_zero,List.getElem?_cons_succ] at k0 k1 k2;have kl:=World.block_lt_of_cell? W3 _ k0;clear hW;go_wp2;refine bodyPost_ret (v:=.tuple #[.agg #[.int .i64 cols, .slice ya m yc, .int .i64 N2], .int .i64 x.id]) (by clear HF;simp [results,Tryz.results22,go_sem, *]) rfl ?_;exact ⟨_,rfl,HF.out⟩
 | false=>
  obtain ⟨hlv,hs⟩:lv2=.slice a n c/\St w0 fp0 (Z::blkA (vb+1) 37 #[.int .i64 0, .slice none 0 0, .int .i64 0]::blkA vb 37 #[.int .i64 cols, .slice a n c, .int .i64 x.id]::R) w1:=by
   rcases hpp with ⟨h,_⟩ | ⟨_,h1,h⟩
   · cases h
   · exact ⟨h1,h⟩
  subst hlv;have hN2:=HQF.out rfl;subst hN2;have hs':=hs.mono ((Below.refl _ w1).alloc (Nat.le_refl _) (.cells #[.int .i64 cols, .slice a n c, .int .i64 x.id] 37));obtain ⟨_,hb1⟩:=hs'.has 2 rfl;obtain ⟨_,hb2⟩:=hs'.has 1 rfl;have k0:=(blk_get hb1).1 0;have k1:=(blk_get hb1).1 1;have k2:=(blk_get hb1).1 2;have kl:=(blk_get hb1).2.2;have d0:=(blk_get hb2).1 0;have d1:=(blk_get hb2).1 1;have d2:=(blk_get hb2).1 2;have g0:=(blk_get hb2).2.1 0;have g1:=(blk_get hb2).2.1 1;have g2:=(blk_get hb2).2.1 2;have bl2:=(blk_get hb2).2.2;simp only [List.getElem?_toArray,List.getElem?_cons_zero,List.getElem?_cons_succ] at d0 d1 d2 k0 k1 k2;have HF:Hid (PutPostZ Z w0 fp0 R false (.slice a n c) (.slice a n c) x l ((((w1.alloc (.cells #[.int .i64 cols, .slice a n c, .int .i64 x.id] 37)).setCell ⟨vb+1,0,none⟩ (.int .i64 cols)).setCell ⟨vb+1,1,none⟩ (.slice a n c)).setCell ⟨vb+1,2,none⟩ (.int .i64 x.id))):=by have h5:=((((St_re (L:=[_,_,_]) hs' [1,2,0] [] (by kernel_rfl)).setB 0 (by simp) (.int .i64 cols)).setB 1 (by simp) (.slice a n c)).setB 2 (by simp) (.int .i64 x.id)).drop.drop;exact .inr ⟨rfl,rfl,h5⟩
  clear hs hs' hb1 hb2 hpp HP c0 c1 c2 bl1;unfold errV;go_upto_region 3 with (fail)
  generalize hW:w1.alloc _=W3 at *;clear hW;go_wp2;refine bodyPost_ret (v:=.tuple #[.agg #[.int .i64 cols, .slice a n c, .int .i64 x.id], .int .i64 0]) (by clear HF;simp [results,Tryz.results22,go_sem, *]) rfl ?_;exact ⟨_,rfl,HF.out⟩
theorem RInsert_calls (cols:Nat) (lv:Value) (x:Ri) (l:List Ri) (hasc:l.Pairwise λ a b=> a.id < b.id) (hlen:l.length < 400000000000) (w0 w:World) (fp0:List Nat) (R:List Asn) (hv:Rd w0 fp0 R λ w=> ValsAt w x.r x.v) (hS:St w0 fp0 (riA lv l::R) w):
 Calls Tryz.prog 22 #[rsV cols lv x.id,x.v] w λ e w'=> ∃lv2,e=.returned (.tuple #[rsV cols lv2 (putN cols x.id x.r x.id), .int .i64 (insV cols x.r x.id)])/\PutPost w0 fp0 R (putOk cols x.id x.r) lv lv2 x l w':=RInsert_callsZ _ cols lv x l hasc hlen w0 w fp0 R hv (Rd.of_piece 0 rfl λ _ _ h=> riA_sl h) hS
def itG (x:Ri) (args:Array Value):Asn:=exA λ q:Option Addr×Nat=> starA [pureA (args=#[.int .i64 x.id, .slice q.1 x.r.length q.2]),rowA 29 3 (.slice q.1 x.r.length q.2) x.r.length (flat x.r)]
theorem itG_in {w0 w:World} {fp0:List Nat} {R:List Asn} {x:Ri} {v:Value} (h:St w0 fp0 (rowA 29 3 v x.r.length (flat x.r)::R) w):St w0 fp0 (itG x #[.int .i64 x.id,v]::R) w:=by
 obtain ⟨_,hr⟩:=h.has 0 rfl;obtain ⟨a,c,rfl, -⟩:=row_shape hr;have h1:St w0 fp0 ([pureA (#[Value.int .i64 x.id, .slice a x.r.length c]=#[Value.int .i64 x.id, .slice a x.r.length c]),rowA 29 3 (.slice a x.r.length c) x.r.length (flat x.r)]++R) w:=St.pure.2 ⟨rfl,h⟩;exact h1.fold λ f hf=> ⟨(a,c),hf⟩
theorem itG_out {w0 w:World} {fp0:List Nat} {R:List Asn} {x:Ri} {args:Array Value} (h:St w0 fp0 (itG x args::R) w):∃a c,args=#[.int .i64 x.id, .slice a x.r.length c]/\St w0 fp0 (rowA 29 3 (.slice a x.r.length c) x.r.length (flat x.r)::R) w:=by
 obtain ⟨⟨a,c⟩,h1⟩:=St.exE h;have h2:=St.star.1 h1;obtain ⟨h3,h4⟩:=St.pure.1 h2;exact ⟨a,c,h3,h4⟩
def rowF (i d:Nat) (B n:Nat) (xs:List Value):Ft:=⟨i,d,λ w v=> ∃f,(rowA 29 3 v n xs).p w f/\∀k∈f,B<=k,λ _w _w' v ⟨f,h1,h2⟩ hb=> ⟨f,(rowA 29 3 v n xs).loc h1 (λ k hk=> hb.block k ((rowA 29 3 v n xs).lt h1 k hk)),h2⟩⟩
def oE3:Array Oper:=opsR Tryz.f84 3
def fE3 (l eb:Nat) (x:Ri) (B:Nat):List Ft:=[.const 0 12 (.func (.yield l) #[] #[]), .const 1 13 (.pointer (some ⟨eb,0,none⟩)), .const 2 14 (.int .i64 x.id), .const 3 15 (.pointer (some ⟨eb,1,none⟩)), .const 4 16 x.v,rowF 5 17 B x.r.length (flat x.r)]
theorem each_reg (l eb m:Nat) (x:Ri) {c:Code} {a:Act} {w:World} {Q:Exit->Act->World->Prop} (c1:isReg c=true) (c2:c=.region 3 oE3 true) (hsz:a.tmps.size=21) (h0:a.eval (.tmp 0)=.func (.yield l) #[] #[]) (h4:a.eval (.tmp 4)=.pointer (some ⟨eb,0,none⟩))
 (e0:w.cell? ⟨eb,0,none⟩=some (.int .i64 x.id)) (e1:w.cell? ⟨eb,1,none⟩=some x.v) (hr:ValsAt w x.r x.v) (hl:x.r.length < 1099511627776)
 (hend:∀v w1,Below w.heap.size w w1->(∃f,(rowA 29 3 v x.r.length (flat x.r)).p w1 f/\∀k∈f,w.heap.size<=k)->wpListIn Fence.wide m Tryz.prog oE3 Q (oE3.toList.drop 6) (putL a [(12, .func (.yield l) #[] #[]),(13, .pointer (some ⟨eb,0,none⟩)),(14, .int .i64 x.id),(15, .pointer (some ⟨eb,1,none⟩)),(16,x.v),(17,v)]) w1):c.wpIn Fence.wide m Tryz.prog Q a w:=by
 subst c2;have hebl:=World.block_lt_of_cell? w _ e0;refine wpIn_region_tail 6 [12,13,14,15,16,17] (fE3 l eb x w.heap.size) rfl (by kernel_rfl) (by rw [show oE3.size=8 by kernel_rfl];omega) (by kernel_rfl) (by kernel_rfl) (by kernel_rfl) (by kernel_rfl) (by simp [fE3,Ft.const,rowF]) (by simp [fE3,Ft.const,rowF]) (by intro f hf;simp only [fE3,List.mem_cons,List.not_mem_nil,or_false] at hf;rcases hf with rfl | rfl | rfl | rfl | rfl | rfl <;> simp [Ft.const,rowF,hsz]) ?_ ?_
 · intro f hf o a1 w1 ho hb hold hfacts K hK
   simp only [fE3,List.mem_cons,List.not_mem_nil,or_false] at hf;have D:∀g∈fE3 l eb x w.heap.size,waitsB oE3 f.i g.i=true->g.p w1 (a1.eval (.tmp g.d)):=hfacts;have z0:=eval_spell ((hold 0 (by simp)).trans h0);have z4:=eval_spell ((hold 4 (by simp)).trans h4);rcases hf with rfl | rfl | rfl | rfl | rfl | rfl
   · have hl:oE3[0]? =some ⟨some 12,Op.move (.tmp 0),_,_,_,none⟩:=rfl
     obtain rfl:=Option.some.inj (ho.symm.trans hl);exact wp_of_value (d:=12) (v:=.func (.yield l) #[] #[]) (w':=w1) rfl (by simp [go_sem,execOp,Act.eval,z0]) (hK _ _ (Below.refl _ _) rfl)
   · have hl:oE3[1]? =some ⟨some 13,Op.fieldAddr _ (.tmp 4) 0,_,_,_,none⟩:=rfl
     obtain rfl:=Option.some.inj (ho.symm.trans hl);exact wp_of_value (d:=13) (v:=.pointer (some ⟨eb,0,none⟩)) (w':=w1) rfl (by simp [go_sem,execOp,Act.eval,z4]) (hK _ _ (Below.refl _ _) rfl)
   · have hl:oE3[2]? =some ⟨some 14,Op.load _ (.tmp 13),_,_,_,none⟩:=rfl
     obtain rfl:=Option.some.inj (ho.symm.trans hl);have x13:a1.eval (.tmp 13)=.pointer (some ⟨eb,0,none⟩):=D (.const 1 13 _) (by simp [fE3]) (by kernel_rfl:waitsB oE3 2 1=true);exact wp_of_value (d:=14) (v:=.int .i64 x.id) (w':=w1) rfl (exec_load1 rfl (by kernel_rfl) x13 ((hb.cell (p:=⟨eb,0,none⟩) hebl).trans e0)) (hK _ _ (Below.refl _ _) rfl)
   · have hl:oE3[3]? =some ⟨some 15,Op.fieldAddr _ (.tmp 4) 1,_,_,_,none⟩:=rfl
     obtain rfl:=Option.some.inj (ho.symm.trans hl);exact wp_of_value (d:=15) (v:=.pointer (some ⟨eb,1,none⟩)) (w':=w1) rfl (by simp [go_sem,execOp,Act.eval,z4]) (hK _ _ (Below.refl _ _) rfl)
   · have hl:oE3[4]? =some ⟨some 16,Op.load _ (.tmp 15),_,_,_,none⟩:=rfl
     obtain rfl:=Option.some.inj (ho.symm.trans hl);have x15:a1.eval (.tmp 15)=.pointer (some ⟨eb,1,none⟩):=D (.const 3 15 _) (by simp [fE3]) (by kernel_rfl:waitsB oE3 4 3=true);exact wp_of_value (d:=16) (v:=x.v) (w':=w1) rfl (exec_load1 rfl (by kernel_rfl) x15 ((hb.cell (p:=⟨eb,1,none⟩) hebl).trans e1)) (hK _ _ (Below.refl _ _) rfl)
   · have hl':oE3[5]? =some ⟨some 17,Op.call ⟨Callee.value (Operand.func _),#[Operand.tmp 16],_⟩,_,_,_,none⟩:=rfl
     obtain rfl:=Option.some.inj (ho.symm.trans hl');have x16:a1.eval (.tmp 16)=x.v:=D (.const 4 16 _) (by simp [fE3]) (by kernel_rfl:waitsB oE3 5 4=true);have z16:=eval_spell x16;refine wp_of_call (d:=17) (f:=37) (args:=#[x.v]) rfl (by simp [go_sem,Act.eval,z16]) (cloneW (flat x.r) x.r.length x.v w1 (hr.mono hb).1 (one_flat _) hl) ?_;rintro e w2 ⟨v,f,rfl,h2,h3,h5⟩;exact ⟨_,rfl,hK _ _ h3 ⟨f,h2,λ k hk=> Nat.le_trans hb.size (h5 k hk)⟩⟩
 · intro a1 w1 hfr hb hall
   have g0:=hall (.const 0 12 (.func (.yield l) #[] #[])) (by simp [fE3]);have g1:=hall (.const 1 13 (.pointer (some ⟨eb,0,none⟩))) (by simp [fE3]);have g2:=hall (.const 2 14 (.int .i64 x.id)) (by simp [fE3]);have g3:=hall (.const 3 15 (.pointer (some ⟨eb,1,none⟩))) (by simp [fE3]);have g4:=hall (.const 4 16 x.v) (by simp [fE3]);have g5:=hall (rowF 5 17 w.heap.size x.r.length (flat x.r)) (by simp [fE3]);rw [frame_eq hfr (cons_eq g0 (cons_eq g1 (cons_eq g2 (cons_eq g3 (cons_eq g4 (cons_eq rfl rfl))))))];exact hend _ w1 hb g5
theorem each1_seq (f:Nat) (caps:Array Value) (cb:Nat) (its:List Ri) (LC:List Asn) (he:∀args w,(callFunc f args).run Tryz.prog w=.ok (.enter f args) w) (hlen:its.length < 1099511627776) (hrl:∀x∈its,x.r.length < 1099511627776)
 (hcol:∀(w0:World) (fp0:List Nat) (R:List Asn) (w:World),St w0 fp0 (blkA cb 109 #[.func (.func f) #[] caps]::(LC++R)) w->Calls Tryz.prog f caps w λ e w'=> ∃v,e=.returned v/\St w0 fp0 (rowA 114 2 v its.length (riV its)::blkA cb 109 #[.func (.func f) #[] caps]::(LC++R)) w') (n:Nat):
 SeqG n Tryz.prog 84 #[.pointer (some ⟨cb,0,none⟩)] 2 itG (λ W=> ∀x∈its,ValsAt W x.r x.v) its (blkA cb 109 #[.func (.func f) #[] caps]::LC):=by
 intro y R J Jx w0 fp0 W hS h0 hq hY;refine callsIn_wide.2 ?_;have hS':St w0 fp0 (blkA cb 109 #[.func (.func f) #[] caps]::(LC++R)) W:=hS;have HC:=Lib.hid (hcol w0 fp0 R W hS');have H0:Hid (∀v W,St w0 fp0 (rowA 114 2 v its.length (riV its)::blkA cb 109 #[.func (.func f) #[] caps]::(LC++R)) W->St w0 fp0 (J []++[rowA 114 2 v its.length (riV its)]) W):=λ v W h=> h0 [rowA 114 2 v its.length (riV its)] W (by have h1:St w0 fp0 ([rowA 114 2 v its.length (riV its)]++((blkA cb 109 #[.func (.func f) #[] caps]::LC)++R)) W:=h;exact h1.comm);have HQ:=Lib.hid hq;have HY:=Lib.hid hY;have HRL:=Lib.hid hrl;obtain ⟨N,hN⟩:∃N,its.length=N:=⟨_,rfl⟩
 have HN:=Lib.hid hN;rw [hN] at HC H0;obtain ⟨_,hb⟩:=hS'.has 0 rfl;have c0:=(blk_get hb).1 0;have cl:=(blk_get hb).2.2;simp only [List.getElem?_toArray,List.getElem?_cons_zero] at c0;have hn63:N<=9223372036854775807:=by omega
 clear hS hS' hcol h0 hq hY hrl hb hN hlen;go_enter Tryz.func84,Tryz.ntmps84;go_wp2_with fail;(with_reducible refine HC.out.mono ?_);rintro e w1 ⟨v,rfl,h1⟩;obtain ⟨_,hrow⟩:=h1.has 0 rfl;obtain ⟨ga,gc,hgv, -⟩:=row_shape hrow;subst hgv;have H2:=Lib.hid (H0.out _ _ h1);clear HC H0 h1 hrow c0 cl;go_wp2;go_loopg [8] N (λ g z wr=> ∃k:Nat,z=.int .i64 k/\g+k=N/\Hid (∃pre rest,its=pre++rest/\pre.length=k/\St w0 fp0 (J pre++[rowA 114 2 (.slice ga N gc) N (riV its)]) wr))
 case atStart=> exact ⟨0,rfl,rfl,⟨[],its,rfl,rfl,H2.out⟩⟩
 case round=>
  clear H2;obtain ⟨k,rfl,hgk,Hr⟩:=hrel;by_cases hk:k < N
  · obtain ⟨pre,rest,hxs,hpl,hs⟩:=Hr.out
    cases rest with
    | nil=>
     exfalso;have:=congrArg List.length hxs;rw [HN.out,List.append_nil] at this;omega
    | cons x rest=>
     obtain ⟨_,hrw⟩:=St.has (i:=0) (A:=rowA 114 2 (.slice ga N gc) N (riV its)) hs.comm rfl;have hkl:k < its.length:=by rw [HN.out];exact hk
     have hxk:its[k]=x:=by
      have:its[k]? =some x:=by rw [hxs,<-hpl];simp
      rw [List.getElem?_eq_getElem hkl] at this;exact Option.some.inj this
     have hsl:=row_sl hrw (by rw [riV_len,HN.out]);rw [<-HN.out] at hsl;obtain ⟨gb,go,gc',e0,q0,q1⟩:=ri_cells hsl k hkl;obtain ⟨rfl, -, -⟩:=Value.slice.inj e0;rw [hxk] at q0 q1;have hvr:=HQ.out pre _ wr hs x (by rw [hxs];simp);have hql:=World.block_lt_of_cell? wr _ q0;have Hs:=Lib.hid hs;have Hxs:=Lib.hid hxs;have Hpl:=Lib.hid hpl;have Hgk:=Lib.hid hgk;have HVR:=Lib.hid hvr;have Hxl:=Lib.hid (HRL.out x (by rw [hxs];simp));have hkn:(k:Int) < N:=by omega
     obtain ⟨xid,xa,xn,xc,xr⟩:=x;unfold Ri.v at q1;simp only at q0 q1;clear hs hxs hpl hrw hkl hxk hsl e0 hvr Hr hgk;go_upto_region 3 with (fail)
     generalize hW2:wr.alloc _=W2;have hb2:Below wr.heap.size wr W2:=by rw [<-hW2];exact (Below.refl _ _).alloc (Nat.le_refl _) _
     have d0:=World.cell?_alloc_new wr _ _ 0 |>.symm.trans (congrArg (λ w=> World.cell? w ⟨wr.heap.size,0,none⟩) hW2) |>.symm
     have d1:=World.cell?_alloc_new wr _ _ 1 |>.symm.trans (congrArg (λ w=> World.cell? w ⟨wr.heap.size,1,none⟩) hW2) |>.symm
     simp only [List.getElem?_toArray,List.getElem?_cons_zero,List.getElem?_cons_succ] at d0 d1;have HS2:=Lib.hid (Hs.out.mono hb2);have HV2:=Lib.hid (HVR.out.mono hb2);clear hW2 hb2 q0 q1 hql Hs HVR;refine (wpIn_wide (n:=n)).1 ?_;refine each_reg y wr.heap.size n ⟨xid,xa,xn,xc,xr⟩ rfl rfl rfl rfl rfl d0 d1 HV2.out Hxl.out λ v w2 hb3 ⟨f3,h3,h4⟩=> ?_;have HG:Hid (St w0 fp0 (itG ⟨xid,xa,xn,xc,xr⟩ #[.int .i64 xid,v]::(J pre++[rowA 114 2 (.slice (some ⟨gb,go,none⟩) N gc) N (riV its)])) w2):=by have h5:=St.add HS2.out hb3 h3 h4;refine itG_in (x:=⟨xid,xa,xn,xc,xr⟩) ?_;exact (show St w0 fp0 ((J pre++[rowA 114 2 (.slice (some ⟨gb,go,none⟩) N gc) N (riV its)])++[rowA 29 3 v xr.length (flat xr)]) w2 from h5).comm
     obtain ⟨fn,tmps,assign,body,hy,hR⟩:=HY.out pre ⟨xid,xa,xn,xc,xr⟩ rest _ w2 #[.int .i64 xid,v] Hxs.out rfl HG.out;have HR:=Lib.hid hR;have HSo:Hid (∀W' A,St w0 fp0 (A++[rowA 114 2 (.slice (some ⟨gb,go,none⟩) N gc) N (riV its)]) W'->St w0 fp0 A W'):=λ W' A h=> St.dropAll (A:=[rowA 114 2 (.slice (some ⟨gb,go,none⟩) N gc) N (riV its)]) h.comm;clear hR HG HS2 HV2 d0 d1 hb3;have hd:oE3.toList.drop 6=[⟨some 18, .call ⟨.value (.tmp 12),#[.tmp 14, .tmp 17],_⟩,_,_,_,none⟩,⟨some 19, .unOp .not _ (.tmp 18),_,_,_,none⟩]:=rfl;rw [hd];clear hd;simp only [putL,List.foldl,Act.put,List.setIfInBounds_toArray,List.set_cons_succ,List.set_cons_zero]
     gi_wp2
     refine ⟨λ h=> (by cases h),HR.out.mono ?_⟩;rintro e W' (⟨rfl,hs'⟩ | ⟨rfl,hs'⟩)
     · have Hs':=Lib.hid hs'
       clear hs' HR hy
       gi_wp2
       go_wp2;go_roundg (gk - 1)
       case rel=> exact ⟨k+1,by go_num,by have:=Hgk.out;omega,⟨pre++[⟨xid,xa,xn,xc,xr⟩],rest,by rw [Hxs.out];simp,by rw [List.length_append,Hpl.out];rfl,Hs'.out⟩⟩
       case measure=> have:=Hgk.out;omega
     · have Hs':=Lib.hid (HSo.out _ _ hs')
       clear hs' HR hy HSo
       gi_wp2
       go_wp2;refine bodyPost_ret (results_none rfl _ _ _) rfl ?_;exact ⟨⟨_,rfl⟩, .inr ⟨pre,_,rest,Hxs.out,Hs'.out⟩⟩
  · have hnk:k=N:=by omega
    have Hend:Hid (St w0 fp0 (J its) wr):=by
     obtain ⟨pre,rest,hxs,hpl,hs⟩:=Hr.out;have:rest=[]:=by have:=congrArg List.length hxs;rw [HN.out,List.length_append] at this;exact List.length_eq_zero_iff.1 (by omega)
     subst this;rw [List.append_nil] at hxs;have h2:St w0 fp0 ([rowA 114 2 (.slice ga N gc) N (riV its)]++J pre) wr:=hs.comm;rw [<-hxs] at h2;exact St.dropAll h2
    clear Hr HY HQ hgk hk HN HRL;subst hnk;go_wp2;go_end0;exact ⟨⟨_,rfl⟩, .inl Hend.out⟩
theorem rowE (β:Bool) [OkI β]:RowSpec Tryz.prog (tES β) (tE β) 2:=by
 cases β
 · exact rowSpec (z:=.agg #[.int .i64 0, .slice none 0 0]) (bytes:=32) (by kernel_rfl) (by kernel_rfl) rfl (by omega) (by omega)
 · exact rowSpec (z:=.agg #[.string ⟨#[]⟩, .int .i64 0]) (bytes:=24) (by kernel_rfl) (by kernel_rfl) rfl (by omega) (by omega)
theorem sqCo0 (β:Bool) [OkI β]:Sq (BCollect β) [1,1,1,0,4,4]:=by cases β <;> first | (exact absurd (OkI.ok (β:=true)) (by decide)) | exact isQ (by kernel_rfl)
def gCo4 (β:Bool) (b i nk ck n2 c2:Nat) (vs:Value) (ak a2:Option Addr):=rg Tryz.prog (BCollect β) 4 88 [(20,7)] [(9,nV i),(0,pV b 0)] (Vq 0 20 [Kn i,Kp b 0,Kp b 0,Kp b 0,Kv (.slice ak nk ck),Kn nk,Kv (.bool (decide (i<=nk)))]) [Bk b (tN β) [.slice ak nk ck,vs, .slice a2 n2 c2]]
theorem obCo4 (β:Bool) [OkI β] (b i nk ck n2 c2:Nat) (vs:Value) (ak a2:Option Addr)  (w0:World) (fp0:List Nat) (R:List Asn):(gCo4 β b i nk ck n2 c2 vs ak a2 w0 fp0 R).Ok 7:=by
 cases β <;> first | (exact absurd (OkI.ok (β:=true)) (by decide)) | exact Rg.ok _ 7 [4,6] ⟨.load _ 4 0 0, .leq _ 6 i nk,trivial⟩
theorem cdCo4 (β:Bool) [OkI β]:IsSq (BCollect β) [1,1,1,0,4,4,0] 4:=by cases β <;> first | (exact absurd (OkI.ok (β:=true)) (by decide)) | exact isq (by kernel_rfl)
theorem ccCo26 (β:Bool) [OkI β]:isCond (csnd (cfst (cbody (cbody (cfst (csnd (csnd (csnd (bodyC (BCollect β))))))))))=true/\ccond (csnd (cfst (cbody (cbody (cfst (csnd (csnd (csnd (bodyC (BCollect β))))))))))=.tmp 26:=by cases β <;> first | (exact absurd (OkI.ok (β:=true)) (by decide)) | exact ⟨kr (by kernel_rfl),kr (by kernel_rfl)⟩
theorem isSkipCo1 (β:Bool) [OkI β]:isSkip (cthen (csnd (cfst (cbody (cbody (cfst (csnd (csnd (csnd (bodyC (BCollect β)))))))))))=true:=by cases β <;> first | (exact absurd (OkI.ok (β:=true)) (by decide)) | exact kr (by kernel_rfl)
theorem sqCo2 (β:Bool) [OkI β]:Sq (BCollect β) [1,1,1,0,4,4,1]:=by cases β <;> first | (exact absurd (OkI.ok (β:=true)) (by decide)) | exact isQ (by kernel_rfl)
theorem isBlkCo3 (β:Bool) [OkI β]:isBlk (cfst (csnd (cbody (cbody (cfst (csnd (csnd (csnd (bodyC (BCollect β))))))))))=true:=by cases β <;> first | (exact absurd (OkI.ok (β:=true)) (by decide)) | exact kr (by kernel_rfl)
theorem sqCo4 (β:Bool) [OkI β]:Sq (BCollect β) [1,1,1,0,4,4,1,0,4]:=by cases β <;> first | (exact absurd (OkI.ok (β:=true)) (by decide)) | exact isQ (by kernel_rfl)
def gCo6 (β:Bool) (b nk ck n2 c2:Nat) (vs:Value) (ak a2:Option Addr):=rg Tryz.prog (BCollect β) 6 88 [(29,3)] [(0,pV b 0)] (Vq 0 29 [Kp b 0,Kv (.bool (n2==0)),Kv (.bool (!(n2==0)))]) [Bk b (tN β) [.slice ak nk ck,vs, .slice a2 n2 c2]]
theorem obCo6 (β:Bool) [OkI β] (b nk ck n2 c2:Nat) (vs:Value) (ak a2:Option Addr)  (w0:World) (fp0:List Nat) (R:List Asn):(gCo6 β b nk ck n2 c2 vs ak a2 w0 fp0 R).Ok 3:=by
 cases β <;> first | (exact absurd (OkI.ok (β:=true)) (by decide)) | exact Rg.ok _ 3 [1] ⟨.ask1 _ 1 0 (λ w fp h=> (leaf_calls b _ _ a2 n2 c2 w h).mono λ e w' ⟨h1,h2⟩=> ⟨h1,h2 ▸ Below.refl _ _⟩),trivial⟩
theorem cdCo6 (β:Bool) [OkI β]:IsSq (BCollect β) [1,1,1,0,4,4,1,0,4,0] 6:=by cases β <;> first | (exact absurd (OkI.ok (β:=true)) (by decide)) | exact isq (by kernel_rfl)
theorem ccCo31 (β:Bool) [OkI β]:isCond (csnd (cfst (cbody (cfst (csnd (cbody (cbody (cfst (csnd (csnd (csnd (bodyC (BCollect β)))))))))))))=true/\ccond (csnd (cfst (cbody (cfst (csnd (cbody (cbody (cfst (csnd (csnd (csnd (bodyC (BCollect β)))))))))))))=.tmp 31:=by cases β <;> first | (exact absurd (OkI.ok (β:=true)) (by decide)) | exact ⟨kr (by kernel_rfl),kr (by kernel_rfl)⟩
def gCo7 (β:Bool) (b gp i nk ck n2 c2 cb N0 N1:Nat) (vs v0 pl ph:Value) (ak:Option Addr) (zs e0 e1:List Value) (KD OL OH:Asn):=rgq Tryz.prog (BCollect β) 7 88 [(32,11),(1,1)] [(0,pV b 0),(9,nV i),(2,pl),(3,ph)] [(1,v0,11)] (Vq 0 32 [Kp b 0,Kp b 0,Kp b 2,Ks gp n2 c2,Kn i,Kp gp i,Kp cb 0,Kv v0,Kv pl,Kv ph,Vf.slice]++Vq 11 1 [Fv [42] λ g=> .slice (sa (g 42)) (sn (g 42)) (sc (g 42))]) [.gen [10] [42] λ L g=> match L 10 with | true=> rowA (tE β) 2 (g 42) N1 e1 | false=> rowA (tE β) 2 v0 N0 e0,Bk b (tN β) [.slice ak nk ck,vs,sV gp n2 c2], .sl (tP β) (sV gp n2 c2) zs [], .all (KD), .all (OL), .all (OH)]
theorem obCo7 (β:Bool) [OkI β] (b gp i nk ck n2 c2 cb N0 N1:Nat) (vs v0 pl ph:Value) (ak:Option Addr) (zs e0 e1:List Value) (KD OL OH:Asn) (hi:i < n2) (hzi:zs[i]? =some (ptrV cb)) (hrec:∀(w0:World) (fp0:List Nat) (R:List Asn) (w:World),St w0 fp0 ([rowA (tE β) 2 v0 N0 e0,KD,OL,OH]++R) w->Calls Tryz.prog (fCollect β) #[ptrV cb,v0,pl,ph] w λ e w'=> ∃a n c,e=.returned (.slice a n c)/\St w0 fp0 ([rowA (tE β) 2 (.slice a n c) N1 e1,KD,OL,OH]++R) w') (w0:World) (fp0:List Nat) (R:List Asn):(gCo7 β b gp i nk ck n2 c2 cb N0 N1 vs v0 pl ph ak zs e0 e1 KD OL OH w0 fp0 R).Ok 12:=by
 have h10:∀w,St w0 fp0 ([rowA (tE β) 2 v0 N0 e0,blkA b (tN β) #[.slice ak nk ck,vs, .slice (some ⟨gp,0,none⟩) n2 c2],slA (tP β) (.slice (some ⟨gp,0,none⟩) n2 c2) zs,KD,OL,OH]++R) w->Calls Tryz.prog (fCollect β) #[ptrV cb,v0,pl,ph] w λ e w'=> ∃v a n c,v=.slice a n c/\e=.returned v/\St w0 fp0 ([rowA (tE β) 2 v N1 e1,blkA b (tN β) #[.slice ak nk ck,vs, .slice (some ⟨gp,0,none⟩) n2 c2],slA (tP β) (.slice (some ⟨gp,0,none⟩) n2 c2) zs,KD,OL,OH]++R) w':=λ w h=> (hrec _ _ _ w (St_re (L:=[_,_,_,_,_,_]) h [0,3,4,5] [1,2] (by kernel_rfl))).mono λ e w' ⟨a,n,c,h1,h2⟩=> ⟨.slice a n c,a,n,c,rfl,h1,St_re (L:=[_,_,_,_,_,_]) h2 [0,4,5,1,2,3] [] (by kernel_rfl)⟩
 cases β <;> first | (exact absurd (OkI.ok (β:=true)) (by decide)) | exact Rg.ok _ 12 [3,5,6,10] ⟨.load _ 3 1 2, .index _ 5 gp n2 c2 i hi, .elem _ 6 2 i hzi, .callV _ 10 _ _ h10,trivial⟩
theorem cdCo7 (β:Bool) [OkI β]:IsRg (BCollect β) [1,1,1,0,4,4,1,0,4,0,1,2] 7:=by cases β <;> first | (exact absurd (OkI.ok (β:=true)) (by decide)) | exact irg (by kernel_rfl)
theorem isSkipCo5 (β:Bool) [OkI β]:isSkip (celse (csnd (cfst (cbody (cfst (csnd (cbody (cbody (cfst (csnd (csnd (csnd (bodyC (BCollect β))))))))))))))=true:=by cases β <;> first | (exact absurd (OkI.ok (β:=true)) (by decide)) | exact kr (by kernel_rfl)
theorem sqCo6 (β:Bool) [OkI β]:Sq (BCollect β) [1,1,1,0,4,4,1,0,4,1]:=by cases β <;> first | (exact absurd (OkI.ok (β:=true)) (by decide)) | exact isQ (by kernel_rfl)
theorem sqCo7 (β:Bool) [OkI β]:Sq (BCollect β) [1,1,1,0,4,4,1,0,4,1,0]:=by cases β <;> first | (exact absurd (OkI.ok (β:=true)) (by decide)) | exact isQ (by kernel_rfl)
def gCo8e (β:Bool) (b i nk ck n2 c2:Nat) (vs ph:Value) (ak a2:Option Addr):=rg Tryz.prog (BCollect β) 8 88 [(43,25)] [(9,nV i),(0,pV b 0),(3,ph)] (Vq 0 43 [Kn i,Kp b 0,Kp b 0,Kp b 0,Kv (.slice ak nk ck),Kn nk,Kv (.bool true),Kv (.bool true),Kv undef,Kv undef,Kv undef,Kv undef,Kv undef,Kv undef,Kv undef,Kv undef,Kv undef,Kv undef,Kv undef,Kv undef,Kv undef,Kv undef,Kv undef,Kv undef,Kv (.bool true)]) [Bk b (tN β) [.slice ak nk ck,vs, .slice a2 n2 c2]]
theorem obCo8e (β:Bool) [OkI β] (b i nk ck n2 c2:Nat) (vs ph:Value) (ak a2:Option Addr) (hin:i=nk) (w0:World) (fp0:List Nat) (R:List Asn):(gCo8e β b i nk ck n2 c2 vs ph ak a2 w0 fp0 R).Ok 25:=by
 cases β <;> first | (exact absurd (OkI.ok (β:=true)) (by decide)) | exact Rg.ok _ 25 [4,6,8,9,10,11,12,13,14,15,16,17,18,19,20,21,22,23] ⟨.load _ 4 0 0, .eqlT _ 6 i nk hin, .skip _ 8, .skip _ 9, .skip _ 10, .skip _ 11, .skip _ 12, .skip _ 13, .skip _ 14, .skip _ 15, .skip _ 16, .skip _ 17, .skip _ 18, .skip _ 19, .skip _ 20, .skip _ 21, .skip _ 22, .skip _ 23,trivial⟩
theorem cdCo8e (β:Bool) [OkI β]:IsRg (BCollect β) [1,1,1,0,4,4,1,0,4,1,0,0] 8:=by cases β <;> first | (exact absurd (OkI.ok (β:=true)) (by decide)) | exact irg (by kernel_rfl)
def gCo8n (β:Bool) (b i nk ck n2 c2:Nat) (vs:Value) (ak a2:Option Addr):=rg Tryz.prog (BCollect β) 8 88 [(43,25)] [(9,nV i),(0,pV b 0),(3, .pointer none)] (Vq 0 43 [Kn i,Kp b 0,Kp b 0,Kp b 0,Kv (.slice ak nk ck),Kn nk,Kv (.bool false),Kv (.bool false),Kv (.pointer none),Kv (.bool false),Kv (.bool false),Kv undef,Kv undef,Kv undef,Kv undef,Kv undef,Kv undef,Kv undef,Kv undef,Kv undef,Kv undef,Kv undef,Kv undef,Kv (.bool false),Kv (.bool false)]) [Bk b (tN β) [.slice ak nk ck,vs, .slice a2 n2 c2]]
theorem obCo8n (β:Bool) [OkI β] (b i nk ck n2 c2:Nat) (vs:Value) (ak a2:Option Addr) (hin:i≠nk) (w0:World) (fp0:List Nat) (R:List Asn):(gCo8n β b i nk ck n2 c2 vs ak a2 w0 fp0 R).Ok 25:=by
 cases β <;> first | (exact absurd (OkI.ok (β:=true)) (by decide)) | exact Rg.ok _ 25 [4,6,11,12,13,14,15,16,17,18,19,20,21,22] ⟨.load _ 4 0 0, .eqlF _ 6 i nk hin, .skip _ 11, .skip _ 12, .skip _ 13, .skip _ 14, .skip _ 15, .skip _ 16, .skip _ 17, .skip _ 18, .skip _ 19, .skip _ 20, .skip _ 21, .skip _ 22,trivial⟩
theorem cdCo8n (β:Bool) [OkI β]:IsRg (BCollect β) [1,1,1,0,4,4,1,0,4,1,0,0] 8:=by cases β <;> first | (exact absurd (OkI.ok (β:=true)) (by decide)) | exact irg (by kernel_rfl)
def gCo8k (β:Bool) (b hb gk i nk ck n2 c2:Nat) (vs hh:Value) (r:Int) (k:Ky) (a2:Option Addr) (xs:List Value):=rg Tryz.prog (BCollect β) 8 88 [(43,25)] [(9,nV i),(0,pV b 0),(3,pV hb 0)] (Vq 0 43 [Kn i,Kp b 0,Kp b 0,Kp b 0,Ks gk nk ck,Kn nk,Kv (.bool false),Kv (.bool false),Kp hb 0,Kv (.bool true),Kv (.bool true),Kp b 0,Kp b 0,Kp b 0,Ks gk nk ck,Kn i,Kp gk i,Kv (encK k),Kp hb 0,Kp hb 0,Kv hh,Kv (.int .i64 r),Kv (.bool (decide (0<=r))),Kv (.bool (decide (0<=r))),Kv (.bool (decide (0<=r)))]) [Bk b (tN β) [sV gk nk ck,vs, .slice a2 n2 c2], .sl (tK β) (sV gk nk ck) xs [],Bk hb (tK β) [hh]]
theorem obCo8k (β:Bool) [OkI β] (b hb gk i nk ck n2 c2:Nat) (vs hh:Value) (r:Int) (k:Ky) (a2:Option Addr) (xs:List Value) (hin:i≠nk) (hi:i < nk) (hki:xs[i]? =some (encK k)) (hcmp:∀w,Calls Tryz.prog (fCmp β) #[encK k,hh] w λ e w'=> e=.returned (.int .i64 r)/\Below w.heap.size w w') (w0:World) (fp0:List Nat) (R:List Asn):(gCo8k β b hb gk i nk ck n2 c2 vs hh r k a2 xs w0 fp0 R).Ok 25:=by
 have hc2:∀w fp,(blkA hb (tK β) #[hh]).p w fp->Calls Tryz.prog (fCmp β) #[encK k,hh] w λ e w'=> e=.returned (.int .i64 r)/\Below w.heap.size w w':=λ w _ _=> hcmp w;cases β <;> first | (exact absurd (OkI.ok (β:=true)) (by decide)) | exact Rg.ok _ 25 [4,6,14,16,17,20,21,22] ⟨.load _ 4 0 0, .eqlF _ 6 i nk hin, .load _ 14 0 0, .index _ 16 gk nk ck i hi, .elem _ 17 1 i hki, .load _ 20 2 0, .ask1 _ 21 2 hc2, .geqI _ 22 r 0,trivial⟩
theorem cdCo8k (β:Bool) [OkI β]:IsRg (BCollect β) [1,1,1,0,4,4,1,0,4,1,0,0] 8:=by cases β <;> first | (exact absurd (OkI.ok (β:=true)) (by decide)) | exact irg (by kernel_rfl)
theorem ccCo67 (β:Bool) [OkI β]:isCond (csnd (cfst (csnd (cbody (cfst (csnd (cbody (cbody (cfst (csnd (csnd (csnd (bodyC (BCollect β))))))))))))))=true/\ccond (csnd (cfst (csnd (cbody (cfst (csnd (cbody (cbody (cfst (csnd (csnd (csnd (bodyC (BCollect β))))))))))))))=.tmp 67:=by cases β <;> first | (exact absurd (OkI.ok (β:=true)) (by decide)) | exact ⟨kr (by kernel_rfl),kr (by kernel_rfl)⟩
def gCo9 (β:Bool) (v1:Value):=rg Tryz.prog (BCollect β) 9 88 [(68,1),(8,1)] [(1,v1)] (Vq 0 68 [Kv v1]++Vq 1 8 [Kv v1]) []
theorem obCo9 (β:Bool) [OkI β] (v1:Value)  (w0:World) (fp0:List Nat) (R:List Asn):(gCo9 β v1 w0 fp0 R).Ok 2:=by
 cases β <;> first | (exact absurd (OkI.ok (β:=true)) (by decide)) | exact Rg.ok _ 2 [] trivial
theorem cdCo9 (β:Bool) [OkI β]:IsSq (BCollect β) [1,1,1,0,4,4,1,0,4,1,0,1,2] 9:=by cases β <;> first | (exact absurd (OkI.ok (β:=true)) (by decide)) | exact isq (by kernel_rfl)
theorem isRetCo8 (β:Bool) [OkI β]:isRet (csnd (cthen (csnd (cfst (csnd (cbody (cfst (csnd (cbody (cbody (cfst (csnd (csnd (csnd (bodyC (BCollect β))))))))))))))))=true:=by cases β <;> first | (exact absurd (OkI.ok (β:=true)) (by decide)) | exact kr (by kernel_rfl)
theorem isSkipCo9 (β:Bool) [OkI β]:isSkip (celse (csnd (cfst (csnd (cbody (cfst (csnd (cbody (cbody (cfst (csnd (csnd (csnd (bodyC (BCollect β)))))))))))))))=true:=by cases β <;> first | (exact absurd (OkI.ok (β:=true)) (by decide)) | exact kr (by kernel_rfl)
def gCo10 (β:Bool) (b gk gv cv i nk ck n2 c2 N1:Nat) (v1:Value) (k:Ky) (v:Va) (a2:Option Addr) (xs ys e1:List Value):=rgq Tryz.prog (BCollect β) 10 88 [(69,18),(1,1)] [(0,pV b 0),(9,nV i)] [(1,v1,18)] (Vq 0 69 [Kv v1,Kp b 0,Kp b 0,Kp b 0,Ks gk nk ck,Kn i,Kp gk i,Kv (encK k),Kp b 0,Kp b 0,Kp b 1,Ks gv ys.length cv,Kn i,Kp gv i,Kv (encV v),Kv (.agg #[encK k,encV v]),Vf.box,Vf.slice]++Vq 18 1 [Fv [86] λ g=> .slice (sa (g 86)) (sn (g 86)) (sc (g 86))]) [.new 16 [85] λ g=> boxsA (tE β) (g 85) [encK k,encV v].toArray, .gen [17] [86] λ L g=> match L 17 with | true=> rowA (tE β) 2 (g 86) (N1+1) (e1++[encK k,encV v]) | false=> rowA (tE β) 2 v1 N1 e1,Bk b (tN β) [sV gk nk ck,sV gv ys.length cv, .slice a2 n2 c2], .sl (tK β) (sV gk nk ck) xs [], .sl (tV β) (sV gv ys.length cv) ys []]
theorem obCo10 (β:Bool) [OkI β] (b gk gv cv i nk ck n2 c2 N1:Nat) (v1:Value) (k:Ky) (v:Va) (a2:Option Addr) (xs ys e1:List Value) (hi:i < nk) (hj:i < ys.length) (hki:xs[i]? =some (encK k)) (hvi:ys[i]? =some (encV v)) (hN1:N1+1 < 1099511627776) (w0:World) (fp0:List Nat) (R:List Asn):(gCo10 β b gk gv cv i nk ck n2 c2 N1 v1 k v a2 xs ys e1 w0 fp0 R).Ok 19:=by
 have h1:∀u∈[encK k,encV v],u.oneCell'=true:=by
  intro u hu;rcases List.mem_cons.1 hu with rfl | hu
  · exact encK_one k
  · rw [List.mem_singleton.1 hu];exact encV_one v
 cases k <;> cases v <;> cases β <;> first | (exact absurd (OkI.ok (β:=true)) (by decide)) | exact Rg.ok _ 19 [4,6,7,11,13,14,16,17] ⟨.load _ 4 2 0, .index _ 6 gk nk ck i hi, .elem _ 7 3 i hki, .load _ 11 2 1, .index _ 13 gv ys.length cv i hj, .elem _ 14 4 i hvi, .boxs _ 16 0, .appE _ 17 0 1 (rowE _) hN1 rfl h1,trivial⟩
theorem cdCo10 (β:Bool) [OkI β]:IsRg (BCollect β) [1,1,1,0,4,4,1,0,4,1,1] 10:=by cases β <;> first | (exact absurd (OkI.ok (β:=true)) (by decide)) | exact irg (by kernel_rfl)
def gCo5 (β:Bool) (i:Nat):=rgq Tryz.prog (BCollect β) 5 88 [(27,2),(9,1)] [] [(9,nV i,2)] (Vq 0 27 [Kn i,Kn (i+1)]++Vq 2 9 [Kn (i+1)]) []
theorem obCo5 (β:Bool) [OkI β] (i:Nat) (hi:i+1 < 1099511627777) (w0:World) (fp0:List Nat) (R:List Asn):(gCo5 β i w0 fp0 R).Ok 3:=by
 cases β <;> first | (exact absurd (OkI.ok (β:=true)) (by decide)) | exact Rg.ok _ 3 [1] ⟨.add _ 1 (i) (1) ((i+1:Nat):Int),trivial⟩
theorem cdCo5 (β:Bool) [OkI β]:IsRg (BCollect β) [1,1,1,0,4,4,1,1] 5:=by cases β <;> first | (exact absurd (OkI.ok (β:=true)) (by decide)) | exact irg (by kernel_rfl)
theorem col_round (β:Bool) [OkI β] (b i nk ck n2 c2 cb N0 N1:Nat) (vs v0 pl ph hh:Value) (r:Int) (k:Ky) (v:Va) (ak a2:Option Addr) (xs ys zs e0 e1:List Value) (KD OL OH:Asn) (hnk:nk=xs.length) (hxy:ys.length=xs.length) (hlx:xs.length < 1099511627776) (hn2:n2=zs.length) (hlz:zs.length < 1099511627776) (hN1:N1+1 < 1099511627776) (hik:i<=nk)
 (hky:i < nk->xs[i]? =some (encK k)) (hvy:i < nk->ys[i]? =some (encV v)) (hz:n2≠0->zs[i]? =some (ptrV cb))
 (hX:n2=0->N1=N0/\e1=e0)
 (hrec:n2≠0->∀(w0:World) (fp0:List Nat) (R:List Asn) (w:World),St w0 fp0 ([rowA (tE β) 2 v0 N0 e0,KD,OL,OH]++R) w->Calls Tryz.prog (fCollect β) #[ptrV cb,v0,pl,ph] w λ e w'=> ∃a n c,e=.returned (.slice a n c)/\St w0 fp0 ([rowA (tE β) 2 (.slice a n c) N1 e1,KD,OL,OH]++R) w')
 (hph:ph=.pointer none\/∃hb,ph=.pointer (some ⟨hb,0,none⟩)/\OH=blkA hb (tK β) #[hh])
 (hcmp:ph≠.pointer none->∀w,Calls Tryz.prog (fCmp β) #[encK k,hh] w λ e w'=> e=.returned (.int .i64 r)/\Below w.heap.size w w') (w0 w:World) (fp0:List Nat) (R:List Asn) (A0:Act) (Q:Exit->Act->World->Prop)
 (hStop:(i=nk\/(i < nk/\ph≠.pointer none/\0<=r))->∀(v1:Value) A w',Knows 88 A [(8,v1)]->St w0 fp0 ([rowA (tE β) 2 v1 N1 e1,blkA b (tN β) #[.slice ak nk ck,vs, .slice a2 n2 c2],slA (tK β) (.slice ak nk ck) xs,slA (tV β) (vs) ys,slA (tP β) (.slice a2 n2 c2) zs,KD,OL,OH]++R) w'->Q .ret A w')
 (hNext:i < nk->(ph=.pointer none\/(ph≠.pointer none/\r < 0))->∀(v2:Value) A w',Knows 88 A [(0, .pointer (some ⟨b,0,none⟩)),(1,v2),(2,pl),(3,ph),(9, .int .i64 ((i+1:Nat):Int))]->St w0 fp0 ([rowA (tE β) 2 v2 (N1+1) (e1++[encK k,encV v]),blkA b (tN β) #[.slice ak nk ck,vs, .slice a2 n2 c2],slA (tK β) (.slice ak nk ck) xs,slA (tV β) (vs) ys,slA (tP β) (.slice a2 n2 c2) zs,KD,OL,OH]++R) w'->Q .normal A w')
 (K0:Knows 88 A0 [(0, .pointer (some ⟨b,0,none⟩)),(1,v0),(2,pl),(3,ph),(9, .int .i64 i)]) (hS:St w0 fp0 ([rowA (tE β) 2 v0 N0 e0,blkA b (tN β) #[.slice ak nk ck,vs, .slice a2 n2 c2],slA (tK β) (.slice ak nk ck) xs,slA (tV β) (vs) ys,slA (tP β) (.slice a2 n2 c2) zs,KD,OL,OH]++R) w):(cbody (cbody (cfst (csnd (csnd (csnd (bodyC (BCollect β)))))))).wp Tryz.prog Q A0 w:=by
 refine wp_seqJ (sqCo0 β) (λ A w=> Knows 88 A [(0,pV b 0),(2,pl),(3,ph),(9,nV i),(1,v0)]/\St w0 fp0 ([rowA (tE β) 2 v0 N0 e0,blkA b (tN β) #[.slice ak nk ck,vs, .slice a2 n2 c2],slA (tK β) (.slice ak nk ck) xs,slA (tV β) (vs) ys,slA (tP β) (.slice a2 n2 c2) zs,KD,OL,OH]++R) w) ?_ ?_
 · skip
   refine wp_seqT (cdCo4 β).sq ?_;refine wp_regT (obCo4 β b i nk ck n2 c2 vs ak a2  _ _ _) (by kernel_rfl) (cdCo4 β).cd (K0.sub (by kernel_rfl)) (St_re hS [1] [0,2,3,4,5,6,7] (by kernel_rfl)) λ A1 w1 N1 H1=> ?_;have S1:St w0 fp0 ([blkA b (tN β) #[.slice ak nk ck,vs, .slice a2 n2 c2],rowA (tE β) 2 v0 N0 e0,slA (tK β) (.slice ak nk ck) xs,slA (tV β) (vs) ys,slA (tP β) (.slice a2 n2 c2) zs,KD,OL,OH]++R) w1:=H1;have K1:Knows 88 A1 [(0,pV b 0),(1,v0),(2,pl),(3,ph),(9,nV i),(26, .bool (decide (i<=nk)))]:=N1.knows K0 (by kernel_rfl);refine wp_condK (ccCo26 β) K1 (by rfl) (λ hq=> ?_) (λ hq=> ?_)
   · skip
     refine wp_skipT (isSkipCo1 β) ?_;exact ⟨K1.sub (by kernel_rfl),(St_re S1 [1,0,2,3,4,5,6,7] [] (by kernel_rfl))⟩
   · skip
     exact absurd hik (by simpa using hq)
 · rintro A2 w2 ⟨K2,S2⟩
   refine wp_seqJ (sqCo2 β) (λ A w=> ∃(v2:Value) (hin:i < nk) (hgo:(ph=.pointer none\/(ph≠.pointer none/\r < 0))),Knows 88 A [(0,pV b 0),(1,v2),(2,pl),(3,ph),(9,nV i)]/\St w0 fp0 ([rowA (tE β) 2 v2 (N1+1) (e1++[encK k,encV v]),blkA b (tN β) #[.slice ak nk ck,vs, .slice a2 n2 c2],slA (tK β) (.slice ak nk ck) xs,slA (tV β) (vs) ys,slA (tP β) (.slice a2 n2 c2) zs,KD,OL,OH]++R) w) ?_ ?_
   · skip
     refine wp_blkT (isBlkCo3 β) ?_;refine wp_seqJ (sqCo4 β) (λ A w=> ∃(v1:Value),Knows 88 A [(0,pV b 0),(2,pl),(3,ph),(9,nV i),(1,v1)]/\St w0 fp0 ([rowA (tE β) 2 v1 N1 e1,blkA b (tN β) #[.slice ak nk ck,vs, .slice a2 n2 c2],slA (tK β) (.slice ak nk ck) xs,slA (tV β) (vs) ys,slA (tP β) (.slice a2 n2 c2) zs,KD,OL,OH]++R) w) ?_ ?_
     · skip
       refine wp_seqT (cdCo6 β).sq ?_;refine wp_regT (obCo6 β b nk ck n2 c2 vs ak a2  _ _ _) (by kernel_rfl) (cdCo6 β).cd (K2.sub (by kernel_rfl)) (St_re S2 [1] [0,2,3,4,5,6,7] (by kernel_rfl)) λ A3 w3 N3 H3=> ?_;have S3:St w0 fp0 ([blkA b (tN β) #[.slice ak nk ck,vs, .slice a2 n2 c2],rowA (tE β) 2 v0 N0 e0,slA (tK β) (.slice ak nk ck) xs,slA (tV β) (vs) ys,slA (tP β) (.slice a2 n2 c2) zs,KD,OL,OH]++R) w3:=H3;have K3:Knows 88 A3 [(0,pV b 0),(2,pl),(3,ph),(9,nV i),(1,v0),(31, .bool (!(n2==0)))]:=N3.knows K2 (by kernel_rfl);refine wp_condK (ccCo31 β) K3 (by rfl) (λ hq=> ?_) (λ hq=> ?_)
       · skip
         have hn0:n2≠0:=by simpa using hq
         have hzi:=hz hn0;have hzl:i < zs.length:=(List.getElem?_eq_some_iff.1 hzi).1;obtain ⟨_,q5⟩:=St.has S3 4 rfl;obtain ⟨gp,cp,ep,hpc, -⟩:=sl_some q5 (by omega);obtain ⟨rfl, -,rfl⟩:=Value.slice.inj ep;refine wp_regT (obCo7 β b gp i nk ck n2 c2 cb N0 N1 vs v0 pl ph ak zs e0 e1 KD OL OH (by omega) hzi (hrec hn0) _ _ _) (by kernel_rfl) (cdCo7 β).cd (K3.sub (by kernel_rfl)) (St_re S3 [1,0,4,5,6,7] [2,3] (by kernel_rfl)) λ A4 w4 N4 H4=> ?_;have S4:St w0 fp0 ([rowA (tE β) 2 (slots A4 42) N1 e1,blkA b (tN β) #[.slice ak nk ck,vs,sV gp n2 c2],slA (tP β) (sV gp n2 c2) zs,KD,OL,OH,slA (tK β) (.slice ak nk ck) xs,slA (tV β) (vs) ys]++R) w4:=H4;have K4:Knows 88 A4 [(0,pV b 0),(2,pl),(3,ph),(9,nV i),(31, .bool (!(n2==0)))]:=N4.knows K3 (by kernel_rfl);obtain ⟨a1,n1,c1,e42⟩:∃a n c,slots A4 42=.slice a n c:=⟨_,_,_,N4.val 10 rfl⟩
         rw [e42] at S4;have e1s:slots A4 1=.slice a1 n1 c1:=by have this:slots A4 1=.slice (sa (slots A4 42)) (sn (slots A4 42)) (sc (slots A4 42)):=N4.val 11 rfl;rw [e42] at this;exact this
         have K4:=K4.add 1 (.slice a1 n1 c1) e1s;exact ⟨.slice a1 n1 c1,K4.sub (by kernel_rfl),(St_re S4 [0,1,6,7,2,3,4,5] [] (by kernel_rfl))⟩
       · skip
         refine wp_skipT (isSkipCo5 β) ?_;have hn0:n2=0:=by simpa using hq
         obtain ⟨e3,e4⟩:=hX hn0;obtain rfl:=e3.symm;obtain rfl:=e4.symm;exact ⟨v0,K3.sub (by kernel_rfl),(St_re S3 [1,0,2,3,4,5,6,7] [] (by kernel_rfl))⟩
     · rintro A5 w5 ⟨v1,K5,S5⟩
       refine wp_seqJ (sqCo6 β) (λ A w=> ∃(hin:i < nk) (hgo:(ph=.pointer none\/(ph≠.pointer none/\r < 0))),Knows 88 A [(0,pV b 0),(2,pl),(3,ph),(9,nV i),(1,v1)]/\St w0 fp0 ([rowA (tE β) 2 v1 N1 e1,blkA b (tN β) #[.slice ak nk ck,vs, .slice a2 n2 c2],slA (tK β) (.slice ak nk ck) xs,slA (tV β) (vs) ys,slA (tP β) (.slice a2 n2 c2) zs,KD,OL,OH]++R) w) ?_ ?_
       · skip
         refine wp_seqJ (sqCo7 β) (λ A w=> ∃(st:Bool) (hst:st=true->(i=nk\/(i < nk/\ph≠.pointer none/\0<=r))) (hgo2:st=false->i < nk/\(ph=.pointer none\/(ph≠.pointer none/\r < 0))),Knows 88 A [(0,pV b 0),(2,pl),(3,ph),(9,nV i),(1,v1),(67, .bool st)]/\St w0 fp0 ([rowA (tE β) 2 v1 N1 e1,blkA b (tN β) #[.slice ak nk ck,vs, .slice a2 n2 c2],slA (tK β) (.slice ak nk ck) xs,slA (tV β) (vs) ys,slA (tP β) (.slice a2 n2 c2) zs,KD,OL,OH]++R) w) ?_ ?_
         · skip
           by_cases hin:i=nk
           · skip
             refine wp_regT (obCo8e β b i nk ck n2 c2 vs ph ak a2 hin _ _ _) (by kernel_rfl) (cdCo8e β).cd (K5.sub (by kernel_rfl)) (St_re S5 [1] [0,2,3,4,5,6,7] (by kernel_rfl)) λ A6 w6 N6 H6=> ?_;have S6:St w0 fp0 ([blkA b (tN β) #[.slice ak nk ck,vs, .slice a2 n2 c2],rowA (tE β) 2 v1 N1 e1,slA (tK β) (.slice ak nk ck) xs,slA (tV β) (vs) ys,slA (tP β) (.slice a2 n2 c2) zs,KD,OL,OH]++R) w6:=H6;have K6:Knows 88 A6 [(0,pV b 0),(2,pl),(3,ph),(9,nV i),(1,v1),(67, .bool true)]:=N6.knows K5 (by kernel_rfl);exact ⟨true,λ _=> .inl hin,λ h=> (by cases h),K6.sub (by kernel_rfl),(St_re S6 [1,0,2,3,4,5,6,7] [] (by kernel_rfl))⟩
           · skip
             have hin2:i < nk:=by omega
             rcases hph with rfl | ⟨hb,rfl,rfl⟩
             · skip
               refine wp_regT (obCo8n β b i nk ck n2 c2 vs ak a2 hin _ _ _) (by kernel_rfl) (cdCo8n β).cd (K5.sub (by kernel_rfl)) (St_re S5 [1] [0,2,3,4,5,6,7] (by kernel_rfl)) λ A7 w7 N7 H7=> ?_;have S7:St w0 fp0 ([blkA b (tN β) #[.slice ak nk ck,vs, .slice a2 n2 c2],rowA (tE β) 2 v1 N1 e1,slA (tK β) (.slice ak nk ck) xs,slA (tV β) (vs) ys,slA (tP β) (.slice a2 n2 c2) zs,KD,OL,OH]++R) w7:=H7;have K7:Knows 88 A7 [(0,pV b 0),(2,pl),(3, .pointer none),(9,nV i),(1,v1),(67, .bool false)]:=N7.knows K5 (by kernel_rfl);exact ⟨false,λ h=> (by cases h),λ _=> ⟨hin2, .inl rfl⟩,K7.sub (by kernel_rfl),(St_re S7 [1,0,2,3,4,5,6,7] [] (by kernel_rfl))⟩
             · skip
               have hki:=hky hin2;obtain ⟨_,q2⟩:=St.has S5 2 rfl;obtain ⟨gk,cp,ep,hkc, -⟩:=sl_some q2 (by omega);obtain ⟨rfl, -,rfl⟩:=Value.slice.inj ep;refine wp_regT (obCo8k β b hb gk i nk ck n2 c2 vs hh r k a2 xs hin hin2 hki (hcmp (by simp)) _ _ _) (by kernel_rfl) (cdCo8k β).cd (K5.sub (by kernel_rfl)) (St_re S5 [1,2,7] [0,3,4,5,6] (by kernel_rfl)) λ A8 w8 N8 H8=> ?_;have S8:St w0 fp0 ([blkA b (tN β) #[sV gk nk ck,vs, .slice a2 n2 c2],slA (tK β) (sV gk nk ck) xs,blkA hb (tK β) #[hh],rowA (tE β) 2 v1 N1 e1,slA (tV β) (vs) ys,slA (tP β) (.slice a2 n2 c2) zs,KD,OL]++R) w8:=H8;have K8:Knows 88 A8 [(0,pV b 0),(2,pl),(3,pV hb 0),(9,nV i),(1,v1),(67, .bool (decide (0<=r)))]:=N8.knows K5 (by kernel_rfl);exact ⟨decide (0<=r),λ h=> .inr ⟨hin2,by simp,by simpa using h⟩,λ h=> ⟨hin2, .inr ⟨by simp,by simpa using h⟩⟩,K8.sub (by kernel_rfl),(St_re S8 [3,0,1,4,5,6,7,2] [] (by kernel_rfl))⟩
         · rintro A9 w9 ⟨st,hst,hgo2,K9,S9⟩
           refine wp_condK (ccCo67 β) K9 (by rfl) (λ hq=> ?_) (λ hq=> ?_)
           · skip
             have hs2:=hst hq;refine wp_seqT (cdCo9 β).sq ?_;refine wp_regT (obCo9 β v1  _ _ _) (by kernel_rfl) (cdCo9 β).cd (K9.sub (by kernel_rfl)) (St_re S9 [] [0,1,2,3,4,5,6,7] (by kernel_rfl)) λ A10 w10 N10 H10=> ?_;have S10:St w0 fp0 ([rowA (tE β) 2 v1 N1 e1,blkA b (tN β) #[.slice ak nk ck,vs, .slice a2 n2 c2],slA (tK β) (.slice ak nk ck) xs,slA (tV β) (vs) ys,slA (tP β) (.slice a2 n2 c2) zs,KD,OL,OH]++R) w10:=H10;have K10:Knows 88 A10 [(0,pV b 0),(2,pl),(3,ph),(9,nV i),(1,v1),(67, .bool st),(8,v1)]:=N10.knows K9 (by kernel_rfl);refine wp_retT (isRetCo8 β) ?_;exact hStop hs2 _ _ _ (K10.sub (by kernel_rfl)) (St_re S10 [0,1,2,3,4,5,6,7] [] (by kernel_rfl))
           · skip
             refine wp_skipT (isSkipCo9 β) ?_;obtain ⟨hin,hgo⟩:=hgo2 hq;exact ⟨hin,hgo,K9.sub (by kernel_rfl),(St_re S9 [0,1,2,3,4,5,6,7] [] (by kernel_rfl))⟩
       · rintro A11 w11 ⟨hin,hgo,K11,S11⟩
         have hki:=hky hin;have hvi:=hvy hin;obtain ⟨_,q2⟩:=St.has S11 2 rfl;obtain ⟨_,q3⟩:=St.has S11 3 rfl;obtain ⟨gk,cp,ep,hkc, -⟩:=sl_some q2 (by omega);obtain ⟨rfl, -,rfl⟩:=Value.slice.inj ep;obtain ⟨gv,cv,rfl,hvc, -⟩:=sl_some q3 (by omega);refine wp_regT (obCo10 β b gk gv cv i nk ck n2 c2 N1 v1 k v a2 xs ys e1 hin (by omega) hki hvi hN1 _ _ _) (by kernel_rfl) (cdCo10 β).cd (K11.sub (by kernel_rfl)) (St.emp.2 (St_re S11 [0,1,2,3] [4,5,6,7] (by kernel_rfl))) λ A12 w12 N12 H12=> ?_;have S12:St w0 fp0 ([rowA (tE β) 2 (slots A12 86) (N1+1) (e1++[encK k,encV v]),blkA b (tN β) #[sV gk nk ck,sV gv ys.length cv, .slice a2 n2 c2],slA (tK β) (sV gk nk ck) xs,slA (tV β) (sV gv ys.length cv) ys,slA (tP β) (.slice a2 n2 c2) zs,KD,OL,OH]++R) w12:=(St.drop H12)
         have K12:Knows 88 A12 [(0,pV b 0),(2,pl),(3,ph),(9,nV i)]:=N12.knows K11 (by kernel_rfl);obtain ⟨a3,n3,c3,e86⟩:∃a n c,slots A12 86=.slice a n c:=⟨_,_,_,N12.val 17 rfl⟩
         rw [e86] at S12;have e1s:slots A12 1=.slice a3 n3 c3:=by have this:slots A12 1=.slice (sa (slots A12 86)) (sn (slots A12 86)) (sc (slots A12 86)):=N12.val 18 rfl;rw [e86] at this;exact this
         have K12:=K12.add 1 (.slice a3 n3 c3) e1s;exact ⟨.slice a3 n3 c3,hin,hgo,K12.sub (by kernel_rfl),(St_re S12 [0,1,2,3,4,5,6,7] [] (by kernel_rfl))⟩
   · rintro A13 w13 ⟨v2,hin,hgo,K13,S13⟩
     refine wp_regT (obCo5 β i (by omega) _ _ _) (by kernel_rfl) (cdCo5 β).cd (K13.sub (by kernel_rfl)) (St_re S13 [] [0,1,2,3,4,5,6,7] (by kernel_rfl)) λ A14 w14 N14 H14=> ?_;have S14:St w0 fp0 ([rowA (tE β) 2 v2 (N1+1) (e1++[encK k,encV v]),blkA b (tN β) #[.slice ak nk ck,vs, .slice a2 n2 c2],slA (tK β) (.slice ak nk ck) xs,slA (tV β) (vs) ys,slA (tP β) (.slice a2 n2 c2) zs,KD,OL,OH]++R) w14:=H14;have K14:Knows 88 A14 [(0,pV b 0),(1,v2),(2,pl),(3,ph),(9,nV (i+1))]:=N14.knows K13 (by kernel_rfl);exact hNext hin hgo _ _ _ (K14.sub (by kernel_rfl)) (St_re S14 [0,1,2,3,4,5,6,7] [] (by kernel_rfl))
theorem entCs (β:Bool) [OkI β]:Tryz.prog.funcs[fCollect β]? =some (BCollect β)/\(BCollect β).body=some (bodyC (BCollect β))/\(BCollect β).ntmps=88:=by cases β <;> first | (exact absurd (OkI.ok (β:=true)) (by decide)) | exact ⟨kr (by kernel_rfl),kr (by kernel_rfl),kr (by kernel_rfl)⟩
def gCs0 (β:Bool)  :=rg Tryz.prog (BCollect β) 0 88 [(8,1)] [] (Vq 0 8 [Kv (.slice none 0 0)]) []
theorem obCs0 (β:Bool) [OkI β]   (w0:World) (fp0:List Nat) (R:List Asn):(gCs0 β  w0 fp0 R).Ok 1:=by
 cases β <;> first | (exact absurd (OkI.ok (β:=true)) (by decide)) | exact Rg.ok _ 1 [] trivial
theorem cdCs0 (β:Bool) [OkI β]:IsSq (BCollect β) [] 0:=by cases β <;> first | (exact absurd (OkI.ok (β:=true)) (by decide)) | exact isq (by kernel_rfl)
def gCs1 (β:Bool)  :=rg Tryz.prog (BCollect β) 1 88 [(9,1)] [] (Vq 0 9 [Kn 0]) []
theorem obCs1 (β:Bool) [OkI β]   (w0:World) (fp0:List Nat) (R:List Asn):(gCs1 β  w0 fp0 R).Ok 1:=by
 cases β <;> first | (exact absurd (OkI.ok (β:=true)) (by decide)) | exact Rg.ok _ 1 [] trivial
theorem cdCs1 (β:Bool) [OkI β]:IsSq (BCollect β) [1] 1:=by cases β <;> first | (exact absurd (OkI.ok (β:=true)) (by decide)) | exact isq (by kernel_rfl)
theorem sqCs0 (β:Bool) [OkI β]:Sq (BCollect β) [1,1]:=by cases β <;> first | (exact absurd (OkI.ok (β:=true)) (by decide)) | exact isQ (by kernel_rfl)
def gCs2n (β:Bool)  :=rg Tryz.prog (BCollect β) 2 88 [(10,2)] [(2, .pointer none)] (Vq 0 10 [Kv (.pointer none),Kv (.bool false)]) []
theorem obCs2n (β:Bool) [OkI β]   (w0:World) (fp0:List Nat) (R:List Asn):(gCs2n β  w0 fp0 R).Ok 2:=by
 cases β <;> first | (exact absurd (OkI.ok (β:=true)) (by decide)) | exact Rg.ok _ 2 [] trivial
theorem cdCs2n (β:Bool) [OkI β]:IsSq (BCollect β) [1,1,0] 2:=by cases β <;> first | (exact absurd (OkI.ok (β:=true)) (by decide)) | exact isq (by kernel_rfl)
theorem ccCs11 (β:Bool) [OkI β]:isCond (csnd (cfst (csnd (csnd (bodyC (BCollect β))))))=true/\ccond (csnd (cfst (csnd (csnd (bodyC (BCollect β))))))=.tmp 11:=by cases β <;> first | (exact absurd (OkI.ok (β:=true)) (by decide)) | exact ⟨kr (by kernel_rfl),kr (by kernel_rfl)⟩
theorem isSkipCs1 (β:Bool) [OkI β]:isSkip (celse (csnd (cfst (csnd (csnd (bodyC (BCollect β)))))))=true:=by cases β <;> first | (exact absurd (OkI.ok (β:=true)) (by decide)) | exact kr (by kernel_rfl)
def gCs2k (β:Bool) (lb:Nat):=rg Tryz.prog (BCollect β) 2 88 [(10,2)] [(2,pV lb 0)] (Vq 0 10 [Kp lb 0,Kv (.bool true)]) []
theorem obCs2k (β:Bool) [OkI β] (lb:Nat)  (w0:World) (fp0:List Nat) (R:List Asn):(gCs2k β lb w0 fp0 R).Ok 2:=by
 cases β <;> first | (exact absurd (OkI.ok (β:=true)) (by decide)) | exact Rg.ok _ 2 [] trivial
theorem cdCs2k (β:Bool) [OkI β]:IsSq (BCollect β) [1,1,0] 2:=by cases β <;> first | (exact absurd (OkI.ok (β:=true)) (by decide)) | exact isq (by kernel_rfl)
def gCs3 (β:Bool) (b i0 lb:Nat) (ks vs ps kk:Value) (q:Bool) (xs:List Value):=rg Tryz.prog (BCollect β) 3 88 [(13,5),(12,1),(18,2),(9,1)] [(0,pV b 0),(2,pV lb 0)] (Vq 0 13 [Kp b 0,Kp lb 0,Kp lb 0,Kv kk,Kv (.tuple #[nV i0, .bool q])]++Vq 5 12 [Kv (.tuple #[nV i0, .bool q])]++Vq 6 18 [Kn i0,Kv (.bool q)]++Vq 8 9 [Kn i0]) [Bk b (tN β) [ks,vs,ps], .sl (tK β) (ks) xs [],Bk lb (tK β) [kk]]
theorem obCs3 (β:Bool) [OkI β] (b i0 lb:Nat) (ks vs ps kk:Value) (q:Bool) (xs:List Value) (hf:∀w fp fp',(blkA b (tN β) #[ks,vs,ps]).p w fp->(slA (tK β) ks xs).p w fp'->Calls Tryz.prog (fFind β) #[ptrV b,kk] w λ e w'=> e=.returned (.tuple #[.int .i64 i0, .bool q])/\Below w.heap.size w w') (w0:World) (fp0:List Nat) (R:List Asn):(gCs3 β b i0 lb ks vs ps kk q xs w0 fp0 R).Ok 9:=by
 cases β <;> first | (exact absurd (OkI.ok (β:=true)) (by decide)) | exact Rg.ok _ 9 [3,4] ⟨.load _ 3 2 0, .ask2 _ 4 0 1 hf,trivial⟩
theorem cdCs3 (β:Bool) [OkI β]:IsRg (BCollect β) [1,1,0,1,2] 3:=by cases β <;> first | (exact absurd (OkI.ok (β:=true)) (by decide)) | exact irg (by kernel_rfl)
theorem sqCs2 (β:Bool) [OkI β]:Sq (BCollect β) [1,1,1]:=by cases β <;> first | (exact absurd (OkI.ok (β:=true)) (by decide)) | exact isQ (by kernel_rfl)
def gCs11 (β:Bool) (v1:Value):=rg Tryz.prog (BCollect β) 11 88 [(87,1),(8,1)] [(1,v1)] (Vq 0 87 [Kv v1]++Vq 1 8 [Kv v1]) []
theorem obCs11 (β:Bool) [OkI β] (v1:Value)  (w0:World) (fp0:List Nat) (R:List Asn):(gCs11 β v1 w0 fp0 R).Ok 2:=by
 cases β <;> first | (exact absurd (OkI.ok (β:=true)) (by decide)) | exact Rg.ok _ 2 [] trivial
theorem cdCs11 (β:Bool) [OkI β]:IsSq (BCollect β) [1,1,1,1] 11:=by cases β <;> first | (exact absurd (OkI.ok (β:=true)) (by decide)) | exact isq (by kernel_rfl)
theorem isRetCs3 (β:Bool) [OkI β]:isRet (csnd (csnd (csnd (csnd (csnd (bodyC (BCollect β)))))))=true:=by cases β <;> first | (exact absurd (OkI.ok (β:=true)) (by decide)) | exact kr (by kernel_rfl)
theorem resCs (β:Bool) [OkI β]:(BCollect β).results=#[.tmp 8]:=by cases β <;> first | (exact absurd (OkI.ok (β:=true)) (by decide)) | exact kr (by kernel_rfl)
theorem col_flat (β:Bool) [OkI β] (b i0 lb:Nat) (ks vs ps v0 pl ph kk:Value) (q:Bool) (xs:List Value) (OL X:Asn) (Y:Value->Asn) (hpl:(pl=.pointer none/\i0=0)\/(pl=.pointer (some ⟨lb,0,none⟩)/\OL=blkA lb (tK β) #[kk]))
 (hfind:pl≠.pointer none->∀w fp fp',(blkA b (tN β) #[ks,vs,ps]).p w fp->(slA (tK β) ks xs).p w fp'->Calls Tryz.prog (fFind β) #[ptrV b,kk] w λ e w'=> e=.returned (.tuple #[.int .i64 i0, .bool q])/\Below w.heap.size w w') (w0 w:World) (fp0:List Nat) (R:List Asn) (Rr:Ending->World->Prop)
 (HL:∀(Q:Exit->Act->World->Prop) (A:Act) (w:World),Knows 88 A [(0, .pointer (some ⟨b,0,none⟩)),(1,v0),(2,pl),(3,ph),(9, .int .i64 i0)]->St w0 fp0 ([blkA b (tN β) #[ks,vs,ps],slA (tK β) (ks) xs,OL,X]++R) w->
  (∀(v1:Value) (A:Act) (w:World),Knows 88 A [(1,v1)]->St w0 fp0 ([Y v1]++R) w->Q .normal A w)->(∀(v1:Value) (A:Act) (w:World),Knows 88 A [(8,v1)]->Rr (.returned v1) w->Q .ret A w)->(cfst (csnd (csnd (csnd (bodyC (BCollect β)))))).wp Tryz.prog Q A w)
 (hE:∀v1 w',St w0 fp0 ([Y v1]++R) w'->Rr (.returned v1) w')
 (hS:St w0 fp0 ([blkA b (tN β) #[ks,vs,ps],slA (tK β) (ks) xs,OL,X]++R) w):Calls Tryz.prog (fCollect β) #[ptrV b,v0,pl,ph] w Rr:=by
 refine calls_T [(0,pV b 0),(1,v0),(2,pl),(3,ph)] (entCs β) (by simp) (by kernel_rfl) λ A0 K0=> ?_;refine wp_seqT (cdCs0 β).sq ?_;refine wp_regT (obCs0 β   _ _ _) (by kernel_rfl) (cdCs0 β).cd (K0.sub (by kernel_rfl)) (St_re hS [] [0,1,2,3] (by kernel_rfl)) λ A1 w1 N1 H1=> ?_;have S1:St w0 fp0 ([blkA b (tN β) #[ks,vs,ps],slA (tK β) (ks) xs,OL,X]++R) w1:=H1;have K1:Knows 88 A1 [(0,pV b 0),(1,v0),(2,pl),(3,ph),(8, .slice none 0 0)]:=N1.knows K0 (by kernel_rfl);refine wp_seqT (cdCs1 β).sq ?_;refine wp_regT (obCs1 β   _ _ _) (by kernel_rfl) (cdCs1 β).cd (K1.sub (by kernel_rfl)) (St_re S1 [] [0,1,2,3] (by kernel_rfl)) λ A2 w2 N2 H2=> ?_;have S2:St w0 fp0 ([blkA b (tN β) #[ks,vs,ps],slA (tK β) (ks) xs,OL,X]++R) w2:=H2;have K2:Knows 88 A2 [(0,pV b 0),(1,v0),(2,pl),(3,ph),(8, .slice none 0 0),(9,nV 0)]:=N2.knows K1 (by kernel_rfl);refine wp_seqJ (sqCs0 β) (λ A w=> Knows 88 A [(0,pV b 0),(1,v0),(2,pl),(3,ph),(9,nV i0)]/\St w0 fp0 ([blkA b (tN β) #[ks,vs,ps],slA (tK β) (ks) xs,OL,X]++R) w) ?_ ?_
 · skip
   rcases hpl with ⟨rfl,rfl⟩ | ⟨rfl,rfl⟩
   · skip
     refine wp_seqT (cdCs2n β).sq ?_;refine wp_regT (obCs2n β   _ _ _) (by kernel_rfl) (cdCs2n β).cd (K2.sub (by kernel_rfl)) (St_re S2 [] [0,1,2,3] (by kernel_rfl)) λ A3 w3 N3 H3=> ?_;have S3:St w0 fp0 ([blkA b (tN β) #[ks,vs,ps],slA (tK β) (ks) xs,OL,X]++R) w3:=H3;have K3:Knows 88 A3 [(0,pV b 0),(1,v0),(2, .pointer none),(3,ph),(8, .slice none 0 0),(9,nV 0),(11, .bool false)]:=N3.knows K2 (by kernel_rfl);refine wp_condK (ccCs11 β) K3 (by rfl) (λ hq=> ?_) (λ hq=> ?_)
     · skip
       cases hq
     · skip
       refine wp_skipT (isSkipCs1 β) ?_;exact ⟨K3.sub (by kernel_rfl),(St_re S3 [0,1,2,3] [] (by kernel_rfl))⟩
   · skip
     have hf:=hfind (by simp);refine wp_seqT (cdCs2k β).sq ?_;refine wp_regT (obCs2k β lb  _ _ _) (by kernel_rfl) (cdCs2k β).cd (K2.sub (by kernel_rfl)) (St_re S2 [] [0,1,2,3] (by kernel_rfl)) λ A4 w4 N4 H4=> ?_;have S4:St w0 fp0 ([blkA b (tN β) #[ks,vs,ps],slA (tK β) (ks) xs,blkA lb (tK β) #[kk],X]++R) w4:=H4;have K4:Knows 88 A4 [(0,pV b 0),(1,v0),(2,pV lb 0),(3,ph),(8, .slice none 0 0),(9,nV 0),(11, .bool true)]:=N4.knows K2 (by kernel_rfl);refine wp_condK (ccCs11 β) K4 (by rfl) (λ hq=> ?_) (λ hq=> ?_)
     · skip
       refine wp_regT (obCs3 β b i0 lb ks vs ps kk q xs hf _ _ _) (by kernel_rfl) (cdCs3 β).cd (K4.sub (by kernel_rfl)) (St_re S4 [0,1,2] [3] (by kernel_rfl)) λ A5 w5 N5 H5=> ?_;have S5:St w0 fp0 ([blkA b (tN β) #[ks,vs,ps],slA (tK β) (ks) xs,blkA lb (tK β) #[kk],X]++R) w5:=H5;have K5:Knows 88 A5 [(0,pV b 0),(1,v0),(2,pV lb 0),(3,ph),(8, .slice none 0 0),(11, .bool true),(9,nV i0)]:=N5.knows K4 (by kernel_rfl);exact ⟨K5.sub (by kernel_rfl),(St_re S5 [0,1,2,3] [] (by kernel_rfl))⟩
     · skip
       cases hq
 · rintro A6 w6 ⟨K6,S6⟩
   refine wp_seqT (sqCs2 β) ?_;refine HL _ _ _ K6 S6 (λ v1 A w K S=> ?_) λ v1 A w K hr=> ?_
   · skip
     show (csnd (csnd (csnd (csnd (bodyC (BCollect β)))))).wp Tryz.prog (bodyPost Tryz.prog (BCollect β) Rr) A w;refine wp_seqT (cdCs11 β).sq ?_;refine wp_regT (obCs11 β v1  _ _ _) (by kernel_rfl) (cdCs11 β).cd (K.sub (by kernel_rfl)) (St_re S [] [0] (by kernel_rfl)) λ A7 w7 N7 H7=> ?_;have S7:St w0 fp0 ([Y v1]++R) w7:=H7;have K7:Knows 88 A7 [(1,v1),(8,v1)]:=N7.knows K (by kernel_rfl);refine wp_retT (isRetCs3 β) ?_;refine post_T K7 (res1 (resCs β) K7 (by rfl)) ?_;exact hE v1 _ S7
   · skip
     exact post_T K (res1 (resCs β) K (by rfl)) (hr)
end
end Go.Proofs.YtnefkkidfhmggaaGreat
