/- Part 1 of the proof: Rw, S1, Vm, Nm, Mfl, Krd, Rg, Ti, Tj, C1, D1, Vd -/
import Derived.Test.YtnefkkidfhmggaaGreatV00
import Derived.Laws.IdiomStrings
import Derived.Deep.Slices
import Derived.Test.YtnefkkidfhmggaaGreatRows
import Derived.RangeFuncIn
import Derived.RangeFuncRecord
import Derived.RangeFuncLeaves
import Derived.RangeFuncSeq
import Derived.RangeFuncCalls
import Derived.OwnWalkIn
import Derived.OrdersIn
import Derived.Deep.DeepCutAuto
set_option maxHeartbeats 16000000
set_option maxRecDepth 100000
namespace Go.Proofs.YtnefkkidfhmggaaGreat
open Go Go.RowKit
noncomputable section
section
def rowA (t:TypeId) (size:Nat) (v:Value) (n:Nat) (xs:List Value):Asn:=
 ⟨λ w fp=> w.ownsRow 0 t size v n xs/\fp=v.ownBlock.toList,λ h k hk=> by rw [h.2] at hk;exact (h.1.lt k (by cases hv:v.ownBlock <;> simp_all)).2,λ h hs=> ⟨own_loc h.1 (by rw [<-h.2];exact hs),h.2⟩⟩
theorem row_nil (w:World) (t:TypeId) (size:Nat):(rowA t size (.slice none 0 0) 0 []).p w []:=⟨World.ownsRow_nil _ _ _ _,rfl⟩
theorem St.nilR {w0 w:World} {fp0:List Nat} {L:List Asn} (t:TypeId) (size:Nat) (hs:St w0 fp0 L w):St w0 fp0 (rowA t size (.slice none 0 0) 0 []::L) w:=by
 obtain ⟨fp,h1,h2⟩:=hs;exact ⟨fp,⟨[],fp,row_nil _ _ _,h1,by simp,rfl⟩,h2⟩
theorem row_shape {w:World} {t:TypeId} {size:Nat} {v:Value} {n:Nat} {xs:List Value} {f:List Nat} (h:(rowA t size v n xs).p w f):∃a c,v=.slice a n c/\n<=c/\c<=maxLen/\∀i,i < n * size->∃g,a=some ⟨g,0,none⟩/\g < w.heap.size/\w.cell? ⟨g,i,none⟩=xs[i]? /\∀j,w.frozen? ⟨g,j,none⟩=false:=by
 obtain ⟨ho,_⟩:=h;have ho':=ho;rcases ho'.2 with ⟨rfl,h0⟩ | ⟨g,cap,cur,rfl,hb,hg,hn,hc,hs,ht⟩
 · subst h0
   exact ⟨none,0,rfl,Nat.le_refl _,Nat.zero_le _,λ i hi=> by simp at hi⟩
 · exact ⟨_,cap,rfl,hn,hc,λ i hi=> ⟨g,rfl,(Array.getElem?_eq_some_iff.1 hg).1,ho.cellAt i hi,λ j=> ho.frozenAt j⟩⟩
def boxsA (t:TypeId) (s:Value) (x:Array Value):Asn:=
 ⟨λ w fp=> ∃vb,s=.slice (some ⟨vb,0,none⟩) 1 1/\w.heap[vb]? =some (.cells x t (0,0))/\fp=[vb],λ ⟨vb,_,h1,h2⟩ k hk=> by rw [h2] at hk;obtain rfl:=List.mem_singleton.1 hk;exact (Array.getElem?_eq_some_iff.1 h1).1,λ ⟨vb,h0,h1,h2⟩ hs=> ⟨vb,h0,(hs vb (by rw [h2];simp)).trans h1,h2⟩⟩
theorem boxs_new (w:World) (t:TypeId) (x:Array Value):(boxsA t (.slice (some ⟨w.heap.size,0,none⟩) 1 1) x).p (w.alloc (.cells x t)) [w.heap.size]/\Tr w (w.alloc (.cells x t)) [] [w.heap.size]:=by
 have hb:=(Below.refl w.heap.size w).alloc (Nat.le_refl _) (.cells x t (0,0));refine ⟨⟨_,rfl,heap_alloc_new w _,rfl⟩,hb.os,hb.tape,hb.output,hb.size,λ k hk _=> hb.block k hk,λ k hk=> .inr ?_⟩;rw [List.mem_singleton.1 hk];exact Nat.le_refl _
section
variable {P:Program}
theorem run_append_op {a:Act} {w w':World} {o:Oper} {s x:Operand} {t:TypeId} {v v2 v':Value} (ho:o.op=.call { callee:=.builtin .append,args:=#[s,x],argTypes:=#[t,t] }) (hs:a.eval s=v) (hx:a.eval x=v2)
 (hr:(Builtin.append_ #[t,t] o.type #[v,v2]).run P w=.ok v' w'):(execOp a.eval o).run P w=.ok (.value v') w':=by
 unfold execOp;simp only [ho,resolve,invoke,builtin,Sem.run_bind,Sem.run_pure,Result.andThen_ok,List.map_toArray,List.map_cons,List.map_nil,hs,hx,hr]
theorem row_append (w:World) (t ty e:TypeId) (i:TypeInfo) (z:Value) (size bytes:Nat) (ht:P.underlying t=some (.slice e)) (hi:P.info? e=some i) (hz:i.zero=some z)
 (hsize:i.size=size) (hby:i.bytes=bytes) (hzs:z.cells.size=size) (hsz:0 < size)
 {v:Value} {n:Nat} {xs:List Value} {f:List Nat} (hown:(rowA e size v n xs).p w f) (vb:Nat) (news:List Value) (et:TypeId) (hb:w.heap[vb]? =some (.cells news.toArray et (0,0))) (hl:news.length=size) (h1:∀u∈news,u.oneCell'=true)
 (h63:n+1<=maxLen) (hbytes:(n+1) * bytes<=140737488355328):
 ∃v' w' f',(Builtin.append_ #[t,t] ty #[v, .slice (some ⟨vb,0,none⟩) 1 1]).run P w=.ok v' w'/\(rowA e size v' (n+1) (xs++news)).p w' f'/\Tr w w' f f':=by
 obtain ⟨ho,rfl⟩:=hown;obtain ⟨v',w',hr,h2,h3,h4⟩:=run_append_block (P:=P) w 0 t ty e i z size bytes ht hi hz hsize hby hzs hsz v n xs ho ⟨vb,0,none⟩ 1 1 news (by rw [hl];omega) (λ j u hu=> by rw [Addr.add_lit,Nat.zero_add,cell_of_row w vb j _ et (0,0) hb];simpa using hu) h1 (by omega) h63 hbytes (Nat.zero_le _);exact ⟨v',w',_,hr,⟨h2,rfl⟩,Tr.of_grown h3 h4⟩
theorem row_append_row (w:World) (t ty e:TypeId) (i:TypeInfo) (z:Value) (size bytes:Nat) (ht:P.underlying t=some (.slice e)) (hi:P.info? e=some i) (hz:i.zero=some z)
 (hsize:i.size=size) (hby:i.bytes=bytes) (hzs:z.cells.size=size) (hsz:0 < size)
 {v:Value} {n:Nat} {xs:List Value} {f:List Nat} (hown:(rowA e size v n xs).p w f) {s:Value} {m:Nat} {ys:List Value} {g:List Nat} (hsrc:(rowA e size s m ys).p w g) (h1:∀u∈ys,u.oneCell'=true)
 (h63:n+m<=maxLen) (hbytes:(n+m) * bytes<=140737488355328):
 ∃v' w' f',(Builtin.append_ #[t,t] ty #[v,s]).run P w=.ok v' w'/\(rowA e size v' (n+m) (xs++ys)).p w' f'/\Tr w w' f f':=by
 obtain ⟨ho,rfl⟩:=hown;obtain ⟨ho2,_⟩:=hsrc;rcases ho2.2 with ⟨rfl,rfl⟩ | ⟨g',cap',cur',rfl,_⟩
 · have hys:ys=[]:=List.length_eq_zero_iff.1 (by rw [ho2.1,Nat.zero_mul])
   subst hys;refine ⟨v,w,_,run_append_owned_none (P:=P) (w:=w) 0 t ty e i size ht hi v n xs ho,⟨by simpa using ho,rfl⟩,Tr.refl _ _⟩
 · have hnews:=ho2.cells (g:=g') rfl
   by_cases hm:0 < m
   · obtain ⟨v',w',hr,h2,h3,h4⟩:=run_append_block (P:=P) w 0 t ty e i z size bytes ht hi hz hsize hby hzs hsz v n xs ho _ m cap' ys ho2.1 hnews h1 hm h63 hbytes (Nat.zero_le _)
     exact ⟨v',w',_,hr,⟨h2,rfl⟩,Tr.of_grown h3 h4⟩
   · obtain rfl:m=0:=by omega
     obtain ⟨v',w',hr,h2,h3,h4⟩:=run_append_own (P:=P) w 0 t ty e i z size bytes ht hi hz hsize hby hzs hsz v n xs ho _ 0 cap' ys ho2.1 hnews h1 h63 hbytes (Nat.zero_le _);refine ⟨v',w',_,hr,⟨h2,rfl⟩,Tr.of_grown h3 λ k hk=> ?_⟩;subst hsize;rcases ho.2 with ⟨rfl,rfl⟩ | ⟨gv,cap,cur,rfl,hbg,hg,hnc,hcm,hcs,htake⟩
     · have:=h4.2 ⟨rfl,rfl⟩
       subst this;cases hk
     · have hfit:n * i.size+ys.length<=cur.size:=by rw [ho2.1,hcs,Nat.zero_mul,Nat.add_zero];exact Nat.mul_le_mul_right _ hnc
       have hr2:=run_append_room (P:=P) w t ty e i ht hi gv n cap cur hg _ 0 cap' ys ho2.1 hnews h1 (by omega) hfit;rw [hr2] at hr;injection hr with hr _;subst hr;exact .inl hk
end
end
end
end Go.Proofs.YtnefkkidfhmggaaGreat
noncomputable section
namespace Go.Proofs.YtnefkkidfhmggaaGreat
open Go.RowKit
theorem Star.perm {w:World} {L L':List Asn} (hp:L.Perm L'):∀{fp:List Nat},Star w L fp->∃fp',Star w L' fp'/\∀k,k∈fp'↔k∈fp:=by
 induction hp with
 | nil=> intro fp h;exact ⟨fp,h,λ _=> Iff.rfl⟩
 | @cons A l1 l2 _ ih=>
  rintro fp ⟨f,g,h1,h2,h3,rfl⟩;obtain ⟨g',h4,h5⟩:=ih h2;exact ⟨f++g',⟨f,g',h1,h4,λ k hk hg=> h3 k hk ((h5 k).1 hg),rfl⟩,λ k=> by simp only [List.mem_append,h5 k]⟩
 | swap A B l=>
  rintro fp ⟨f,g,h1,⟨f2,g2,h4,h5,h6,rfl⟩,h3,rfl⟩;refine ⟨f2++(f++g2),⟨f2,f++g2,h4,⟨f,g2,h1,h5,λ k hk hg=> h3 k hk (List.mem_append.2 (.inr hg)),rfl⟩,λ k hk hg=> ?_,rfl⟩,λ k=> ?_⟩
  · rcases List.mem_append.1 hg with hg | hg
    · exact h3 k hg (List.mem_append.2 (.inl hk))
    · exact h6 k hk hg
  · simp only [List.mem_append]
    constructor
    · rintro (h | h | h)
      · exact .inr (.inl h)
      · exact .inl h
      · exact .inr (.inr h)
    · rintro (h | h | h)
      · exact .inr (.inl h)
      · exact .inl h
      · exact .inr (.inr h)
 | trans _ _ ih1 ih2=>
  intro fp h;obtain ⟨f1,h1,h2⟩:=ih1 h;obtain ⟨f2,h3,h4⟩:=ih2 h1;exact ⟨f2,h3,λ k=> (h4 k).trans (h2 k)⟩
theorem St.perm {w0 w:World} {fp0:List Nat} {L L':List Asn} (h:St w0 fp0 L w) (hp:L.Perm L'):St w0 fp0 L' w:=by
 obtain ⟨fp,hs,ht⟩:=h;obtain ⟨fp',h1,h2⟩:=hs.perm hp;exact ⟨fp',h1,ht.os,ht.tape,ht.output,ht.size,ht.block,λ k hk=> ht.new k ((h2 k).1 hk)⟩
theorem Star.star {w:World} {L1 L2:List Asn} {fp:List Nat}:Star w (starA L1::L2) fp↔Star w (L1++L2) fp:=by
 constructor
 · rintro ⟨f,g,h1,h2,h3,rfl⟩
   exact Star.join h1 h2 h3
 · intro h
   obtain ⟨f,g,h1,h2,h3,rfl⟩:=h.append;exact ⟨f,g,h1,h2,h3,rfl⟩
theorem St.star {w0 w:World} {fp0:List Nat} {L1 L2:List Asn}:St w0 fp0 (starA L1::L2) w↔St w0 fp0 (L1++L2) w:=by
 constructor
 · rintro ⟨fp,h1,h2⟩
   exact ⟨fp,Star.star.1 h1,h2⟩
 · rintro ⟨fp,h1,h2⟩
   exact ⟨fp,Star.star.2 h1,h2⟩
theorem Star.emp {w:World} {L:List Asn} {fp:List Nat}:Star w (emp::L) fp↔Star w L fp:=by
 constructor
 · rintro ⟨f,g,h1,h2,h3,rfl⟩
   rw [show f=[] from h1];exact h2
 · intro h
   exact ⟨[],fp,rfl,h,by simp,rfl⟩
theorem St.emp {w0 w:World} {fp0:List Nat} {L:List Asn}:St w0 fp0 (emp::L) w↔St w0 fp0 L w:=by
 constructor
 · rintro ⟨fp,h1,h2⟩
   exact ⟨fp,Star.emp.1 h1,h2⟩
 · rintro ⟨fp,h1,h2⟩
   exact ⟨fp,Star.emp.2 h1,h2⟩
theorem St.pure {w0 w:World} {fp0:List Nat} {L:List Asn} {P:Prop}:St w0 fp0 (pureA P::L) w↔P/\St w0 fp0 L w:=by
 constructor
 · rintro ⟨fp,⟨f,g,⟨h0,h1⟩,h2,h3,rfl⟩,ht⟩
   rw [show f=[] from h1] at ht;exact ⟨h0,g,h2,ht⟩
 · rintro ⟨h0,fp,h1,h2⟩
   exact ⟨fp,⟨[],fp,⟨h0,rfl⟩,h1,by simp,rfl⟩,h2⟩
theorem zipWith_app {α β γ:Type} (f:α->β->γ) (l1 l2:List α) (m1 m2:List β) (h:l1.length=m1.length):List.zipWith f (l1++l2) (m1++m2)=List.zipWith f l1 m1++List.zipWith f l2 m2:=List.zipWith_append h
theorem St.dropAll {w0 w:World} {fp0:List Nat}:∀{A B:List Asn},St w0 fp0 (A++B) w->St w0 fp0 B w
 | [],_,h=> h
 | _::A,_,h=> St.dropAll (A:=A) h.drop
end Go.Proofs.YtnefkkidfhmggaaGreat
end
namespace Go.Proofs.YtnefkkidfhmggaaGreat
open Go Go.RowKit
noncomputable section
def SlX (X:List Nat) (w:World) (size n:Nat) (xs:List Value) (v:Value):Prop:=
 n<=maxLen/\xs.length=n * size/\∃a c,v=.slice a n c/\∀j (h:j < xs.length),∃b o,a=some ⟨b,o,none⟩/\b ∉ X/\w.cell? ⟨b,o+j,none⟩=some xs[j]
theorem SlX.mono {X:List Nat} {w w':World} {size n:Nat} {xs:List Value} {v:Value} (h:SlX X w size n xs v) (hb:Below w.heap.size w w'):SlX X w' size n xs v:=by
 obtain ⟨h1,h2,a,c,h3,h4⟩:=h;refine ⟨h1,h2,a,c,h3,λ j hj=> ?_⟩;obtain ⟨b,o,h5,h6,h7⟩:=h4 j hj;exact ⟨b,o,h5,h6,(hb.cell (p:=⟨b,o+j,none⟩) (World.block_lt_of_cell? w ⟨b,o+j,none⟩ h7)).trans h7⟩
theorem SlX.nil (X:List Nat) (w:World) (size:Nat) (a:Option Addr) (c:Nat):SlX X w size 0 [] (.slice a 0 c):=
 ⟨Nat.zero_le _,by simp,a,c,rfl,λ j h=> by simp at h⟩
theorem SlX.shape {X:List Nat} {w:World} {size n:Nat} {xs:List Value} {v:Value} (h:SlX X w size n xs v):∃a c,v=.slice a n c:=by
 obtain ⟨_,_,a,c,h3,_⟩:=h;exact ⟨a,c,h3⟩
theorem SlX.has {X:List Nat} {w:World} {size n m:Nat} {xs:List Value} {a:Option Addr} {c:Nat} (h:SlX X w size n xs (.slice a m c)) (h0:0 < xs.length):∃b o,a=some ⟨b,o,none⟩/\b ∉ X/\b < w.heap.size:=by
 obtain ⟨_,_,a',c',h3,h4⟩:=h;obtain ⟨b,o,h5,h6,h7⟩:=h4 0 h0;injection h3 with h3;exact ⟨b,o,h3.trans h5,h6,World.block_lt_of_cell? w ⟨b,o+0,none⟩ h7⟩
theorem SlX.cell {X:List Nat} {w:World} {size n m:Nat} {xs:List Value} {b o c:Nat} (h:SlX X w size n xs (.slice (some ⟨b,o,none⟩) m c)) (j:Nat) (hj:j < xs.length):w.cell? ⟨b,o+j,none⟩=some xs[j]:=by
 obtain ⟨_,_,a',c',h3,h4⟩:=h;obtain ⟨b',o',h5,h6,h7⟩:=h4 j hj;injection h3 with h3;rw [h5] at h3;injection h3 with h3;injection h3 with h3 h4;subst h3 h4;exact h7
theorem SlX.len {X:List Nat} {w:World} {size n m:Nat} {xs:List Value} {a:Option Addr} {c:Nat} (h:SlX X w size n xs (.slice a m c)):m=n/\n<=maxLen/\xs.length=n * size:=by
 obtain ⟨h1,h2,a',c',h3,h4⟩:=h;injection h3 with _ h3 _;exact ⟨h3,h1,h2⟩
theorem SlX.of_own {X:List Nat} {w:World} {B size n:Nat} {t:TypeId} {xs:List Value} {v:Value} (h:w.ownsRow B t size v n xs) (hl:xs.length=n * size) (hX:∀k∈v.ownBlock.toList,k ∉ X):SlX X w size n xs v:=by
 obtain ⟨_,⟨rfl,rfl⟩ | ⟨g,cap,cur,rfl,hb,hg,hn,hc,hs,ht⟩⟩:=h
 · cases xs with
   | nil=> exact SlX.nil _ _ _ _ _
   | cons=> simp at hl
 · refine ⟨Nat.le_trans hn hc,hl,_,_,rfl,λ j hj=> ⟨g,0,rfl,hX g (by simp [Value.ownBlock]),?_⟩⟩
   rw [Nat.zero_add,cell_of_row w g j cur t (0,0) hg];have h1:xs[j]? =some xs[j]:=List.getElem?_eq_getElem hj;have h2:xs[j]? =cur[j]? :=by rw [<-ht,List.getElem?_take,if_pos (by omega)];simp
   exact h2.symm.trans h1
theorem SlX.of_row {X:List Nat} {w:World} {size n:Nat} {t:TypeId} {xs:List Value} {v:Value} {f:List Nat} (h:(rowA t size v n xs).p w f) (hl:xs.length=n * size) (hX:∀k∈f,k ∉ X):SlX X w size n xs v:=
 SlX.of_own h.1 hl (by rw [<-h.2];exact hX)
theorem SlX.of_sl {X:List Nat} {w:World} {t:TypeId} {xs:List Value} {v:Value} {f:List Nat} (h:(slA t v xs).p w f) (hX:∀k∈f,k ∉ X):SlX X w 1 xs.length xs v:=
 SlX.of_own h.1 (by omega) (by rw [<-h.2];exact hX)
theorem SlX.of_blk {X:List Nat} {w:World} {b size n c:Nat} {t:TypeId} {fr:Nat×Nat} {cs:Array Value} (h:w.heap[b]? =some (.cells cs t fr)) (hX:b ∉ X) (hm:n<=maxLen) (hl:cs.size=n * size):SlX X w size n cs.toList (.slice (some ⟨b,0,none⟩) n c):=
 ⟨hm,by simpa using hl,_,_,rfl,λ j hj=> ⟨b,0,rfl,hX,by rw [Nat.zero_add,cell_of_row w b j cs t fr h];simp⟩⟩
def Vl.cells (v:Vl):List Value:=[.int .i64 v.kind, .int .i64 v.int, .string v.text]
def Vl.val (v:Vl):Value:=.agg #[.int .i64 v.kind, .int .i64 v.int, .string v.text]
def flat (vs:Rw):List Value:=vs.flatMap Vl.cells
theorem flat_get (vs:Rw) (i:Nat) (hi:i < vs.length) (j:Nat) (hj:j < 3):(flat vs)[i * 3+j]? =vs[i].cells[j]? :=by
 induction vs generalizing i with
 | nil=> simp at hi
 | cons x l ih=>
  cases i with
  | zero=>
   simp only [flat,List.flatMap_cons,Nat.zero_mul,Nat.zero_add,List.getElem_cons_zero];rw [List.getElem?_append_left (by simpa [Vl.cells] using hj)]
  | succ i=>
   have:=ih i (by simpa using hi);simp only [flat,List.flatMap_cons,List.getElem_cons_succ] at this ⊢;rw [List.getElem?_append_right (by simp [Vl.cells];omega),<-this];congr 1;simp [Vl.cells];omega
theorem length_flat (l:Rw):(flat l).length=l.length * 3:=by
 induction l with
 | nil=> rfl
 | cons x l ih=> simp only [flat,List.flatMap_cons,List.length_append,List.length_cons] at ih ⊢;rw [ih];simp [Vl.cells];omega
theorem one_flat (l:Rw):∀u∈flat l,u.oneCell'=true:=by
 intro u hu;simp only [flat,List.mem_flatMap] at hu;obtain ⟨v,_,hv⟩:=hu;simp [Vl.cells] at hv;rcases hv with rfl | rfl | rfl <;> rfl
def ValsX (X:List Nat) (w:World) (vs:Rw) (v:Value):Prop:=SlX X w 3 vs.length (flat vs) v/\∀x∈vs,x.text.size<=maxLen
abbrev ValsAt (w:World) (vs:Rw) (v:Value):Prop:=ValsX [] w vs v
theorem ValsX.mono {X:List Nat} {w w':World} {vs:Rw} {v:Value} (h:ValsX X w vs v) (hb:Below w.heap.size w w'):ValsX X w' vs v:=⟨h.1.mono hb,h.2⟩
theorem ValsX.txt {X:List Nat} {w:World} {vs:Rw} {s:Value} (h:ValsX X w vs s):∀v∈vs,v.text.size<=maxLen:=h.2
theorem ValsX.shape {X:List Nat} {w:World} {vs:Rw} {s:Value} (h:ValsX X w vs s):∃a n c,s=.slice a n c/\n=vs.length/\n<=maxLen:=by
 obtain ⟨a,c,e⟩:=h.1.shape;exact ⟨a,_,c,e,rfl,h.1.1⟩
theorem ValsX.nil (X:List Nat) (w:World) (a:Option Addr) (c:Nat):ValsX X w [] (.slice a 0 c):=⟨SlX.nil _ _ _ _ _,by simp⟩
theorem ValsX.cell {X:List Nat} {w:World} {vs:Rw} {b o n cap:Nat} (h:ValsX X w vs (.slice (some ⟨b,o,none⟩) n cap)) (i:Nat) (hi:i < vs.length):
 w.cell? ⟨b,o+i * 3,none⟩=some (.int .i64 vs[i].kind)/\w.cell? ⟨b,o+i * 3+1,none⟩=some (.int .i64 vs[i].int)/\w.cell? ⟨b,o+i * 3+2,none⟩=some (.string vs[i].text):=by
 have hl:=length_flat vs;have hc:∀j,j < 3->w.cell? ⟨b,o+(i * 3+j),none⟩=vs[i].cells[j]? :=λ j hj=> by
  have hlt:i * 3+j < (flat vs).length:=by omega
  rw [h.1.cell (i * 3+j) hlt,<-flat_get vs i hi j hj,List.getElem?_eq_getElem hlt]
 exact ⟨hc 0 (by omega),hc 1 (by omega),hc 2 (by omega)⟩
theorem ValsX.has {X:List Nat} {w:World} {L:Rw} {a:Option Addr} {n c:Nat} (h:ValsX X w L (.slice a n c)) (i:Nat) (hi:i < n):∃b o,a=some ⟨b,o,none⟩:=by
 have:=h.1.len;obtain ⟨b,o,h1,_⟩:=h.1.has (by omega);exact ⟨b,o,h1⟩
theorem ValsX.lt {X:List Nat} {w:World} {L:Rw} {b o n c:Nat} (h:ValsX X w L (.slice (some ⟨b,o,none⟩) n c)) {i:Nat} (hi:i < L.length):b < w.heap.size:=
 World.block_lt_of_cell? w _ (h.cell i hi).1
def intC (n:Int):Value:=.int .i64 n
def u8C (b:UInt8):Value:=.int .u8 b.toNat
def IntsX (X:List Nat) (w:World) (l:List Int) (v:Value):Prop:=SlX X w 1 l.length (l.map intC) v
theorem IntsX.cell {X:List Nat} {w:World} {l:List Int} {b o n c:Nat} (h:IntsX X w l (.slice (some ⟨b,o,none⟩) n c)) (i:Nat) (hi:i < l.length):w.cell? ⟨b,o+i,none⟩=some (.int .i64 l[i]):=by
 rw [SlX.cell h i (by simpa using hi)];simp [intC]
theorem IntsX.has {X:List Nat} {w:World} {l:List Int} {a:Option Addr} {n c:Nat} (h:IntsX X w l (.slice a n c)) (i:Nat) (hi:i < n):∃b o,a=some ⟨b,o,none⟩:=by
 have:=SlX.len h;obtain ⟨b,o,h1,_⟩:=SlX.has h (by omega);exact ⟨b,o,h1⟩
theorem IntsX.shape {X:List Nat} {w:World} {l:List Int} {s:Value} (h:IntsX X w l s):∃a n c,s=.slice a n c/\n=l.length/\n<=maxLen:=by
 obtain ⟨a,c,e⟩:=SlX.shape h;exact ⟨a,_,c,e,rfl,h.1⟩
theorem IntsX.mono {X:List Nat} {w w':World} {l:List Int} {v:Value} (h:IntsX X w l v) (hb:Below w.heap.size w w'):IntsX X w' l v:=SlX.mono h hb
def uN (n:Int):Nat:=(n+9223372036854775808).toNat
def numB (n:Int) (i:Nat):UInt8:=UInt8.ofNat (uN n / 2 ^ (56 - 8 * i) % 256)
def numL (n:Int):List UInt8:=(List.range 8).map (numB n)
def I64 (n:Int):Prop:= -9223372036854775808<=n/\n < 9223372036854775808
theorem xor_hi {r:Nat} (h:r < 2 ^ 63):r ^^^ 2 ^ 63=2 ^ 63+r:=by
 apply Nat.eq_of_testBit_eq;intro i;rw [Nat.testBit_xor];rcases Nat.lt_trichotomy i 63 with h1 | h1 | h1
 · rw [Nat.testBit_two_pow_add_gt h1,Nat.testBit_two_pow_of_ne (by omega)]
   simp
 · subst h1
   rw [Nat.testBit_two_pow_add_eq,Nat.testBit_two_pow_self];simp
 · rw [Nat.testBit_lt_two_pow (x:=r) (Nat.lt_of_lt_of_le h (Nat.pow_le_pow_right (by decide) (by omega))),Nat.testBit_two_pow_of_ne (by omega)]
   rw [Nat.testBit_lt_two_pow (x:=2 ^ 63+r)]
   · rfl
   · have:2 ^ 64<=2 ^ i:=Nat.pow_le_pow_right (by decide) (by omega)
     omega
theorem xor_num {n:Int} (h:I64 n):bits .xor .u64 (IntKind.u64.wrap n) 9223372036854775808=(uN n:Int):=by
 obtain ⟨h1,h2⟩:=h;have e1:(BitVec.ofInt 64 (9223372036854775808:Int)).toNat=2 ^ 63:=by decide
 have e2:(BitVec.ofInt 64 (IntKind.u64.wrap n)).toNat=if 0<=n then n.toNat else 2 ^ 63+uN n:=by
  rw [BitVec.toNat_ofInt];simp only [IntKind.wrap,IntKind.bits,IntKind.signed,uN];simp only [Bool.false_and,Bool.false_eq_true,if_false];by_cases h0:0<=n
  · rw [if_pos h0];omega
  · rw [if_neg h0];omega
 have e3:((BitVec.ofInt 64 (IntKind.u64.wrap n)) ^^^ BitVec.ofInt 64 (9223372036854775808:Int)).toNat=uN n:=by
  rw [BitVec.toNat_xor,e1,e2];split
  · rw [xor_hi (by omega)]
    unfold uN;omega
  · have hu:uN n < 2 ^ 63:=by unfold uN;omega
    rw [<-xor_hi hu,Nat.xor_assoc,Nat.xor_self,Nat.xor_zero]
 show IntKind.u64.wrap ((((BitVec.ofInt 64 (IntKind.u64.wrap n)) ^^^ BitVec.ofInt 64 (9223372036854775808:Int)).toNat:Nat):Int)=_;rw [e3];unfold uN;simp only [IntKind.wrap,IntKind.bits,IntKind.signed];simp;omega
theorem add_plain (b o j:Nat):(⟨b,o,none⟩:Addr).add j=⟨b,o+j,none⟩:=by unfold Addr.add;split <;> simp_all
theorem number_calls (n:Int) (hn:I64 n) (w:World):Calls Tryz.prog 66 #[.int .i64 n] w λ e w'=> e=.returned (.string ⟨(numL n).toArray⟩)/\Below w.heap.size w w':=by
 have HX:=Lib.hid (xor_num hn);clear hn;go_enter Tryz.func66,Tryz.ntmps66;go_wp2;have hx:=HX.out;have hmk:∀w,Sem.run Tryz.prog (Instr.makeSlice 101 (.int .i64 8) (.int .i64 8)) w=.ok (.slice (some ⟨w.heap.size,0,none⟩) 8 8) (w.alloc (.cells #[.int .u8 0, .int .u8 0, .int .u8 0, .int .u8 0, .int .u8 0, .int .u8 0, .int .u8 0, .int .u8 0] 5)):=λ w=> by kernel_rfl
 go_region;clear hx hmk HX;obtain ⟨u,hu⟩:∃u,uN n=u:=⟨_,rfl⟩
 have HU:=Lib.hid hu;rw [hu];clear hu;obtain ⟨cs,hcs⟩:∃cs:Array Value,cs=#[.int .u8 0, .int .u8 0, .int .u8 0, .int .u8 0, .int .u8 0, .int .u8 0, .int .u8 0, .int .u8 0]:=⟨_,rfl⟩
 have hg:((w.alloc (.cells cs 5)).drew).heap[w.heap.size]? =some (.cells cs 5 (0,0)):=heap_alloc_new w _;have hb:Below w.heap.size w ((w.alloc (.cells cs 5)).drew):=Below.drew ((Below.refl _ _).alloc (Nat.le_refl _) _);rw [<-hcs];have H0:Hid (∃rest:List Value,cs.toList=((numL n).take 0).map u8C++rest/\0+rest.length=8):=⟨cs.toList,rfl,by rw [hcs];rfl⟩
 clear hcs;generalize (w.alloc (.cells cs 5)).drew=W at *;obtain ⟨b,hbs⟩:∃b,w.heap.size=b:=⟨_,rfl⟩
 rw [hbs] at hb hg ⊢;have Hg:=Lib.hid hg;have Hb:=Lib.hid hb;clear hb hg;go_wp2;go_loopw [12] (λ i wr=> ∃k:Nat,k<=8/\i=.int .i64 k/\Hid (Below b w wr/\∃(cs:Array Value) (rest:List Value),wr.heap[b]? =some (.cells cs 5 (0,0))/\cs.toList=((numL n).take k).map u8C++rest/\k+rest.length=8)) (λ i _=> 8 - (intOf i).toNat)
 case atStart=> exact ⟨0,by omega,rfl,Hb.out,let ⟨r,h1,h2⟩:=H0.out;⟨cs,r,Hg.out,h1,h2⟩⟩
 case round=>
  obtain ⟨k,hk,rfl,Hr⟩:=hrel;obtain ⟨hbw,cs',rest,h1,h2,h3⟩:=Hr.out;by_cases hlt:k < 8
  · have hsz:cs'.size=8:=by
     have:=congrArg List.length h2;simp [numL] at this;omega
    obtain ⟨old,c0⟩:∃old,wr.cell? ⟨b,k,none⟩=some old:=⟨cs'[k]'(by omega),by rw [cell_of_row wr b k cs' _ _ h1,Array.getElem?_eq_getElem]⟩
    have c1:wr.frozen? ⟨b,k,none⟩=false:=frozen_of_row wr b k cs' _ h1;have hbl:=World.block_lt_of_cell? wr _ c0;have i1:(0:Int)<=k:=by omega
    have i2:(k:Int) < 8:=by omega
    have i3:IntKind.i64.wrap (8 * (k:Int))=((8 * k:Nat):Int):=by rw [IntWalk.i64_in _ (by omega)];omega
    have i4:IntKind.i64.wrap (56 - ((8 * k:Nat):Int))=((56 - 8 * k:Nat):Int):=by rw [IntWalk.i64_in _ (by omega)];omega
    have H1:=Lib.hid h1;have H2:=Lib.hid h2;have H3:=Lib.hid h3;have Hbw:=Lib.hid hbw;have Hsz:=Lib.hid hsz;clear h1 h2 h3 hbw Hr hsz;go_wp2;go_roundw
    case rel=>
     refine ⟨k+1,by omega,by go_num,Hbw.out.setCell (p:=⟨b,k,none⟩) (Nat.le_refl _) _,cs'.setIfInBounds k (u8C (numB n k)),rest.tail,?_,?_,?_⟩
     · have hv:Value.int IntKind.u8 ((u:Int) / 2 ^ (56 - 8 * k) % 256)=u8C (numB n k):=by
        have:u / 2 ^ (56 - 8 * k) % 256 < 256:=Nat.mod_lt _ (by decide);rw [u8C,numB,HU.out,UInt8.toNat_ofNat_of_lt' this];rw [Int.natCast_emod,Int.natCast_ediv,Int.natCast_pow];rfl
       rw [hv];exact heap_setCell_same wr b k cs' 5 _ H1.out
     · have hl:(numL n).length=8:=by simp [numL]
       rw [Array.toList_setIfInBounds,H2.out,List.take_add_one,List.map_append,List.append_assoc];rw [List.set_append_right _ _ (by simp [hl];omega)];congr 1;have e1:k - (List.map u8C (List.take k (numL n))).length=0:=by simp [hl];omega
       rw [e1];cases rest with
       | nil=> have:=H3.out;simp at this;omega
       | cons x r=>
        have e2:(numL n)[k]? =some (numB n k):=by simp [numL,hlt]
        rw [e2];rfl
     · have:=H3.out
       simp;omega
    case measure=> simp [intOf];omega
  · obtain rfl:k=8:=by omega
    have hrest:rest=[]:=List.length_eq_zero_iff.1 (by omega);subst hrest;have hl:(numL n).length=8:=by simp [numL]
    rw [List.take_of_length_le (by omega),List.append_nil] at h2;have hcv:(convert 101 9 (.slice (some ⟨b,0,none⟩) 8 8)).run Tryz.prog wr=.ok (.string ⟨(numL n).toArray⟩) wr:=by rw [<-hl];refine run_convert_bytes_back wr 101 9 5 ⟨b,0,none⟩ _ (numL n) (by kernel_rfl) (by kernel_rfl) (by kernel_rfl) λ j hj=> ?_;rw [add_plain,Nat.zero_add,cell_of_row wr b j cs' _ _ h1,<-Array.getElem?_toList,h2,List.getElem?_map,List.getElem?_eq_getElem hj];rfl
    have Hbw:=Lib.hid hbw;have HB:=Lib.hid hbs;clear h1 h2 h3 hbw Hr hl hk hlt;go_wp2;go_ret;exact ⟨rfl,by rw [HB.out];exact Hbw.out⟩
theorem flatMap_get {α:Type} {g:α->List Value} {sz:Nat} (hg:∀y,(g y).length=sz):∀(l:List α) (i r:Nat),r < sz->(l.flatMap g)[i * sz+r]? =(l[i]?).bind λ y=> (g y)[r]?
 | [],i,r,_=> by simp
 | x::l,0,r,h=> by rw [Nat.zero_mul,Nat.zero_add,List.flatMap_cons,List.getElem?_append_left (by rw [hg];exact h)];rfl
 | x::l,i+1,r,h=> by have:=flatMap_get hg l i r h;rw [List.flatMap_cons,List.getElem?_append_right (by rw [hg,Nat.add_mul];omega),hg,Nat.add_mul,Nat.one_mul,show i * sz+sz+r - sz=i * sz+r by omega,this];rfl
theorem flatMap_len {α:Type} {g:α->List Value} {sz:Nat} (hg:∀y,(g y).length=sz) (l:List α):(l.flatMap g).length=l.length * sz:=by
 induction l with
 | nil=> simp
 | cons x l ih=> rw [List.flatMap_cons,List.length_append,ih,hg,List.length_cons,Nat.add_mul];omega
theorem slx_read {α:Type} [Inhabited α] {w:World} {sz:Nat} (h0:0 < sz) (g:α->List Value) (hg:∀y,(g y).length=sz) {P:α->Prop} {b o len cap:Nat} (hcm:len<=maxLen) (hall:∀i,i < len->∃y,(∀j,j < sz->w.cell? ⟨b,o+i * sz+j,none⟩=(g y)[j]?)/\P y):
 ∃l:List α,SlX [] w sz l.length (l.flatMap g) (.slice (some ⟨b,o,none⟩) len cap)/\∀y∈l,P y:=by
 obtain ⟨f,hf⟩:=Deep.choose_lt hall;have hl:((List.range len).map f).length=len:=by simp
 refine ⟨(List.range len).map f,⟨by rw [hl];exact hcm,flatMap_len hg _,some ⟨b,o,none⟩,cap,by rw [hl],λ j hj=> ⟨b,o,rfl,by simp,?_⟩⟩,λ y hy=> ?_⟩
 · rw [flatMap_len hg,hl] at hj
   have hi:j / sz < len:=(Nat.div_lt_iff_lt_mul h0).2 hj;have e:=flatMap_get hg ((List.range len).map f) (j / sz) (j % sz) (Nat.mod_lt _ h0);have ej:j / sz * sz+j % sz=j:=by rw [Nat.mul_comm];exact Nat.div_add_mod _ _
   rw [ej] at e;have h1:=(hf (j / sz) hi).1 (j % sz) (Nat.mod_lt _ h0);rw [Nat.add_assoc,ej] at h1;rw [h1];rw [List.getElem?_map,List.getElem?_range hi] at e;rw [<-List.getElem?_eq_getElem,e];rfl
 · obtain ⟨i,hi,rfl⟩:=List.mem_map.1 hy
   exact (hf i (by simpa using hi)).2
theorem flat_int (l:List Int):l.flatMap (λ n:Int=> [intC n])=l.map intC:=by
 induction l with
 | nil=> rfl
 | cons x l ih=> rw [List.flatMap_cons,ih];rfl
section
open Go.ChangeShapes Go.ChangeAt Go.WideShapes
theorem wf64 {n:Int} (h:(Lit.int .i64 n).wf=true):I64 n:=by
 unfold Lit.wf at h;simp [IntKind.min,IntKind.max,IntKind.bits,IntKind.signed] at h;unfold I64;omega
theorem cV:Tryz.prog.cellsOf 29=3:=by kernel_rfl
theorem cSTR:Tryz.prog.cellsOf 9=1:=by kernel_rfl
theorem cRW:Tryz.prog.cellsOf 27=1:=by kernel_rfl
theorem cI64:Tryz.prog.cellsOf 2=1:=by kernel_rfl
theorem cINT:Tryz.prog.cellsOf 3=1:=by kernel_rfl
theorem cU8:Tryz.prog.cellsOf 5=1:=by kernel_rfl
theorem cIS:Tryz.prog.cellsOf 22=1:=by kernel_rfl
instance:Inhabited Vl:=⟨⟨0,0,⟨#[]⟩⟩⟩
section
variable {H:Type} {enc:TypeId×Value->H} {w:World}
def VlOk (n:Nat) (v:Vl):Prop:=v.text.size<=maxLen/\I64 v.int/\v.text.size<=n
theorem bulk_mem {d:DataW H}:∀{l:List (DataW H)},d∈l->Rows.uptoBulk d<=Rows.uptoBulkAll l
 | x::l,h=> by
  rw [Rows.uptoBulkAll];rcases List.mem_cons.1 h with rfl | h
  · omega
  · have:=bulk_mem h
    omega
theorem read_vl {fuel:Nat} {cs:List Value} {x:DataW H×List MemPlace} (h:DataW.trod enc Tryz.prog w 0 (λ _=> true) true fuel 29 cs=some x):∃v:Vl,cs=v.cells/\VlOk (Rows.uptoBulk x.1) v:=by
 obtain ⟨xs,n, -,rfl,hl,hxl,hx⟩:=DataW.trod_struct Tryz.underlying29 h;rw [cV] at hl
 match cs,hl,hx with
 | [a,b,c],_,hx=>
  match xs,hxl,hx with
  | [x0,x1,x2],_,hx=>
   have h0:=hx 0 _ rfl;have h1:=hx 1 _ rfl;have h2:=hx 2 _ rfl;simp only [List.getElem_toArray,List.getElem_cons_zero,List.getElem_cons_succ,cINT,cI64,cSTR] at h0 h1 h2;obtain ⟨k,e0, -, -⟩:=DataW.trod_int Tryz.underlying3 (by simpa using h0);obtain ⟨i,e1, -,hi⟩:=DataW.trod_int Tryz.underlying2 (by simpa using h1);obtain ⟨t,e2,et,hm⟩:=DataW.trod_string Tryz.underlying9 (by simpa using h2);cases e0;cases e1;cases e2;refine ⟨⟨k,i,t⟩,rfl,hm,wf64 hi,?_⟩;simp only [List.map_cons,List.map_nil,Rows.uptoBulk,Rows.uptoBulkAll,et,Array.length_toList];show t.data.size<=_;omega
theorem read_row {fuel:Nat} {s:Value} {x:DataW H×List MemPlace} (h:DataW.trod enc Tryz.prog w 0 (λ _=> true) true fuel 27 [s]=some x):∃R:Rw,ValsAt w R s/\∀v∈R,I64 v.int/\v.text.size<=Rows.uptoBulk x.1:=by
 rcases slice_read Tryz.underlying27 cV (by omega) h with ⟨a,e⟩ | ⟨b,o,len,cap,k,D,R,e,hb,hlc,hcm,rfl,hxD,hDl,hel⟩
 · cases e
   exact ⟨[],ValsX.nil _ _ _ _,by simp⟩
 · cases e
   obtain ⟨l,h1,h2⟩:=slx_read (w:=w) (cap:=cap) (sz:=3) (by omega) Vl.cells (λ _=> rfl) (P:=VlOk (Rows.uptoBulk x.1)) (b:=b) (o:=o) (len:=len) (Nat.le_trans hlc hcm) (λ i hi=> by obtain ⟨cs',pl, -,hc,ht⟩:=hel i (by rw [hDl];exact hi);obtain ⟨v,rfl,hv⟩:=read_vl ht;have:=bulk_mem (List.getElem_mem (hDl ▸ hi:i < D.length));refine ⟨v,hc,hv.1,hv.2.1,?_⟩;rw [hxD,Rows.uptoBulk];have h9:v.text.size<=Rows.uptoBulk D[i]:=hv.2.2;omega);exact ⟨l,⟨h1,λ v hv=> (h2 v hv).1⟩,λ v hv=> (h2 v hv).2⟩
theorem read_ints {fuel:Nat} {s:Value} {x:DataW H×List MemPlace} (h:DataW.trod enc Tryz.prog w 0 (λ _=> true) true fuel 22 [s]=some x):∃l:List Int,IntsX [] w l s/\∀v∈l,I64 v:=by
 rcases slice_read Tryz.underlying22 cINT (by omega) h with ⟨a,e⟩ | ⟨b,o,len,cap,k,D,R,e,hb,hlc,hcm,rfl,hxD,hDl,hel⟩
 · cases e
   exact ⟨[],SlX.nil _ _ _ _ _,by simp⟩
 · cases e
   obtain ⟨l,h1,h2⟩:=slx_read (w:=w) (cap:=cap) (sz:=1) (by omega) (λ n:Int=> [intC n]) (λ _=> rfl) (P:=I64) (b:=b) (o:=o) (len:=len) (Nat.le_trans hlc hcm) (λ i hi=> by obtain ⟨cs',pl, -,hc,ht⟩:=hel i (by rw [hDl];exact hi);obtain ⟨n,rfl, -,hn⟩:=DataW.trod_int Tryz.underlying3 ht;exact ⟨n,hc,wf64 hn⟩);refine ⟨l,?_,h2⟩;rw [flat_int] at h1;exact h1
end
end
section
def loopA (l:Nat) (r:Loop):Asn:=
 ⟨λ w fp=> w.heap[l]? =some (.loop r)/\fp=[l],λ h k hk=> by rw [h.2] at hk;obtain rfl:=List.mem_singleton.1 hk;exact (Array.getElem?_eq_some_iff.1 h.1).1,λ h hs=> ⟨(hs l (by rw [h.2];simp)).trans h.1,h.2⟩⟩
def defA (D:Nat):Asn:=
 ⟨λ w fp=> w.heap[D]? =some (.deferred (some []))/\fp=[D],λ h k hk=> by rw [h.2] at hk;obtain rfl:=List.mem_singleton.1 hk;exact (Array.getElem?_eq_some_iff.1 h.1).1,λ h hs=> ⟨(hs D (by rw [h.2];simp)).trans h.1,h.2⟩⟩
theorem Tr.putObj (w:World) (l:Nat) (o:Obj):Tr w (w.putObj l o) [l] [l]:=
 ⟨rfl,rfl,rfl,by simp,λ k _ hk=> World.putObj_heap_other (by simpa using hk),λ k hk=> .inl hk⟩
theorem St.loop {w0 w:World} {fp0:List Nat} {L:List Asn} {l:Nat} {r:Loop} (r':Loop) (h:St w0 fp0 (loopA l r::L) w):St w0 fp0 (loopA l r'::L) (w.putObj l (.loop r')):=by
 obtain ⟨f,⟨h1,rfl⟩,h2⟩:=h.get 0 rfl;exact h2 _ _ [l] ⟨World.putObj_heap_same (Array.getElem?_eq_some_iff.1 h1).1,rfl⟩ (Tr.putObj w l _)
theorem St.loop_has {w0 w:World} {fp0:List Nat} {L:List Asn} {l:Nat} {r:Loop} (h:St w0 fp0 (loopA l r::L) w):w.heap[l]? =some (.loop r):=by
 obtain ⟨_,h1,_⟩:=h.has 0 rfl;exact h1
theorem St.loop_new {w0 w:World} {fp0:List Nat} {L:List Asn} (r:Loop) (h:St w0 fp0 L w):St w0 fp0 (loopA (w.heap.size+1) r::defA w.heap.size::L) ((w.alloc (.deferred (some []))).alloc (.loop r)):=by
 have e1:(w.alloc (.deferred (some []))).heap.size=w.heap.size+1:=by simp
 have h1:St w0 fp0 (L++[defA w.heap.size]) (w.alloc (.deferred (some []))):=h.add ((Below.refl _ _).alloc (Nat.le_refl _) _) ⟨World.alloc_heap_new w _,rfl⟩ (by simp);have h2:St w0 fp0 ((L++[defA w.heap.size])++[loopA (w.heap.size+1) r]) ((w.alloc (.deferred (some []))).alloc (.loop r)):=by
  refine h1.add ((Below.refl _ _).alloc (Nat.le_refl _) _) (f:=[w.heap.size+1]) ⟨?_,rfl⟩ (by simp);have:=World.alloc_heap_new (w.alloc (.deferred (some []))) (.loop r)
  rwa [e1] at this
 refine h2.perm ?_
 classical refine List.perm_iff_count.2 λ a=> ?_;simp only [List.count_append,List.count_cons,List.count_nil];omega
def SeqSt {α:Type} (n:Nat) (P:Program) (g:Nat) (lb:Array Value) (encs:α->Array Value) (xs:List α) (L0:List Asn):Prop:=
 ∀(l:Nat) (R:List Asn) (J Jx:List α->List Asn) (w0:World) (fp0:List Nat) (W:World),St w0 fp0 (L0++R) W->
  (∀Own W1,St w0 fp0 ((L0++R)++Own) W1->St w0 fp0 (J []++Own) W1)->
  (∀pre x rest Own W1,xs=pre++x::rest->St w0 fp0 (J pre++Own) W1->YieldAt Fence.wide (n - 1) P l (encs x) W1 λ e W'=>
   (e=.returned (.bool true)/\St w0 fp0 (J (pre++[x])++Own) W')\/(e=.returned (.bool false)/\St w0 fp0 (Jx (pre++[x])++Own) W'))->
  CallsIn Fence.wide n P g (#[.func (.yield l) #[] #[]]++lb) W λ e W'=> (∃v,e=.returned v)/\(St w0 fp0 (J xs) W'\/∃pre x rest,xs=pre++x::rest/\St w0 fp0 (Jx (pre++[x])) W')
def bodySt {α:Type} (w0:World) (fp0:List Nat) (I:List α->List Asn) (Ix:Code->List α->List Asn) (xs:List α) (Own:List Asn):Exit->Act->World->Prop
 | .normal,_,W'=> St w0 fp0 (I xs++Own) W'
 | .ret,_,W'=> St w0 fp0 (Ix .ret xs++Own) W'
 | .exit id,_,W'=> St w0 fp0 (Ix (.exit id) xs++Own) W'
 | .goto t,_,W'=> St w0 fp0 (Ix (.goto t) xs++Own) W'
 | .panic _,_,_=> False
 | .outgrown,_,_=> False
theorem St.comm {w0 w:World} {fp0:List Nat} {A B:List Asn} (h:St w0 fp0 (A++B) w):St w0 fp0 (B++A) w:=h.perm List.perm_append_comm
variable {P:Program}
theorem wp_rangeFunc_st {α:Type} {n:Nat} {g:Operand} {ps:Array Tmp} {assign body:Code} {Q:Exit->Act->World->Prop} {a:Act} {w w0:World} {fp0:List Nat} {gf:Nat} {lb:Array Value} (hg:a.eval g=.func (.func gf) #[] lb)
 (eg:∀args w,(callFunc gf args).run P w=.ok (.enter gf args) w)
 {encs:α->Array Value} {xs:List α} {L0:List Asn} (hseq:SeqSt (n - 1) P gf lb encs xs L0) (hps:∀x,(encs x).size=ps.size)
 (I:List α->List Asn) (Ix:Code->List α->List Asn) (R:List Asn) (hS:St w0 fp0 (L0++R) w) (h0:∀Own W,St w0 fp0 ((L0++R)++Own) W->St w0 fp0 (I []++Own) W)
 (hround:∀(l:Nat) (pre:List α) (x:α) (rest:List α) (Own:List Asn) (W:World),xs=pre++x::rest->St w0 fp0 (I pre++Own) W->
  assign.wpIn (Fence.wide.inRound l) (n - 1 - 1) P (Exit.then (λ a₁ W1=> St w0 fp0 (I pre++Own) W1/\∀Own2 W2,St w0 fp0 (I pre++Own2) W2->body.wpIn (Fence.wide.inRound l) (n - 1 - 1) P (bodySt w0 fp0 I Ix (pre++[x]) Own2) a₁ W2) (λ _ _ _=> False))
   { tmps:=(ps.zip (encs x)).foldl (λ t (p,v)=> t.setIfInBounds p v) a.tmps,defers:=[] } W)
 (hdone:∀(D:Nat) (W:World),St w0 fp0 (defA D::I xs) W->Q .normal { a with defers:={ target:=.collected D,args:=#[] }::a.defers } W)
 (hstop:∀(D:Nat) (c:Code) (pre:List α) (x:α) (rest:List α) (W:World),xs=pre++x::rest->St w0 fp0 (defA D::Ix c (pre++[x])) W->c.wp P Q { a with defers:={ target:=.collected D,args:=#[] }::a.defers } W):
 (Code.rangeFunc g ps assign body).wp P Q a w:=by
 refine (wpIn_wide (n:=n)).1 (wpIn_rangeFunc ?_);intro fn hfn;obtain ⟨D,hD⟩:∃D,w.heap.size=D:=⟨_,rfl⟩
 obtain ⟨rec,hrec⟩:∃rec:LoopState->Option Code->Loop,rec=λ st pe=> { state:=st,pending:=pe,fn,tmps:=a.tmps,params:=ps,assign,body,defers:=D }:=⟨_,rfl⟩
 obtain ⟨W1,hW1⟩:∃W1,(w.alloc (.deferred (some []))).alloc (.loop (rec .ready none))=W1:=⟨_,rfl⟩
 have hS1:St w0 fp0 (loopA (D+1) (rec .ready none)::defA D::(L0++R)) W1:=by rw [<-hW1,<-hD];exact hS.loop_new _
 have hbp:∀st pe,(rec st pe).params=ps:=by intro st pe;rw [hrec]
 have hbs:∀st pe,(rec st pe).state=st/\(rec st pe).pending=pe:=by intro st pe;rw [hrec];exact ⟨rfl,rfl⟩
 have hbr:∀st pe st' pe',{ rec st pe with state:=st',pending:=pe' }=rec st' pe':=by intro st pe st' pe';rw [hrec]
 have hbr1:∀st pe st',{ rec st pe with state:=st' }=rec st' pe:=by intro st pe st';rw [hrec]
 have hout:=run_enterLoop_outer (P:=P) (w:=w) fn a.tmps ps assign body;rw [hD] at hout;refine ⟨D+1,[{ target:=.collected D,args:=#[] }],W1,{ target:=.fn (.func gf) lb,args:=#[.func (.yield (D+1)) #[] #[]] },W1,gf,
  #[.func (.yield (D+1)) #[] #[]]++lb,W1,?_,?_,λ _ _=> trivial,?_,λ h=> (by cases h),?_⟩
 · rw [<-hW1,hrec]
   exact hout
 · simp only [resolve,hg]
   simp [go_sem]
 · simp [invoke,go_sem,eg]
 clear hout;obtain ⟨Bk,hBk⟩:∃Bk:LoopState->Option Code->List Asn,Bk=λ st pe=> [loopA (D+1) (rec st pe),defA D]:=⟨_,rfl⟩
 have hbk:∀st pe (A Own:List Asn) W,St w0 fp0 ((A++Bk st pe)++Own) W↔St w0 fp0 (loopA (D+1) (rec st pe)::(A++defA D::Own)) W:=by
  intro st pe A Own W;rw [hBk];have hp:((A++[loopA (D+1) (rec st pe),defA D])++Own).Perm (loopA (D+1) (rec st pe)::(A++defA D::Own)):=by classical refine List.perm_iff_count.2 λ a=> ?_;simp only [List.count_append,List.count_cons,List.count_nil];omega
  exact ⟨λ h=> h.perm hp,λ h=> h.perm hp.symm⟩
 refine (hseq (D+1) (R++Bk .ready none) (λ pre=> I pre++Bk .ready none) (λ pre=> [exA λ c=> starA (Ix c pre++Bk .done (some c))]) w0 fp0 W1 ?_ ?_ ?_).mono ?_
 · rw [<-List.append_assoc]
   have:=(hbk .ready none (L0++R) [] W1).2 (hS1.perm (by classical refine List.perm_iff_count.2 λ a=> ?_;simp only [List.count_append,List.count_cons,List.count_nil];omega));simpa using this
 · intro Own W h
   have h1:St w0 fp0 ((L0++R)++(Bk .ready none++Own)) W:=by simpa only [List.append_assoc] using h
   have:=h0 _ _ h1;simpa only [List.append_assoc] using this
 · intro pre x rest Own W hxs h
   have h1:=(hbk .ready none (I pre) Own W).1 h;have hl:=h1.loop_has;have hy:=run_yield (P:=P) (args:=encs x) hl (by rw [hbp];exact hps x);rw [hrec] at hy;have h1':St w0 fp0 (I pre++(loopA (D+1) (rec .ready none)::defA D::Own)) W:=h1.perm (by classical refine List.perm_iff_count.2 λ a=> ?_;simp only [List.count_append,List.count_cons];omega);refine ⟨fn,_,assign,body,hy,roundIn_of_wpIn hfn (wpIn_mono (hround _ pre x rest _ W hxs h1') ?_)⟩;rintro e0 a0 W0 hp0;have hn:e0=.normal:=by cases e0 <;> first | rfl | exact hp0.elim
   subst hn;obtain ⟨h1,hbody⟩:=hp0;have h1:St w0 fp0 (loopA (D+1) (rec .ready none)::(I pre++defA D::Own)) W0:=h1.perm (by classical refine List.perm_iff_count.2 λ a=> ?_;simp only [List.count_append,List.count_cons];omega);have hl:=h1.loop_has;have hb:=run_beginRound (P:=P) hl (hbs _ _).1;rw [hbr1] at hb;refine ⟨_,hb,?_⟩;have h2:=h1.loop (rec .busy none);have h3:St w0 fp0 (I pre++(loopA (D+1) (rec .busy none)::defA D::Own)) (W0.putObj (D+1) (.loop (rec .busy none))):=h2.perm (by classical refine List.perm_iff_count.2 λ a=> ?_;simp only [List.count_append,List.count_cons];omega);refine wpIn_mono (hbody _ _ h3) ?_;have fin:∀(A:List Asn) (jump:Option Code) (W3:World),St w0 fp0 (A++(loopA (D+1) (rec .busy none)::defA D::Own)) W3->
    (Instr.endRound (D+1) jump).run P W3=.ok (.bool jump.isNone) (W3.putObj (D+1) (.loop (rec (if jump.isNone then .ready else .done) jump)))/\
    St w0 fp0 ((A++Bk (if jump.isNone then .ready else .done) jump)++Own) (W3.putObj (D+1) (.loop (rec (if jump.isNone then .ready else .done) jump))):=by
    intro A jump W3 h;have h4:St w0 fp0 (loopA (D+1) (rec .busy none)::(A++defA D::Own)) W3:=h.perm (by classical refine List.perm_iff_count.2 λ a=> ?_;simp only [List.count_append,List.count_cons];omega);have hr:=run_endRound (P:=P) jump h4.loop_has;rw [hbr] at hr;exact ⟨hr,(hbk _ _ A Own _).2 (h4.loop _)⟩
   have ex:∀(c:Code) (A:List Asn) W3,St w0 fp0 ((Ix c (pre++[x])++Bk .done (some c))++Own) W3->St w0 fp0 ([exA λ c=> starA (Ix c (pre++[x])++Bk .done (some c))]++Own) W3:=by intro c A W3 h;exact h.fold λ f hf=> ⟨c,hf⟩
   rintro e a3 W3 hp;cases e with
   | normal=>
    obtain ⟨hr,h4⟩:=fin _ none W3 hp;exact ⟨_,_,hr, .inl ⟨rfl,h4⟩⟩
   | ret=>
    obtain ⟨hr,h4⟩:=fin _ (some .ret) W3 hp;exact ⟨_,_,hr, .inr ⟨rfl,ex _ [] _ h4⟩⟩
   | exit id=>
    obtain ⟨hr,h4⟩:=fin _ (some (.exit id)) W3 hp;exact ⟨_,_,hr, .inr ⟨rfl,ex _ [] _ h4⟩⟩
   | goto t=>
    obtain ⟨hr,h4⟩:=fin _ (some (.goto t)) W3 hp;exact ⟨_,_,hr, .inr ⟨rfl,ex _ [] _ h4⟩⟩
   | panic ch=> exact hp.elim
   | outgrown=> exact hp.elim
 · rintro e W2 ⟨⟨v,rfl⟩,h | ⟨pre,x,rest,hxs,h⟩⟩
   · have h1:=(hbk .ready none (I xs) [] W2).1 (by rwa [List.append_nil])
     have hr:=run_endLoop (P:=P) h1.loop_has (by rw [(hbs _ _).1];simp);rw [(hbs _ _).2] at hr;refine ⟨none,_,hr,hdone D _ ?_⟩;exact (h1.loop _).drop.perm (by classical refine List.perm_iff_count.2 λ a=> ?_;simp only [List.count_append,List.count_cons,List.count_nil];omega)
   · obtain ⟨fp,⟨f,g',⟨c,hc⟩,hg',hd,rfl⟩,ht⟩:=h
     have h0':St w0 fp0 (Ix c (pre++[x])++Bk .done (some c)) W2:=by rw [show g'=[] from hg',List.append_nil] at ht;exact ⟨f,hc,ht⟩
     have h1:=(hbk .done (some c) (Ix c (pre++[x])) [] W2).1 (by rwa [List.append_nil]);have hr:=run_endLoop (P:=P) h1.loop_has (by rw [(hbs _ _).1];simp);rw [(hbs _ _).2] at hr;refine ⟨some c,_,hr,wpIn_wide.2 (hstop D c pre x rest _ hxs ?_)⟩;exact (h1.loop _).drop.perm (by classical refine List.perm_iff_count.2 λ a=> ?_;simp only [List.count_append,List.count_cons,List.count_nil];omega)
theorem wpListIn_append_run {F:Fence} {n:Nat} {w w':World} {ops:Array Oper} {rest:List Oper} {o:Oper} {a:Act} {Q:Exit->Act->World->Prop} (hg:o.guard=none) (s x:Operand) (t:TypeId)
 (hop:o.op=Op.call { callee:=Callee.builtin Builtin.append,args:=#[s,x],argTypes:=#[t,t] }) {v v2 v':Value} (hs:a.eval s=v) (hx:a.eval x=v2) (hr:(Builtin.append_ #[t,t] o.type #[v,v2]).run P w=.ok v' w')
 (hK:wpListIn F n P ops Q rest (a.put o.dst v') w'):wpListIn F n P ops Q (o::rest) a w:=by
 refine wpListIn_plain hg λ K hK'=> ?_;unfold Oper.wpIn;refine ⟨?_,?_⟩
 · simp [Oper.about,hop,resolve,Target.leads,Sem.run_pure]
 · rw [Oper.semAt_plain F _ _ (by rw [hop];intro c hc';cases hc')]
   simp [execOp,hop,resolve,invoke,builtin,hs,hx,hr,Result.andThen];exact hK' _ _ hK
theorem wpList_append_run {w w':World} {ops:Array Oper} {rest:List Oper} {o:Oper} {a:Act} {Q:Exit->Act->World->Prop} (hg:o.guard=none) (s x:Operand) (t:TypeId)
 (hop:o.op=Op.call { callee:=Callee.builtin Builtin.append,args:=#[s,x],argTypes:=#[t,t] }) {v v2 v':Value} (hs:a.eval s=v) (hx:a.eval x=v2) (hr:(Builtin.append_ #[t,t] o.type #[v,v2]).run P w=.ok v' w')
 (hK:wpList P ops Q rest (a.put o.dst v') w'):wpList P ops Q (o::rest) a w:=by
 refine wpList_plain hg λ K hK'=> ?_;unfold Oper.wp execOp;simp only [hop,resolve,invoke,builtin,Sem.run_bind,Sem.run_pure,Result.andThen_ok,List.map_toArray,List.map_cons,List.map_nil,hs,hx,hr];exact hK' _ _ hK
theorem run_eql_func_nil {t:TypeId} {ps rs:Array TypeId} {vr:Bool} {fn:Fn} {first cap:Array Value} (ht:P.underlying t=some (.func ps rs vr)) (w:World):(binOp .eql t (.func fn first cap) .nilFunc).run P w=.ok (.bool false) w:=by
 have h:∀d:Nat,(Op.equalIn (d+1) t (.func fn first cap) .nilFunc).run P w=.ok false w:=λ d=> by simp [Op.equalIn,run_underlying ht]
 simp only [binOp];simp [Op.equal,Op.maxDepth,h 9999]
theorem calls_of_wp_m {f:FuncId} {fn:Func} {c:Code} {args:Array Value} {w:World} {R:Ending->World->Prop} (hf:P.funcs[f]? =some fn) (hb:fn.body=some c)
 (h:c.wp P (bodyPostM Fence.wide 0 P fn R) { tmps:=args++Array.replicate (fn.ntmps - args.size) undef,defers:=[] } w):Calls P f args w R:=
 callsIn_wide.1 (callsIn_of_wp_marks (n:=0) hf hb trivial (wpIn_wide.2 h))
theorem bodyPostM_ret {fn:Func} {R:Ending->World->Prop} {a:Act} {w:World} {v:Value} (hr:(results fn a.tmps).run P w=.ok v w) (hd:a.defers=[]) (hR:R (.returned v) w):bodyPostM Fence.wide 0 P fn R .ret a w:=by
 show LeavesInM _ _ _ _ _ _ a.defers .returning w;rw [hd];exact ⟨v,hr,hR⟩
theorem St.undef {w0 w:World} {fp0:List Nat} {D:Nat} {L:List Asn} (h:St w0 fp0 (defA D::L) w):St w0 fp0 L (w.putObj D (.deferred none)):=by
 obtain ⟨f,⟨h1,rfl⟩,h2⟩:=h.get 0 rfl;have h3:=h2 YtnefkkidfhmggaaGreat.emp (w.putObj D (.deferred none)) [] rfl ⟨rfl,rfl,rfl,by simp,λ k _ hk=> World.putObj_heap_other (by simpa using hk),λ k hk=> by cases hk⟩;exact St.emp.1 h3
theorem bodyPostM_mark {fn:Func} {R:Ending->World->Prop} {a:Act} {w w0:World} {fp0:List Nat} {D:Nat} {L:List Asn} (hS:St w0 fp0 (defA D::L) w) (hd:a.defers=[{ target:=.collected D,args:=#[] }])
 (h:∀w',St w0 fp0 L w'->∃v,(results fn a.tmps).run P w'=.ok v w'/\R (.returned v) w'):bodyPostM Fence.wide 0 P fn R .ret a w:=by
 show LeavesInM _ _ _ _ _ _ a.defers .returning w;rw [hd];obtain ⟨_,hk,_⟩:=hS.has 0 rfl;exact ⟨by simp, .inl ⟨_,_,rfl,run_takeDeferred hk,h _ hS.undef⟩⟩
end
theorem wpOpIn_wide {P:Program} {n:Nat} {ops:Array Oper} {Q:Exit->Act->World->Prop} {i:Nat} {K:Act->World->Prop} {a:Act} {w:World} {o:Oper} (ho:ops[i]? =some o) (hw:Region.wanted o (yielded ops a.tmps)=true) (hnd:∀c,o.op≠.defer c)
 (h:o.wp P a w K (NoPanic Q)):wpOpIn Fence.wide n P ops Q i K a w:=by
 unfold wpOpIn;simp only [ho,hw,if_true];refine ⟨λ _ _=> trivial,?_⟩;rw [Oper.semAt_plain _ _ _ hnd];unfold Oper.wp at h;revert h;generalize (execOp a.eval o).run P w=r;intro h;cases r with
 | ok x w'=>
  cases x with
  | enter f args=>
   refine ⟨(λ hh=> by cases hh),callsIn_wide.2 (Calls.mono h (λ e w'' he=> ?_))⟩;cases e with
   | returned v=> exact he
   | panicked c=> exact (he:False).elim
   | outgrown=> exact he
  | row row args=>
   refine ⟨(λ hh=> by cases hh),λ c cs _=> ?_⟩;obtain ⟨v,w'',r,s⟩:=h c cs;exact ⟨v,w'',r,stepsIn_wide.2 s⟩
  | value v=> exact h
  | skip=> exact h
  | defer d=> exact h
  | _=> exact (h:False).elim
 | halt x w'=> cases x <;> exact (h:False).elim
theorem wpAnyIn_inv {F:Fence} {n:Nat} {P:Program} {ops:Array Oper} {Q:Exit->Act->World->Prop} {Inv:(Nat->Bool)->Act->World->Prop} (hf:forwardB ops=true)
 (hstep:∀(i:Nat) (o:Oper) (L:Nat->Bool) (a:Act) (w:World),ops[i]? =some o->L i=false->(∀e∈o.after,Region.binds .any e=true->L e.on=true)->Inv L a w->wpOpIn F n P ops Q i (λ a' w'=> Inv (λ j=> L j || decide (j=i)) a' w') a w)
 (hend:∀(L:Nat->Bool) (a:Act) (w:World),(∀i,i < ops.size->L i=true)->Inv L a w->Q .normal a w):
 ∀(fuel:Nat) (listed:Array Bool) (a:Act) (w:World),listed.size=ops.size->left listed<=fuel->Inv (λ j=> listed.getD j false) a w->wpAnyIn F n P .any ops Q fuel listed a w
 | 0,listed,a,w,hs,hl,hI=> by
  have hr:Region.ready .any ops listed=[]:=by
   rw [List.eq_nil_iff_forall_not_mem];intro j hj;obtain ⟨hun,oj,hoj,_⟩:=mem_ready.1 hj;have hlt:j < listed.size:=by have:=(Array.getElem?_eq_some_iff.1 hoj).1;omega
   have:0 < listed.toList.count false:=List.count_pos_iff.2 (by
    have hx:listed.toList[j]'(by simpa using hlt)=false:=by simpa [Array.getD,hlt] using hun
    rw [<-hx];exact List.getElem_mem _)
   unfold left at hl;omega
  exact wpAnyIn_done hr (hend _ _ _ (ready_nil hf hs hr) hI) 0
 | fuel+1,listed,a,w,hs,hl,hI=> by
  refine ⟨λ hr=> hend _ _ _ (ready_nil hf hs hr) hI,λ j hj=> ?_⟩;obtain ⟨hun,oj,hoj,hall⟩:=mem_ready.1 hj;have hlt:j < listed.size:=by have:=(Array.getElem?_eq_some_iff.1 hoj).1;omega
  have hun':listed.getD j false=false:=by simpa [Array.getD,hlt] using hun
  refine wpOpIn_mono (λ a' w' h'=> wpAnyIn_inv hf hstep hend fuel (listed.setIfInBounds j true) a' w' (by simpa using hs) ?_ ?_) (hstep j oj (λ j=> listed.getD j false) a w hoj hun' hall hI)
  · have:=left_set hlt hun'
    omega
  · have:(λ k=> (listed.setIfInBounds j true).getD k false)=λ k=> listed.getD k false || decide (k=j):=by
     funext k;by_cases hk:k=j
     · subst hk
       simp [Array.getD,hlt]
     · rw [getD_set_ne false (λ h=> hk h.symm)]
       simp [hk]
    rw [this];exact h'
theorem wpIn_region_inv {P:Program} {m id:Nat} {ops ops':Array Oper} {Q:Exit->Act->World->Prop} {a:Act} {w:World} (Inv:(Nat->Bool)->Act->World->Prop) (he:ops=ops') (hm:P.follows .mixedOrders=true) (hf:forwardB ops'=true)
 (h0:Inv (λ _=> false) a w.drew)
 (hstep:∀(i:Nat) (o:Oper) (L:Nat->Bool) (a:Act) (w:World),ops'[i]? =some o->L i=false->(∀e∈o.after,Region.binds .any e=true->L e.on=true)->Inv L a w->wpOpIn Fence.wide m P ops' Q i (λ a' w'=> Inv (λ j=> L j || decide (j=i)) a' w') a w)
 (hend:∀(L:Nat->Bool) (a:Act) (w:World),(∀i,i < ops'.size->L i=true)->Inv L a w->Q .normal a w):(Code.region id ops true).wpIn Fence.wide m P Q a w:=by
 subst he;refine wpIn_region_any hm (wpAnyIn_inv hf hstep hend _ _ _ _ (by simp) ?_ ?_)
 · unfold left
   exact Nat.le_trans List.count_le_length (by simp)
 · have:(λ j=> (Array.replicate ops.size false).getD j false)=λ _=> false:=by
    funext j;simp [Array.getD]
   rw [this];exact h0
theorem wpIn_region_tail {P:Program} {m id:Nat} {ops ops':Array Oper} {Q:Exit->Act->World->Prop} {a:Act} {w:World} (N:Nat) (ks:List Nat) (fs:List Ft) (he:ops=ops') (hm:P.follows .mixedOrders=true) (hN:0 < N/\N<=ops'.size)
 (hf:forwardB ops'=true) (hnd:(List.range N).all (λ i=> match ops'[i]? with | some o=> (match o.op with | .defer _=> false | _=> true) | none=> true)=true) (hc:coverN ops' N (fs.map λ f=> (f.i,f.d))=true) (ht:tailN ops' N=true) (hi:(fs.map (·.i)).Nodup) (hd:(fs.map (·.d)).Nodup) (hk:∀f∈fs,f.d∈ks/\f.d < a.tmps.size/\f.i < N)
 (hstep:∀f∈fs,∀(o:Oper) (a1:Act) (w1:World),ops'[f.i]? =some o->Below w.heap.size w w1->(∀d,d ∉ ks->a1.eval (.tmp d)=a.eval (.tmp d))->(∀g∈fs,waitsB ops' f.i g.i=true->g.p w1 (a1.eval (.tmp g.d)))->
  ∀K:Act->World->Prop,(∀v w2,Below w1.heap.size w1 w2->f.p w2 v->K (a1.put (some f.d) v) w2)->o.wp P a1 w1 K (NoPanic Q))
 (hend:∀a1 w1,FrameLike a a1 ks->Below w.heap.size w w1->(∀f∈fs,f.p w1 (a1.eval (.tmp f.d)))->wpListIn Fence.wide m P ops' Q (ops'.toList.drop N) a1 w1):(Code.region id ops true).wpIn Fence.wide m P Q a w:=by
 have cov:∀i,i < N->∃o,ops'[i]? =some o/\o.guard=none/\∃f∈fs,f.i=i/\o.dst=some f.d:=by
  intro i hiN;unfold coverN at hc;have h1:=List.all_eq_true.1 hc i (List.mem_range.2 hiN);split at h1
  · cases h1
  · rename_i o ho
    simp only [Bool.and_eq_true,Option.isNone_iff_eq_none,List.any_eq_true,List.mem_map] at h1;obtain ⟨h2,t,⟨f,hf,rfl⟩,h3⟩:=h1;exact ⟨o,ho,h2,f,hf,by simpa using h3.1,by simpa using h3.2⟩
 have tl:∀i,N<=i->i < ops'.size->∀j,j < i->((closOf ops').getD i []).elem j=true:=by
  intro i h1 h2 j h3;have h4:=List.all_eq_true.1 ht i (List.mem_range.2 h2);rcases Bool.or_eq_true_iff.1 h4 with h5 | h5
  · have:=of_decide_eq_true h5;omega
  · exact List.all_eq_true.1 h5 j (List.mem_range.2 h3)
 let J:(Nat->Bool)->Act->World->Prop:=λ L a1 w1=> Down ops' L/\
  (((∃j,j < N/\L j=false)/\FInv a ks fs w L a1 w1)\/((∀j,j < N->L j=true)/\∃i,N<=i/\i<=ops'.size/\(∀j,N<=j->j < ops'.size->(L j=true↔j < i))/\wpListIn Fence.wide m P ops' Q (ops'.toList.drop i) a1 w1))
 refine wpIn_region_inv J he hm hf ⟨λ _ _ _ h=> (nomatch h), .inl ⟨⟨0,hN.1,rfl⟩,FrameLike.refl _ _,Below.drew (Below.refl _ _),λ _ _ h=> (nomatch h)⟩⟩ ?_ ?_
 · rintro i o L a1 w1 ho hL hdep ⟨hdn,hI⟩
   have hsz:=(Array.getElem?_eq_some_iff.1 ho).1;have hdn':Down ops' λ j=> L j || decide (j=i):=by
    intro j o' ho' hj e he' hb;rcases Bool.or_eq_true_iff.1 hj with h | h
    · exact Bool.or_eq_true_iff.2 (.inl (hdn j o' ho' h e he' hb))
    · have:=of_decide_eq_true h
      subst this;rw [ho] at ho';cases ho';exact Bool.or_eq_true_iff.2 (.inl (hdep e he' hb))
   have hall:∀j,((closOf ops').getD i []).elem j=true->L j=true:=λ j hj=> clos_true hdn ho hdep j (List.elem_iff.1 hj);rcases hI with ⟨⟨j0,hj0,hj0'⟩,hI⟩ | ⟨hh,k,k1,k2,k3,k4⟩
   · have hiN:i < N:=by
      apply Classical.byContradiction;intro hn;have:=hall j0 (tl i (by omega) hsz j0 (by omega));rw [hj0'] at this;cases this
     obtain ⟨o',ho',hg,f,hfm,rfl,hdst⟩:=cov i hiN;rw [ho] at ho';obtain rfl:=Option.some.inj ho';have hw:Region.wanted o (yielded ops' a1.tmps)=true:=by simp [Region.wanted,hg]
     have hlate:∀j,N<=j->j < ops'.size->L j=false:=by
      intro j h1 h2;cases hj:L j with
      | false=> rfl
      | true=>
       have h3:=clos_true hdn (o:=ops'[j]) (Array.getElem?_eq_getElem h2) (λ e he' hb=> hdn j _ (Array.getElem?_eq_getElem h2) hj e he' hb) j0 (List.elem_iff.1 (tl j h1 h2 j0 (by omega)));rw [hj0'] at h3;cases h3
     refine wpOpIn_wide ho hw (λ c hc=> by have h9:=List.all_eq_true.1 hnd f.i (List.mem_range.2 hiN);rw [ho] at h9;simp only [hc] at h9;cases h9) (hstep f hfm o a1 w1 ho hI.below (λ d hd=> hI.frame.same d hd) (λ g hgm hwt=> hI.facts g hgm (dep_of ho hdep hwt)) _ (λ v w2 hb hp=> ?_));have hI2:FInv a ks fs w (λ j=> L j || decide (j=f.i)) (a1.put o.dst v) w2:=by
      rw [hdst];refine ⟨hI.frame.put (hk f hfm).1 v,hI.below.trans (hb.mono hI.below.size),λ g hgm hL'=> ?_⟩;by_cases e:g.i=f.i
      · have:=pair_nodup hi hgm hfm e
        subst this;rw [eval_put_same (by rw [hI.frame.size];exact (hk g hgm).2.1)];exact hp
      · have hne:g.d≠f.d:=λ e'=> e (by rw [pair_nodup_d hd hgm hfm e'])
        rw [eval_put_ne hne.symm];exact g.mono _ _ _ (hI.facts g hgm (by simpa [e] using hL')) hb
     rw [<-hdst];refine ⟨hdn',?_⟩;by_cases hdone:∃j,j < N/\(L j || decide (j=f.i))=false
     · exact .inl ⟨hdone,hI2⟩
     · refine .inr ⟨λ j hj=> ?_,N,Nat.le_refl _,hN.2,λ j h1 h2=> ?_,hend _ _ hI2.frame hI2.below λ g hgm=> hI2.facts g hgm ?_⟩
       · show (L j || decide (j=f.i))=true
         cases hx:(L j || decide (j=f.i)) with
         | true=> rfl
         | false=> exact (hdone ⟨j,hj,hx⟩).elim
       · show (L j || decide (j=f.i))=true↔_
         rw [hlate j h1 h2];simp;omega
       · show (L g.i || decide (g.i=f.i))=true
         cases hx:(L g.i || decide (g.i=f.i)) with
         | true=> rfl
         | false=> exact (hdone ⟨g.i,(hk g hgm).2.2,hx⟩).elim
   · have hiN:N<=i:=by
      apply Classical.byContradiction;intro hn;rw [hh i (by omega)] at hL;cases hL
     have hik:i=k:=by
      have h1:¬ i < k:=λ h=> by rw [(k3 i hiN hsz).2 h] at hL;cases hL
      apply Classical.byContradiction;intro hne;have hk':k < i:=by omega
      have h2:=hall k (tl i hiN hsz k hk');have:=(k3 k k1 (by omega)).1 h2;omega
     subst hik;have hdr:ops'.toList.drop i=o::ops'.toList.drop (i+1):=drop_head (by rw [Array.getElem?_toList];exact ho);rw [hdr] at k4;unfold wpOpIn;simp only [ho];unfold wpListIn at k4;have hnext:∀a2 w2,wpListIn Fence.wide m P ops' Q (ops'.toList.drop (i+1)) a2 w2->J (λ j=> L j || decide (j=i)) a2 w2:=λ a2 w2 h=> by refine ⟨hdn', .inr ⟨λ j hj=> by show (L j || decide (j=i))=true;rw [hh j hj];rfl,i+1,by omega,by omega,λ j h1 h2=> ?_,h⟩⟩;show (L j || decide (j=i))=true↔_;rw [Bool.or_eq_true_iff,k3 j h1 h2,decide_eq_true_iff];omega
     split
     · rename_i hw
       rw [if_pos hw] at k4;exact Oper.wpIn_mono hnext k4
     · rename_i hw
       rw [if_neg hw] at k4;exact ⟨k4.1,hnext _ _ k4.2⟩
 · rintro L a1 w1 hL ⟨_,⟨⟨j,hj,hj'⟩,_⟩ | ⟨_,i,h1,h2,h3,h4⟩⟩
   · rw [hL j (by omega)] at hj'
     cases hj'
   · have:i=ops'.size:=by
      apply Classical.byContradiction;intro hne;have:=(h3 i h1 (by omega)).1 (hL i (by omega));omega
     subst this;rw [List.drop_of_length_le (by simp)] at h4;exact h4
def SeqG {α:Type} (n:Nat) (P:Program) (g:Nat) (lb:Array Value) (sz:Nat) (G:α->Array Value->Asn) (Qr:World->Prop) (xs:List α) (L0:List Asn):Prop:=
 ∀(l:Nat) (R:List Asn) (J Jx:List α->List Asn) (w0:World) (fp0:List Nat) (W:World),St w0 fp0 (L0++R) W->
  (∀Own W1,St w0 fp0 ((L0++R)++Own) W1->St w0 fp0 (J []++Own) W1)->(∀pre Own W1,St w0 fp0 (J pre++Own) W1->Qr W1)->
  (∀pre x rest Own W1 args,xs=pre++x::rest->args.size=sz->St w0 fp0 (G x args::(J pre++Own)) W1->YieldAt Fence.wide (n - 1) P l args W1 λ e W'=>
   (e=.returned (.bool true)/\St w0 fp0 (J (pre++[x])++Own) W')\/(e=.returned (.bool false)/\St w0 fp0 (Jx (pre++[x])++Own) W'))->
  CallsIn Fence.wide n P g (#[.func (.yield l) #[] #[]]++lb) W λ e W'=> (∃v,e=.returned v)/\(St w0 fp0 (J xs) W'\/∃pre x rest,xs=pre++x::rest/\St w0 fp0 (Jx (pre++[x])) W')
theorem wp_rangeFunc_g {P:Program} {α:Type} {n:Nat} {g:Operand} {ps:Array Tmp} {assign body:Code} {Q:Exit->Act->World->Prop} {a:Act} {w w0:World} {fp0:List Nat} {gf:Nat} {lb:Array Value} (hg:a.eval g=.func (.func gf) #[] lb)
 (eg:∀args w,(callFunc gf args).run P w=.ok (.enter gf args) w)
 {G:α->Array Value->Asn} {Qr:World->Prop} {xs:List α} {L0:List Asn} (hseq:SeqG (n - 1) P gf lb ps.size G Qr xs L0)
 (I:List α->List Asn) (Ix:Code->List α->List Asn) (R:List Asn) (hS:St w0 fp0 (L0++R) w) (h0:∀Own W,St w0 fp0 ((L0++R)++Own) W->St w0 fp0 (I []++Own) W) (hqr:∀pre Own W,St w0 fp0 (I pre++Own) W->Qr W)
 (hround:∀(l:Nat) (pre:List α) (x:α) (rest:List α) (args:Array Value) (Own:List Asn) (W:World),xs=pre++x::rest->args.size=ps.size->St w0 fp0 ((G x args::I pre)++Own) W->
  assign.wpIn (Fence.wide.inRound l) (n - 1 - 1) P (Exit.then (λ a₁ W1=> St w0 fp0 ((G x args::I pre)++Own) W1/\∀Own2 W2,St w0 fp0 ((G x args::I pre)++Own2) W2->body.wpIn (Fence.wide.inRound l) (n - 1 - 1) P (bodySt w0 fp0 I Ix (pre++[x]) Own2) a₁ W2) (λ _ _ _=> False))
   { tmps:=(ps.zip args).foldl (λ t (p,v)=> t.setIfInBounds p v) a.tmps,defers:=[] } W)
 (hdone:∀(D:Nat) (W:World),St w0 fp0 (defA D::I xs) W->Q .normal { a with defers:={ target:=.collected D,args:=#[] }::a.defers } W)
 (hstop:∀(D:Nat) (c:Code) (pre:List α) (x:α) (rest:List α) (W:World),xs=pre++x::rest->St w0 fp0 (defA D::Ix c (pre++[x])) W->c.wp P Q { a with defers:={ target:=.collected D,args:=#[] }::a.defers } W):
 (Code.rangeFunc g ps assign body).wp P Q a w:=by
 refine (wpIn_wide (n:=n)).1 (wpIn_rangeFunc ?_);intro fn hfn;obtain ⟨D,hD⟩:∃D,w.heap.size=D:=⟨_,rfl⟩
 obtain ⟨rec,hrec⟩:∃rec:LoopState->Option Code->Loop,rec=λ st pe=> { state:=st,pending:=pe,fn,tmps:=a.tmps,params:=ps,assign,body,defers:=D }:=⟨_,rfl⟩
 obtain ⟨W1,hW1⟩:∃W1,(w.alloc (.deferred (some []))).alloc (.loop (rec .ready none))=W1:=⟨_,rfl⟩
 have hS1:St w0 fp0 (loopA (D+1) (rec .ready none)::defA D::(L0++R)) W1:=by rw [<-hW1,<-hD];exact hS.loop_new _
 have hbp:∀st pe,(rec st pe).params=ps:=by intro st pe;rw [hrec]
 have hbs:∀st pe,(rec st pe).state=st/\(rec st pe).pending=pe:=by intro st pe;rw [hrec];exact ⟨rfl,rfl⟩
 have hbr:∀st pe st' pe',{ rec st pe with state:=st',pending:=pe' }=rec st' pe':=by intro st pe st' pe';rw [hrec]
 have hbr1:∀st pe st',{ rec st pe with state:=st' }=rec st' pe:=by intro st pe st';rw [hrec]
 have hout:=run_enterLoop_outer (P:=P) (w:=w) fn a.tmps ps assign body;rw [hD] at hout;refine ⟨D+1,[{ target:=.collected D,args:=#[] }],W1,{ target:=.fn (.func gf) lb,args:=#[.func (.yield (D+1)) #[] #[]] },W1,gf,
  #[.func (.yield (D+1)) #[] #[]]++lb,W1,?_,?_,λ _ _=> trivial,?_,λ h=> (by cases h),?_⟩
 · rw [<-hW1,hrec]
   exact hout
 · simp only [resolve,hg]
   simp [go_sem]
 · simp [invoke,go_sem,eg]
 clear hout;obtain ⟨Bk,hBk⟩:∃Bk:LoopState->Option Code->List Asn,Bk=λ st pe=> [loopA (D+1) (rec st pe),defA D]:=⟨_,rfl⟩
 have hbk:∀st pe (A Own:List Asn) W,St w0 fp0 ((A++Bk st pe)++Own) W↔St w0 fp0 (loopA (D+1) (rec st pe)::(A++defA D::Own)) W:=by
  intro st pe A Own W;rw [hBk];have hp:((A++[loopA (D+1) (rec st pe),defA D])++Own).Perm (loopA (D+1) (rec st pe)::(A++defA D::Own)):=by classical refine List.perm_iff_count.2 λ a=> ?_;simp only [List.count_append,List.count_cons,List.count_nil];omega
  exact ⟨λ h=> h.perm hp,λ h=> h.perm hp.symm⟩
 refine (hseq (D+1) (R++Bk .ready none) (λ pre=> I pre++Bk .ready none) (λ pre=> [exA λ c=> starA (Ix c pre++Bk .done (some c))]) w0 fp0 W1 ?_ ?_ (λ pre Own W h=> hqr pre (Bk .ready none++Own) W (by simpa only [List.append_assoc] using h)) ?_).mono ?_
 · rw [<-List.append_assoc]
   have:=(hbk .ready none (L0++R) [] W1).2 (hS1.perm (by classical refine List.perm_iff_count.2 λ a=> ?_;simp only [List.count_append,List.count_cons,List.count_nil];omega));simpa using this
 · intro Own W h
   have h1:St w0 fp0 ((L0++R)++(Bk .ready none++Own)) W:=by simpa only [List.append_assoc] using h
   have:=h0 _ _ h1;simpa only [List.append_assoc] using this
 · intro pre x rest Own W args hxs hsz h
   have h1:=(hbk .ready none (G x args::I pre) Own W).1 (by simpa only [List.cons_append,List.append_assoc] using h);have hl:=h1.loop_has;have hy:=run_yield (P:=P) (args:=args) hl (by rw [hbp];exact hsz);rw [hrec] at hy;have h1':St w0 fp0 ((G x args::I pre)++(loopA (D+1) (rec .ready none)::defA D::Own)) W:=h1.perm (by classical refine List.perm_iff_count.2 λ a=> ?_;simp only [List.cons_append,List.count_append,List.count_cons];omega);refine ⟨fn,_,assign,body,hy,roundIn_of_wpIn hfn (wpIn_mono (hround _ pre x rest args _ W hxs hsz h1') ?_)⟩;rintro e0 a0 W0 hp0;have hn:e0=.normal:=by cases e0 <;> first | rfl | exact hp0.elim
   subst hn;obtain ⟨h1,hbody⟩:=hp0;have h1:St w0 fp0 (loopA (D+1) (rec .ready none)::((G x args::I pre)++defA D::Own)) W0:=h1.perm (by classical refine List.perm_iff_count.2 λ a=> ?_;simp only [List.cons_append,List.count_append,List.count_cons];omega);have hl:=h1.loop_has;have hb:=run_beginRound (P:=P) hl (hbs _ _).1;rw [hbr1] at hb;refine ⟨_,hb,?_⟩;have h2:=h1.loop (rec .busy none);have h3:St w0 fp0 ((G x args::I pre)++(loopA (D+1) (rec .busy none)::defA D::Own)) (W0.putObj (D+1) (.loop (rec .busy none))):=h2.perm (by classical refine List.perm_iff_count.2 λ a=> ?_;simp only [List.cons_append,List.count_append,List.count_cons];omega);refine wpIn_mono (hbody _ _ h3) ?_;have fin:∀(A:List Asn) (jump:Option Code) (W3:World),St w0 fp0 (A++(loopA (D+1) (rec .busy none)::defA D::Own)) W3->
    (Instr.endRound (D+1) jump).run P W3=.ok (.bool jump.isNone) (W3.putObj (D+1) (.loop (rec (if jump.isNone then .ready else .done) jump)))/\
    St w0 fp0 ((A++Bk (if jump.isNone then .ready else .done) jump)++Own) (W3.putObj (D+1) (.loop (rec (if jump.isNone then .ready else .done) jump))):=by
    intro A jump W3 h;have h4:St w0 fp0 (loopA (D+1) (rec .busy none)::(A++defA D::Own)) W3:=h.perm (by classical refine List.perm_iff_count.2 λ a=> ?_;simp only [List.count_append,List.count_cons];omega);have hr:=run_endRound (P:=P) jump h4.loop_has;rw [hbr] at hr;exact ⟨hr,(hbk _ _ A Own _).2 (h4.loop _)⟩
   have ex:∀(c:Code) (A:List Asn) W3,St w0 fp0 ((Ix c (pre++[x])++Bk .done (some c))++Own) W3->St w0 fp0 ([exA λ c=> starA (Ix c (pre++[x])++Bk .done (some c))]++Own) W3:=by intro c A W3 h;exact h.fold λ f hf=> ⟨c,hf⟩
   rintro e a3 W3 hp;cases e with
   | normal=>
    obtain ⟨hr,h4⟩:=fin _ none W3 hp;exact ⟨_,_,hr, .inl ⟨rfl,h4⟩⟩
   | ret=>
    obtain ⟨hr,h4⟩:=fin _ (some .ret) W3 hp;exact ⟨_,_,hr, .inr ⟨rfl,ex _ [] _ h4⟩⟩
   | exit id=>
    obtain ⟨hr,h4⟩:=fin _ (some (.exit id)) W3 hp;exact ⟨_,_,hr, .inr ⟨rfl,ex _ [] _ h4⟩⟩
   | goto t=>
    obtain ⟨hr,h4⟩:=fin _ (some (.goto t)) W3 hp;exact ⟨_,_,hr, .inr ⟨rfl,ex _ [] _ h4⟩⟩
   | panic ch=> exact hp.elim
   | outgrown=> exact hp.elim
 · rintro e W2 ⟨⟨v,rfl⟩,h | ⟨pre,x,rest,hxs,h⟩⟩
   · have h1:=(hbk .ready none (I xs) [] W2).1 (by rwa [List.append_nil])
     have hr:=run_endLoop (P:=P) h1.loop_has (by rw [(hbs _ _).1];simp);rw [(hbs _ _).2] at hr;refine ⟨none,_,hr,hdone D _ ?_⟩;exact (h1.loop _).drop.perm (by classical refine List.perm_iff_count.2 λ a=> ?_;simp only [List.count_append,List.count_cons,List.count_nil];omega)
   · obtain ⟨fp,⟨f,g',⟨c,hc⟩,hg',hd,rfl⟩,ht⟩:=h
     have h0':St w0 fp0 (Ix c (pre++[x])++Bk .done (some c)) W2:=by rw [show g'=[] from hg',List.append_nil] at ht;exact ⟨f,hc,ht⟩
     have h1:=(hbk .done (some c) (Ix c (pre++[x])) [] W2).1 (by rwa [List.append_nil]);have hr:=run_endLoop (P:=P) h1.loop_has (by rw [(hbs _ _).1];simp);rw [(hbs _ _).2] at hr;refine ⟨some c,_,hr,wpIn_wide.2 (hstop D c pre x rest _ hxs ?_)⟩;exact (h1.loop _).drop.perm (by classical refine List.perm_iff_count.2 λ a=> ?_;simp only [List.count_append,List.count_cons,List.count_nil];omega)
theorem wpOpIn_of {P:Program} {l n:Nat} {ops:Array Oper} {Q:Exit->Act->World->Prop} {i:Nat} {K:Act->World->Prop} {a:Act} {w:World} {o:Oper} (ho:ops[i]? =some o) (hnd:∀c,o.op≠.defer c)
 (hq:∀a w,¬ Q .outgrown a w) (h:wpOp P ops (NoPanic Q) i K a w):wpOpIn (Fence.wide.inRound l) n P ops Q i K a w:=by
 unfold wpOp at h;unfold wpOpIn;simp only [ho] at h ⊢;by_cases hw:Region.wanted o (yielded ops a.tmps)=true
 · rw [if_pos hw] at h ⊢
   rcases h with h | ⟨_,a',w',h⟩
   · refine ⟨λ _ _=> trivial,?_⟩
     rw [Oper.semAt_plain _ _ _ hnd];unfold Oper.wp at h;revert h;generalize (execOp a.eval o).run P w=r;intro h;cases r with
     | ok x w'=>
      cases x with
      | enter f args=>
       refine ⟨(λ hh=> by cases hh),CallsIn.inRound l (callsIn_wide.2 (Calls.mono h (λ e w'' he=> ?_)))⟩;cases e with
       | returned v=> exact he
       | panicked c=> exact (he:False).elim
       | outgrown=> exact he
      | row row args=>
       refine ⟨(λ hh=> by cases hh),λ c cs _=> ?_⟩;obtain ⟨v,w'',r,s⟩:=h c cs;exact ⟨v,w'',r,stepsIn_wide.2 s⟩
      | value v=> exact h
      | skip=> exact h
      | defer d=> exact h
      | _=> exact (h:False).elim
     | halt x w'=> cases x <;> exact (h:False).elim
   · exact (hq _ _ h).elim
 · rw [if_neg hw] at h ⊢
   exact ⟨λ _ _=> trivial,h⟩
def noDeferB (ops:Array Oper):Bool:=ops.all λ o=> match o.op with | .defer _=> false | _=> true
theorem noDefer_of {ops:Array Oper} (h:noDeferB ops=true) {i:Nat} {o:Oper} (ho:ops[i]? =some o):∀c,o.op≠.defer c:=by
 intro c hc;unfold noDeferB at h;obtain ⟨hi,rfl⟩:=Array.getElem?_eq_some_iff.1 ho;have:=Array.all_eq_true.1 h i hi;rw [hc] at this;cases this
theorem wpIn_tokR {Q:Exit->Act->World->Prop} (hq:∀a w,¬ Q .outgrown a w) (G:Rg) {id l0 n0:Nat} {ops:Array Oper} {a:Act} {w:World} (n:Nat) (he:ops=G.ops) (hm:G.P.follows .mixedOrders=true) (hnd:noDeferB G.ops=true) (hf:fitsB G.ops G.nt G.ks (G.inp.map (·.1)) (G.vals.map λ t=> (t.i,t.d,t.sl)) (G.pcs.flatMap Pc.fl) (G.inq.map λ p=> (p.1,p.2.2))=true) (hn:G.ops.size=n)
 (hin:Knows G.nt a (G.inp++G.inq.map λ p=> (p.1,p.2.1))) (hS:stP G (λ _=> false) (slots a) w) (hob:G.Obs 0 n)
 (hQ:∀a1 w1,G.Next a a1->stP G (λ _=> true) (slots a1) w1->Q .normal a1 w1):(Code.region id ops true).wpIn (Fence.wide.inRound l0) n0 G.P Q a w:=by
 subst he hn;obtain ⟨_,hfl0,hfw,_,_,_,_,_,hvs⟩:=fits_parts hf;have hstep:∀(i:Nat) (o:Oper) (L:Nat->Bool) (a1:Act) (w:World),G.ops[i]? =some o->L i=false->(∀e∈o.after,Region.binds .any e=true->L e.on=true)->G.Inv a L a1 w->wpOp G.P G.ops (NoPanic Q) i (λ a' w'=> G.Inv a (λ j=> L j || decide (j=i)) a' w') a1 w:=
  λ i o L a1 w1 ho hL hdep hI=> G.step hin.size (λ p hp=> hin.at' p (List.mem_append.2 (.inl hp))) hf (hob.get i (Nat.zero_le _) (by have:=(Array.getElem?_eq_some_iff.1 ho).1;omega)) ho hL hdep hI
 have hend:∀(L:Nat->Bool) (a1:Act) (w:World),(∀i,i < G.ops.size->L i=true)->G.Inv a L a1 w->Q .normal a1 w:=by
  intro L a1 w1 hL hI;have hv:∀t∈G.vals,slots a1 t.d=t.at (slots a1):=λ t ht=> hI.vals t ht (hL _ (by
   have h2:=(hvs _ (List.mem_map.2 ⟨t,ht,rfl⟩)).1;dsimp only [dstOf] at h2;cases h3:G.ops[t.i]? with
   | none=> rw [h3] at h2;cases h2
   | some o'=> exact (Array.getElem?_eq_some_iff.1 h3).1))
  refine hQ a1 w1 ⟨hI.frame,hv⟩ ?_;have e:G.pcs.map (λ p=> p.at (λ _=> true) (slots a1))=G.pcs.map (λ p=> p.at L (slots a1)):=List.map_congr_left λ p hp=> Pc.at_eq (λ j hj=> (hL j (hfl0 j (List.mem_flatMap.2 ⟨p,hp,hj⟩))).symm) λ _ _=> rfl;unfold stP;rw [e];exact hI.eff
 refine wpIn_region_any hm (wpAnyIn_inv (Inv:=λ L a1 w1=> G.Inv a L a1 w1) hfw (λ i o L a1 w1 ho hL hdep hI=> wpOpIn_of ho (noDefer_of hnd ho) hq (hstep i o L a1 w1 ho hL hdep hI)) hend _ _ _ _ (by simp) ?_ ?_)
 · unfold left
   exact Nat.le_trans List.count_le_length (by simp)
 · have:(λ j=> (Array.replicate G.ops.size false).getD j false)=λ _=> false:=by
    funext j;simp [Array.getD]
   rw [this];exact ⟨FrameLike.refl _ _,λ _ _ h=> (nomatch h),λ p hp _=> hin.at' _ (List.mem_append.2 (.inr (List.mem_map.2 ⟨p,hp,rfl⟩))),λ _ _ _ h=> (nomatch h),St.mono hS (below_drew w)⟩
def isDrw:Code->Bool
 | .region _ _ d=> d
 | _=> false
theorem wpIn_regT {Q:Exit->Act->World->Prop} (hq:∀a w,¬ Q .outgrown a w) {G:Rg} {n l0 n0:Nat} {c:Code} {a:Act} {w:World} (hG:G.Ok n) (hm:(G.P.follows .mixedOrders && noDeferB G.ops)=true) (hc:isDrw c=true/\cops c=G.ops)
 (hin:Knows G.nt a (G.inp++G.inq.map λ p=> (p.1,p.2.1))) (hS:stP G (λ _=> false) (slots a) w)
 (hQ:∀a1 w1,G.Next a a1->stP G (λ _=> true) (slots a1) w1->Q .normal a1 w1):c.wpIn (Fence.wide.inRound l0) n0 G.P Q a w:=by
 obtain ⟨hc,he⟩:=hc;rw [Bool.and_eq_true] at hm;cases c <;> first | (cases hc;done) | skip
 rename_i id ops d
 obtain rfl:d=true:=hc;exact wpIn_tokR hq G n he hm.1 hm.2 hG.fits hG.size hin hS hG.obs hQ
end
end Go.Proofs.YtnefkkidfhmggaaGreat
noncomputable section
namespace Go.Proofs.YtnefkkidfhmggaaGreat
open Go.RowKit
theorem isnan_calls (a:Int) (w:World):Calls Tryz.prog 107 #[.int .i64 a] w λ e w'=> e=.returned (.bool false)/\w=w':=by
 go_enter Tryz.func107,Tryz.ntmps107;go_wp2
 all_goals go_ret
 all_goals exact ⟨by simp,rfl⟩
theorem isnan2_calls (a:Int) (w:World):Calls Tryz.prog 106 #[.int .i64 a] w λ e w'=> e=.returned (.bool false)/\w=w':=by
 go_enter Tryz.func106,Tryz.ntmps106;go_wp2
 all_goals go_ret
 all_goals exact ⟨by simp,rfl⟩
theorem compare_calls (a b:Int) (w:World):Calls Tryz.prog 80 #[.int .i64 a, .int .i64 b] w λ e w'=> e=.returned (.int .i64 (cmpS a b))/\w=w':=by
 unfold cmpS;go_enter Tryz.func80,Tryz.ntmps80;go_wp2_with (first | (go_at_call 107;refine (isnan_calls _ _).mono ?_;rintro e w' ⟨rfl,rfl⟩))
 all_goals go_ret
 all_goals exact ⟨by simp [*],rfl⟩
theorem compare2_calls (a b:Int) (w:World):Calls Tryz.prog 79 #[.int .i64 a, .int .i64 b] w λ e w'=> e=.returned (.int .i64 (cmpS a b))/\w=w':=by
 unfold cmpS;go_enter Tryz.func79,Tryz.ntmps79;go_wp2_with (first | (go_at_call 106;refine (isnan2_calls _ _).mono ?_;rintro e w' ⟨rfl,rfl⟩))
 all_goals go_ret
 all_goals exact ⟨by simp [*],rfl⟩
theorem run_cmpstring (a b:ByteArray) (w:World):(callFunc 136 #[.string a, .string b]).run Tryz.prog w=.ok (.value (.int .i64 (Lib.compareBytes a.data.toList b.data.toList))) w:=by
 rw [run_callFunc_extern Tryz.func136 (by kernel_rfl) (by kernel_rfl) (by kernel_rfl) (e:=Extern.BytealgCompare.compare) (by kernel_rfl),Lib.run_compareString];rfl
theorem scompare_calls (a b:ByteArray) (w:World):Calls Tryz.prog 81 #[.string a, .string b] w λ e w'=> e=.returned (.int .i64 (Lib.compareBytes (bytes a) (bytes b)))/\w=w':=by
 have hr:=run_cmpstring a b;go_enter Tryz.func81,Tryz.ntmps81;go_wp2;go_ret;exact ⟨rfl,rfl⟩
theorem or_calls3 (a b c:Int) (g:Nat) (w:World) (h0:w.cell? ⟨g,0,none⟩=some (.int .i64 a)) (h1:w.cell? ⟨g,1,none⟩=some (.int .i64 b)) (h2:w.cell? ⟨g,2,none⟩=some (.int .i64 c)):
 Calls Tryz.prog 78 #[.slice (some ⟨g,0,none⟩) 3 3] w λ e w'=> e=.returned (.int .i64 (orS a (orS b c)))/\w=w':=by
 unfold orS;by_cases ha:a=0
 · subst ha
   by_cases hb:b=0
   · subst hb
     by_cases hc:c=0
     · subst hc
       go_enter Tryz.func78,Tryz.ntmps78;go_wp2;refine wp_loop_rounds 4 ?_;rw [rounds_succ];go_wp2;rw [rounds_succ];go_wp2;rw [rounds_succ];go_wp2;rw [rounds_succ];go_wp2;go_ret;exact ⟨rfl,rfl⟩
     · have hc1:(c !=0)=true:=by simp [hc]
       go_enter Tryz.func78,Tryz.ntmps78;go_wp2;refine wp_loop_rounds 3 ?_;rw [rounds_succ];go_wp2;rw [rounds_succ];go_wp2;rw [rounds_succ];go_wp2;go_ret;exact ⟨rfl,rfl⟩
   · have hb1:(b !=0)=true:=by simp [hb]
     rw [if_neg hb];go_enter Tryz.func78,Tryz.ntmps78;go_wp2;refine wp_loop_rounds 2 ?_;rw [rounds_succ];go_wp2;rw [rounds_succ];go_wp2;go_ret;exact ⟨rfl,rfl⟩
 · have ha1:(a !=0)=true:=by simp [ha]
   rw [if_neg ha];go_enter Tryz.func78,Tryz.ntmps78;go_wp2;refine wp_loop_rounds 1 ?_;rw [rounds_succ];go_wp2;go_ret;exact ⟨rfl,rfl⟩
theorem cmpV_calls (a b:Vl) (w:World):Calls Tryz.prog 39 #[.agg #[.int .i64 a.kind, .int .i64 a.int, .string a.text], .agg #[.int .i64 b.kind, .int .i64 b.int, .string b.text]] w λ e w'=> e=.returned (.int .i64 (cmpV a b))/\Below w.heap.size w w':=by
 have Hb0:Hid (∀o o',Below w.heap.size w ((w.alloc o).alloc o')):=λ o o'=> ((Below.refl _ _).alloc (Nat.le_refl _) o).alloc (by simp) o';have V1:=(VarIs.new w #[.int .i64 a.kind, .int .i64 a.int, .string a.text] 29).alloc (.cells #[.int .i64 b.kind, .int .i64 b.int, .string b.text] 29);have V2:=VarIs.new1 w (.cells #[.int .i64 a.kind, .int .i64 a.int, .string a.text] 29) #[.int .i64 b.kind, .int .i64 b.int, .string b.text] 29;have hbw:=Hb0.out (.cells #[.int .i64 a.kind, .int .i64 a.int, .string a.text] 29) (.cells #[.int .i64 b.kind, .int .i64 b.int, .string b.text] 29);go_enter Tryz.func39,Tryz.ntmps39;go_wp2_with fail;generalize (w.alloc (.cells #[.int .i64 a.kind, .int .i64 a.int, .string a.text] 29)).alloc (.cells #[.int .i64 b.kind, .int .i64 b.int, .string b.text] 29)=W at *;have Hbw:=Lib.hid hbw;clear hbw Hb0;obtain ⟨v1,v2, -⟩:=V1;obtain ⟨u1,u2, -⟩:=V2;go_region_held3 (λ w'=> Below W.heap.size W w'/\∀b o,b < W.heap.size->w'.cell? ⟨b,o,none⟩=W.cell? ⟨b,o,none⟩)
  (first | assumption | exact S_of (Below.drew (Below.refl _ _)) | exact S_alloc (by assumption) _)
  (first
   | (go_at_call 79;(with_reducible refine (compare2_calls _ _ _).mono ?_);rintro e w1 ⟨rfl,rfl⟩)
   | (go_at_call 80;(with_reducible refine (compare_calls _ _ _).mono ?_);rintro e w1 ⟨rfl,rfl⟩)
   | (go_at_call 81;(with_reducible refine (scompare_calls _ _ _).mono ?_);rintro e w1 ⟨rfl,rfl⟩)
   | (go_at_call 78;refine (or_calls3 (cmpS a.kind b.kind) (cmpS a.int b.int) (Lib.compareBytes (bytes a.text) (bytes b.text)) _ _ (by go_simp) (by go_simp) (by go_simp)).mono ?_;rintro e w1 ⟨rfl,rfl⟩))
 rename_i hH
 have H:=Lib.hid (Hbw.out.trans (hH.1.mono Hbw.out.size));clear hH v1 v2 u1 u2;go_wp2;go_ret;exact ⟨rfl,H.out⟩
end Go.Proofs.YtnefkkidfhmggaaGreat
end
noncomputable section
namespace Go.Proofs.YtnefkkidfhmggaaGreat
open Go.RowKit
theorem ints_calls (a b:Int) (w:World):Calls Tryz.prog 76 #[.int .i64 a, .int .i64 b] w λ e w'=> e=.returned (.int .i64 (cmpS a b))/\w=w':=by
 unfold cmpS;go_enter Tryz.func76,Tryz.ntmps76;go_wp2
 all_goals go_ret
 all_goals exact ⟨by simp [*],rfl⟩
theorem cmpB_step {a b:List UInt8} {k:Nat} (h1:k < a.length) (h2:k < b.length):Lib.compareBytes (a.drop k) (b.drop k)=if a[k]=b[k] then Lib.compareBytes (a.drop (k+1)) (b.drop (k+1)) else cmpS a[k].toNat b[k].toNat:=by
 rw [List.drop_eq_getElem_cons h1,List.drop_eq_getElem_cons h2,Lib.compareBytes];unfold cmpS;by_cases h:a[k]=b[k]
 · have:¬ b[k] < b[k]:=UInt8.lt_irrefl _
   simp [h,this]
 · have hne:a[k].toNat≠b[k].toNat:=λ e=> h (UInt8.toNat_inj.1 e)
   simp only [UInt8.lt_iff_toNat_lt,h,if_false];by_cases h3:a[k].toNat < b[k].toNat
   · have:(a[k].toNat:Int) < b[k].toNat:=by omega
     simp [h3,this]
   · have h4:b[k].toNat < a[k].toNat:=by omega
     have h5:¬ (a[k].toNat:Int) < b[k].toNat:=by omega
     have h6:(b[k].toNat:Int) < a[k].toNat:=by omega
     simp [h3,h4,h5,h6]
theorem cmpB_end {a b:List UInt8} {k:Nat} (h:a.length<=k\/b.length<=k) (h1:k<=a.length) (h2:k<=b.length):Lib.compareBytes (a.drop k) (b.drop k)=cmpS a.length b.length:=by
 unfold cmpS;by_cases h3:a.length<=k
 · rw [List.drop_of_length_le h3]
   by_cases h4:b.length<=k
   · rw [List.drop_of_length_le h4]
     have e:a.length=b.length:=by omega
     simp [Lib.compareBytes,e]
   · rw [List.drop_eq_getElem_cons (by omega),Lib.compareBytes]
     have:(a.length:Int) < b.length:=by omega
     simp [this]
 · have h4:b.length<=k:=by omega
   rw [List.drop_of_length_le h4,List.drop_eq_getElem_cons (by omega),Lib.compareBytes];have h5:¬ (a.length:Int) < b.length:=by omega
   have h6:(b.length:Int) < a.length:=by omega
   simp [h5,h6]
theorem texts_calls (a b:ByteArray) (w:World) (ha:a.size<=maxLen):Calls Tryz.prog 77 #[.string a, .string b] w λ e w'=> e=.returned (.int .i64 (Lib.compareBytes (bytes a) (bytes b)))/\Below w.heap.size w w':=by
 unfold maxLen at ha;have La:Hid ((bytes a).length=a.size):=by show _=_;simp [bytes]
 have Lb:Hid ((bytes b).length=b.size):=by show _=_;simp [bytes]
 go_enter Tryz.func77,Tryz.ntmps77;go_wp2;go_loopw [5] (λ i wr=> ∃k:Nat,k<=a.size/\k<=b.size/\i=.int .i64 k/\Hid (Lib.compareBytes (bytes a) (bytes b)=Lib.compareBytes ((bytes a).drop k) ((bytes b).drop k))/\Hid (Below w.heap.size w wr)) (λ i _=> a.size - (intOf i).toNat)
 case atStart=> exact ⟨0,Nat.zero_le _,Nat.zero_le _,rfl,rfl,Below.refl _ _⟩
 case round=>
  obtain ⟨k,hk,hk',rfl,He,Hb⟩:=hrel;by_cases hlt:k < a.size/\k < b.size
  · obtain ⟨h1,h2⟩:=hlt
    have Hst:=Lib.hid (cmpB_step (a:=bytes a) (b:=bytes b) (k:=k) (by rw [La.out];exact h1) (by rw [Lb.out];exact h2));have ea:(bytes a)[k]'(by rw [La.out];exact h1)=(a[k]'h1):=rfl;have eb:(bytes b)[k]'(by rw [Lb.out];exact h2)=(b[k]'h2):=rfl;rw [ea,eb] at Hst;have hx:((a[k]'h1).toNat:Int) < 256:=by have:=UInt8.toNat_lt (a[k]'h1);omega
    have hy:((b[k]'h2).toNat:Int) < 256:=by have:=UInt8.toNat_lt (b[k]'h2);omega
    have i1:(0:Int)<=k:=by omega
    have i2:(k:Int) < a.size:=by omega
    have i3:(k:Int) < b.size:=by omega
    have m1:IntKind.i64.wrap ((a[k]'h1).toNat:Int)=(a[k]'h1).toNat:=IntWalk.i64_in _ (by omega);have m2:IntKind.i64.wrap ((b[k]'h2).toNat:Int)=(b[k]'h2).toNat:=IntWalk.i64_in _ (by omega);clear ea eb;go_upto_region 4 with (fail)
    go_cut [24] (λ x wx=> x=.bool (((a[k]'h1).toNat:Int) !=(b[k]'h2).toNat)/\Hid (Below w.heap.size w wx))
    case first=>
     go_region_held3 (λ w'=> Below wr.heap.size wr w') (first | assumption | exact Below.drew (Below.refl _ _)) (fail)
     all_goals
      rename_i hH
      have Hb1:=Lib.hid (Hb.out.trans (hH.mono Hb.out.size));clear hH;go_wp2_with fail;go_meet;exact ⟨rfl,Hb1⟩
    obtain ⟨rfl,Hb1⟩:=hcut;by_cases he:(a[k]'h1)=(b[k]'h2)
    · have hne:(((a[k]'h1).toNat:Int) !=(b[k]'h2).toNat)=false:=by simp [he]
      have Hnext:Hid (Lib.compareBytes (bytes a) (bytes b)=Lib.compareBytes ((bytes a).drop (k+1)) ((bytes b).drop (k+1))):=by show _=_;rw [He.out,Hst.out,if_pos he]
      clear he m1 m2 hx hy;go_wp2;go_roundw
      case rel=> exact ⟨k+1,by omega,by omega,by go_num,Hnext,Hb1⟩
      case measure=> simp [intOf];omega
    · have hne:(((a[k]'h1).toNat:Int) !=(b[k]'h2).toNat)=true:=by
       have:(a[k]'h1).toNat≠(b[k]'h2).toNat:=λ e=> he (UInt8.toNat_inj.1 e);simp;omega
      have Hnext:Hid (Lib.compareBytes (bytes a) (bytes b)=cmpS (a[k]'h1).toNat (b[k]'h2).toNat):=by show _=_;rw [He.out,Hst.out,if_neg he]
      have Hm1:=Lib.hid m1;have Hm2:=Lib.hid m2;clear he m1 m2 hx hy;go_upto_region 5 with (fail)
      have m1:=Hm1.out;have m2:=Hm2.out;go_region_held3 (λ w'=> Below wc.heap.size wc w') (first | assumption | exact Below.drew (Below.refl _ _))
       (first | (go_at_call 76;refine (ints_calls _ _ _).mono ?_;rintro e w' ⟨rfl,rfl⟩))
      all_goals
       rename_i hH
       have Hb2:=Lib.hid (Hb1.out.trans (hH.mono Hb1.out.size));clear hH m1 m2;go_wp2;go_ret;exact ⟨by rw [Hnext.out];rfl,Hb2.out⟩
  · have Hend:Hid (Lib.compareBytes (bytes a) (bytes b)=cmpS a.size b.size):=by
     show _=_;rw [He.out,cmpB_end (by rw [La.out,Lb.out];omega) (by rw [La.out];omega) (by rw [Lb.out];omega),La.out,Lb.out]
    by_cases h1:k < a.size
    · have h2:b.size<=k:=by omega
      clear hlt;go_wp2_with (first | (go_at_call 76;refine (ints_calls _ _ _).mono ?_;rintro e w' ⟨rfl,rfl⟩));go_ret;exact ⟨by rw [Hend.out];rfl,Hb.out⟩
    · have h2:a.size<=k:=by omega
      clear hlt;go_wp2_with (first | (go_at_call 76;refine (ints_calls _ _ _).mono ?_;rintro e w' ⟨rfl,rfl⟩));go_ret;exact ⟨by rw [Hend.out];rfl,Hb.out⟩
theorem rcmp_calls (a b:Vl) (w:World) (ha:a.text.size<=maxLen):Calls Tryz.prog 35 #[.agg #[.int .i64 a.kind, .int .i64 a.int, .string a.text], .agg #[.int .i64 b.kind, .int .i64 b.int, .string b.text]] w λ e w'=> e=.returned (.int .i64 (cmpV a b))/\Below w.heap.size w w':=by
 have Hb0:Hid (∀o o',Below w.heap.size w ((w.alloc o).alloc o')):=λ o o'=> ((Below.refl _ _).alloc (Nat.le_refl _) o).alloc (by simp) o';have Hd:Hid (cmpV a b=orS (cmpS a.kind b.kind) (orS (cmpS a.int b.int) (Lib.compareBytes (bytes a.text) (bytes b.text)))):=rfl;by_cases h1:a.kind=b.kind
 · have b1:(a.kind !=b.kind)=false:=by simp [h1]
   have e1:cmpS a.kind b.kind=0:=cmpS_zero.2 h1;by_cases h2:a.int=b.int
   · have b2:(a.int !=b.int)=false:=by simp [h2]
     have Hr:Hid (cmpV a b=Lib.compareBytes (bytes a.text) (bytes b.text)):=by show _=_;rw [Hd.out,e1,cmpS_zero.2 h2];rfl
     clear h1 h2 e1;go_enter Tryz.func35,Tryz.ntmps35;go_wp2_with fail;refine (texts_calls _ _ _ ha).mono ?_;rintro e w1 ⟨rfl,hb1⟩;have Hb1:=Lib.hid ((Hb0.out _ _).trans (hb1.mono (Hb0.out _ _).size));clear hb1;go_wp2;go_ret;exact ⟨by rw [Hr.out];rfl,Hb1.out⟩
   · have b2:(a.int !=b.int)=true:=by simp [h2]
     have e2:¬ cmpS a.int b.int=0:=λ h=> h2 (cmpS_zero.1 h);have Hr:Hid (cmpV a b=cmpS a.int b.int):=by show _=_;rw [Hd.out,e1];unfold orS;rw [if_pos rfl,if_neg e2]
     clear h1 h2 e1 e2;go_enter Tryz.func35,Tryz.ntmps35;go_wp2_with fail;refine (ints_calls _ _ _).mono ?_;rintro e w1 ⟨rfl,rfl⟩;go_wp2;go_ret;exact ⟨by rw [Hr.out];rfl,Hb0.out _ _⟩
 · have b1:(a.kind !=b.kind)=true:=by simp [h1]
   have e1:¬ cmpS a.kind b.kind=0:=λ h=> h1 (cmpS_zero.1 h);have Hr:Hid (cmpV a b=cmpS a.kind b.kind):=by show _=_;rw [Hd.out];unfold orS;rw [if_neg e1]
   clear h1 e1;go_enter Tryz.func35,Tryz.ntmps35;go_wp2_with fail;refine (ints_calls _ _ _).mono ?_;rintro e w1 ⟨rfl,rfl⟩;go_wp2;go_ret;exact ⟨by rw [Hr.out];rfl,Hb0.out _ _⟩
theorem cmpR_end {R S:Rw} {k:Nat} (h:R.length<=k\/S.length<=k) (h1:k<=R.length) (h2:k<=S.length):cmpR (R.drop k) (S.drop k)=cmpS R.length S.length:=by
 unfold cmpS;by_cases h3:R.length<=k
 · by_cases h4:S.length<=k
   · rw [cmpR_both h3 h4]
     have e:R.length=S.length:=by omega
     simp [e]
   · rw [cmpR_short h3 (by omega)]
     have:(R.length:Int) < S.length:=by omega
     simp [this]
 · rw [cmpR_long (by omega) (by omega)]
   have h5:¬ (R.length:Int) < S.length:=by omega
   have h6:(S.length:Int) < R.length:=by omega
   simp [h5,h6]
theorem rrows_calls (R S:Rw) (r s:Value) (w:World) (hr:ValsAt w R r) (hs:ValsAt w S s):Calls Tryz.prog 72 #[r,s] w λ e w'=> e=.returned (.int .i64 (cmpR R S))/\Below w.heap.size w w':=by
 obtain ⟨a,n,c,rfl,hn,hm⟩:=hr.shape;obtain ⟨a',n',c',rfl,hn',hm'⟩:=hs.shape;unfold maxLen at hm hm';have Hr:=Lib.hid hr;have Hs:=Lib.hid hs;have Hn:=Lib.hid hn;have Hn':=Lib.hid hn';clear hr hs hn hn';go_enter Tryz.func72,Tryz.ntmps72;go_wp2;go_loopw [5] (λ i wr=> ∃k:Nat,k<=n/\k<=n'/\i=.int .i64 k/\Hid (cmpR R S=cmpR (R.drop k) (S.drop k))/\Hid (Below w.heap.size w wr)) (λ i _=> n - (intOf i).toNat)
 case atStart=> exact ⟨0,Nat.zero_le _,Nat.zero_le _,rfl,rfl,Below.refl _ _⟩
 case round=>
  obtain ⟨k,hk,hk',rfl,He,Hb⟩:=hrel;by_cases hlt:k < n/\k < n'
  · obtain ⟨h1,h2⟩:=hlt
    have hk1:k < R.length:=by have:=Hn.out;omega
    have hk2:k < S.length:=by have:=Hn'.out;omega
    obtain ⟨b,o,rfl⟩:=Hr.out.has k h1;obtain ⟨c0,c1,c2⟩:=(Hr.out.mono Hb.out).cell k hk1;have hbl:=(Hr.out.mono Hb.out).lt hk1;obtain ⟨b',o',rfl⟩:=Hs.out.has k h2;obtain ⟨d0,d1,d2⟩:=(Hs.out.mono Hb.out).cell k hk2;have hbl':=(Hs.out.mono Hb.out).lt hk2;have Hst:=Lib.hid (cmpR_step hk1 hk2);have HC:=Lib.hid (λ w'=> rcmp_calls R[k] S[k] w' (Hr.out.txt _ (List.getElem_mem hk1)));generalize R[k]=x at *;generalize S[k]=y at *;clear hk1 hk2;have i1:(0:Int)<=k:=by omega
    have i2:(k:Int) < n:=by omega
    have i3:(k:Int) < n':=by omega
    go_upto_region 4 with (fail)
    go_cut [6] (λ z wx=> z=.int .i64 (cmpV x y)/\Hid (Below w.heap.size w wx))
    case first=>
     go_region_held3 (λ w'=> Below wr.heap.size wr w'/\∀b o,b < wr.heap.size->w'.cell? ⟨b,o,none⟩=wr.cell? ⟨b,o,none⟩)
      (first | assumption | exact S_of (Below.drew (Below.refl _ _)) | exact S_step (by assumption) (by assumption))
      (first | (go_at_call 35;(with_reducible refine (HC.out _).mono ?_);rintro e w1 ⟨rfl,hb1⟩))
     all_goals
      rename_i hH
      have Hb1:=Lib.hid (Hb.out.trans (hH.1.mono Hb.out.size));clear hH;go_wp2_with fail;go_meet;exact ⟨rfl,Hb1⟩
    obtain ⟨rfl,Hb1⟩:=hcut;clear c0 c1 c2 d0 d1 d2 i1 i2 i3;by_cases h0:cmpV x y=0
    · have b0:(cmpV x y !=0)=false:=by simp [h0]
      have Hnext:Hid (cmpR R S=cmpR (R.drop (k+1)) (S.drop (k+1))):=by show _=_;rw [He.out,Hst.out,if_pos h0]
      clear h0;go_wp2;go_roundw
      case rel=> exact ⟨k+1,by omega,by omega,by go_num,Hnext,Hb1⟩
      case measure=> simp [intOf];omega
    · have b0:(cmpV x y !=0)=true:=by simp [h0]
      have Hnext:Hid (cmpR R S=cmpV x y):=by show _=_;rw [He.out,Hst.out,if_neg h0]
      clear h0;go_wp2;go_ret;exact ⟨by rw [Hnext.out];rfl,Hb1.out⟩
  · have Hend:Hid (cmpR R S=cmpS n n'):=by
     show _=_;have e1:=Hn.out;have e2:=Hn'.out;rw [He.out,cmpR_end (by omega) (by omega) (by omega),e1,e2]
    by_cases h1:k < n
    · have h2:n'<=k:=by omega
      clear hlt;go_wp2_with (first | (go_at_call 76;refine (ints_calls _ _ _).mono ?_;rintro e w' ⟨rfl,rfl⟩));go_ret;exact ⟨by rw [Hend.out];rfl,Hb.out⟩
    · have h2:n<=k:=by omega
      clear hlt;go_wp2_with (first | (go_at_call 76;refine (ints_calls _ _ _).mono ?_;rintro e w' ⟨rfl,rfl⟩));go_ret;exact ⟨by rw [Hend.out];rfl,Hb.out⟩
theorem rsame_calls (R S:Rw) (r s:Value) (w:World) (hr:ValsAt w R r) (hs:ValsAt w S s):Calls Tryz.prog 29 #[r,s] w λ e w'=> e=.returned (.bool (decide (R=S)))/\Below w.heap.size w w':=by
 have H:=Lib.hid (rrows_calls R S r s w hr hs);have He:Hid (decide (R=S)=(cmpR R S==0)):=by show _=_;rw [Bool.eq_iff_iff];simp [cmpR_zero]
 clear hr hs;go_enter Tryz.func29,Tryz.ntmps29;go_wp2_with fail;refine H.out.mono ?_;rintro e w1 ⟨rfl,hb1⟩;have Hb1:=Lib.hid hb1;clear hb1;go_wp2;go_ret;exact ⟨by rw [He.out];rfl,Hb1.out⟩
end Go.Proofs.YtnefkkidfhmggaaGreat
end
namespace Go.Proofs.YtnefkkidfhmggaaGreat
open Go Go.RowKit
noncomputable section
def prB (b:UInt8):Bool:=!(decide (b < 32) || decide (126 < b))
def prS (s:ByteArray):Bool:=(bytes s).all prB
def okV (v:Vl):Bool:=if v.kind=0 then decide (v.int=0) && decide (v.text=.empty) else if v.kind=1 then decide (v.text=.empty) else if v.kind=2 then decide (v.int=0) && (prS v.text && decide (v.text.size<=16)) else false
theorem prS_step {s:ByteArray} {k:Nat} (h:k < s.size):((bytes s).drop k).all prB=(prB (s[k]'h) && ((bytes s).drop (k+1)).all prB):=by
 have hl:(bytes s).length=s.size:=by simp [bytes]
 rw [List.drop_eq_getElem_cons (by omega),List.all_cons];rfl
theorem printable_calls (s:ByteArray) (w:World) (hs:s.size<=maxLen):Calls Tryz.prog 91 #[.string s] w λ e w'=> e=.returned (.bool (prS s && decide (s.size<=16)))/\w=w':=by
 unfold maxLen at hs;obtain ⟨q,hq⟩:∃q,prS s=q:=⟨_,rfl⟩
 have Hq:Hid (((bytes s).drop 0).all prB=q):=by show _=_;rw [List.drop_zero];exact hq
 rw [hq];clear hq;go_enter Tryz.func91,Tryz.ntmps91;go_wp2;go_loop [6] (λ i=> ∃k:Nat,k<=s.size/\i=.int .i64 k/\Hid (((bytes s).drop k).all prB=q)) (λ i=> s.size - (intOf i).toNat)
 case atStart=> exact ⟨0,Nat.zero_le _,rfl,Hq⟩
 case round=>
  obtain ⟨k,hk,rfl,Hk⟩:=hrel;by_cases hlt:k < s.size
  · have Hst:=Lib.hid (prS_step hlt)
    have i1:(0:Int)<=k:=by omega
    have i2:(k:Int) < s.size:=by omega
    by_cases h1:(s[k]'hlt).toNat < 32
    · have Hr:Hid (q=false):=by
       have h2:(s[k]'hlt) < 32:=h1;show _=_;rw [<-Hk.out,Hst.out];simp [prB,h2]
      go_wp2;go_ret;exact ⟨by rw [Hr.out];rfl,rfl⟩
    · by_cases h2:126 < (s[k]'hlt).toNat
      · have Hr:Hid (q=false):=by
         have h2:126 < (s[k]'hlt):=h2;show _=_;rw [<-Hk.out,Hst.out];simp [prB,h2]
        go_wp2;go_ret;exact ⟨by rw [Hr.out];rfl,rfl⟩
      · have Hn:Hid (((bytes s).drop (k+1)).all prB=q):=by
         have h3:¬ (s[k]'hlt) < 32:=h1;have h4:¬ 126 < (s[k]'hlt):=h2;show _=_;rw [<-Hk.out,Hst.out];simp [prB,h3,h4]
        go_wp2;go_round
        case rel=> exact ⟨k+1,by omega,by go_num,Hn⟩
        case measure=> simp [intOf];omega
  · have Hr:Hid (q=true):=by
     have hl:(bytes s).length=s.size:=by simp [bytes]
     show _=_;rw [<-Hk.out,List.drop_of_length_le (by omega)];rfl
    go_wp2;go_ret;exact ⟨by rw [Hr.out];simp;omega,rfl⟩
theorem rprintable_calls (s:ByteArray) (w:World) (hs:s.size<=maxLen):Calls Tryz.prog 135 #[.string s] w λ e w'=> e=.returned (.bool (prS s))/\w=w':=by
 unfold maxLen at hs;obtain ⟨q,hq⟩:∃q,prS s=q:=⟨_,rfl⟩
 have Hq:Hid (((bytes s).drop 0).all prB=q):=by show _=_;rw [List.drop_zero];exact hq
 rw [hq];clear hq;go_enter Tryz.func135,Tryz.ntmps135;go_wp2;go_loop [3] (λ i=> ∃k:Nat,k<=s.size/\i=.int .i64 k/\Hid (((bytes s).drop k).all prB=q)) (λ i=> s.size - (intOf i).toNat)
 case atStart=> exact ⟨0,Nat.zero_le _,rfl,Hq⟩
 case round=>
  obtain ⟨k,hk,rfl,Hk⟩:=hrel;by_cases hlt:k < s.size
  · have Hst:=Lib.hid (prS_step hlt)
    have i1:(0:Int)<=k:=by omega
    have i2:(k:Int) < s.size:=by omega
    by_cases h1:(s[k]'hlt).toNat < 32
    · have Hr:Hid (q=false):=by
       have h2:(s[k]'hlt) < 32:=h1;show _=_;rw [<-Hk.out,Hst.out];simp [prB,h2]
      go_wp2;go_ret;exact ⟨by rw [Hr.out];rfl,rfl⟩
    · by_cases h2:126 < (s[k]'hlt).toNat
      · have Hr:Hid (q=false):=by
         have h2:126 < (s[k]'hlt):=h2;show _=_;rw [<-Hk.out,Hst.out];simp [prB,h2]
        go_wp2;go_ret;exact ⟨by rw [Hr.out];rfl,rfl⟩
      · have Hn:Hid (((bytes s).drop (k+1)).all prB=q):=by
         have h3:¬ (s[k]'hlt) < 32:=h1;have h4:¬ 126 < (s[k]'hlt):=h2;show _=_;rw [<-Hk.out,Hst.out];simp [prB,h3,h4]
        go_wp2;go_round
        case rel=> exact ⟨k+1,by omega,by go_num,Hn⟩
        case measure=> simp [intOf];omega
  · have Hr:Hid (q=true):=by
     have hl:(bytes s).length=s.size:=by simp [bytes]
     show _=_;rw [<-Hk.out,List.drop_of_length_le (by omega)];rfl
    go_wp2;go_ret;exact ⟨by rw [Hr.out];rfl,rfl⟩
theorem text_mt (s:ByteArray):s.toList=[]↔s=.empty:=by
 rw [ByteArray.toList_eq];obtain ⟨⟨l⟩⟩:=s;constructor
 · intro h
   have h':l=[]:=h;subst h';rfl
 · intro h
   exact congrArg (λ b:ByteArray=> b.data.toList) h
theorem valid_calls (v:Vl) (w:World) (hs:v.text.size<=maxLen):Calls Tryz.prog 57 #[v.val] w λ e w'=> e=.returned (.bool (okV v))/\Below w.heap.size w w':=by
 have HP:=Lib.hid (λ w=> printable_calls v.text w hs);have HB:=Lib.hid ((Below.refl _ w).alloc (Nat.le_refl _) (.cells #[.int .i64 v.kind, .int .i64 v.int, .string v.text] 29));obtain ⟨c0,c1,c2⟩:(w.alloc (.cells #[.int .i64 v.kind, .int .i64 v.int, .string v.text] 29)).cell? ⟨w.heap.size,0,none⟩=some (.int .i64 v.kind)/\(w.alloc (.cells #[.int .i64 v.kind, .int .i64 v.int, .string v.text] 29)).cell? ⟨w.heap.size,1,none⟩=some (.int .i64 v.int)/\(w.alloc (.cells #[.int .i64 v.kind, .int .i64 v.int, .string v.text] 29)).cell? ⟨w.heap.size,2,none⟩=some (.string v.text):=
  ⟨World.cell?_alloc_new _ _ _ 0,World.cell?_alloc_new _ _ _ 1,World.cell?_alloc_new _ _ _ 2⟩
 unfold Vl.val;obtain ⟨q,hq⟩:∃q,okV v=q:=⟨_,rfl⟩
 have Hq:Hid ((if v.kind=0 then decide (v.int=0) && decide (v.text=.empty) else if v.kind=1 then decide (v.text=.empty) else if v.kind=2 then decide (v.int=0) && (prS v.text && decide (v.text.size<=16)) else false)=q):=by show _=_;rw [<-hq];rfl
 rw [hq];clear hq;have HT:Hid (v.text.toList=[]↔v.text=.empty):=text_mt _;go_enter Tryz.func57,Tryz.ntmps57;go_upto_region 1 with (fail)
 generalize hW:w.alloc _=W at *;clear hW;have hbl:=World.block_lt_of_cell? W _ c0;by_cases ht:v.text.toList=[] <;> by_cases h3:v.int=0 <;> by_cases h0:v.kind=0 <;> by_cases h1:v.kind=1 <;> by_cases h2:v.kind=2
 all_goals first
  | (exfalso;omega)
  | (go_wp2_with (first | (with_reducible refine (HP.out _).mono ?_;rintro e w1 ⟨rfl,rfl⟩))
     all_goals go_ret
     all_goals
      refine ⟨?_,HB.out⟩;rw [<-Hq.out]
      first
       | (simp [<-HT.out, *];done)
       | (simp [<-HT.out, *];omega))
theorem rvalid_calls (v:Vl) (w:World) (hs:v.text.size<=maxLen):Calls Tryz.prog 105 #[v.val] w λ e w'=> e=.returned (.bool (okV v))/\Below w.heap.size w w':=by
 have HP:=Lib.hid (λ w=> rprintable_calls v.text w hs);have HB:=Lib.hid ((Below.refl _ w).alloc (Nat.le_refl _) (.cells #[.int .i64 v.kind, .int .i64 v.int, .string v.text] 29));obtain ⟨c0,c1,c2⟩:(w.alloc (.cells #[.int .i64 v.kind, .int .i64 v.int, .string v.text] 29)).cell? ⟨w.heap.size,0,none⟩=some (.int .i64 v.kind)/\(w.alloc (.cells #[.int .i64 v.kind, .int .i64 v.int, .string v.text] 29)).cell? ⟨w.heap.size,1,none⟩=some (.int .i64 v.int)/\(w.alloc (.cells #[.int .i64 v.kind, .int .i64 v.int, .string v.text] 29)).cell? ⟨w.heap.size,2,none⟩=some (.string v.text):=
  ⟨World.cell?_alloc_new _ _ _ 0,World.cell?_alloc_new _ _ _ 1,World.cell?_alloc_new _ _ _ 2⟩
 unfold Vl.val;obtain ⟨q,hq⟩:∃q,okV v=q:=⟨_,rfl⟩
 have Hq:Hid ((if v.kind=0 then decide (v.int=0) && decide (v.text=.empty) else if v.kind=1 then decide (v.text=.empty) else if v.kind=2 then decide (v.int=0) && (prS v.text && decide (v.text.size<=16)) else false)=q):=by show _=_;rw [<-hq];rfl
 rw [hq];clear hq;have HT:Hid (v.text.toList=[]↔v.text=.empty):=text_mt _;go_enter Tryz.func105,Tryz.ntmps105;go_upto_region 1 with (fail)
 generalize hW:w.alloc _=W at *;clear hW;have hbl:=World.block_lt_of_cell? W _ c0;by_cases ht:v.text.toList=[] <;> by_cases h3:v.int=0 <;> by_cases h0:v.kind=0 <;> by_cases h1:v.kind=1 <;> by_cases h2:v.kind=2
 all_goals first
  | (exfalso;omega)
  | (go_wp2_with (first | (with_reducible refine (HP.out _).mono ?_;rintro e w1 ⟨rfl,rfl⟩))
     all_goals go_ret
     all_goals
      refine ⟨?_,HB.out⟩;rw [<-Hq.out]
      first
       | (simp [<-HT.out, *];done)
       | (simp [*];omega))
end
end Go.Proofs.YtnefkkidfhmggaaGreat
