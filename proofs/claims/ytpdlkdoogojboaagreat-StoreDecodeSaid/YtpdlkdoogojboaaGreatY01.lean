/- Part 1 of the proof: Rw, S1, Vm, Nm, Mfl, Krd, C1, D1, Vd, Ec, Tl, Tm -/
import Derived.Test.YtpdlkdoogojboaaGreatY00
import Derived.Laws.IdiomStrings
import Derived.Deep.Slices
import Derived.Test.YtpdlkdoogojboaaGreatRows
import Derived.Deep.DeepCutAuto
set_option maxHeartbeats 16000000
set_option maxRecDepth 100000
namespace Go.Proofs.YtpdlkdoogojboaaGreat
open Go Go.RowKit
noncomputable section
section
def rowA (t:TypeId) (size:Nat) (v:Value) (n:Nat) (xs:List Value):Asn:=
 ⟨λ w fp=> w.ownsRow 0 t size v n xs/\fp=v.ownBlock.toList,λ h k hk=> by rw [h.2] at hk;exact (h.1.lt k (by cases hv:v.ownBlock <;> simp_all)).2,λ h hs=> ⟨own_loc h.1 (by rw [<-h.2];exact hs),h.2⟩⟩
theorem row_nil (w:World) (t:TypeId) (size:Nat):(rowA t size (.slice none 0 0) 0 []).p w []:=⟨World.ownsRow_nil _ _ _ _,rfl⟩
theorem St.nilR {w0 w:World} {fp0:List Nat} {L:List Asn} (t:TypeId) (size:Nat) (hs:St w0 fp0 L w):St w0 fp0 (rowA t size (.slice none 0 0) 0 []::L) w:=by
 obtain ⟨fp,h1,h2⟩:=hs;exact ⟨fp,⟨[],fp,row_nil _ _ _,h1,by simp,rfl⟩,h2⟩
theorem row_shape {w:World} {t:TypeId} {size:Nat} {v:Value} {n:Nat} {xs:List Value} {f:List Nat} (h:(rowA t size v n xs).p w f):∃a c,v=.slice a n c/\n<=c/\c<=maxLen/\∀i,i < n * size->∃g,a=some ⟨g,0,none⟩/\g < w.heap.size/\w.cell? ⟨g,i,none⟩=xs[i]? /\∀j,w.frozen? ⟨g,j,none⟩=false:=by
 obtain ⟨ho,_⟩:=h;have ho':=ho;rcases ho'.2 with ⟨rfl,h0⟩ | ⟨g,cap,cur,rfl,hb,hg,hn,hc,hs,ht⟩
 · subst h0
   exact ⟨none,0,rfl,Nat.le_refl _,Nat.zero_le _,λ i hi=> by simp at hi⟩
 · exact ⟨_,cap,rfl,hn,hc,λ i hi=> ⟨g,rfl,(Array.getElem?_eq_some_iff.1 hg).1,ho.cellAt i hi,λ j=> ho.frozenAt j⟩⟩
def boxsA (t:TypeId) (s:Value) (x:Array Value):Asn:=
 ⟨λ w fp=> ∃vb,s=.slice (some ⟨vb,0,none⟩) 1 1/\w.heap[vb]? =some (.cells x t (0,0))/\fp=[vb],λ ⟨vb,_,h1,h2⟩ k hk=> by rw [h2] at hk;obtain rfl:=List.mem_singleton.1 hk;exact (Array.getElem?_eq_some_iff.1 h1).1,λ ⟨vb,h0,h1,h2⟩ hs=> ⟨vb,h0,(hs vb (by rw [h2];simp)).trans h1,h2⟩⟩
theorem boxs_new (w:World) (t:TypeId) (x:Array Value):(boxsA t (.slice (some ⟨w.heap.size,0,none⟩) 1 1) x).p (w.alloc (.cells x t)) [w.heap.size]/\Tr w (w.alloc (.cells x t)) [] [w.heap.size]:=by
 have hb:=(Below.refl w.heap.size w).alloc (Nat.le_refl _) (.cells x t (0,0));refine ⟨⟨_,rfl,heap_alloc_new w _,rfl⟩,hb.os,hb.tape,hb.output,hb.size,λ k hk _=> hb.block k hk,λ k hk=> .inr ?_⟩;rw [List.mem_singleton.1 hk];exact Nat.le_refl _
section
variable {P:Program}
theorem run_append_op {a:Act} {w w':World} {o:Oper} {s x:Operand} {t:TypeId} {v v2 v':Value} (ho:o.op=.call { callee:=.builtin .append,args:=#[s,x],argTypes:=#[t,t] }) (hs:a.eval s=v) (hx:a.eval x=v2)
 (hr:(Builtin.append_ #[t,t] o.type #[v,v2]).run P w=.ok v' w'):(execOp a.eval o).run P w=.ok (.value v') w':=by
 unfold execOp;simp only [ho,resolve,invoke,builtin,Sem.run_bind,Sem.run_pure,Result.andThen_ok,List.map_toArray,List.map_cons,List.map_nil,hs,hx,hr]
theorem row_append (w:World) (t ty e:TypeId) (i:TypeInfo) (z:Value) (size bytes:Nat) (ht:P.underlying t=some (.slice e)) (hi:P.info? e=some i) (hz:i.zero=some z)
 (hsize:i.size=size) (hby:i.bytes=bytes) (hzs:z.cells.size=size) (hsz:0 < size)
 {v:Value} {n:Nat} {xs:List Value} {f:List Nat} (hown:(rowA e size v n xs).p w f) (vb:Nat) (news:List Value) (et:TypeId) (hb:w.heap[vb]? =some (.cells news.toArray et (0,0))) (hl:news.length=size) (h1:∀u∈news,u.oneCell'=true)
 (h63:n+1<=maxLen) (hbytes:(n+1) * bytes<=140737488355328):
 ∃v' w' f',(Builtin.append_ #[t,t] ty #[v, .slice (some ⟨vb,0,none⟩) 1 1]).run P w=.ok v' w'/\(rowA e size v' (n+1) (xs++news)).p w' f'/\Tr w w' f f':=by
 obtain ⟨ho,rfl⟩:=hown;obtain ⟨v',w',hr,h2,h3,h4⟩:=run_append_block (P:=P) w 0 t ty e i z size bytes ht hi hz hsize hby hzs hsz v n xs ho ⟨vb,0,none⟩ 1 1 news (by rw [hl];omega) (λ j u hu=> by rw [Addr.add_lit,Nat.zero_add,cell_of_row w vb j _ et (0,0) hb];simpa using hu) h1 (by omega) h63 hbytes (Nat.zero_le _);exact ⟨v',w',_,hr,⟨h2,rfl⟩,Tr.of_grown h3 h4⟩
theorem row_append_row (w:World) (t ty e:TypeId) (i:TypeInfo) (z:Value) (size bytes:Nat) (ht:P.underlying t=some (.slice e)) (hi:P.info? e=some i) (hz:i.zero=some z)
 (hsize:i.size=size) (hby:i.bytes=bytes) (hzs:z.cells.size=size) (hsz:0 < size)
 {v:Value} {n:Nat} {xs:List Value} {f:List Nat} (hown:(rowA e size v n xs).p w f) {s:Value} {m:Nat} {ys:List Value} {g:List Nat} (hsrc:(rowA e size s m ys).p w g) (h1:∀u∈ys,u.oneCell'=true)
 (h63:n+m<=maxLen) (hbytes:(n+m) * bytes<=140737488355328):
 ∃v' w' f',(Builtin.append_ #[t,t] ty #[v,s]).run P w=.ok v' w'/\(rowA e size v' (n+m) (xs++ys)).p w' f'/\Tr w w' f f':=by
 obtain ⟨ho,rfl⟩:=hown;obtain ⟨ho2,_⟩:=hsrc;rcases ho2.2 with ⟨rfl,rfl⟩ | ⟨g',cap',cur',rfl,_⟩
 · have hys:ys=[]:=List.length_eq_zero_iff.1 (by rw [ho2.1,Nat.zero_mul])
   subst hys;refine ⟨v,w,_,run_append_owned_none (P:=P) (w:=w) 0 t ty e i size ht hi v n xs ho,⟨by simpa using ho,rfl⟩,Tr.refl _ _⟩
 · have hnews:=ho2.cells (g:=g') rfl
   by_cases hm:0 < m
   · obtain ⟨v',w',hr,h2,h3,h4⟩:=run_append_block (P:=P) w 0 t ty e i z size bytes ht hi hz hsize hby hzs hsz v n xs ho _ m cap' ys ho2.1 hnews h1 hm h63 hbytes (Nat.zero_le _)
     exact ⟨v',w',_,hr,⟨h2,rfl⟩,Tr.of_grown h3 h4⟩
   · obtain rfl:m=0:=by omega
     obtain ⟨v',w',hr,h2,h3,h4⟩:=run_append_own (P:=P) w 0 t ty e i z size bytes ht hi hz hsize hby hzs hsz v n xs ho _ 0 cap' ys ho2.1 hnews h1 h63 hbytes (Nat.zero_le _);refine ⟨v',w',_,hr,⟨h2,rfl⟩,Tr.of_grown h3 λ k hk=> ?_⟩;subst hsize;rcases ho.2 with ⟨rfl,rfl⟩ | ⟨gv,cap,cur,rfl,hbg,hg,hnc,hcm,hcs,htake⟩
     · have:=h4.2 ⟨rfl,rfl⟩
       subst this;cases hk
     · have hfit:n * i.size+ys.length<=cur.size:=by rw [ho2.1,hcs,Nat.zero_mul,Nat.add_zero];exact Nat.mul_le_mul_right _ hnc
       have hr2:=run_append_room (P:=P) w t ty e i ht hi gv n cap cur hg _ 0 cap' ys ho2.1 hnews h1 (by omega) hfit;rw [hr2] at hr;injection hr with hr _;subst hr;exact .inl hk
end
end
end
end Go.Proofs.YtpdlkdoogojboaaGreat
noncomputable section
namespace Go.Proofs.YtpdlkdoogojboaaGreat
open Go.RowKit
theorem Star.perm {w:World} {L L':List Asn} (hp:L.Perm L'):∀{fp:List Nat},Star w L fp->∃fp',Star w L' fp'/\∀k,k∈fp'↔k∈fp:=by
 induction hp with
 | nil=> intro fp h;exact ⟨fp,h,λ _=> Iff.rfl⟩
 | @cons A l1 l2 _ ih=>
  rintro fp ⟨f,g,h1,h2,h3,rfl⟩;obtain ⟨g',h4,h5⟩:=ih h2;exact ⟨f++g',⟨f,g',h1,h4,λ k hk hg=> h3 k hk ((h5 k).1 hg),rfl⟩,λ k=> by simp only [List.mem_append,h5 k]⟩
 | swap A B l=>
  rintro fp ⟨f,g,h1,⟨f2,g2,h4,h5,h6,rfl⟩,h3,rfl⟩;refine ⟨f2++(f++g2),⟨f2,f++g2,h4,⟨f,g2,h1,h5,λ k hk hg=> h3 k hk (List.mem_append.2 (.inr hg)),rfl⟩,λ k hk hg=> ?_,rfl⟩,λ k=> ?_⟩
  · rcases List.mem_append.1 hg with hg | hg
    · exact h3 k hg (List.mem_append.2 (.inl hk))
    · exact h6 k hk hg
  · simp only [List.mem_append]
    constructor
    · rintro (h | h | h)
      · exact .inr (.inl h)
      · exact .inl h
      · exact .inr (.inr h)
    · rintro (h | h | h)
      · exact .inr (.inl h)
      · exact .inl h
      · exact .inr (.inr h)
 | trans _ _ ih1 ih2=>
  intro fp h;obtain ⟨f1,h1,h2⟩:=ih1 h;obtain ⟨f2,h3,h4⟩:=ih2 h1;exact ⟨f2,h3,λ k=> (h4 k).trans (h2 k)⟩
theorem St.perm {w0 w:World} {fp0:List Nat} {L L':List Asn} (h:St w0 fp0 L w) (hp:L.Perm L'):St w0 fp0 L' w:=by
 obtain ⟨fp,hs,ht⟩:=h;obtain ⟨fp',h1,h2⟩:=hs.perm hp;exact ⟨fp',h1,ht.os,ht.tape,ht.output,ht.size,ht.block,λ k hk=> ht.new k ((h2 k).1 hk)⟩
theorem Star.star {w:World} {L1 L2:List Asn} {fp:List Nat}:Star w (starA L1::L2) fp↔Star w (L1++L2) fp:=by
 constructor
 · rintro ⟨f,g,h1,h2,h3,rfl⟩
   exact Star.join h1 h2 h3
 · intro h
   obtain ⟨f,g,h1,h2,h3,rfl⟩:=h.append;exact ⟨f,g,h1,h2,h3,rfl⟩
theorem St.star {w0 w:World} {fp0:List Nat} {L1 L2:List Asn}:St w0 fp0 (starA L1::L2) w↔St w0 fp0 (L1++L2) w:=by
 constructor
 · rintro ⟨fp,h1,h2⟩
   exact ⟨fp,Star.star.1 h1,h2⟩
 · rintro ⟨fp,h1,h2⟩
   exact ⟨fp,Star.star.2 h1,h2⟩
theorem Star.emp {w:World} {L:List Asn} {fp:List Nat}:Star w (emp::L) fp↔Star w L fp:=by
 constructor
 · rintro ⟨f,g,h1,h2,h3,rfl⟩
   rw [show f=[] from h1];exact h2
 · intro h
   exact ⟨[],fp,rfl,h,by simp,rfl⟩
theorem St.emp {w0 w:World} {fp0:List Nat} {L:List Asn}:St w0 fp0 (emp::L) w↔St w0 fp0 L w:=by
 constructor
 · rintro ⟨fp,h1,h2⟩
   exact ⟨fp,Star.emp.1 h1,h2⟩
 · rintro ⟨fp,h1,h2⟩
   exact ⟨fp,Star.emp.2 h1,h2⟩
theorem St.pure {w0 w:World} {fp0:List Nat} {L:List Asn} {P:Prop}:St w0 fp0 (pureA P::L) w↔P/\St w0 fp0 L w:=by
 constructor
 · rintro ⟨fp,⟨f,g,⟨h0,h1⟩,h2,h3,rfl⟩,ht⟩
   rw [show f=[] from h1] at ht;exact ⟨h0,g,h2,ht⟩
 · rintro ⟨h0,fp,h1,h2⟩
   exact ⟨fp,⟨[],fp,⟨h0,rfl⟩,h1,by simp,rfl⟩,h2⟩
theorem zipWith_app {α β γ:Type} (f:α->β->γ) (l1 l2:List α) (m1 m2:List β) (h:l1.length=m1.length):List.zipWith f (l1++l2) (m1++m2)=List.zipWith f l1 m1++List.zipWith f l2 m2:=List.zipWith_append h
theorem St.dropAll {w0 w:World} {fp0:List Nat}:∀{A B:List Asn},St w0 fp0 (A++B) w->St w0 fp0 B w
 | [],_,h=> h
 | _::A,_,h=> St.dropAll (A:=A) h.drop
end Go.Proofs.YtpdlkdoogojboaaGreat
end
namespace Go.Proofs.YtpdlkdoogojboaaGreat
open Go Go.RowKit
noncomputable section
def SlX (X:List Nat) (w:World) (size n:Nat) (xs:List Value) (v:Value):Prop:=
 n<=maxLen/\xs.length=n * size/\∃a c,v=.slice a n c/\∀j (h:j < xs.length),∃b o,a=some ⟨b,o,none⟩/\b ∉ X/\w.cell? ⟨b,o+j,none⟩=some xs[j]
theorem SlX.mono {X:List Nat} {w w':World} {size n:Nat} {xs:List Value} {v:Value} (h:SlX X w size n xs v) (hb:Below w.heap.size w w'):SlX X w' size n xs v:=by
 obtain ⟨h1,h2,a,c,h3,h4⟩:=h;refine ⟨h1,h2,a,c,h3,λ j hj=> ?_⟩;obtain ⟨b,o,h5,h6,h7⟩:=h4 j hj;exact ⟨b,o,h5,h6,(hb.cell (p:=⟨b,o+j,none⟩) (World.block_lt_of_cell? w ⟨b,o+j,none⟩ h7)).trans h7⟩
theorem SlX.nil (X:List Nat) (w:World) (size:Nat) (a:Option Addr) (c:Nat):SlX X w size 0 [] (.slice a 0 c):=
 ⟨Nat.zero_le _,by simp,a,c,rfl,λ j h=> by simp at h⟩
theorem SlX.shape {X:List Nat} {w:World} {size n:Nat} {xs:List Value} {v:Value} (h:SlX X w size n xs v):∃a c,v=.slice a n c:=by
 obtain ⟨_,_,a,c,h3,_⟩:=h;exact ⟨a,c,h3⟩
theorem SlX.has {X:List Nat} {w:World} {size n m:Nat} {xs:List Value} {a:Option Addr} {c:Nat} (h:SlX X w size n xs (.slice a m c)) (h0:0 < xs.length):∃b o,a=some ⟨b,o,none⟩/\b ∉ X/\b < w.heap.size:=by
 obtain ⟨_,_,a',c',h3,h4⟩:=h;obtain ⟨b,o,h5,h6,h7⟩:=h4 0 h0;injection h3 with h3;exact ⟨b,o,h3.trans h5,h6,World.block_lt_of_cell? w ⟨b,o+0,none⟩ h7⟩
theorem SlX.cell {X:List Nat} {w:World} {size n m:Nat} {xs:List Value} {b o c:Nat} (h:SlX X w size n xs (.slice (some ⟨b,o,none⟩) m c)) (j:Nat) (hj:j < xs.length):w.cell? ⟨b,o+j,none⟩=some xs[j]:=by
 obtain ⟨_,_,a',c',h3,h4⟩:=h;obtain ⟨b',o',h5,h6,h7⟩:=h4 j hj;injection h3 with h3;rw [h5] at h3;injection h3 with h3;injection h3 with h3 h4;subst h3 h4;exact h7
theorem SlX.len {X:List Nat} {w:World} {size n m:Nat} {xs:List Value} {a:Option Addr} {c:Nat} (h:SlX X w size n xs (.slice a m c)):m=n/\n<=maxLen/\xs.length=n * size:=by
 obtain ⟨h1,h2,a',c',h3,h4⟩:=h;injection h3 with _ h3 _;exact ⟨h3,h1,h2⟩
theorem SlX.of_own {X:List Nat} {w:World} {B size n:Nat} {t:TypeId} {xs:List Value} {v:Value} (h:w.ownsRow B t size v n xs) (hl:xs.length=n * size) (hX:∀k∈v.ownBlock.toList,k ∉ X):SlX X w size n xs v:=by
 obtain ⟨_,⟨rfl,rfl⟩ | ⟨g,cap,cur,rfl,hb,hg,hn,hc,hs,ht⟩⟩:=h
 · cases xs with
   | nil=> exact SlX.nil _ _ _ _ _
   | cons=> simp at hl
 · refine ⟨Nat.le_trans hn hc,hl,_,_,rfl,λ j hj=> ⟨g,0,rfl,hX g (by simp [Value.ownBlock]),?_⟩⟩
   rw [Nat.zero_add,cell_of_row w g j cur t (0,0) hg];have h1:xs[j]? =some xs[j]:=List.getElem?_eq_getElem hj;have h2:xs[j]? =cur[j]? :=by rw [<-ht,List.getElem?_take,if_pos (by omega)];simp
   exact h2.symm.trans h1
theorem SlX.of_row {X:List Nat} {w:World} {size n:Nat} {t:TypeId} {xs:List Value} {v:Value} {f:List Nat} (h:(rowA t size v n xs).p w f) (hl:xs.length=n * size) (hX:∀k∈f,k ∉ X):SlX X w size n xs v:=
 SlX.of_own h.1 hl (by rw [<-h.2];exact hX)
theorem SlX.of_sl {X:List Nat} {w:World} {t:TypeId} {xs:List Value} {v:Value} {f:List Nat} (h:(slA t v xs).p w f) (hX:∀k∈f,k ∉ X):SlX X w 1 xs.length xs v:=
 SlX.of_own h.1 (by omega) (by rw [<-h.2];exact hX)
theorem SlX.of_blk {X:List Nat} {w:World} {b size n c:Nat} {t:TypeId} {fr:Nat×Nat} {cs:Array Value} (h:w.heap[b]? =some (.cells cs t fr)) (hX:b ∉ X) (hm:n<=maxLen) (hl:cs.size=n * size):SlX X w size n cs.toList (.slice (some ⟨b,0,none⟩) n c):=
 ⟨hm,by simpa using hl,_,_,rfl,λ j hj=> ⟨b,0,rfl,hX,by rw [Nat.zero_add,cell_of_row w b j cs t fr h];simp⟩⟩
def Vl.cells (v:Vl):List Value:=[.int .i64 v.kind, .int .i64 v.int, .string v.text]
def Vl.val (v:Vl):Value:=.agg #[.int .i64 v.kind, .int .i64 v.int, .string v.text]
def flat (vs:Rw):List Value:=vs.flatMap Vl.cells
theorem flat_get (vs:Rw) (i:Nat) (hi:i < vs.length) (j:Nat) (hj:j < 3):(flat vs)[i * 3+j]? =vs[i].cells[j]? :=by
 induction vs generalizing i with
 | nil=> simp at hi
 | cons x l ih=>
  cases i with
  | zero=>
   simp only [flat,List.flatMap_cons,Nat.zero_mul,Nat.zero_add,List.getElem_cons_zero];rw [List.getElem?_append_left (by simpa [Vl.cells] using hj)]
  | succ i=>
   have:=ih i (by simpa using hi);simp only [flat,List.flatMap_cons,List.getElem_cons_succ] at this ⊢;rw [List.getElem?_append_right (by simp [Vl.cells];omega),<-this];congr 1;simp [Vl.cells];omega
theorem length_flat (l:Rw):(flat l).length=l.length * 3:=by
 induction l with
 | nil=> rfl
 | cons x l ih=> simp only [flat,List.flatMap_cons,List.length_append,List.length_cons] at ih ⊢;rw [ih];simp [Vl.cells];omega
theorem flat_append (l m:Rw):flat (l++m)=flat l++flat m:=by simp [flat]
theorem one_flat (l:Rw):∀u∈flat l,u.oneCell'=true:=by
 intro u hu;simp only [flat,List.mem_flatMap] at hu;obtain ⟨v,_,hv⟩:=hu;simp [Vl.cells] at hv;rcases hv with rfl | rfl | rfl <;> rfl
def ValsX (X:List Nat) (w:World) (vs:Rw) (v:Value):Prop:=SlX X w 3 vs.length (flat vs) v/\∀x∈vs,x.text.size<=maxLen
abbrev ValsAt (w:World) (vs:Rw) (v:Value):Prop:=ValsX [] w vs v
theorem ValsX.mono {X:List Nat} {w w':World} {vs:Rw} {v:Value} (h:ValsX X w vs v) (hb:Below w.heap.size w w'):ValsX X w' vs v:=⟨h.1.mono hb,h.2⟩
theorem ValsX.txt {X:List Nat} {w:World} {vs:Rw} {s:Value} (h:ValsX X w vs s):∀v∈vs,v.text.size<=maxLen:=h.2
theorem ValsX.shape {X:List Nat} {w:World} {vs:Rw} {s:Value} (h:ValsX X w vs s):∃a n c,s=.slice a n c/\n=vs.length/\n<=maxLen:=by
 obtain ⟨a,c,e⟩:=h.1.shape;exact ⟨a,_,c,e,rfl,h.1.1⟩
theorem ValsX.nil (X:List Nat) (w:World) (a:Option Addr) (c:Nat):ValsX X w [] (.slice a 0 c):=⟨SlX.nil _ _ _ _ _,by simp⟩
theorem ValsX.cell {X:List Nat} {w:World} {vs:Rw} {b o n cap:Nat} (h:ValsX X w vs (.slice (some ⟨b,o,none⟩) n cap)) (i:Nat) (hi:i < vs.length):
 w.cell? ⟨b,o+i * 3,none⟩=some (.int .i64 vs[i].kind)/\w.cell? ⟨b,o+i * 3+1,none⟩=some (.int .i64 vs[i].int)/\w.cell? ⟨b,o+i * 3+2,none⟩=some (.string vs[i].text):=by
 have hl:=length_flat vs;have hc:∀j,j < 3->w.cell? ⟨b,o+(i * 3+j),none⟩=vs[i].cells[j]? :=λ j hj=> by
  have hlt:i * 3+j < (flat vs).length:=by omega
  rw [h.1.cell (i * 3+j) hlt,<-flat_get vs i hi j hj,List.getElem?_eq_getElem hlt]
 exact ⟨hc 0 (by omega),hc 1 (by omega),hc 2 (by omega)⟩
theorem ValsX.has {X:List Nat} {w:World} {L:Rw} {a:Option Addr} {n c:Nat} (h:ValsX X w L (.slice a n c)) (i:Nat) (hi:i < n):∃b o,a=some ⟨b,o,none⟩:=by
 have:=h.1.len;obtain ⟨b,o,h1,_⟩:=h.1.has (by omega);exact ⟨b,o,h1⟩
theorem ValsX.lt {X:List Nat} {w:World} {L:Rw} {b o n c:Nat} (h:ValsX X w L (.slice (some ⟨b,o,none⟩) n c)) {i:Nat} (hi:i < L.length):b < w.heap.size:=
 World.block_lt_of_cell? w _ (h.cell i hi).1
def intC (n:Int):Value:=.int .i64 n
def u8C (b:UInt8):Value:=.int .u8 b.toNat
def IntsX (X:List Nat) (w:World) (l:List Int) (v:Value):Prop:=SlX X w 1 l.length (l.map intC) v
def BytesX (X:List Nat) (w:World) (l:List UInt8) (v:Value):Prop:=SlX X w 1 l.length (l.map u8C) v
theorem IntsX.cell {X:List Nat} {w:World} {l:List Int} {b o n c:Nat} (h:IntsX X w l (.slice (some ⟨b,o,none⟩) n c)) (i:Nat) (hi:i < l.length):w.cell? ⟨b,o+i,none⟩=some (.int .i64 l[i]):=by
 rw [SlX.cell h i (by simpa using hi)];simp [intC]
theorem IntsX.has {X:List Nat} {w:World} {l:List Int} {a:Option Addr} {n c:Nat} (h:IntsX X w l (.slice a n c)) (i:Nat) (hi:i < n):∃b o,a=some ⟨b,o,none⟩:=by
 have:=SlX.len h;obtain ⟨b,o,h1,_⟩:=SlX.has h (by omega);exact ⟨b,o,h1⟩
theorem IntsX.shape {X:List Nat} {w:World} {l:List Int} {s:Value} (h:IntsX X w l s):∃a n c,s=.slice a n c/\n=l.length/\n<=maxLen:=by
 obtain ⟨a,c,e⟩:=SlX.shape h;exact ⟨a,_,c,e,rfl,h.1⟩
theorem IntsX.mono {X:List Nat} {w w':World} {l:List Int} {v:Value} (h:IntsX X w l v) (hb:Below w.heap.size w w'):IntsX X w' l v:=SlX.mono h hb
theorem BytesX.cell {X:List Nat} {w:World} {l:List UInt8} {b o n c:Nat} (h:BytesX X w l (.slice (some ⟨b,o,none⟩) n c)) (i:Nat) (hi:i < l.length):w.cell? ⟨b,o+i,none⟩=some (.int .u8 l[i].toNat):=by
 rw [SlX.cell h i (by simpa using hi)];simp [u8C]
def uN (n:Int):Nat:=(n+9223372036854775808).toNat
def numB (n:Int) (i:Nat):UInt8:=UInt8.ofNat (uN n / 2 ^ (56 - 8 * i) % 256)
def numL (n:Int):List UInt8:=(List.range 8).map (numB n)
def I64 (n:Int):Prop:= -9223372036854775808<=n/\n < 9223372036854775808
theorem xor_hi {r:Nat} (h:r < 2 ^ 63):r ^^^ 2 ^ 63=2 ^ 63+r:=by
 apply Nat.eq_of_testBit_eq;intro i;rw [Nat.testBit_xor];rcases Nat.lt_trichotomy i 63 with h1 | h1 | h1
 · rw [Nat.testBit_two_pow_add_gt h1,Nat.testBit_two_pow_of_ne (by omega)]
   simp
 · subst h1
   rw [Nat.testBit_two_pow_add_eq,Nat.testBit_two_pow_self];simp
 · rw [Nat.testBit_lt_two_pow (x:=r) (Nat.lt_of_lt_of_le h (Nat.pow_le_pow_right (by decide) (by omega))),Nat.testBit_two_pow_of_ne (by omega)]
   rw [Nat.testBit_lt_two_pow (x:=2 ^ 63+r)]
   · rfl
   · have:2 ^ 64<=2 ^ i:=Nat.pow_le_pow_right (by decide) (by omega)
     omega
theorem xor_num {n:Int} (h:I64 n):bits .xor .u64 (IntKind.u64.wrap n) 9223372036854775808=(uN n:Int):=by
 obtain ⟨h1,h2⟩:=h;have e1:(BitVec.ofInt 64 (9223372036854775808:Int)).toNat=2 ^ 63:=by decide
 have e2:(BitVec.ofInt 64 (IntKind.u64.wrap n)).toNat=if 0<=n then n.toNat else 2 ^ 63+uN n:=by
  rw [BitVec.toNat_ofInt];simp only [IntKind.wrap,IntKind.bits,IntKind.signed,uN];simp only [Bool.false_and,Bool.false_eq_true,if_false];by_cases h0:0<=n
  · rw [if_pos h0];omega
  · rw [if_neg h0];omega
 have e3:((BitVec.ofInt 64 (IntKind.u64.wrap n)) ^^^ BitVec.ofInt 64 (9223372036854775808:Int)).toNat=uN n:=by
  rw [BitVec.toNat_xor,e1,e2];split
  · rw [xor_hi (by omega)]
    unfold uN;omega
  · have hu:uN n < 2 ^ 63:=by unfold uN;omega
    rw [<-xor_hi hu,Nat.xor_assoc,Nat.xor_self,Nat.xor_zero]
 show IntKind.u64.wrap ((((BitVec.ofInt 64 (IntKind.u64.wrap n)) ^^^ BitVec.ofInt 64 (9223372036854775808:Int)).toNat:Nat):Int)=_;rw [e3];unfold uN;simp only [IntKind.wrap,IntKind.bits,IntKind.signed];simp;omega
theorem add_plain (b o j:Nat):(⟨b,o,none⟩:Addr).add j=⟨b,o+j,none⟩:=by unfold Addr.add;split <;> simp_all
theorem number_calls (n:Int) (hn:I64 n) (w:World):Calls Tryz.prog 86 #[.int .i64 n] w λ e w'=> e=.returned (.string ⟨(numL n).toArray⟩)/\Below w.heap.size w w':=by
 have HX:=Lib.hid (xor_num hn);clear hn;go_enter Tryz.func86,Tryz.ntmps86;go_wp2;have hx:=HX.out;have hmk:∀w,Sem.run Tryz.prog (Instr.makeSlice 52 (.int .i64 8) (.int .i64 8)) w=.ok (.slice (some ⟨w.heap.size,0,none⟩) 8 8) (w.alloc (.cells #[.int .u8 0, .int .u8 0, .int .u8 0, .int .u8 0, .int .u8 0, .int .u8 0, .int .u8 0, .int .u8 0] 5)):=λ w=> by kernel_rfl
 go_region;clear hx hmk HX;obtain ⟨u,hu⟩:∃u,uN n=u:=⟨_,rfl⟩
 have HU:=Lib.hid hu;rw [hu];clear hu;obtain ⟨cs,hcs⟩:∃cs:Array Value,cs=#[.int .u8 0, .int .u8 0, .int .u8 0, .int .u8 0, .int .u8 0, .int .u8 0, .int .u8 0, .int .u8 0]:=⟨_,rfl⟩
 have hg:((w.alloc (.cells cs 5)).drew).heap[w.heap.size]? =some (.cells cs 5 (0,0)):=heap_alloc_new w _;have hb:Below w.heap.size w ((w.alloc (.cells cs 5)).drew):=Below.drew ((Below.refl _ _).alloc (Nat.le_refl _) _);rw [<-hcs];have H0:Hid (∃rest:List Value,cs.toList=((numL n).take 0).map u8C++rest/\0+rest.length=8):=⟨cs.toList,rfl,by rw [hcs];rfl⟩
 clear hcs;generalize (w.alloc (.cells cs 5)).drew=W at *;obtain ⟨b,hbs⟩:∃b,w.heap.size=b:=⟨_,rfl⟩
 rw [hbs] at hb hg ⊢;have Hg:=Lib.hid hg;have Hb:=Lib.hid hb;clear hb hg;go_wp2;go_loopw [12] (λ i wr=> ∃k:Nat,k<=8/\i=.int .i64 k/\Hid (Below b w wr/\∃(cs:Array Value) (rest:List Value),wr.heap[b]? =some (.cells cs 5 (0,0))/\cs.toList=((numL n).take k).map u8C++rest/\k+rest.length=8)) (λ i _=> 8 - (intOf i).toNat)
 case atStart=> exact ⟨0,by omega,rfl,Hb.out,let ⟨r,h1,h2⟩:=H0.out;⟨cs,r,Hg.out,h1,h2⟩⟩
 case round=>
  obtain ⟨k,hk,rfl,Hr⟩:=hrel;obtain ⟨hbw,cs',rest,h1,h2,h3⟩:=Hr.out;by_cases hlt:k < 8
  · have hsz:cs'.size=8:=by
     have:=congrArg List.length h2;simp [numL] at this;omega
    obtain ⟨old,c0⟩:∃old,wr.cell? ⟨b,k,none⟩=some old:=⟨cs'[k]'(by omega),by rw [cell_of_row wr b k cs' _ _ h1,Array.getElem?_eq_getElem]⟩
    have c1:wr.frozen? ⟨b,k,none⟩=false:=frozen_of_row wr b k cs' _ h1;have hbl:=World.block_lt_of_cell? wr _ c0;have i1:(0:Int)<=k:=by omega
    have i2:(k:Int) < 8:=by omega
    have i3:IntKind.i64.wrap (8 * (k:Int))=((8 * k:Nat):Int):=by rw [IntWalk.i64_in _ (by omega)];omega
    have i4:IntKind.i64.wrap (56 - ((8 * k:Nat):Int))=((56 - 8 * k:Nat):Int):=by rw [IntWalk.i64_in _ (by omega)];omega
    have H1:=Lib.hid h1;have H2:=Lib.hid h2;have H3:=Lib.hid h3;have Hbw:=Lib.hid hbw;have Hsz:=Lib.hid hsz;clear h1 h2 h3 hbw Hr hsz;go_wp2;go_roundw
    case rel=>
     refine ⟨k+1,by omega,by go_num,Hbw.out.setCell (p:=⟨b,k,none⟩) (Nat.le_refl _) _,cs'.setIfInBounds k (u8C (numB n k)),rest.tail,?_,?_,?_⟩
     · have hv:Value.int IntKind.u8 ((u:Int) / 2 ^ (56 - 8 * k) % 256)=u8C (numB n k):=by
        have:u / 2 ^ (56 - 8 * k) % 256 < 256:=Nat.mod_lt _ (by decide);rw [u8C,numB,HU.out,UInt8.toNat_ofNat_of_lt' this];rw [Int.natCast_emod,Int.natCast_ediv,Int.natCast_pow];rfl
       rw [hv];exact heap_setCell_same wr b k cs' 5 _ H1.out
     · have hl:(numL n).length=8:=by simp [numL]
       rw [Array.toList_setIfInBounds,H2.out,List.take_add_one,List.map_append,List.append_assoc];rw [List.set_append_right _ _ (by simp [hl];omega)];congr 1;have e1:k - (List.map u8C (List.take k (numL n))).length=0:=by simp [hl];omega
       rw [e1];cases rest with
       | nil=> have:=H3.out;simp at this;omega
       | cons x r=>
        have e2:(numL n)[k]? =some (numB n k):=by simp [numL,hlt]
        rw [e2];rfl
     · have:=H3.out
       simp;omega
    case measure=> simp [intOf];omega
  · obtain rfl:k=8:=by omega
    have hrest:rest=[]:=List.length_eq_zero_iff.1 (by omega);subst hrest;have hl:(numL n).length=8:=by simp [numL]
    rw [List.take_of_length_le (by omega),List.append_nil] at h2;have hcv:(convert 52 9 (.slice (some ⟨b,0,none⟩) 8 8)).run Tryz.prog wr=.ok (.string ⟨(numL n).toArray⟩) wr:=by rw [<-hl];refine run_convert_bytes_back wr 52 9 5 ⟨b,0,none⟩ _ (numL n) (by kernel_rfl) (by kernel_rfl) (by kernel_rfl) λ j hj=> ?_;rw [add_plain,Nat.zero_add,cell_of_row wr b j cs' _ _ h1,<-Array.getElem?_toList,h2,List.getElem?_map,List.getElem?_eq_getElem hj];rfl
    have Hbw:=Lib.hid hbw;have HB:=Lib.hid hbs;clear h1 h2 h3 hbw Hr hl hk hlt;go_wp2;go_ret;exact ⟨rfl,by rw [HB.out];exact Hbw.out⟩
theorem flatMap_get {α:Type} {g:α->List Value} {sz:Nat} (hg:∀y,(g y).length=sz):∀(l:List α) (i r:Nat),r < sz->(l.flatMap g)[i * sz+r]? =(l[i]?).bind λ y=> (g y)[r]?
 | [],i,r,_=> by simp
 | x::l,0,r,h=> by rw [Nat.zero_mul,Nat.zero_add,List.flatMap_cons,List.getElem?_append_left (by rw [hg];exact h)];rfl
 | x::l,i+1,r,h=> by have:=flatMap_get hg l i r h;rw [List.flatMap_cons,List.getElem?_append_right (by rw [hg,Nat.add_mul];omega),hg,Nat.add_mul,Nat.one_mul,show i * sz+sz+r - sz=i * sz+r by omega,this];rfl
theorem flatMap_len {α:Type} {g:α->List Value} {sz:Nat} (hg:∀y,(g y).length=sz) (l:List α):(l.flatMap g).length=l.length * sz:=by
 induction l with
 | nil=> simp
 | cons x l ih=> rw [List.flatMap_cons,List.length_append,ih,hg,List.length_cons,Nat.add_mul];omega
theorem slx_read {α:Type} [Inhabited α] {w:World} {sz:Nat} (h0:0 < sz) (g:α->List Value) (hg:∀y,(g y).length=sz) {P:α->Prop} {b o len cap:Nat} (hcm:len<=maxLen) (hall:∀i,i < len->∃y,(∀j,j < sz->w.cell? ⟨b,o+i * sz+j,none⟩=(g y)[j]?)/\P y):
 ∃l:List α,SlX [] w sz l.length (l.flatMap g) (.slice (some ⟨b,o,none⟩) len cap)/\∀y∈l,P y:=by
 obtain ⟨f,hf⟩:=Deep.choose_lt hall;have hl:((List.range len).map f).length=len:=by simp
 refine ⟨(List.range len).map f,⟨by rw [hl];exact hcm,flatMap_len hg _,some ⟨b,o,none⟩,cap,by rw [hl],λ j hj=> ⟨b,o,rfl,by simp,?_⟩⟩,λ y hy=> ?_⟩
 · rw [flatMap_len hg,hl] at hj
   have hi:j / sz < len:=(Nat.div_lt_iff_lt_mul h0).2 hj;have e:=flatMap_get hg ((List.range len).map f) (j / sz) (j % sz) (Nat.mod_lt _ h0);have ej:j / sz * sz+j % sz=j:=by rw [Nat.mul_comm];exact Nat.div_add_mod _ _
   rw [ej] at e;have h1:=(hf (j / sz) hi).1 (j % sz) (Nat.mod_lt _ h0);rw [Nat.add_assoc,ej] at h1;rw [h1];rw [List.getElem?_map,List.getElem?_range hi] at e;rw [<-List.getElem?_eq_getElem,e];rfl
 · obtain ⟨i,hi,rfl⟩:=List.mem_map.1 hy
   exact (hf i (by simpa using hi)).2
theorem flat_int (l:List Int):l.flatMap (λ n:Int=> [intC n])=l.map intC:=by
 induction l with
 | nil=> rfl
 | cons x l ih=> rw [List.flatMap_cons,ih];rfl
theorem rec_cells {α:Type} {X:List Nat} {w:World} {sz:Nat} {l:List α} {g:α->List Value} {v:Value} (h0:0 < sz) (hg:∀y,(g y).length=sz) (h:SlX X w sz l.length (l.flatMap g) v) (i:Nat) (hi:i < l.length):
 ∃b o c,v=.slice (some ⟨b,o,none⟩) l.length c/\b ∉ X/\b < w.heap.size/\∀r u,(g l[i])[r]? =some u->w.cell? ⟨b,o+i * sz+r,none⟩=some u:=by
 obtain ⟨a,c,rfl⟩:=h.shape;have hlen:=flatMap_len hg l;have hpos:0 < (l.flatMap g).length:=by rw [hlen];exact Nat.mul_pos (by omega) h0
 obtain ⟨b,o,rfl,hX,hb⟩:=h.has hpos;refine ⟨b,o,c,rfl,hX,hb,λ r u hr=> ?_⟩;have hrs:r < sz:=by have:=(List.getElem?_eq_some_iff.1 hr).1;rw [hg] at this;exact this
 have e:=flatMap_get hg l i r hrs;rw [List.getElem?_eq_getElem hi] at e;have e2:(l.flatMap g)[i * sz+r]? =some u:=e.trans hr;obtain ⟨hj,he⟩:=List.getElem?_eq_some_iff.1 e2;have:=h.cell (i * sz+r) hj;rw [he] at this;rw [Nat.add_assoc];exact this
section
open Go.ChangeShapes Go.ChangeAt Go.WideShapes
theorem wf64 {n:Int} (h:(Lit.int .i64 n).wf=true):I64 n:=by
 unfold Lit.wf at h;simp [IntKind.min,IntKind.max,IntKind.bits,IntKind.signed] at h;unfold I64;omega
theorem cSTR:Tryz.prog.cellsOf 9=1:=by kernel_rfl
theorem cI64:Tryz.prog.cellsOf 2=1:=by kernel_rfl
theorem cINT:Tryz.prog.cellsOf 3=1:=by kernel_rfl
theorem cU8:Tryz.prog.cellsOf 5=1:=by kernel_rfl
theorem cIS:Tryz.prog.cellsOf 90=1:=by kernel_rfl
instance:Inhabited Vl:=⟨⟨0,0,⟨#[]⟩⟩⟩
section
variable {H:Type} {enc:TypeId×Value->H} {w:World}
theorem read_ints {fuel:Nat} {s:Value} {x:DataW H×List MemPlace} (h:DataW.trod enc Tryz.prog w 0 (λ _=> true) true fuel 90 [s]=some x):∃l:List Int,IntsX [] w l s/\∀v∈l,I64 v:=by
 rcases slice_read Tryz.underlying90 cINT (by omega) h with ⟨a,e⟩ | ⟨b,o,len,cap,k,D,R,e,hb,hlc,hcm,rfl,hxD,hDl,hel⟩
 · cases e
   exact ⟨[],SlX.nil _ _ _ _ _,by simp⟩
 · cases e
   obtain ⟨l,h1,h2⟩:=slx_read (w:=w) (cap:=cap) (sz:=1) (by omega) (λ n:Int=> [intC n]) (λ _=> rfl) (P:=I64) (b:=b) (o:=o) (len:=len) (Nat.le_trans hlc hcm) (λ i hi=> by obtain ⟨cs',pl, -,hc,ht⟩:=hel i (by rw [hDl];exact hi);obtain ⟨n,rfl, -,hn⟩:=DataW.trod_int Tryz.underlying3 ht;exact ⟨n,hc,wf64 hn⟩);refine ⟨l,?_,h2⟩;rw [flat_int] at h1;exact h1
end
end
end
end Go.Proofs.YtpdlkdoogojboaaGreat
noncomputable section
namespace Go.Proofs.YtpdlkdoogojboaaGreat
open Go.RowKit
theorem isnan_calls (a:Int) (w:World):Calls Tryz.prog 179 #[.int .i64 a] w λ e w'=> e=.returned (.bool false)/\w=w':=by
 go_enter Tryz.func179,Tryz.ntmps179;go_wp2
 all_goals go_ret
 all_goals exact ⟨by simp,rfl⟩
theorem isnan2_calls (a:Int) (w:World):Calls Tryz.prog 178 #[.int .i64 a] w λ e w'=> e=.returned (.bool false)/\w=w':=by
 go_enter Tryz.func178,Tryz.ntmps178;go_wp2
 all_goals go_ret
 all_goals exact ⟨by simp,rfl⟩
theorem compare_calls (a b:Int) (w:World):Calls Tryz.prog 145 #[.int .i64 a, .int .i64 b] w λ e w'=> e=.returned (.int .i64 (cmpS a b))/\w=w':=by
 unfold cmpS;go_enter Tryz.func145,Tryz.ntmps145;go_wp2_with (first | (go_at_call 179;refine (isnan_calls _ _).mono ?_;rintro e w' ⟨rfl,rfl⟩))
 all_goals go_ret
 all_goals exact ⟨by simp [*],rfl⟩
theorem compare2_calls (a b:Int) (w:World):Calls Tryz.prog 144 #[.int .i64 a, .int .i64 b] w λ e w'=> e=.returned (.int .i64 (cmpS a b))/\w=w':=by
 unfold cmpS;go_enter Tryz.func144,Tryz.ntmps144;go_wp2_with (first | (go_at_call 178;refine (isnan2_calls _ _).mono ?_;rintro e w' ⟨rfl,rfl⟩))
 all_goals go_ret
 all_goals exact ⟨by simp [*],rfl⟩
theorem run_cmpstring (a b:ByteArray) (w:World):(callFunc 201 #[.string a, .string b]).run Tryz.prog w=.ok (.value (.int .i64 (Lib.compareBytes a.data.toList b.data.toList))) w:=by
 rw [run_callFunc_extern Tryz.func201 (by kernel_rfl) (by kernel_rfl) (by kernel_rfl) (e:=Extern.BytealgCompare.compare) (by kernel_rfl),Lib.run_compareString];rfl
theorem scompare_calls (a b:ByteArray) (w:World):Calls Tryz.prog 146 #[.string a, .string b] w λ e w'=> e=.returned (.int .i64 (Lib.compareBytes (bytes a) (bytes b)))/\w=w':=by
 have hr:=run_cmpstring a b;go_enter Tryz.func146,Tryz.ntmps146;go_wp2;go_ret;exact ⟨rfl,rfl⟩
theorem or_calls3 (a b c:Int) (g:Nat) (w:World) (h0:w.cell? ⟨g,0,none⟩=some (.int .i64 a)) (h1:w.cell? ⟨g,1,none⟩=some (.int .i64 b)) (h2:w.cell? ⟨g,2,none⟩=some (.int .i64 c)):
 Calls Tryz.prog 143 #[.slice (some ⟨g,0,none⟩) 3 3] w λ e w'=> e=.returned (.int .i64 (orS a (orS b c)))/\w=w':=by
 unfold orS;by_cases ha:a=0
 · subst ha
   by_cases hb:b=0
   · subst hb
     by_cases hc:c=0
     · subst hc
       go_enter Tryz.func143,Tryz.ntmps143;go_wp2;refine wp_loop_rounds 4 ?_;rw [rounds_succ];go_wp2;rw [rounds_succ];go_wp2;rw [rounds_succ];go_wp2;rw [rounds_succ];go_wp2;go_ret;exact ⟨rfl,rfl⟩
     · have hc1:(c !=0)=true:=by simp [hc]
       go_enter Tryz.func143,Tryz.ntmps143;go_wp2;refine wp_loop_rounds 3 ?_;rw [rounds_succ];go_wp2;rw [rounds_succ];go_wp2;rw [rounds_succ];go_wp2;go_ret;exact ⟨rfl,rfl⟩
   · have hb1:(b !=0)=true:=by simp [hb]
     rw [if_neg hb];go_enter Tryz.func143,Tryz.ntmps143;go_wp2;refine wp_loop_rounds 2 ?_;rw [rounds_succ];go_wp2;rw [rounds_succ];go_wp2;go_ret;exact ⟨rfl,rfl⟩
 · have ha1:(a !=0)=true:=by simp [ha]
   rw [if_neg ha];go_enter Tryz.func143,Tryz.ntmps143;go_wp2;refine wp_loop_rounds 1 ?_;rw [rounds_succ];go_wp2;go_ret;exact ⟨rfl,rfl⟩
theorem cmpV_calls (a b:Vl) (w:World):Calls Tryz.prog 119 #[.agg #[.int .i64 a.kind, .int .i64 a.int, .string a.text], .agg #[.int .i64 b.kind, .int .i64 b.int, .string b.text]] w λ e w'=> e=.returned (.int .i64 (cmpV a b))/\Below w.heap.size w w':=by
 have Hb0:Hid (∀o o',Below w.heap.size w ((w.alloc o).alloc o')):=λ o o'=> ((Below.refl _ _).alloc (Nat.le_refl _) o).alloc (by simp) o';have V1:=(VarIs.new w #[.int .i64 a.kind, .int .i64 a.int, .string a.text] 68).alloc (.cells #[.int .i64 b.kind, .int .i64 b.int, .string b.text] 68);have V2:=VarIs.new1 w (.cells #[.int .i64 a.kind, .int .i64 a.int, .string a.text] 68) #[.int .i64 b.kind, .int .i64 b.int, .string b.text] 68;have hbw:=Hb0.out (.cells #[.int .i64 a.kind, .int .i64 a.int, .string a.text] 68) (.cells #[.int .i64 b.kind, .int .i64 b.int, .string b.text] 68);go_enter Tryz.func119,Tryz.ntmps119;go_wp2_with fail;generalize (w.alloc (.cells #[.int .i64 a.kind, .int .i64 a.int, .string a.text] 68)).alloc (.cells #[.int .i64 b.kind, .int .i64 b.int, .string b.text] 68)=W at *;have Hbw:=Lib.hid hbw;clear hbw Hb0;obtain ⟨v1,v2, -⟩:=V1;obtain ⟨u1,u2, -⟩:=V2;go_region_held3 (λ w'=> Below W.heap.size W w'/\∀b o,b < W.heap.size->w'.cell? ⟨b,o,none⟩=W.cell? ⟨b,o,none⟩)
  (first | assumption | exact S_of (Below.drew (Below.refl _ _)) | exact S_alloc (by assumption) _)
  (first
   | (go_at_call 144;(with_reducible refine (compare2_calls _ _ _).mono ?_);rintro e w1 ⟨rfl,rfl⟩)
   | (go_at_call 145;(with_reducible refine (compare_calls _ _ _).mono ?_);rintro e w1 ⟨rfl,rfl⟩)
   | (go_at_call 146;(with_reducible refine (scompare_calls _ _ _).mono ?_);rintro e w1 ⟨rfl,rfl⟩)
   | (go_at_call 143;refine (or_calls3 (cmpS a.kind b.kind) (cmpS a.int b.int) (Lib.compareBytes (bytes a.text) (bytes b.text)) _ _ (by go_simp) (by go_simp) (by go_simp)).mono ?_;rintro e w1 ⟨rfl,rfl⟩))
 rename_i hH
 have H:=Lib.hid (Hbw.out.trans (hH.1.mono Hbw.out.size));clear hH v1 v2 u1 u2;go_wp2;go_ret;exact ⟨rfl,H.out⟩
end Go.Proofs.YtpdlkdoogojboaaGreat
end
noncomputable section
namespace Go.Proofs.YtpdlkdoogojboaaGreat
open Go.RowKit
theorem ints_calls (a b:Int) (w:World):Calls Tryz.prog 116 #[.int .i64 a, .int .i64 b] w λ e w'=> e=.returned (.int .i64 (cmpS a b))/\w=w':=by
 unfold cmpS;go_enter Tryz.func116,Tryz.ntmps116;go_wp2
 all_goals go_ret
 all_goals exact ⟨by simp [*],rfl⟩
theorem cmpB_step {a b:List UInt8} {k:Nat} (h1:k < a.length) (h2:k < b.length):Lib.compareBytes (a.drop k) (b.drop k)=if a[k]=b[k] then Lib.compareBytes (a.drop (k+1)) (b.drop (k+1)) else cmpS a[k].toNat b[k].toNat:=by
 rw [List.drop_eq_getElem_cons h1,List.drop_eq_getElem_cons h2,Lib.compareBytes];unfold cmpS;by_cases h:a[k]=b[k]
 · have:¬ b[k] < b[k]:=UInt8.lt_irrefl _
   simp [h,this]
 · have hne:a[k].toNat≠b[k].toNat:=λ e=> h (UInt8.toNat_inj.1 e)
   simp only [UInt8.lt_iff_toNat_lt,h,if_false];by_cases h3:a[k].toNat < b[k].toNat
   · have:(a[k].toNat:Int) < b[k].toNat:=by omega
     simp [h3,this]
   · have h4:b[k].toNat < a[k].toNat:=by omega
     have h5:¬ (a[k].toNat:Int) < b[k].toNat:=by omega
     have h6:(b[k].toNat:Int) < a[k].toNat:=by omega
     simp [h3,h4,h5,h6]
theorem cmpB_end {a b:List UInt8} {k:Nat} (h:a.length<=k\/b.length<=k) (h1:k<=a.length) (h2:k<=b.length):Lib.compareBytes (a.drop k) (b.drop k)=cmpS a.length b.length:=by
 unfold cmpS;by_cases h3:a.length<=k
 · rw [List.drop_of_length_le h3]
   by_cases h4:b.length<=k
   · rw [List.drop_of_length_le h4]
     have e:a.length=b.length:=by omega
     simp [Lib.compareBytes,e]
   · rw [List.drop_eq_getElem_cons (by omega),Lib.compareBytes]
     have:(a.length:Int) < b.length:=by omega
     simp [this]
 · have h4:b.length<=k:=by omega
   rw [List.drop_of_length_le h4,List.drop_eq_getElem_cons (by omega),Lib.compareBytes];have h5:¬ (a.length:Int) < b.length:=by omega
   have h6:(b.length:Int) < a.length:=by omega
   simp [h5,h6]
theorem texts_calls (a b:ByteArray) (w:World) (ha:a.size<=maxLen):Calls Tryz.prog 142 #[.string a, .string b] w λ e w'=> e=.returned (.int .i64 (Lib.compareBytes (bytes a) (bytes b)))/\Below w.heap.size w w':=by
 unfold maxLen at ha;have La:Hid ((bytes a).length=a.size):=by show _=_;simp [bytes]
 have Lb:Hid ((bytes b).length=b.size):=by show _=_;simp [bytes]
 go_enter Tryz.func142,Tryz.ntmps142;go_wp2;go_loopw [5] (λ i wr=> ∃k:Nat,k<=a.size/\k<=b.size/\i=.int .i64 k/\Hid (Lib.compareBytes (bytes a) (bytes b)=Lib.compareBytes ((bytes a).drop k) ((bytes b).drop k))/\Hid (Below w.heap.size w wr)) (λ i _=> a.size - (intOf i).toNat)
 case atStart=> exact ⟨0,Nat.zero_le _,Nat.zero_le _,rfl,rfl,Below.refl _ _⟩
 case round=>
  obtain ⟨k,hk,hk',rfl,He,Hb⟩:=hrel;by_cases hlt:k < a.size/\k < b.size
  · obtain ⟨h1,h2⟩:=hlt
    have Hst:=Lib.hid (cmpB_step (a:=bytes a) (b:=bytes b) (k:=k) (by rw [La.out];exact h1) (by rw [Lb.out];exact h2));have ea:(bytes a)[k]'(by rw [La.out];exact h1)=(a[k]'h1):=rfl;have eb:(bytes b)[k]'(by rw [Lb.out];exact h2)=(b[k]'h2):=rfl;rw [ea,eb] at Hst;have hx:((a[k]'h1).toNat:Int) < 256:=by have:=UInt8.toNat_lt (a[k]'h1);omega
    have hy:((b[k]'h2).toNat:Int) < 256:=by have:=UInt8.toNat_lt (b[k]'h2);omega
    have i1:(0:Int)<=k:=by omega
    have i2:(k:Int) < a.size:=by omega
    have i3:(k:Int) < b.size:=by omega
    have m1:IntKind.i64.wrap ((a[k]'h1).toNat:Int)=(a[k]'h1).toNat:=IntWalk.i64_in _ (by omega);have m2:IntKind.i64.wrap ((b[k]'h2).toNat:Int)=(b[k]'h2).toNat:=IntWalk.i64_in _ (by omega);clear ea eb;go_upto_region 4 with (fail)
    go_cut [24] (λ x wx=> x=.bool (((a[k]'h1).toNat:Int) !=(b[k]'h2).toNat)/\Hid (Below w.heap.size w wx))
    case first=>
     go_region_held3 (λ w'=> Below wr.heap.size wr w') (first | assumption | exact Below.drew (Below.refl _ _)) (fail)
     all_goals
      rename_i hH
      have Hb1:=Lib.hid (Hb.out.trans (hH.mono Hb.out.size));clear hH;go_wp2_with fail;go_meet;exact ⟨rfl,Hb1⟩
    obtain ⟨rfl,Hb1⟩:=hcut;by_cases he:(a[k]'h1)=(b[k]'h2)
    · have hne:(((a[k]'h1).toNat:Int) !=(b[k]'h2).toNat)=false:=by simp [he]
      have Hnext:Hid (Lib.compareBytes (bytes a) (bytes b)=Lib.compareBytes ((bytes a).drop (k+1)) ((bytes b).drop (k+1))):=by show _=_;rw [He.out,Hst.out,if_pos he]
      clear he m1 m2 hx hy;go_wp2;go_roundw
      case rel=> exact ⟨k+1,by omega,by omega,by go_num,Hnext,Hb1⟩
      case measure=> simp [intOf];omega
    · have hne:(((a[k]'h1).toNat:Int) !=(b[k]'h2).toNat)=true:=by
       have:(a[k]'h1).toNat≠(b[k]'h2).toNat:=λ e=> he (UInt8.toNat_inj.1 e);simp;omega
      have Hnext:Hid (Lib.compareBytes (bytes a) (bytes b)=cmpS (a[k]'h1).toNat (b[k]'h2).toNat):=by show _=_;rw [He.out,Hst.out,if_neg he]
      have Hm1:=Lib.hid m1;have Hm2:=Lib.hid m2;clear he m1 m2 hx hy;go_upto_region 5 with (fail)
      have m1:=Hm1.out;have m2:=Hm2.out;go_region_held3 (λ w'=> Below wc.heap.size wc w') (first | assumption | exact Below.drew (Below.refl _ _))
       (first | (go_at_call 116;refine (ints_calls _ _ _).mono ?_;rintro e w' ⟨rfl,rfl⟩))
      all_goals
       rename_i hH
       have Hb2:=Lib.hid (Hb1.out.trans (hH.mono Hb1.out.size));clear hH m1 m2;go_wp2;go_ret;exact ⟨by rw [Hnext.out];rfl,Hb2.out⟩
  · have Hend:Hid (Lib.compareBytes (bytes a) (bytes b)=cmpS a.size b.size):=by
     show _=_;rw [He.out,cmpB_end (by rw [La.out,Lb.out];omega) (by rw [La.out];omega) (by rw [Lb.out];omega),La.out,Lb.out]
    by_cases h1:k < a.size
    · have h2:b.size<=k:=by omega
      clear hlt;go_wp2_with (first | (go_at_call 116;refine (ints_calls _ _ _).mono ?_;rintro e w' ⟨rfl,rfl⟩));go_ret;exact ⟨by rw [Hend.out];rfl,Hb.out⟩
    · have h2:a.size<=k:=by omega
      clear hlt;go_wp2_with (first | (go_at_call 116;refine (ints_calls _ _ _).mono ?_;rintro e w' ⟨rfl,rfl⟩));go_ret;exact ⟨by rw [Hend.out];rfl,Hb.out⟩
theorem rcmp_calls (a b:Vl) (w:World) (ha:a.text.size<=maxLen):Calls Tryz.prog 115 #[.agg #[.int .i64 a.kind, .int .i64 a.int, .string a.text], .agg #[.int .i64 b.kind, .int .i64 b.int, .string b.text]] w λ e w'=> e=.returned (.int .i64 (cmpV a b))/\Below w.heap.size w w':=by
 have Hb0:Hid (∀o o',Below w.heap.size w ((w.alloc o).alloc o')):=λ o o'=> ((Below.refl _ _).alloc (Nat.le_refl _) o).alloc (by simp) o';have Hd:Hid (cmpV a b=orS (cmpS a.kind b.kind) (orS (cmpS a.int b.int) (Lib.compareBytes (bytes a.text) (bytes b.text)))):=rfl;by_cases h1:a.kind=b.kind
 · have b1:(a.kind !=b.kind)=false:=by simp [h1]
   have e1:cmpS a.kind b.kind=0:=cmpS_zero.2 h1;by_cases h2:a.int=b.int
   · have b2:(a.int !=b.int)=false:=by simp [h2]
     have Hr:Hid (cmpV a b=Lib.compareBytes (bytes a.text) (bytes b.text)):=by show _=_;rw [Hd.out,e1,cmpS_zero.2 h2];rfl
     clear h1 h2 e1;go_enter Tryz.func115,Tryz.ntmps115;go_wp2_with fail;refine (texts_calls _ _ _ ha).mono ?_;rintro e w1 ⟨rfl,hb1⟩;have Hb1:=Lib.hid ((Hb0.out _ _).trans (hb1.mono (Hb0.out _ _).size));clear hb1;go_wp2;go_ret;exact ⟨by rw [Hr.out];rfl,Hb1.out⟩
   · have b2:(a.int !=b.int)=true:=by simp [h2]
     have e2:¬ cmpS a.int b.int=0:=λ h=> h2 (cmpS_zero.1 h);have Hr:Hid (cmpV a b=cmpS a.int b.int):=by show _=_;rw [Hd.out,e1];unfold orS;rw [if_pos rfl,if_neg e2]
     clear h1 h2 e1 e2;go_enter Tryz.func115,Tryz.ntmps115;go_wp2_with fail;refine (ints_calls _ _ _).mono ?_;rintro e w1 ⟨rfl,rfl⟩;go_wp2;go_ret;exact ⟨by rw [Hr.out];rfl,Hb0.out _ _⟩
 · have b1:(a.kind !=b.kind)=true:=by simp [h1]
   have e1:¬ cmpS a.kind b.kind=0:=λ h=> h1 (cmpS_zero.1 h);have Hr:Hid (cmpV a b=cmpS a.kind b.kind):=by show _=_;rw [Hd.out];unfold orS;rw [if_neg e1]
   clear h1 e1;go_enter Tryz.func115,Tryz.ntmps115;go_wp2_with fail;refine (ints_calls _ _ _).mono ?_;rintro e w1 ⟨rfl,rfl⟩;go_wp2;go_ret;exact ⟨by rw [Hr.out];rfl,Hb0.out _ _⟩
theorem cmpR_end {R S:Rw} {k:Nat} (h:R.length<=k\/S.length<=k) (h1:k<=R.length) (h2:k<=S.length):cmpR (R.drop k) (S.drop k)=cmpS R.length S.length:=by
 unfold cmpS;by_cases h3:R.length<=k
 · by_cases h4:S.length<=k
   · rw [cmpR_both h3 h4]
     have e:R.length=S.length:=by omega
     simp [e]
   · rw [cmpR_short h3 (by omega)]
     have:(R.length:Int) < S.length:=by omega
     simp [this]
 · rw [cmpR_long (by omega) (by omega)]
   have h5:¬ (R.length:Int) < S.length:=by omega
   have h6:(S.length:Int) < R.length:=by omega
   simp [h5,h6]
theorem rrows_calls (R S:Rw) (r s:Value) (w:World) (hr:ValsAt w R r) (hs:ValsAt w S s):Calls Tryz.prog 79 #[r,s] w λ e w'=> e=.returned (.int .i64 (cmpR R S))/\Below w.heap.size w w':=by
 obtain ⟨a,n,c,rfl,hn,hm⟩:=hr.shape;obtain ⟨a',n',c',rfl,hn',hm'⟩:=hs.shape;unfold maxLen at hm hm';have Hr:=Lib.hid hr;have Hs:=Lib.hid hs;have Hn:=Lib.hid hn;have Hn':=Lib.hid hn';clear hr hs hn hn';go_enter Tryz.func79,Tryz.ntmps79;go_wp2;go_loopw [5] (λ i wr=> ∃k:Nat,k<=n/\k<=n'/\i=.int .i64 k/\Hid (cmpR R S=cmpR (R.drop k) (S.drop k))/\Hid (Below w.heap.size w wr)) (λ i _=> n - (intOf i).toNat)
 case atStart=> exact ⟨0,Nat.zero_le _,Nat.zero_le _,rfl,rfl,Below.refl _ _⟩
 case round=>
  obtain ⟨k,hk,hk',rfl,He,Hb⟩:=hrel;by_cases hlt:k < n/\k < n'
  · obtain ⟨h1,h2⟩:=hlt
    have hk1:k < R.length:=by have:=Hn.out;omega
    have hk2:k < S.length:=by have:=Hn'.out;omega
    obtain ⟨b,o,rfl⟩:=Hr.out.has k h1;obtain ⟨c0,c1,c2⟩:=(Hr.out.mono Hb.out).cell k hk1;have hbl:=(Hr.out.mono Hb.out).lt hk1;obtain ⟨b',o',rfl⟩:=Hs.out.has k h2;obtain ⟨d0,d1,d2⟩:=(Hs.out.mono Hb.out).cell k hk2;have hbl':=(Hs.out.mono Hb.out).lt hk2;have Hst:=Lib.hid (cmpR_step hk1 hk2);have HC:=Lib.hid (λ w'=> rcmp_calls R[k] S[k] w' (Hr.out.txt _ (List.getElem_mem hk1)));generalize R[k]=x at *;generalize S[k]=y at *;clear hk1 hk2;have i1:(0:Int)<=k:=by omega
    have i2:(k:Int) < n:=by omega
    have i3:(k:Int) < n':=by omega
    go_upto_region 4 with (fail)
    go_cut [6] (λ z wx=> z=.int .i64 (cmpV x y)/\Hid (Below w.heap.size w wx))
    case first=>
     go_region_held3 (λ w'=> Below wr.heap.size wr w'/\∀b o,b < wr.heap.size->w'.cell? ⟨b,o,none⟩=wr.cell? ⟨b,o,none⟩)
      (first | assumption | exact S_of (Below.drew (Below.refl _ _)) | exact S_step (by assumption) (by assumption))
      (first | (go_at_call 115;(with_reducible refine (HC.out _).mono ?_);rintro e w1 ⟨rfl,hb1⟩))
     all_goals
      rename_i hH
      have Hb1:=Lib.hid (Hb.out.trans (hH.1.mono Hb.out.size));clear hH;go_wp2_with fail;go_meet;exact ⟨rfl,Hb1⟩
    obtain ⟨rfl,Hb1⟩:=hcut;clear c0 c1 c2 d0 d1 d2 i1 i2 i3;by_cases h0:cmpV x y=0
    · have b0:(cmpV x y !=0)=false:=by simp [h0]
      have Hnext:Hid (cmpR R S=cmpR (R.drop (k+1)) (S.drop (k+1))):=by show _=_;rw [He.out,Hst.out,if_pos h0]
      clear h0;go_wp2;go_roundw
      case rel=> exact ⟨k+1,by omega,by omega,by go_num,Hnext,Hb1⟩
      case measure=> simp [intOf];omega
    · have b0:(cmpV x y !=0)=true:=by simp [h0]
      have Hnext:Hid (cmpR R S=cmpV x y):=by show _=_;rw [He.out,Hst.out,if_neg h0]
      clear h0;go_wp2;go_ret;exact ⟨by rw [Hnext.out];rfl,Hb1.out⟩
  · have Hend:Hid (cmpR R S=cmpS n n'):=by
     show _=_;have e1:=Hn.out;have e2:=Hn'.out;rw [He.out,cmpR_end (by omega) (by omega) (by omega),e1,e2]
    by_cases h1:k < n
    · have h2:n'<=k:=by omega
      clear hlt;go_wp2_with (first | (go_at_call 116;refine (ints_calls _ _ _).mono ?_;rintro e w' ⟨rfl,rfl⟩));go_ret;exact ⟨by rw [Hend.out];rfl,Hb.out⟩
    · have h2:n<=k:=by omega
      clear hlt;go_wp2_with (first | (go_at_call 116;refine (ints_calls _ _ _).mono ?_;rintro e w' ⟨rfl,rfl⟩));go_ret;exact ⟨by rw [Hend.out];rfl,Hb.out⟩
theorem rsame_calls (R S:Rw) (r s:Value) (w:World) (hr:ValsAt w R r) (hs:ValsAt w S s):Calls Tryz.prog 47 #[r,s] w λ e w'=> e=.returned (.bool (decide (R=S)))/\Below w.heap.size w w':=by
 have H:=Lib.hid (rrows_calls R S r s w hr hs);have He:Hid (decide (R=S)=(cmpR R S==0)):=by show _=_;rw [Bool.eq_iff_iff];simp [cmpR_zero]
 clear hr hs;go_enter Tryz.func47,Tryz.ntmps47;go_wp2_with fail;refine H.out.mono ?_;rintro e w1 ⟨rfl,hb1⟩;have Hb1:=Lib.hid hb1;clear hb1;go_wp2;go_ret;exact ⟨by rw [He.out];rfl,Hb1.out⟩
end Go.Proofs.YtpdlkdoogojboaaGreat
end
namespace Go.Proofs.YtpdlkdoogojboaaGreat
open Go Go.RowKit
noncomputable section
def prB (b:UInt8):Bool:=!(decide (b < 32) || decide (126 < b))
def prS (s:ByteArray):Bool:=(bytes s).all prB
def okV (v:Vl):Bool:=if v.kind=0 then decide (v.int=0) && decide (v.text=.empty) else if v.kind=1 then decide (v.text=.empty) else if v.kind=2 then decide (v.int=0) && (prS v.text && decide (v.text.size<=16)) else false
theorem prS_step {s:ByteArray} {k:Nat} (h:k < s.size):((bytes s).drop k).all prB=(prB (s[k]'h) && ((bytes s).drop (k+1)).all prB):=by
 have hl:(bytes s).length=s.size:=by simp [bytes]
 rw [List.drop_eq_getElem_cons (by omega),List.all_cons];rfl
theorem printable_calls (s:ByteArray) (w:World) (hs:s.size<=maxLen):Calls Tryz.prog 94 #[.string s] w λ e w'=> e=.returned (.bool (prS s && decide (s.size<=16)))/\w=w':=by
 unfold maxLen at hs;obtain ⟨q,hq⟩:∃q,prS s=q:=⟨_,rfl⟩
 have Hq:Hid (((bytes s).drop 0).all prB=q):=by show _=_;rw [List.drop_zero];exact hq
 rw [hq];clear hq;go_enter Tryz.func94,Tryz.ntmps94;go_wp2;go_loop [6] (λ i=> ∃k:Nat,k<=s.size/\i=.int .i64 k/\Hid (((bytes s).drop k).all prB=q)) (λ i=> s.size - (intOf i).toNat)
 case atStart=> exact ⟨0,Nat.zero_le _,rfl,Hq⟩
 case round=>
  obtain ⟨k,hk,rfl,Hk⟩:=hrel;by_cases hlt:k < s.size
  · have Hst:=Lib.hid (prS_step hlt)
    have i1:(0:Int)<=k:=by omega
    have i2:(k:Int) < s.size:=by omega
    by_cases h1:(s[k]'hlt).toNat < 32
    · have Hr:Hid (q=false):=by
       have h2:(s[k]'hlt) < 32:=h1;show _=_;rw [<-Hk.out,Hst.out];simp [prB,h2]
      go_wp2;go_ret;exact ⟨by rw [Hr.out];rfl,rfl⟩
    · by_cases h2:126 < (s[k]'hlt).toNat
      · have Hr:Hid (q=false):=by
         have h2:126 < (s[k]'hlt):=h2;show _=_;rw [<-Hk.out,Hst.out];simp [prB,h2]
        go_wp2;go_ret;exact ⟨by rw [Hr.out];rfl,rfl⟩
      · have Hn:Hid (((bytes s).drop (k+1)).all prB=q):=by
         have h3:¬ (s[k]'hlt) < 32:=h1;have h4:¬ 126 < (s[k]'hlt):=h2;show _=_;rw [<-Hk.out,Hst.out];simp [prB,h3,h4]
        go_wp2;go_round
        case rel=> exact ⟨k+1,by omega,by go_num,Hn⟩
        case measure=> simp [intOf];omega
  · have Hr:Hid (q=true):=by
     have hl:(bytes s).length=s.size:=by simp [bytes]
     show _=_;rw [<-Hk.out,List.drop_of_length_le (by omega)];rfl
    go_wp2;go_ret;exact ⟨by rw [Hr.out];simp;omega,rfl⟩
theorem rprintable_calls (s:ByteArray) (w:World) (hs:s.size<=maxLen):Calls Tryz.prog 114 #[.string s] w λ e w'=> e=.returned (.bool (prS s))/\w=w':=by
 unfold maxLen at hs;obtain ⟨q,hq⟩:∃q,prS s=q:=⟨_,rfl⟩
 have Hq:Hid (((bytes s).drop 0).all prB=q):=by show _=_;rw [List.drop_zero];exact hq
 rw [hq];clear hq;go_enter Tryz.func114,Tryz.ntmps114;go_wp2;go_loop [3] (λ i=> ∃k:Nat,k<=s.size/\i=.int .i64 k/\Hid (((bytes s).drop k).all prB=q)) (λ i=> s.size - (intOf i).toNat)
 case atStart=> exact ⟨0,Nat.zero_le _,rfl,Hq⟩
 case round=>
  obtain ⟨k,hk,rfl,Hk⟩:=hrel;by_cases hlt:k < s.size
  · have Hst:=Lib.hid (prS_step hlt)
    have i1:(0:Int)<=k:=by omega
    have i2:(k:Int) < s.size:=by omega
    by_cases h1:(s[k]'hlt).toNat < 32
    · have Hr:Hid (q=false):=by
       have h2:(s[k]'hlt) < 32:=h1;show _=_;rw [<-Hk.out,Hst.out];simp [prB,h2]
      go_wp2;go_ret;exact ⟨by rw [Hr.out];rfl,rfl⟩
    · by_cases h2:126 < (s[k]'hlt).toNat
      · have Hr:Hid (q=false):=by
         have h2:126 < (s[k]'hlt):=h2;show _=_;rw [<-Hk.out,Hst.out];simp [prB,h2]
        go_wp2;go_ret;exact ⟨by rw [Hr.out];rfl,rfl⟩
      · have Hn:Hid (((bytes s).drop (k+1)).all prB=q):=by
         have h3:¬ (s[k]'hlt) < 32:=h1;have h4:¬ 126 < (s[k]'hlt):=h2;show _=_;rw [<-Hk.out,Hst.out];simp [prB,h3,h4]
        go_wp2;go_round
        case rel=> exact ⟨k+1,by omega,by go_num,Hn⟩
        case measure=> simp [intOf];omega
  · have Hr:Hid (q=true):=by
     have hl:(bytes s).length=s.size:=by simp [bytes]
     show _=_;rw [<-Hk.out,List.drop_of_length_le (by omega)];rfl
    go_wp2;go_ret;exact ⟨by rw [Hr.out];rfl,rfl⟩
theorem text_mt (s:ByteArray):s.toList=[]↔s=.empty:=by
 rw [ByteArray.toList_eq];obtain ⟨⟨l⟩⟩:=s;constructor
 · intro h
   have h':l=[]:=h;subst h';rfl
 · intro h
   exact congrArg (λ b:ByteArray=> b.data.toList) h
theorem valid_calls (v:Vl) (w:World) (hs:v.text.size<=maxLen):Calls Tryz.prog 59 #[v.val] w λ e w'=> e=.returned (.bool (okV v))/\Below w.heap.size w w':=by
 have HP:=Lib.hid (λ w=> printable_calls v.text w hs);have HB:=Lib.hid ((Below.refl _ w).alloc (Nat.le_refl _) (.cells #[.int .i64 v.kind, .int .i64 v.int, .string v.text] 68));obtain ⟨c0,c1,c2⟩:(w.alloc (.cells #[.int .i64 v.kind, .int .i64 v.int, .string v.text] 68)).cell? ⟨w.heap.size,0,none⟩=some (.int .i64 v.kind)/\(w.alloc (.cells #[.int .i64 v.kind, .int .i64 v.int, .string v.text] 68)).cell? ⟨w.heap.size,1,none⟩=some (.int .i64 v.int)/\(w.alloc (.cells #[.int .i64 v.kind, .int .i64 v.int, .string v.text] 68)).cell? ⟨w.heap.size,2,none⟩=some (.string v.text):=
  ⟨World.cell?_alloc_new _ _ _ 0,World.cell?_alloc_new _ _ _ 1,World.cell?_alloc_new _ _ _ 2⟩
 unfold Vl.val;obtain ⟨q,hq⟩:∃q,okV v=q:=⟨_,rfl⟩
 have Hq:Hid ((if v.kind=0 then decide (v.int=0) && decide (v.text=.empty) else if v.kind=1 then decide (v.text=.empty) else if v.kind=2 then decide (v.int=0) && (prS v.text && decide (v.text.size<=16)) else false)=q):=by show _=_;rw [<-hq];rfl
 rw [hq];clear hq;have HT:Hid (v.text.toList=[]↔v.text=.empty):=text_mt _;go_enter Tryz.func59,Tryz.ntmps59;go_upto_region 1 with (fail)
 generalize hW:w.alloc _=W at *;clear hW;have hbl:=World.block_lt_of_cell? W _ c0;by_cases ht:v.text.toList=[] <;> by_cases h3:v.int=0 <;> by_cases h0:v.kind=0 <;> by_cases h1:v.kind=1 <;> by_cases h2:v.kind=2
 all_goals first
  | (exfalso;omega)
  | (go_wp2_with (first | (with_reducible refine (HP.out _).mono ?_;rintro e w1 ⟨rfl,rfl⟩))
     all_goals go_ret
     all_goals
      refine ⟨?_,HB.out⟩;rw [<-Hq.out]
      first
       | (simp [<-HT.out, *];done)
       | (simp [<-HT.out, *];omega))
theorem rvalid_calls (v:Vl) (w:World) (hs:v.text.size<=maxLen):Calls Tryz.prog 78 #[v.val] w λ e w'=> e=.returned (.bool (okV v))/\Below w.heap.size w w':=by
 have HP:=Lib.hid (λ w=> rprintable_calls v.text w hs);have HB:=Lib.hid ((Below.refl _ w).alloc (Nat.le_refl _) (.cells #[.int .i64 v.kind, .int .i64 v.int, .string v.text] 68));obtain ⟨c0,c1,c2⟩:(w.alloc (.cells #[.int .i64 v.kind, .int .i64 v.int, .string v.text] 68)).cell? ⟨w.heap.size,0,none⟩=some (.int .i64 v.kind)/\(w.alloc (.cells #[.int .i64 v.kind, .int .i64 v.int, .string v.text] 68)).cell? ⟨w.heap.size,1,none⟩=some (.int .i64 v.int)/\(w.alloc (.cells #[.int .i64 v.kind, .int .i64 v.int, .string v.text] 68)).cell? ⟨w.heap.size,2,none⟩=some (.string v.text):=
  ⟨World.cell?_alloc_new _ _ _ 0,World.cell?_alloc_new _ _ _ 1,World.cell?_alloc_new _ _ _ 2⟩
 unfold Vl.val;obtain ⟨q,hq⟩:∃q,okV v=q:=⟨_,rfl⟩
 have Hq:Hid ((if v.kind=0 then decide (v.int=0) && decide (v.text=.empty) else if v.kind=1 then decide (v.text=.empty) else if v.kind=2 then decide (v.int=0) && (prS v.text && decide (v.text.size<=16)) else false)=q):=by show _=_;rw [<-hq];rfl
 rw [hq];clear hq;have HT:Hid (v.text.toList=[]↔v.text=.empty):=text_mt _;go_enter Tryz.func78,Tryz.ntmps78;go_upto_region 1 with (fail)
 generalize hW:w.alloc _=W at *;clear hW;have hbl:=World.block_lt_of_cell? W _ c0;by_cases ht:v.text.toList=[] <;> by_cases h3:v.int=0 <;> by_cases h0:v.kind=0 <;> by_cases h1:v.kind=1 <;> by_cases h2:v.kind=2
 all_goals first
  | (exfalso;omega)
  | (go_wp2_with (first | (with_reducible refine (HP.out _).mono ?_;rintro e w1 ⟨rfl,rfl⟩))
     all_goals go_ret
     all_goals
      refine ⟨?_,HB.out⟩;rw [<-Hq.out]
      first
       | (simp [<-HT.out, *];done)
       | (simp [*];omega))
theorem cmpB_head {c d:UInt8} (h:c < d) (a b:List UInt8):Lib.compareBytes (c::a) (d::b)= -1:=by
 rw [Lib.compareBytes,if_pos h]
def beL:Nat->Nat->List UInt8
 | 0,_=> []
 | k+1,u=> UInt8.ofNat (u / 256 ^ k % 256)::beL k u
theorem beL_lt:∀(k u v:Nat) (x y:List UInt8),u % 256 ^ k < v % 256 ^ k->Lib.compareBytes (beL k u++x) (beL k v++y) < 0
 | 0,u,v,_,_,h=> by simp [Nat.mod_one] at h
 | k+1,u,v,x,y,h=> by
  rw [Nat.pow_succ,Nat.mod_mul,Nat.mod_mul] at h;have hp:0 < 256 ^ k:=Nat.pow_pos (by decide);have h1:=Nat.mod_lt u hp;have h2:=Nat.mod_lt v hp;have h3:u / 256 ^ k % 256 < 256:=Nat.mod_lt _ (by decide);have h4:v / 256 ^ k % 256 < 256:=Nat.mod_lt _ (by decide);rw [beL,beL,List.cons_append,List.cons_append];by_cases e:u / 256 ^ k % 256=v / 256 ^ k % 256
  · rw [e] at h ⊢
    have:=beL_lt k u v x y (by omega);rw [Lib.compareBytes];simp only [UInt8.lt_irrefl,if_false];exact this
  · have hlt:u / 256 ^ k % 256 < v / 256 ^ k % 256:=by
     apply Classical.byContradiction;intro hn;have h5:v / 256 ^ k % 256+1<=u / 256 ^ k % 256:=by omega
     have h6:=Nat.mul_le_mul_left (256 ^ k) h5;rw [Nat.mul_add,Nat.mul_one] at h6;omega
    rw [cmpB_head (by rw [UInt8.lt_iff_toNat_lt,UInt8.toNat_ofNat_of_lt' h3,UInt8.toNat_ofNat_of_lt' h4];exact hlt)];decide
theorem numL_be (n:Int):numL n=beL 8 (uN n):=by
 simp [numL,beL,List.range,List.range.loop,numB]
theorem uN_lt {n:Int} (h:I64 n):uN n < 256 ^ 8:=by
 obtain ⟨h1,h2⟩:=h;unfold uN;omega
theorem numL_lt {a b:Int} (ha:I64 a) (hb:I64 b) (h:a < b) (x y:List UInt8):Lib.compareBytes (numL a++x) (numL b++y) < 0:=by
 rw [numL_be,numL_be];refine beL_lt 8 _ _ x y ?_;rw [Nat.mod_eq_of_lt (uN_lt ha),Nat.mod_eq_of_lt (uN_lt hb)];obtain ⟨h1,h2⟩:=ha;obtain ⟨h3,h4⟩:=hb;unfold uN;omega
theorem numL_length (n:Int):(numL n).length=8:=by simp [numL]
theorem numL_inj {a b:Int} (ha:I64 a) (hb:I64 b) (h:numL a=numL b):a=b:=by
 rcases Int.lt_trichotomy a b with h1 | h1 | h1
 · have:=numL_lt ha hb h1 [] []
   rw [h,cmpB_zero.2 rfl] at this;omega
 · exact h1
 · have:=numL_lt hb ha h1 [] []
   rw [h,cmpB_zero.2 rfl] at this;omega
theorem tail_inj {x y:List UInt8} {a b:Int} (ha:I64 a) (hb:I64 b) (h:x++numL a=y++numL b):x=y/\a=b:=by
 have:=List.append_inj' h (by rw [numL_length,numL_length]);exact ⟨this.1,numL_inj ha hb this.2⟩
def escB (c:UInt8):List UInt8:=if c<=1 then [1,c+1] else [c]
def encL (x:Vl):List UInt8:=if x.kind=1 then 2::numL x.int else if x.kind=2 then 3::((bytes x.text).flatMap escB++[0]) else [1]
def encR (r:Rw):List UInt8:=r.flatMap encL
def nullV:Vl:=⟨0,0,⟨#[]⟩⟩
def colV (r:Rw) (c:Int):Vl:=if 0<=c then r.getD c.toNat nullV else nullV
def keyL (r:Rw) (cs:List Int):List UInt8:=cs.flatMap λ c=> encL (colV r c)
def textOf (l:List UInt8):ByteArray:=⟨l.toArray⟩
theorem bytes_textOf (l:List UInt8):bytes (textOf l)=l:=by simp [bytes,textOf]
theorem textOf_append (l m:List UInt8):textOf l++textOf m=textOf (l++m):=by
 apply bytes_inj;simp [bytes,textOf]
def ixKey (id:Int) (r:Rw) (cs:List Int):ByteArray:=textOf (keyL r cs++numL id)
theorem ixKey_inj {a b:Int} (ha:I64 a) (hb:I64 b) {r s:Rw} {cs:List Int} (h:ixKey a r cs=ixKey b s cs):a=b:=by
 have h1:=congrArg bytes h;rw [ixKey,ixKey,bytes_textOf,bytes_textOf] at h1;exact (tail_inj ha hb h1).2
theorem esc_ok {s:ByteArray} (h:prS s=true):(bytes s).flatMap escB=bytes s/\∀c∈bytes s,(0:UInt8) < c:=by
 unfold prS at h;generalize bytes s=l at *
 induction l with
 | nil=> exact ⟨rfl,by simp⟩
 | cons c l ih=>
  rw [List.all_cons,Bool.and_eq_true] at h;obtain ⟨h1,h2⟩:=ih h.2;have h3:¬ c < 32:=by intro e;have:=h.1;simp [prB,e] at this
  rw [UInt8.lt_iff_toNat_lt] at h3;have e32:(32:UInt8).toNat=32:=rfl;have h4:¬ c<=1:=by rw [UInt8.le_iff_toNat_le];have e1:(1:UInt8).toNat=1:=rfl;omega
  refine ⟨by rw [List.flatMap_cons,h1,escB,if_neg h4];rfl,λ d hd=> ?_⟩;rcases List.mem_cons.1 hd with rfl | hd
  · rw [UInt8.lt_iff_toNat_lt]
    have e0:(0:UInt8).toNat=0:=rfl;omega
  · exact h2 d hd
theorem okV_cases {v:Vl} (h:okV v=true):(v.kind=0/\v.int=0/\v.text=.empty)\/(v.kind=1/\v.text=.empty)\/(v.kind=2/\v.int=0/\prS v.text=true/\v.text.size<=16):=by
 unfold okV at h;by_cases h0:v.kind=0
 · rw [if_pos h0] at h
   simp at h;exact .inl ⟨h0,h⟩
 · by_cases h1:v.kind=1
   · rw [if_neg h0,if_pos h1] at h
     simp at h;exact .inr (.inl ⟨h1,h⟩)
   · by_cases h2:v.kind=2
     · rw [if_neg h0,if_neg h1,if_pos h2] at h
       simp at h;exact .inr (.inr ⟨h2,h⟩)
     · rw [if_neg h0,if_neg h1,if_neg h2] at h
       cases h
theorem encL_head (v:Vl):∃c l,encL v=c::l/\c≠255:=by
 unfold encL;split
 · exact ⟨_,_,rfl,by decide⟩
 · split
   · exact ⟨_,_,rfl,by decide⟩
   · exact ⟨_,_,rfl,by decide⟩
theorem kr {p:Prop} (h:p):p:=h
def opAt (ops:Array Oper) (i:Nat):Oper:=(ops[i]?).getD default
theorem opAt_eq {ops:Array Oper} {i:Nat} {o:Oper} (h:ops[i]? =some o):opAt ops i=o:=by unfold opAt;rw [h];rfl
def Rg.valD (G:Rg) (i:Nat) (g:Nat->Value):Value:=match G.valOf i with
 | some t=> t.at g
 | none=> undef
def calmB (ops:Array Oper) (i:Nat) (p:Pc):Bool:=!p.fl.elem i && match dstOf ops i with
 | none=> true
 | some d=> !p.ds0.elem d && p.uses.all λ u=> !u.2.elem d || (((closOf ops).getD u.1 []).elem i && !((closOf ops).getD i []).elem u.1)
def quietL (ops:Array Oper) (i k:Nat):Nat->List Pc->Bool
 | _,[]=> true
 | n,p::l=> (n==k || calmB ops i p) && quietL ops i k (n+1) l
def Rg.quiet (G:Rg) (i k:Nat):Bool:=quietL G.ops i k 0 G.pcs
def Rg.okV (G:Rg) (i:Nat):Bool:=match G.valOf i with
 | none=> false
 | some t=> match dstOf G.ops i with
  | none=> true
  | some d=> !t.sl.elem d
theorem ln_ne {C:List (List Nat)} {i j:Nat} {L:Nat->Bool} (h:j≠i):ln C i L j=lk C i L j:=by
 have e:(j==i)=false:=by simpa using h
 unfold ln lk;rw [e];simp
theorem uses_fl {p:Pc}:∀u∈p.uses,u.1∈p.fl:=by
 intro u hu;cases p with
 | gen fl sl A=> cases hu
 | all A=> cases hu
 | blk b t cs=>
  obtain ⟨c,hc,h⟩:=List.mem_flatMap.1 hu;obtain ⟨q,hq,rfl⟩:=List.mem_map.1 h;exact List.mem_flatMap.2 ⟨c,hc,List.mem_map.2 ⟨q,hq,rfl⟩⟩
 | sl t v xs st=>
  obtain ⟨q,hq,rfl⟩:=List.mem_map.1 hu;exact List.mem_map.2 ⟨q,hq,rfl⟩
 | new i ds mk=>
  obtain rfl:u=(i,ds):=by simpa [Pc.uses] using hu
  simp [Pc.fl]
theorem calm_at {ops:Array Oper} {i:Nat} {p:Pc} (h:calmB ops i p=true) (L:Nat->Bool) (g:Nat->Value) (v:Value):p.at (ln (closOf ops) i L) (sput g (dstOf ops i) v)=p.at (lk (closOf ops) i L) g:=by
 unfold calmB at h;simp only [Bool.and_eq_true,Bool.not_eq_true'] at h;have hfl:∀j∈p.fl,j≠i:=λ j hj e=> by subst e;rw [List.elem_iff.2 hj] at h;cases h.1
 have e1:p.at (ln (closOf ops) i L) (sput g (dstOf ops i) v)=p.at (lk (closOf ops) i L) (sput g (dstOf ops i) v):=Pc.at_eq (λ j hj=> ln_ne (hfl j hj)) λ _ _=> rfl;rw [e1];have h2:=h.2;cases hd:dstOf ops i with
 | none=> rfl
 | some d=>
  rw [hd] at h2;simp only [Bool.and_eq_true,Bool.not_eq_true',List.all_eq_true,Bool.or_eq_true] at h2;refine Pc.at_slots (λ k hk=> ?_) λ u hu hL k hk=> ?_
  · unfold sput
    rw [if_neg λ e=> ?_];injection e with e;subst e;rw [List.elem_iff.2 hk] at h2;cases h2.1
  · unfold sput
    rw [if_neg λ e=> ?_];injection e with e;subst e;have h3:=h2.2 u hu;rw [List.elem_iff.2 hk] at h3;have h4:=h3.resolve_left (by simp);have hne:u.1≠i:=hfl _ (uses_fl u hu);unfold rb lk at hL;rw [h4.1,h4.2] at hL;simp at hL
theorem quiet_map {ops:Array Oper} {i k:Nat} (L:Nat->Bool) (g:Nat->Value) (v:Value):∀(l:List Pc) (n:Nat),quietL ops i k n l=true->n<=k->
 l.map (λ p=> p.at (ln (closOf ops) i L) (sput g (dstOf ops i) v))=match l[k - n]? with
  | some p=> (l.map λ p=> p.at (lk (closOf ops) i L) g).set (k - n) (p.at (ln (closOf ops) i L) (sput g (dstOf ops i) v))
  | none=> l.map λ p=> p.at (lk (closOf ops) i L) g
 | [],n,_,_=> by simp
 | p::l,n,h,hk=> by
  unfold quietL at h;simp only [Bool.and_eq_true,Bool.or_eq_true,beq_iff_eq] at h
  have rest:n < k->(p::l).map (λ p=> p.at (ln (closOf ops) i L) (sput g (dstOf ops i) v))=match (p::l)[k - n]? with
   | some p'=> ((p::l).map λ p=> p.at (lk (closOf ops) i L) g).set (k - n) (p'.at (ln (closOf ops) i L) (sput g (dstOf ops i) v))
   | none=> (p::l).map λ p=> p.at (lk (closOf ops) i L) g:=by
   intro hlt;have ih:=quiet_map L g v l (n+1) h.2 (by omega);have hc:=h.1.resolve_left (by omega);obtain ⟨m,rfl⟩:∃m,k=n+1+m:=⟨k - (n+1),by omega⟩
   have e1:n+1+m - (n+1)=m:=by omega
   have e2:n+1+m - n=m+1:=by omega
   rw [e1] at ih;rw [e2,List.map_cons,ih,calm_at hc,List.getElem?_cons_succ];cases l[m]? with
   | none=> rfl
   | some q=> rfl
  rcases Nat.lt_or_ge n k with hlt | hge
  · exact rest hlt
  · obtain rfl:n=k:=by omega
    have h0:∀(l:List Pc) (j:Nat),n < j->quietL ops i n j l=true->l.map (λ p=> p.at (ln (closOf ops) i L) (sput g (dstOf ops i) v))=l.map λ p=> p.at (lk (closOf ops) i L) g:=by
     intro l
     induction l with
     | nil=> intro j _ _;rfl
     | cons q l ih=>
      intro j hj hq;unfold quietL at hq;simp only [Bool.and_eq_true,Bool.or_eq_true,beq_iff_eq] at hq;rw [List.map_cons,List.map_cons,ih (j+1) (by omega) hq.2,calm_at (hq.1.resolve_left (by omega))]
    rw [List.map_cons,h0 l (n+1) (by omega) h.2,Nat.sub_self];rfl
theorem Rg.still {G:Rg} {i:Nat} (hq:G.quiet i G.pcs.length=true) {L:Nat->Bool} {g:Nat->Value} {v:Value} {w:World} (hS:stP G (lk (closOf G.ops) i L) g w):stP G (ln (closOf G.ops) i L) (sput g (dstOf G.ops i) v) w:=by
 unfold stP;rw [quiet_map L g v G.pcs 0 hq (Nat.zero_le _),Nat.sub_zero,List.getElem?_eq_none_iff.2 (Nat.le_refl _)];exact hS
theorem Rg.has {G:Rg} {k:Nat} {p:Pc} (hk:G.pcs[k]? =some p) {L:Nat->Bool} {g:Nat->Value} {w:World} (hS:stP G L g w):∃f,(p.at L g).p w f:=by
 have hlt:k < G.pcs.length:=(List.getElem?_eq_some_iff.1 hk).1;exact St.has hS k (A:=p.at L g) (by rw [List.getElem?_append_left (by simpa using hlt),List.getElem?_map,hk];rfl)
theorem Rg.Ob.read (G:Rg) (i:Nat) (hq:(G.quiet i G.pcs.length && G.okV i)=true) (hw:∀a,wantE G.ops (opAt G.ops i) (G.env i a)=some true)
 (h:∀L a w,G.env i a=a.eval->stP G (lk (closOf G.ops) i L) (slots a) w->(execOp (G.env i a) (opAt G.ops i)).run G.P w=.ok (.value (G.valD i (slots a))) w):G.Ob i:=by
 simp only [Bool.and_eq_true] at hq;intro o ho L a w hsz he hS;have hd:o.dst=dstOf G.ops i:=by rw [dstOf,ho];rfl
 have hw':=hw a;have h':=h L a w he hS;rw [opAt_eq ho] at hw' h';rw [hw',h',hd];refine ⟨λ t ht=> ?_,G.still hq.1 hS⟩;have h2:=hq.2;unfold Rg.okV at h2;unfold Rg.valD;rw [ht] at h2 ⊢;dsimp only at h2 ⊢;refine Vf.at_eq λ d hd'=> ?_;unfold sput;cases hdo:dstOf G.ops i with
 | none=> rfl
 | some e=>
  rw [hdo] at h2;dsimp only at h2;rw [if_neg λ e'=> ?_];injection e' with e';subst e';rw [List.elem_iff.2 hd'] at h2;cases h2
theorem Rg.Ob.pure (G:Rg) (i:Nat) (h:∀a w,(execOp (G.env i a) (opAt G.ops i)).run G.P w=.ok (.value (G.valD i (slots a))) w:=by intro _ _;exact kr (by kernel_rfl)) (hq:(G.quiet i G.pcs.length && G.okV i)=true:=by exact kr (by kernel_rfl))
 (hw:∀a,wantE G.ops (opAt G.ops i) (G.env i a)=some true:=by intro _;exact kr (by kernel_rfl)):G.Ob i:=Rg.Ob.read G i hq hw λ _ a w _ _=> h a w
theorem run_load1 {P:Program} {w:World} {ty:TypeId} {b j:Nat} {v:Value} (ha:(isAgg ty).run P w=.ok false w) (hc:w.cell? ⟨b,j,none⟩=some v):(Instr.loadAt ty (.pointer (some ⟨b,j,none⟩))).run P w=.ok v w:=by
 simp [Instr.loadAt,Instr.sureAddr,loadVar,ha,hc]
theorem run_store1 {P:Program} {w:World} {ty:TypeId} {b j:Nat} {v old:Value} (hz:(sizeOf ty).run P w=.ok 1 w) (hv:v.oneCell'=true) (hc:w.cell? ⟨b,j,none⟩=some old) (hf:w.frozen? ⟨b,j,none⟩=false):
 (Instr.storeAt ty (.pointer (some ⟨b,j,none⟩)) v).run P w=.ok () (w.setCell ⟨b,j,none⟩ v):=by
 have hcs:v.cells=#[v]:=by cases v <;> first | rfl | (simp [Value.oneCell'] at hv;done)
 have hadd:(⟨b,j,none⟩:Addr).add 0=⟨b,j,none⟩:=by simp [Addr.add]
 simp [Instr.storeAt,Instr.sureAddr,storeVar,hz,hcs,storeCells,hadd,run_store P w _ v .plain hv,hc,hf]
theorem Rg.Ob.load (G:Rg) (i k j:Nat) {ty:TypeId} {x:Operand} {b:Nat} {t:TypeId} {cs:List Cl} (hop:(opAt G.ops i).op=.load ty x:=by rfl) (hk:G.pcs[k]? =some (.blk b t cs):=by rfl)
 (ha:∀w,(isAgg ty).run G.P w=.ok false w:=by intro _;exact kr (by kernel_rfl)) (hx:∀a,G.env i a x=.pointer (some ⟨b,j,none⟩):=by intro _;exact kr (by kernel_rfl))
 (hv:∀L g,(cs.map (Cl.val (rb (Pc.blk b t cs).fl (lk (closOf G.ops) i L)) (rv (Pc.blk b t cs).ds g)))[j]? =some (G.valD i g):=by intro _ _;exact kr (by kernel_rfl)) (hq:(G.quiet i G.pcs.length && G.okV i)=true:=by exact kr (by kernel_rfl))
 (hw:∀a,wantE G.ops (opAt G.ops i) (G.env i a)=some true:=by intro _;exact kr (by kernel_rfl)):G.Ob i:=Rg.Ob.read G i hq hw λ L a w _ hS=> by
 obtain ⟨f,hf⟩:=Rg.has hk hS;have hc:=((blk_get hf).1 j).trans (List.getElem?_toArray.trans (hv L (slots a)));simp only [execOp,hop,hx,Sem.run_bind,run_load1 (ha w) hc,Result.andThen_ok,Sem.run_pure]
theorem Rg.Ob.elem (G:Rg) (i k m:Nat) {y:Value} {b n c:Nat} {xs:List Value} (hy:xs[m]? =some y) {ty:TypeId} {x:Operand} {t:TypeId} {v:Value} {xs0:List Value} {st:List (Nat×Option Src×List Value)} (hop:(opAt G.ops i).op=.load ty x:=by rfl) (hk:G.pcs[k]? =some (.sl t v xs0 st):=by rfl)
 (hs:∀L g,slV (rb (Pc.sl t v xs0 st).fl (lk (closOf G.ops) i L)) (rv (Pc.sl t v xs0 st).ds g) v st=.slice (some ⟨b,0,none⟩) n c:=by exact λ _ _=> by rfl)
 (ha:∀w,(isAgg ty).run G.P w=.ok false w:=by intro _;exact kr (by kernel_rfl)) (hx:∀a,G.env i a x=.pointer (some ⟨b,m,none⟩):=by intro _;exact kr (by kernel_rfl))
 (hv:∀L,slX (rb (Pc.sl t v xs0 st).fl (lk (closOf G.ops) i L)) xs0 st=xs:=by intro _;exact kr (by kernel_rfl)) (hy':∀g,G.valD i g=y:=by intro _;exact kr (by kernel_rfl))
 (hq:(G.quiet i G.pcs.length && G.okV i)=true:=by exact kr (by kernel_rfl)) (hw:∀a,wantE G.ops (opAt G.ops i) (G.env i a)=some true:=by intro _;exact kr (by kernel_rfl)):G.Ob i:=Rg.Ob.read G i hq hw λ L a w _ hS=> by
 obtain ⟨f,hf⟩:=Rg.has hk hS;have hf':(slA t (slV (rb (Pc.sl t v xs0 st).fl (lk (closOf G.ops) i L)) (rv (Pc.sl t v xs0 st).ds (slots a)) v st) (slX (rb (Pc.sl t v xs0 st).fl (lk (closOf G.ops) i L)) xs0 st)).p w f:=hf;rw [hs,hv] at hf';obtain ⟨hm,h2⟩:=List.getElem?_eq_some_iff.1 hy;have hc:=(sl_elem hf' m hm).1;rw [h2] at hc;simp only [execOp,hop,hx,Sem.run_bind,run_load1 (ha w) hc,Result.andThen_ok,Sem.run_pure,hy']
theorem run_index1 {P:Program} {w:World} {t e:TypeId} {b o n c m s:Nat} (hu:P.underlying t=some (.slice e)) (hz:(sizeOf e).run P w=.ok s w) (hm:m < n):(Instr.indexAt t (.slice (some ⟨b,o,none⟩) n c) (.int .i64 m)).run P w=.ok (.pointer (some ⟨b,o+m * s,none⟩)) w:=by
 have h1:(0:Int)<=(m:Int)/\(m:Int) < (n:Int):=by omega
 simp [Instr.indexAt,asIntOf,run_underlying hu,hz,h1,hm,Addr.add]
theorem Rg.Ob.index (G:Rg) (i b n c m:Nat) (hm:m < n:=by omega) {t e:TypeId} {x y:Operand} (hop:(opAt G.ops i).op=.indexAddr t x y:=by rfl) (hu:G.P.underlying t=some (.slice e):=by rfl) (hz:∀w,(sizeOf e).run G.P w=.ok 1 w:=by intro _;exact kr (by kernel_rfl)) (hx:∀a,G.env i a x=.slice (some ⟨b,0,none⟩) n c:=by intro _;exact kr (by kernel_rfl)) (hy:∀a,G.env i a y=.int .i64 m:=by intro _;exact kr (by kernel_rfl)) (hv:∀g,G.valD i g=.pointer (some ⟨b,m,none⟩):=by intro _;exact kr (by kernel_rfl))
 (hq:(G.quiet i G.pcs.length && G.okV i)=true:=by exact kr (by kernel_rfl)) (hw:∀a,wantE G.ops (opAt G.ops i) (G.env i a)=some true:=by intro _;exact kr (by kernel_rfl)):G.Ob i:=Rg.Ob.read G i hq hw λ L a w _ _=> by
 have e1:0+m * 1=m:=by omega
 simp only [execOp,hop,hx,hy,Sem.run_bind,run_index1 hu (hz w) hm,Result.andThen_ok,Sem.run_pure,hv,e1]
theorem run_from {P:Program} {w:World} {t e:TypeId} {b o n c l:Nat} (hu:P.underlying t=some (.slice e)) (hz:(sizeOf e).run P w=.ok 1 w) (h1:l<=n) (h2:l < c):(Instr.sliceAt t (.slice (some ⟨b,o,none⟩) n c) (some (.int .i64 l)) none none).run P w=.ok (.slice (some ⟨b,o+l,none⟩) (n - l) (c - l)) w:=by
 have h3:¬ c=l:=by omega
 simp [Instr.sliceAt,Instr.slice,Instr.sliceBounds,run_underlying hu,hz,run_sliceBound,h1,h3,Addr.add]
theorem run_upto {P:Program} {w:World} {t e:TypeId} {b o n c l:Nat} (hu:P.underlying t=some (.slice e)) (hz:(sizeOf e).run P w=.ok 1 w) (h2:l<=c):(Instr.sliceAt t (.slice (some ⟨b,o,none⟩) n c) none (some (.int .i64 l)) none).run P w=.ok (.slice (some ⟨b,o,none⟩) l c) w:=by
 simp [Instr.sliceAt,Instr.slice,Instr.sliceBounds,run_underlying hu,hz,run_sliceBound,h2,Addr.add]
theorem Rg.Ob.from (G:Rg) (i b n c l:Nat) (h1:l<=n:=by omega) (h2:l < c:=by omega) {t e:TypeId} {x y:Operand} (hop:(opAt G.ops i).op=.slice t x (some y) none none:=by rfl) (hu:G.P.underlying t=some (.slice e):=by rfl) (hz:∀w,(sizeOf e).run G.P w=.ok 1 w:=by intro _;exact kr (by kernel_rfl)) (hx:∀a,G.env i a x=.slice (some ⟨b,0,none⟩) n c:=by intro _;exact kr (by kernel_rfl)) (hy:∀a,G.env i a y=.int .i64 l:=by intro _;exact kr (by kernel_rfl)) (hv:∀g,G.valD i g=.slice (some ⟨b,l,none⟩) (n - l) (c - l):=by intro _;exact kr (by kernel_rfl))
 (hq:(G.quiet i G.pcs.length && G.okV i)=true:=by exact kr (by kernel_rfl)) (hw:∀a,wantE G.ops (opAt G.ops i) (G.env i a)=some true:=by intro _;exact kr (by kernel_rfl)):G.Ob i:=Rg.Ob.read G i hq hw λ L a w _ _=> by
 simp only [execOp,hop,hx,hy,Option.map_some,Option.map_none,Sem.run_bind,run_from hu (hz w) h1 h2,Result.andThen_ok,Sem.run_pure,hv,Nat.zero_add]
theorem Rg.Ob.upto (G:Rg) (i b n c l:Nat) (h2:l<=c:=by omega) {t e:TypeId} {x y:Operand} (hop:(opAt G.ops i).op=.slice t x none (some y) none:=by rfl) (hu:G.P.underlying t=some (.slice e):=by rfl) (hz:∀w,(sizeOf e).run G.P w=.ok 1 w:=by intro _;exact kr (by kernel_rfl)) (hx:∀a,G.env i a x=.slice (some ⟨b,0,none⟩) n c:=by intro _;exact kr (by kernel_rfl)) (hy:∀a,G.env i a y=.int .i64 l:=by intro _;exact kr (by kernel_rfl)) (hv:∀g,G.valD i g=.slice (some ⟨b,0,none⟩) l c:=by intro _;exact kr (by kernel_rfl))
 (hq:(G.quiet i G.pcs.length && G.okV i)=true:=by exact kr (by kernel_rfl)) (hw:∀a,wantE G.ops (opAt G.ops i) (G.env i a)=some true:=by intro _;exact kr (by kernel_rfl)):G.Ob i:=Rg.Ob.read G i hq hw λ L a w _ _=> by
 simp only [execOp,hop,hx,hy,Option.map_some,Option.map_none,Sem.run_bind,run_upto hu (hz w) h2,Result.andThen_ok,Sem.run_pure,hv]
theorem Rg.Ob.add (G:Rg) (i:Nat) (p q z:Int) (hz:IntKind.i64.wrap (p+q)=z:=by rw [IntKind.wrap_i64];omega) {ty r:TypeId} {x y:Operand} (hop:(opAt G.ops i).op=.binOp .add ty x y r:=by rfl) (hx:∀a,G.env i a x=.int .i64 p:=by intro _;exact kr (by kernel_rfl)) (hy:∀a,G.env i a y=.int .i64 q:=by intro _;exact kr (by kernel_rfl)) (hv:∀g,G.valD i g=.int .i64 z:=by intro _;exact kr (by kernel_rfl))
 (hq:(G.quiet i G.pcs.length && G.okV i)=true:=by exact kr (by kernel_rfl)) (hw:∀a,wantE G.ops (opAt G.ops i) (G.env i a)=some true:=by intro _;exact kr (by kernel_rfl)):G.Ob i:=Rg.Ob.read G i hq hw λ L a w _ _=> by
 simp [execOp,hop,hx,hy,go_sem,hv,hz]
theorem Rg.Ob.sub (G:Rg) (i:Nat) (p q z:Int) (hz:IntKind.i64.wrap (p - q)=z:=by rw [IntKind.wrap_i64];omega) {ty r:TypeId} {x y:Operand} (hop:(opAt G.ops i).op=.binOp .sub ty x y r:=by rfl) (hx:∀a,G.env i a x=.int .i64 p:=by intro _;exact kr (by kernel_rfl)) (hy:∀a,G.env i a y=.int .i64 q:=by intro _;exact kr (by kernel_rfl)) (hv:∀g,G.valD i g=.int .i64 z:=by intro _;exact kr (by kernel_rfl))
 (hq:(G.quiet i G.pcs.length && G.okV i)=true:=by exact kr (by kernel_rfl)) (hw:∀a,wantE G.ops (opAt G.ops i) (G.env i a)=some true:=by intro _;exact kr (by kernel_rfl)):G.Ob i:=Rg.Ob.read G i hq hw λ L a w _ _=> by
 simp [execOp,hop,hx,hy,go_sem,hv,hz]
theorem Rg.Ob.geq (G:Rg) (i p q:Nat) {ty r:TypeId} {x y:Operand} (hop:(opAt G.ops i).op=.binOp .geq ty x y r:=by rfl) (hx:∀a,G.env i a x=.int .i64 p:=by intro _;exact kr (by kernel_rfl)) (hy:∀a,G.env i a y=.int .i64 q:=by intro _;exact kr (by kernel_rfl)) (hv:∀g,G.valD i g=.bool (decide (q<=p)):=by intro _;exact kr (by kernel_rfl))
 (hq:(G.quiet i G.pcs.length && G.okV i)=true:=by exact kr (by kernel_rfl)) (hw:∀a,wantE G.ops (opAt G.ops i) (G.env i a)=some true:=by intro _;exact kr (by kernel_rfl)):G.Ob i:=Rg.Ob.read G i hq hw λ L a w _ _=> by
 simp [execOp,hop,hx,hy,go_sem,hv]
theorem Rg.Ob.lss (G:Rg) (i p q:Nat) {ty r:TypeId} {x y:Operand} (hop:(opAt G.ops i).op=.binOp .lss ty x y r:=by rfl) (hx:∀a,G.env i a x=.int .i64 p:=by intro _;exact kr (by kernel_rfl)) (hy:∀a,G.env i a y=.int .i64 q:=by intro _;exact kr (by kernel_rfl)) (hv:∀g,G.valD i g=.bool (decide (p < q)):=by intro _;exact kr (by kernel_rfl))
 (hq:(G.quiet i G.pcs.length && G.okV i)=true:=by exact kr (by kernel_rfl)) (hw:∀a,wantE G.ops (opAt G.ops i) (G.env i a)=some true:=by intro _;exact kr (by kernel_rfl)):G.Ob i:=Rg.Ob.read G i hq hw λ L a w _ _=> by
 simp [execOp,hop,hx,hy,go_sem,hv]
theorem Rg.Ob.gtr (G:Rg) (i p q:Nat) {ty r:TypeId} {x y:Operand} (hop:(opAt G.ops i).op=.binOp .gtr ty x y r:=by rfl) (hx:∀a,G.env i a x=.int .i64 p:=by intro _;exact kr (by kernel_rfl)) (hy:∀a,G.env i a y=.int .i64 q:=by intro _;exact kr (by kernel_rfl)) (hv:∀g,G.valD i g=.bool (decide (q < p)):=by intro _;exact kr (by kernel_rfl))
 (hq:(G.quiet i G.pcs.length && G.okV i)=true:=by exact kr (by kernel_rfl)) (hw:∀a,wantE G.ops (opAt G.ops i) (G.env i a)=some true:=by intro _;exact kr (by kernel_rfl)):G.Ob i:=Rg.Ob.read G i hq hw λ L a w _ _=> by
 simp [execOp,hop,hx,hy,go_sem,hv]
theorem Rg.Ob.leq (G:Rg) (i p q:Nat) {ty r:TypeId} {x y:Operand} (hop:(opAt G.ops i).op=.binOp .leq ty x y r:=by rfl) (hx:∀a,G.env i a x=.int .i64 p:=by intro _;exact kr (by kernel_rfl)) (hy:∀a,G.env i a y=.int .i64 q:=by intro _;exact kr (by kernel_rfl)) (hv:∀g,G.valD i g=.bool (decide (p<=q)):=by intro _;exact kr (by kernel_rfl))
 (hq:(G.quiet i G.pcs.length && G.okV i)=true:=by exact kr (by kernel_rfl)) (hw:∀a,wantE G.ops (opAt G.ops i) (G.env i a)=some true:=by intro _;exact kr (by kernel_rfl)):G.Ob i:=Rg.Ob.read G i hq hw λ L a w _ _=> by
 simp [execOp,hop,hx,hy,go_sem,hv]
theorem Rg.Ob.eql (G:Rg) (i p q:Nat) {ty r:TypeId} {x y:Operand} (hop:(opAt G.ops i).op=.binOp .eql ty x y r:=by rfl) (hx:∀a,G.env i a x=.int .i64 p:=by intro _;exact kr (by kernel_rfl)) (hy:∀a,G.env i a y=.int .i64 q:=by intro _;exact kr (by kernel_rfl)) (hv:∀g,G.valD i g=.bool (decide (p=q)):=by intro _;exact kr (by kernel_rfl))
 (hq:(G.quiet i G.pcs.length && G.okV i)=true:=by exact kr (by kernel_rfl)) (hw:∀a,wantE G.ops (opAt G.ops i) (G.env i a)=some true:=by intro _;exact kr (by kernel_rfl)):G.Ob i:=Rg.Ob.read G i hq hw λ L a w _ _=> by
 have e:((p:Int)==(q:Int))=decide (p=q):=by rw [Bool.eq_iff_iff];simp;omega
 simp [execOp,hop,hx,hy,go_sem,hv,e]
theorem Rg.Ob.lssT (G:Rg) (i p q:Nat) (h:p < q) {ty r:TypeId} {x y:Operand} (hop:(opAt G.ops i).op=.binOp .lss ty x y r:=by rfl) (hx:∀a,G.env i a x=.int .i64 p:=by intro _;exact kr (by kernel_rfl)) (hy:∀a,G.env i a y=.int .i64 q:=by intro _;exact kr (by kernel_rfl)) (hv:∀g,G.valD i g=.bool true:=by intro _;exact kr (by kernel_rfl))
 (hq:(G.quiet i G.pcs.length && G.okV i)=true:=by exact kr (by kernel_rfl)) (hw:∀a,wantE G.ops (opAt G.ops i) (G.env i a)=some true:=by intro _;exact kr (by kernel_rfl)):G.Ob i:=Rg.Ob.read G i hq hw λ L a w _ _=> by
 have e:decide ((p:Int) < (q:Int))=true:=by simp;omega
 simp only [execOp,hop,hx,hy];simp [go_sem,hv] <;> omega
theorem Rg.Ob.lssF (G:Rg) (i p q:Nat) (h:¬ p < q) {ty r:TypeId} {x y:Operand} (hop:(opAt G.ops i).op=.binOp .lss ty x y r:=by rfl) (hx:∀a,G.env i a x=.int .i64 p:=by intro _;exact kr (by kernel_rfl)) (hy:∀a,G.env i a y=.int .i64 q:=by intro _;exact kr (by kernel_rfl)) (hv:∀g,G.valD i g=.bool false:=by intro _;exact kr (by kernel_rfl))
 (hq:(G.quiet i G.pcs.length && G.okV i)=true:=by exact kr (by kernel_rfl)) (hw:∀a,wantE G.ops (opAt G.ops i) (G.env i a)=some true:=by intro _;exact kr (by kernel_rfl)):G.Ob i:=Rg.Ob.read G i hq hw λ L a w _ _=> by
 have e:decide ((p:Int) < (q:Int))=false:=by simp;omega
 simp only [execOp,hop,hx,hy];simp [go_sem,hv] <;> omega
theorem Rg.Ob.quo2 (G:Rg) (i o mid:Nat) (hm:o / 2=mid) (ho:o < 9223372036854775808) {ty r:TypeId} {x:Operand} (hop:(opAt G.ops i).op=.binOp .quo ty x (.const (.int .i64 2)) r:=by rfl) (hx:∀a,G.env i a x=.int .i64 o:=by intro _;exact kr (by kernel_rfl)) (hv:∀g,G.valD i g=.int .i64 mid:=by intro _;exact kr (by kernel_rfl))
 (hq:(G.quiet i G.pcs.length && G.okV i)=true:=by exact kr (by kernel_rfl)) (hw:∀a,wantE G.ops (opAt G.ops i) (G.env i a)=some true:=by intro _;exact kr (by kernel_rfl)):G.Ob i:=Rg.Ob.read G i hq hw λ L a w _ _=> by
 have h1:(o:Int).tdiv 2=mid:=by rw [Int.tdiv_eq_ediv_of_nonneg (by omega)];omega
 have h2:IntKind.i64.wrap (mid:Int)=mid:=by rw [IntKind.wrap_i64];omega
 have hy:G.env i a (.const (.int .i64 2))=.int .i64 2:=rfl;simp [execOp,hop,hx,hy,go_sem,hv,h1,h2]
theorem Rg.Ob.eff (G:Rg) (i k:Nat) {p:Pc} (hk:G.pcs[k]? =some p) (h:∀L a w fp,G.env i a=a.eval->stP G (lk (closOf G.ops) i L) (slots a) w->(p.at (lk (closOf G.ops) i L) (slots a)).p w fp->
 uponT G.P (λ v w'=> (∀t,G.valOf i=some t->v=t.at (sput (slots a) (dstOf G.ops i) v))/\∃f,(p.at (ln (closOf G.ops) i L) (sput (slots a) (dstOf G.ops i) v)).p w' f/\Tr w w' fp f) ((execOp (G.env i a) (opAt G.ops i)).run G.P w))
 (hq:G.quiet i k=true:=by exact kr (by kernel_rfl)) (hw:∀a,wantE G.ops (opAt G.ops i) (G.env i a)=some true:=by intro _;exact kr (by kernel_rfl)):G.Ob i:=by
 intro o ho L a w hsz he hS;have hd:o.dst=dstOf G.ops i:=by rw [dstOf,ho];rfl
 have hlt:k < G.pcs.length:=(List.getElem?_eq_some_iff.1 hk).1;have hw':=hw a;obtain ⟨fp,h1,h2⟩:=St.get hS k (A:=p.at (lk (closOf G.ops) i L) (slots a)) (by rw [List.getElem?_append_left (by simpa using hlt),List.getElem?_map,hk];rfl);have h3:=h L a w fp he hS h1;rw [opAt_eq ho] at hw' h3;rw [hw',hd];have key:∀v w',((∀t,G.valOf i=some t->v=t.at (sput (slots a) (dstOf G.ops i) v))/\∃f,(p.at (ln (closOf G.ops) i L) (sput (slots a) (dstOf G.ops i) v)).p w' f/\Tr w w' fp f)->(∀t,G.valOf i=some t->v=t.at (sput (slots a) (dstOf G.ops i) v))/\stP G (ln (closOf G.ops) i L) (sput (slots a) (dstOf G.ops i) v) w':=by
  rintro v w' ⟨hv,f,h4,h5⟩;refine ⟨hv,?_⟩;have h6:=h2 _ _ _ h4 h5;unfold stP;rw [quiet_map L (slots a) v G.pcs 0 hq (Nat.zero_le _),Nat.sub_zero,hk];dsimp only
  rwa [List.set_append_left _ _ (by simpa using hlt)] at h6
 generalize (execOp (G.env i a) o).run G.P w=r at h3;cases r with
 | ok n w'=>
  cases n with
  | value v=> exact key v w' h3
  | skip=> exact key undef w' h3
  | enter f args=>
   refine Calls.mono h3 λ e w2 he=> ?_;obtain ⟨v,e1,h5⟩:=he;exact ⟨v,e1,key v w2 h5⟩
  | _=> exact h3.elim
 | _=> exact h3.elim
theorem sput_none {g:Nat->Value} {v:Value}:sput g none v=g:=rfl
def Rg.shp (G:Rg) (i:Nat) (g:Nat->Value) (v:Value):Value:=match G.valOf i with
 | none=> v
 | some t=> t.at (sput g (dstOf G.ops i) v)
theorem Rg.shp_of {G:Rg} {i:Nat} {g:Nat->Value} {v:Value} (h:G.shp i g v=v):∀t,G.valOf i=some t->v=t.at (sput g (dstOf G.ops i) v):=by
 intro t ht;unfold Rg.shp at h;rw [ht] at h;exact h.symm
theorem Rg.Ob.store (G:Rg) (i k j:Nat) {ty:TypeId} {x y:Operand} {b:Nat} {t:TypeId} {cs:List Cl} (hop:(opAt G.ops i).op=.store ty x y:=by rfl) (hk:G.pcs[k]? =some (.blk b t cs):=by rfl)
 (hnew:∀L a,cs.map (Cl.val (rb (Pc.blk b t cs).fl (ln (closOf G.ops) i L)) (rv (Pc.blk b t cs).ds (slots a)))=(cs.map (Cl.val (rb (Pc.blk b t cs).fl (lk (closOf G.ops) i L)) (rv (Pc.blk b t cs).ds (slots a)))).set j (a.eval y):=by intro _ _;exact kr (by kernel_rfl))
 (hz:∀w,(sizeOf ty).run G.P w=.ok 1 w:=by intro _;exact kr (by kernel_rfl)) (hx:∀a,G.env i a x=.pointer (some ⟨b,j,none⟩):=by intro _;exact kr (by kernel_rfl)) (h1:∀a,(G.env i a y).oneCell'=true:=by intro _;exact kr (by kernel_rfl)) (hold:decide (j < cs.length)=true:=by exact kr (by kernel_rfl))
 (hd:dstOf G.ops i=none:=by exact kr (by kernel_rfl)) (hvo:(G.valOf i).isNone=true:=by exact kr (by kernel_rfl)) (hq:G.quiet i k=true:=by exact kr (by kernel_rfl)) (hw:∀a,wantE G.ops (opAt G.ops i) (G.env i a)=some true:=by intro _;exact kr (by kernel_rfl)):G.Ob i:=Rg.Ob.eff G i k hk (λ L a w fp he _ hp=> by
 have hvo':G.valOf i=none:=by simpa using hvo
 obtain ⟨hcell,hfz,_⟩:=blk_get hp;have hj:j < (cs.map (Cl.val (rb (Pc.blk b t cs).fl (lk (closOf G.ops) i L)) (rv (Pc.blk b t cs).ds (slots a)))).toArray.size:=by simpa using hold
 have hc:=(hcell j).trans (Array.getElem?_eq_getElem hj);have hr:=run_store1 (P:=G.P) (hz w) (h1 a) hc (hfz j);simp only [execOp,hop,hx,Sem.run_bind,hr,Result.andThen_ok,Sem.run_pure,uponT,hd,hvo'];refine ⟨λ t h=> (nomatch h),[b],?_⟩;obtain ⟨h3,h4⟩:=blk_set hp j (G.env i a y);refine ⟨?_,h4⟩;have e:(Pc.blk b t cs).at (ln (closOf G.ops) i L) (sput (slots a) none undef)=blkA b t ((cs.map (Cl.val (rb (Pc.blk b t cs).fl (lk (closOf G.ops) i L)) (rv (Pc.blk b t cs).ds (slots a)))).toArray.setIfInBounds j (G.env i a y)):=by rw [List.setIfInBounds_toArray,he,<-hnew L a];rfl
 rw [e];exact h3) hq hw
theorem Rg.Ob.storeV (G:Rg) (i k j:Nat) {ty:TypeId} {x y:Operand} {b:Nat} {t:TypeId} {cs:List Cl} (hop:(opAt G.ops i).op=.store ty x y:=by rfl) (hk:G.pcs[k]? =some (.blk b t cs):=by rfl)
 (hnew:∀L a,cs.map (Cl.val (rb (Pc.blk b t cs).fl (ln (closOf G.ops) i L)) (rv (Pc.blk b t cs).ds (slots a)))=(cs.map (Cl.val (rb (Pc.blk b t cs).fl (lk (closOf G.ops) i L)) (rv (Pc.blk b t cs).ds (slots a)))).set j (G.env i a y):=by intro _ _;exact kr (by kernel_rfl))
 (hz:∀w,(sizeOf ty).run G.P w=.ok 1 w:=by intro _;exact kr (by kernel_rfl)) (hx:∀a,G.env i a x=.pointer (some ⟨b,j,none⟩):=by intro _;exact kr (by kernel_rfl)) (h1:∀a,(G.env i a y).oneCell'=true:=by intro _;exact kr (by kernel_rfl)) (hold:decide (j < cs.length)=true:=by exact kr (by kernel_rfl))
 (hd:dstOf G.ops i=none:=by exact kr (by kernel_rfl)) (hvo:(G.valOf i).isNone=true:=by exact kr (by kernel_rfl)) (hq:G.quiet i k=true:=by exact kr (by kernel_rfl)) (hw:∀a,wantE G.ops (opAt G.ops i) (G.env i a)=some true:=by intro _;exact kr (by kernel_rfl)):G.Ob i:=Rg.Ob.eff G i k hk (λ L a w fp _ _ hp=> by
 have hvo':G.valOf i=none:=by simpa using hvo
 obtain ⟨hcell,hfz,_⟩:=blk_get hp;have hj:j < (cs.map (Cl.val (rb (Pc.blk b t cs).fl (lk (closOf G.ops) i L)) (rv (Pc.blk b t cs).ds (slots a)))).toArray.size:=by simpa using hold
 have hc:=(hcell j).trans (Array.getElem?_eq_getElem hj);have hr:=run_store1 (P:=G.P) (hz w) (h1 a) hc (hfz j);simp only [execOp,hop,hx,Sem.run_bind,hr,Result.andThen_ok,Sem.run_pure,uponT,hd,hvo'];refine ⟨λ t h=> (nomatch h),[b],?_⟩;obtain ⟨h3,h4⟩:=blk_set hp j (G.env i a y);refine ⟨?_,h4⟩;have e:(Pc.blk b t cs).at (ln (closOf G.ops) i L) (sput (slots a) none undef)=blkA b t ((cs.map (Cl.val (rb (Pc.blk b t cs).fl (lk (closOf G.ops) i L)) (rv (Pc.blk b t cs).ds (slots a)))).toArray.setIfInBounds j (G.env i a y)):=by rw [List.setIfInBounds_toArray,<-hnew L a];rfl
 rw [e];exact h3) hq hw
theorem Rg.Ob.storeEl (G:Rg) (i k m:Nat) (xs:List Value) {b n cc:Nat} (hm:m < xs.length) (u:Value) (h1:u.oneCell'=true) {ty:TypeId} {x y:Operand} {t:TypeId} {v:Value} {xs0:List Value} {st:List (Nat×Option Src×List Value)} (hop:(opAt G.ops i).op=.store ty x y:=by rfl) (hk:G.pcs[k]? =some (.sl t v xs0 st):=by rfl)
 (hs:∀L g,slV (rb (Pc.sl t v xs0 st).fl (lk (closOf G.ops) i L)) (rv (Pc.sl t v xs0 st).ds g) v st=.slice (some ⟨b,0,none⟩) n cc:=by exact λ _ _=> by rfl) (hs':∀L g,slV (rb (Pc.sl t v xs0 st).fl (ln (closOf G.ops) i L)) (rv (Pc.sl t v xs0 st).ds g) v st=.slice (some ⟨b,0,none⟩) n cc:=by intro _ _;exact kr (by kernel_rfl))
 (hz:∀w,(sizeOf ty).run G.P w=.ok 1 w:=by intro _;exact kr (by kernel_rfl)) (hx:∀a,G.env i a x=.pointer (some ⟨b,m,none⟩):=by intro _;exact kr (by kernel_rfl)) (hy:∀a,G.env i a y=u:=by intro _;exact kr (by kernel_rfl))
 (hold:∀L,slX (rb (Pc.sl t v xs0 st).fl (lk (closOf G.ops) i L)) xs0 st=xs:=by intro _;exact kr (by kernel_rfl)) (hnew:∀L,slX (rb (Pc.sl t v xs0 st).fl (ln (closOf G.ops) i L)) xs0 st=xs.set m u:=by intro _;exact kr (by kernel_rfl))
 (hd:dstOf G.ops i=none:=by exact kr (by kernel_rfl)) (hvo:(G.valOf i).isNone=true:=by exact kr (by kernel_rfl)) (hq:G.quiet i k=true:=by exact kr (by kernel_rfl)) (hw:∀a,wantE G.ops (opAt G.ops i) (G.env i a)=some true:=by intro _;exact kr (by kernel_rfl)):G.Ob i:=Rg.Ob.eff G i k hk (λ L a w fp he hS hp=> by
 have hvo':G.valOf i=none:=by simpa using hvo
 have hp':(slA t (slV (rb (Pc.sl t v xs0 st).fl (lk (closOf G.ops) i L)) (rv (Pc.sl t v xs0 st).ds (slots a)) v st) (slX (rb (Pc.sl t v xs0 st).fl (lk (closOf G.ops) i L)) xs0 st)).p w fp:=hp;rw [hs,hold] at hp';obtain ⟨hc,hfz,_⟩:=sl_elem hp' m hm;have hr:=run_store1 (P:=G.P) (hz w) h1 hc hfz;simp only [execOp,hop,hx,hy,Sem.run_bind,hr,Result.andThen_ok,Sem.run_pure,uponT,hd,hvo'];refine ⟨λ t h=> (nomatch h),[b],?_⟩;obtain ⟨h3,h4⟩:=sl_set hp' m u;refine ⟨?_,h4⟩;have e:(Pc.sl t v xs0 st).at (ln (closOf G.ops) i L) (sput (slots a) none undef)=slA t (.slice (some ⟨b,0,none⟩) n cc) (xs.set m u):=by rw [<-hnew L,<-hs' L (slots a)];rfl
 rw [e];exact h3) hq hw
def sa:Value->Option Addr
 | .slice a _ _=> a
 | _=> none
def sn:Value->Nat
 | .slice _ n _=> n
 | _=> 0
def sc:Value->Nat
 | .slice _ _ c=> c
 | _=> 0
def pb:Value->Nat
 | .pointer (some a)=> a.block
 | .slice (some a) _ _=> a.block
 | _=> 0
def Vf.slice (i d:Nat):Vf:=⟨i,d,[d],λ g=> .slice (sa (g d)) (sn (g d)) (sc (g d))⟩
def Vf.box (i d:Nat):Vf:=⟨i,d,[d],λ g=> .slice (some ⟨pb (g d),0,none⟩) 1 1⟩
def Vf.ptr (i d:Nat):Vf:=⟨i,d,[d],λ g=> .pointer (some ⟨pb (g d),0,none⟩)⟩
def Vf.is (i d:Nat) (v:Value):Vf:=⟨i,d,[],λ _=> v⟩
theorem new_before {ops:Array Oper} {i:Nat} {ds:List Nat} {mk:(Nat->Value)->Asn} {L:Nat->Bool} {g:Nat->Value} (hs:((closOf ops).getD i []).elem i=false):(Pc.new i ds mk).at (lk (closOf ops) i L) g=emp:=by
 have e:rb [i] (lk (closOf ops) i L) i=false:=by unfold rb lk;rw [hs];simp
 show (match rb [i] (lk (closOf ops) i L) i with | true=> mk (rv ds g) | false=> emp)=emp;rw [e]
theorem new_after {ops:Array Oper} {i:Nat} {ds:List Nat} {mk:(Nat->Value)->Asn} {L:Nat->Bool} {g:Nat->Value}:(Pc.new i ds mk).at (ln (closOf ops) i L) g=mk (rv ds g):=by
 have e:rb [i] (ln (closOf ops) i L) i=true:=by unfold rb ln;simp
 show (match rb [i] (ln (closOf ops) i L) i with | true=> mk (rv ds g) | false=> emp)=mk (rv ds g);rw [e]
theorem new_there {ops:Array Oper} {i j:Nat} {ds:List Nat} {mk:(Nat->Value)->Asn} {L:Nat->Bool} {g:Nat->Value} (hs:((closOf ops).getD j []).elem i=true):(Pc.new i ds mk).at (lk (closOf ops) j L) g=mk (rv ds g):=by
 have e:rb [i] (lk (closOf ops) j L) i=true:=by unfold rb lk;rw [hs];simp
 show (match rb [i] (lk (closOf ops) j L) i with | true=> mk (rv ds g) | false=> emp)=mk (rv ds g);rw [e]
theorem run_box1 {P:Program} {w:World} {t e:TypeId} {x z:Value} (hu:P.underlying t=some (.slice e)) (hz:(sizeOf e).run P w=.ok 1 w) (hv:(zeroValue e).run P w=.ok z w) (hz1:z.oneCell'=true) (hx:x.oneCell'=true):
 (Instr.buildSlice t 1 #[(0,x)]).run P w=.ok (.slice (some ⟨w.heap.size,0,none⟩) 1 1) (w.alloc (.cells #[x] e)):=by
 have hx':x.cells=#[x]:=by cases x <;> first | rfl | (simp [Value.oneCell'] at hx;done)
 have hz':z.cells=#[z]:=by cases z <;> first | rfl | (simp [Value.oneCell'] at hz1;done)
 simp [Instr.buildSlice,run_underlying hu,hz,hv,hz',Instr.fill,hx',newRow];have e1:Array.range 1=#[0]:=by decide
 rw [e1];simp
theorem Rg.Ob.box (G:Rg) (i k:Nat) {d:Nat} {t ts:TypeId} {x z:Value} {y:Operand} (hx:x.oneCell'=true) (hk:G.pcs[k]? =some (.new i [d] λ g=> boxA t (g d) x):=by rfl)
 (hop:(opAt G.ops i).op=.buildSlice ts 1 #[(0,y)]:=by rfl) (hu:G.P.underlying ts=some (.slice t):=by rfl) (hz:∀w,(sizeOf t).run G.P w=.ok 1 w:=by intro _;exact kr (by kernel_rfl)) (hv:∀w,(zeroValue t).run G.P w=.ok z w:=by intro _;rfl) (hz1:z.oneCell'=true:=by exact kr (by kernel_rfl)) (hy:∀a,G.env i a y=x:=by intro _;exact kr (by kernel_rfl))
 (hd:dstOf G.ops i=some d:=by exact kr (by kernel_rfl)) (hself:((closOf G.ops).getD i []).elem i=false:=by exact kr (by kernel_rfl)) (hsh:∀g n,G.shp i g (.slice (some ⟨n,0,none⟩) 1 1)=.slice (some ⟨n,0,none⟩) 1 1:=by intro _ _;exact kr (by kernel_rfl))
 (hq:G.quiet i k=true:=by exact kr (by kernel_rfl)) (hw:∀a,wantE G.ops (opAt G.ops i) (G.env i a)=some true:=by intro _;exact kr (by kernel_rfl)):G.Ob i:=Rg.Ob.eff G i k hk (λ L a w fp _ _ hp=> by
 rw [new_before hself] at hp;obtain rfl:fp=[]:=hp;have hr:(execOp (G.env i a) (opAt G.ops i)).run G.P w=.ok (.value (.slice (some ⟨w.heap.size,0,none⟩) 1 1)) (w.alloc (.cells #[x] t)):=by simp only [execOp,hop,List.map_toArray,List.map,hy,Sem.run_bind,run_box1 hu (hz w) (hv w) hz1 hx,Result.andThen_ok,Sem.run_pure]
 rw [hr];refine ⟨G.shp_of (hsh _ _),?_⟩;rw [new_after,hd];obtain ⟨h1,h2⟩:=box_new w t x;refine ⟨_,?_,h2⟩;have e:rv [d] (sput (slots a) (some d) (.slice (some ⟨w.heap.size,0,none⟩) 1 1)) d=.slice (some ⟨w.heap.size,0,none⟩) 1 1:=by unfold rv sput;simp
 rw [e];exact h1) hq hw
theorem Rg.Ob.lay (G:Rg) (i k:Nat) {d:Nat} {ds:List Nat} {t:TypeId} {cs:(Nat->Value)->Array Value} (hk:G.pcs[k]? =some (.new i (d::ds) λ g=> atA t (g d) (cs g)):=by rfl)
 (hr:∀a w,(execOp (G.env i a) (opAt G.ops i)).run G.P w=.ok (.value (.pointer (some ⟨w.heap.size,0,none⟩))) (w.alloc (.cells (cs (rv (d::ds) (slots a))) t)):=by intro _ _;exact kr (by kernel_rfl))
 (hcs:∀g v,cs (rv (d::ds) (sput g (some d) v))=cs (rv (d::ds) g):=by intro _ _;exact kr (by kernel_rfl))
 (hd:dstOf G.ops i=some d:=by exact kr (by kernel_rfl)) (hself:((closOf G.ops).getD i []).elem i=false:=by exact kr (by kernel_rfl)) (hsh:∀g n,G.shp i g (.pointer (some ⟨n,0,none⟩))=.pointer (some ⟨n,0,none⟩):=by intro _ _;exact kr (by kernel_rfl))
 (hq:G.quiet i k=true:=by exact kr (by kernel_rfl)) (hw:∀a,wantE G.ops (opAt G.ops i) (G.env i a)=some true:=by intro _;exact kr (by kernel_rfl)):G.Ob i:=Rg.Ob.eff G i k hk (λ L a w fp _ _ hp=> by
 rw [new_before hself] at hp;obtain rfl:fp=[]:=hp;rw [hr a w];refine ⟨G.shp_of (hsh _ _),?_⟩;rw [new_after,hd];have hb:=(Below.refl w.heap.size w).alloc (Nat.le_refl _) (.cells (cs (rv (d::ds) (slots a))) t (0,0));refine ⟨[w.heap.size],?_,Tr.of_new hb (by simp)⟩;rw [hcs];have e:rv (d::ds) (sput (slots a) (some d) (.pointer (some ⟨w.heap.size,0,none⟩))) d=.pointer (some ⟨w.heap.size,0,none⟩):=by unfold rv sput;simp
 rw [e];exact ⟨_,rfl,heap_alloc_new w _,rfl⟩) hq hw
theorem Rg.Ob.skip (G:Rg) (i:Nat) (hw:∀a,wantE G.ops (opAt G.ops i) (G.env i a)=some false:=by intro _;exact kr (by kernel_rfl)) (hv:∀g,G.shp i g undef=undef:=by intro _;exact kr (by kernel_rfl)) (hq:G.quiet i G.pcs.length=true:=by exact kr (by kernel_rfl)):G.Ob i:=by
 intro o ho L a w hsz he hS;have hd:o.dst=dstOf G.ops i:=by rw [dstOf,ho];rfl
 have hw':=hw a;rw [opAt_eq ho] at hw';rw [hw',hd];exact ⟨G.shp_of (hv _),G.still hq hS⟩
theorem Rg.Ob.loadBy (G:Rg) (i k:Nat) {b j:Nat} {A:Asn} (hl:∀w f,A.p w f->∃v,w.cell? ⟨b,j,none⟩=some v/\∀g,G.shp i g v=v) {p:Pc} (hk:G.pcs[k]? =some p:=by rfl) (hA:∀L g,p.at (lk (closOf G.ops) i L) g=A:=by intro _ _;rfl) {ty:TypeId} {x:Operand} (hop:(opAt G.ops i).op=.load ty x:=by rfl)
 (ha:∀w,(isAgg ty).run G.P w=.ok false w:=by intro _;exact kr (by kernel_rfl)) (hx:∀a,G.env i a x=.pointer (some ⟨b,j,none⟩):=by intro _;exact kr (by kernel_rfl)) (hq:G.quiet i G.pcs.length=true:=by exact kr (by kernel_rfl)) (hw:∀a,wantE G.ops (opAt G.ops i) (G.env i a)=some true:=by intro _;exact kr (by kernel_rfl)):G.Ob i:=by
 intro o ho L a w hsz he hS;have hd:o.dst=dstOf G.ops i:=by rw [dstOf,ho];rfl
 obtain ⟨f,hf⟩:=Rg.has hk hS;rw [hA] at hf;obtain ⟨v,hc,hv⟩:=hl w f hf;have hr:(execOp (G.env i a) (opAt G.ops i)).run G.P w=.ok (.value v) w:=by simp only [execOp,hop,hx,Sem.run_bind,run_load1 (ha w) hc,Result.andThen_ok,Sem.run_pure]
 have hw':=hw a;rw [opAt_eq ho] at hw' hr;rw [hw',hr,hd];exact ⟨G.shp_of (hv _),G.still hq hS⟩
theorem Rg.Ob.ask (G:Rg) (i:Nat) {f:Nat} {args:Act->Array Value} (hr:∀a w,(execOp (G.env i a) (opAt G.ops i)).run G.P w=.ok (.enter f (args a)) w)
 (hc:∀L a w,G.env i a=a.eval->stP G (lk (closOf G.ops) i L) (slots a) w->Calls G.P f (args a) w λ e w'=> e=.returned (G.valD i (slots a))/\Below w.heap.size w w')
 (hq:(G.quiet i G.pcs.length && G.okV i)=true:=by exact kr (by kernel_rfl)) (hw:∀a,wantE G.ops (opAt G.ops i) (G.env i a)=some true:=by intro _;exact kr (by kernel_rfl)):G.Ob i:=by
 simp only [Bool.and_eq_true] at hq;intro o ho L a w hsz he hS;have hd:o.dst=dstOf G.ops i:=by rw [dstOf,ho];rfl
 have hw':=hw a;have h':=hr a w;rw [opAt_eq ho] at hw' h';rw [hw',h',hd];refine Calls.mono (hc L a w he hS) λ e w' h=> ?_;obtain ⟨rfl,hb⟩:=h;refine ⟨_,rfl,λ t ht=> ?_,G.still hq.1 (St.mono hS hb)⟩;have h2:=hq.2;unfold Rg.okV at h2;unfold Rg.valD;rw [ht] at h2 ⊢;dsimp only at h2 ⊢;refine Vf.at_eq λ d hd'=> ?_;unfold sput;cases hdo:dstOf G.ops i with
 | none=> rfl
 | some e=>
  rw [hdo] at h2;dsimp only at h2;rw [if_neg λ e'=> ?_];injection e' with e';subst e';rw [List.elem_iff.2 hd'] at h2;cases h2
theorem Rg.Ob.ask1 (G:Rg) (i k:Nat) {f:Nat} {args:Array Value} {v:Value} {A:Asn} (hc:∀w fp,A.p w fp->Calls G.P f args w λ e w'=> e=.returned v/\Below w.heap.size w w') {p:Pc} (hk:G.pcs[k]? =some p:=by rfl) (hA:∀L g,p.at (lk (closOf G.ops) i L) g=A:=by intro _ _;rfl)
 (hr:∀a w,(execOp (G.env i a) (opAt G.ops i)).run G.P w=.ok (.enter f args) w:=by intro _ _;exact kr (by kernel_rfl)) (hv:∀g,G.valD i g=v:=by intro _;exact kr (by kernel_rfl))
 (hq:(G.quiet i G.pcs.length && G.okV i)=true:=by exact kr (by kernel_rfl)) (hw:∀a,wantE G.ops (opAt G.ops i) (G.env i a)=some true:=by intro _;exact kr (by kernel_rfl)):G.Ob i:=
 Rg.Ob.ask G i hr (λ L a w _ hS=> by obtain ⟨f,hf⟩:=Rg.has hk hS;rw [hA] at hf;rw [hv];exact hc w f hf) hq hw
theorem Rg.Ob.ask2 (G:Rg) (i k k':Nat) {f:Nat} {args:Array Value} {v:Value} {A A':Asn} (hc:∀w fp fp',A.p w fp->A'.p w fp'->Calls G.P f args w λ e w'=> e=.returned v/\Below w.heap.size w w') {p p':Pc} (hk:G.pcs[k]? =some p:=by rfl) (hA:∀L g,p.at (lk (closOf G.ops) i L) g=A:=by intro _ _;rfl) (hk':G.pcs[k']? =some p':=by rfl) (hA':∀L g,p'.at (lk (closOf G.ops) i L) g=A':=by intro _ _;rfl)
 (hr:∀a w,(execOp (G.env i a) (opAt G.ops i)).run G.P w=.ok (.enter f args) w:=by intro _ _;exact kr (by kernel_rfl)) (hv:∀g,G.valD i g=v:=by intro _;exact kr (by kernel_rfl))
 (hq:(G.quiet i G.pcs.length && G.okV i)=true:=by exact kr (by kernel_rfl)) (hw:∀a,wantE G.ops (opAt G.ops i) (G.env i a)=some true:=by intro _;exact kr (by kernel_rfl)):G.Ob i:=
 Rg.Ob.ask G i hr (λ L a w _ hS=> by obtain ⟨f,hf⟩:=Rg.has hk hS;obtain ⟨f',hf'⟩:=Rg.has hk' hS;rw [hA] at hf;rw [hA'] at hf';rw [hv];exact hc w f f' hf hf') hq hw
theorem Rg.Ob.callF (G:Rg) (i:Nat) (PL PN:List Asn) {f:Nat} {args:Array Value} {v:Value} (hc:∀w,St G.w0 G.fp0 (PL++G.R) w->Calls G.P f args w λ e w'=> e=.returned v/\St G.w0 G.fp0 (PN++G.R) w')
 (hr:∀a w,(execOp (G.env i a) (opAt G.ops i)).run G.P w=.ok (.enter f args) w:=by intro _ _;exact kr (by kernel_rfl)) (hL:∀L g,(G.pcs.map λ p=> p.at (lk (closOf G.ops) i L) g)=PL:=by intro _ _;exact kr (by kernel_rfl)) (hN:∀L g,(G.pcs.map λ p=> p.at (ln (closOf G.ops) i L) (sput g (dstOf G.ops i) v))=PN:=by intro _ _;exact kr (by kernel_rfl))
 (hv:∀g,G.shp i g v=v:=by intro _;exact kr (by kernel_rfl)) (hw:∀a,wantE G.ops (opAt G.ops i) (G.env i a)=some true:=by intro _;exact kr (by kernel_rfl)):G.Ob i:=by
 intro o ho L a w hsz he hS;have hd:o.dst=dstOf G.ops i:=by rw [dstOf,ho];rfl
 have hw':=hw a;have h':=hr a w;rw [opAt_eq ho] at hw' h';rw [hw',h',hd];unfold stP at hS;rw [hL] at hS;refine Calls.mono (hc w hS) λ e w' h=> ?_;obtain ⟨rfl,h2⟩:=h;refine ⟨_,rfl,G.shp_of (hv _),?_⟩;unfold stP;rw [hN];exact h2
theorem Rg.Ob.call (G:Rg) (i k:Nat) {p:Pc} {f:Nat} {args:Act->Array Value} (hr:∀a w,(execOp (G.env i a) (opAt G.ops i)).run G.P w=.ok (.enter f (args a)) w)
 (hc:∀L a w fp,G.env i a=a.eval->stP G (lk (closOf G.ops) i L) (slots a) w->(p.at (lk (closOf G.ops) i L) (slots a)).p w fp->Calls G.P f (args a) w λ e w'=> ∃v,e=.returned v/\G.shp i (slots a) v=v/\∃f',(p.at (ln (closOf G.ops) i L) (sput (slots a) (dstOf G.ops i) v)).p w' f'/\Tr w w' fp f')
 (hk:G.pcs[k]? =some p:=by rfl) (hq:G.quiet i k=true:=by exact kr (by kernel_rfl)) (hw:∀a,wantE G.ops (opAt G.ops i) (G.env i a)=some true:=by intro _;exact kr (by kernel_rfl)):G.Ob i:=Rg.Ob.eff G i k hk (λ L a w fp he hS hp=> by
 rw [hr a w];refine Calls.mono (hc L a w fp he hS hp) λ e w' h=> ?_;obtain ⟨v,rfl,h1,h2⟩:=h;exact ⟨v,rfl,G.shp_of h1,h2⟩) hq hw
theorem Rg.Ob.eff2 (G:Rg) (i kb k:Nat) {pb p:Pc} (hlt:kb < k) (hkb:G.pcs[kb]? =some pb) (hk:G.pcs[k]? =some p) (h:∀L a w g fp,G.env i a=a.eval->stP G (lk (closOf G.ops) i L) (slots a) w->(pb.at (lk (closOf G.ops) i L) (slots a)).p w g->(p.at (lk (closOf G.ops) i L) (slots a)).p w fp->(∀b∈g,b ∉ fp)->
 uponT G.P (λ v w'=> (∀t,G.valOf i=some t->v=t.at (sput (slots a) (dstOf G.ops i) v))/\∃f,(p.at (ln (closOf G.ops) i L) (sput (slots a) (dstOf G.ops i) v)).p w' f/\Tr w w' fp f) ((execOp (G.env i a) (opAt G.ops i)).run G.P w))
 (hq:G.quiet i k=true:=by exact kr (by kernel_rfl)) (hw:∀a,wantE G.ops (opAt G.ops i) (G.env i a)=some true:=by intro _;exact kr (by kernel_rfl)):G.Ob i:=by
 intro o ho L a w hsz he hS;have hd:o.dst=dstOf G.ops i:=by rw [dstOf,ho];rfl
 have hltk:k < G.pcs.length:=(List.getElem?_eq_some_iff.1 hk).1;have hw':=hw a;obtain ⟨g,fp,h0,h1,hdis,_,h2⟩:=St.two hS kb k hlt (A:=pb.at (lk (closOf G.ops) i L) (slots a)) (B:=p.at (lk (closOf G.ops) i L) (slots a)) (by
  rw [List.getElem?_append_left (by simp;omega),List.getElem?_map,hkb];rfl) (by
  rw [List.getElem?_append_left (by simpa using hltk),List.getElem?_map,hk];rfl)
 have h3:=h L a w g fp he hS h0 h1 hdis;rw [opAt_eq ho] at hw' h3;rw [hw',hd];have key:∀v w',((∀t,G.valOf i=some t->v=t.at (sput (slots a) (dstOf G.ops i) v))/\∃f,(p.at (ln (closOf G.ops) i L) (sput (slots a) (dstOf G.ops i) v)).p w' f/\Tr w w' fp f)->(∀t,G.valOf i=some t->v=t.at (sput (slots a) (dstOf G.ops i) v))/\stP G (ln (closOf G.ops) i L) (sput (slots a) (dstOf G.ops i) v) w':=by
  rintro v w' ⟨hv,f,h4,h5⟩;refine ⟨hv,?_⟩;have h6:=h2 _ _ _ h4 h5;unfold stP;rw [quiet_map L (slots a) v G.pcs 0 hq (Nat.zero_le _),Nat.sub_zero,hk];dsimp only
  rwa [List.set_append_left _ _ (by simpa using hltk)] at h6
 generalize (execOp (G.env i a) o).run G.P w=r at h3;cases r with
 | ok n w'=>
  cases n with
  | value v=> exact key v w' h3
  | skip=> exact key undef w' h3
  | enter f args=>
   refine Calls.mono h3 λ e w2 he=> ?_;obtain ⟨v,e1,h5⟩:=he;exact ⟨v,e1,key v w2 h5⟩
  | _=> exact h3.elim
 | _=> exact h3.elim
def InsSpec (P:Program) (t:TypeId) (f:Nat):Prop:=∀(v:Value) (xs:List Value) (i vb:Nat) (x:Value) (w:World) (fp:List Nat),(slA t v xs).p w fp->i<=xs.length->xs.length < 1099511627776->(∀u∈xs,u.oneCell'=true)->x.oneCell'=true->
 w.heap[vb]? =some (.cells #[x] t (0,0))->vb ∉ fp->Calls P f #[v, .int .i64 i, .slice (some ⟨vb,0,none⟩) 1 1] w λ e w'=> ∃a n c f',e=.returned (.slice a n c)/\(slA t (.slice a n c) (xs.take i++x::xs.drop i)).p w' f'/\Tr w w' fp f'
def DelSpec (P:Program) (t:TypeId) (f:Nat):Prop:=∀(v:Value) (xs:List Value) (i:Nat) (w:World) (fp:List Nat),(slA t v xs).p w fp->i < xs.length->xs.length < 1099511627776->(∀u∈xs,u.oneCell'=true)->
 Calls P f #[v, .int .i64 i, .int .i64 ((i:Int)+1)] w λ e w'=> ∃a n c f',e=.returned (.slice a n c)/\(slA t (.slice a n c) (xs.eraseIdx i)).p w' f'/\Tr w w' fp f'
def SrcAt (w:World) (xs:List Value) (v:Value):Prop:=
 (v=.slice none 0 0/\xs=[])\/∃ad c,v=.slice (some ad) xs.length c/\∀j u,xs[j]? =some u->w.cell? (ad.add j)=some u
def CloneSpec (P:Program) (t:TypeId) (f:Nat):Prop:=∀(xs:List Value) (v:Value) (w:World),SrcAt w xs v->(∀u∈xs,u.oneCell'=true)->xs.length < 1099511627776->
 Calls P f #[v] w λ e w'=> ∃a n c f',e=.returned (.slice a n c)/\(slA t (.slice a n c) xs).p w' f'/\Below w.heap.size w w'/\∀k∈f',w.heap.size<=k
theorem src_drop {w:World} {t:TypeId} {g n c:Nat} {xs:List Value} {f:List Nat} (h:(slA t (.slice (some ⟨g,0,none⟩) n c) xs).p w f) (k m cc:Nat) (hm:m=xs.length - k):SrcAt w (xs.drop k) (.slice (some ⟨g,k,none⟩) m cc):=by
 subst hm;refine .inr ⟨_,cc,by rw [List.length_drop],λ j u hj=> ?_⟩;rw [List.getElem?_drop] at hj;obtain ⟨h1,h2⟩:=List.getElem?_eq_some_iff.1 hj;rw [Addr.add_lit,<-h2];exact (sl_elem h (k+j) h1).1
theorem src_take {w:World} {t:TypeId} {g n c:Nat} {xs:List Value} {f:List Nat} (h:(slA t (.slice (some ⟨g,0,none⟩) n c) xs).p w f) (k cc:Nat) (hk:k<=xs.length):SrcAt w (xs.take k) (.slice (some ⟨g,0,none⟩) k cc):=by
 refine .inr ⟨_,cc,by rw [List.length_take,Nat.min_eq_left hk],λ j u hj=> ?_⟩;rw [List.getElem?_take] at hj;split at hj
 · obtain ⟨h1,h2⟩:=List.getElem?_eq_some_iff.1 hj
   rw [Addr.add_lit,<-h2,Nat.zero_add];exact (sl_elem h j h1).1
 · cases hj
theorem Rg.Ob.ins (G:Rg) (i kb k m f:Nat) (xs:List Value) {x:Value} {t:TypeId} (hC:InsSpec G.P t f) (hm:m<=xs.length) (hl:xs.length < 1099511627776) (h1:∀u∈xs,u.oneCell'=true) (hx:x.oneCell'=true)
 {ib db:Nat} {v:Value} {xs0:List Value} {st:List (Nat×Option Src×List Value)} {s b:Operand} (hkb:G.pcs[kb]? =some (.new ib [db] λ g=> boxA t (g db) x):=by rfl) (hk:G.pcs[k]? =some (.sl t v xs0 st):=by rfl)
 (_hop:∃n ts,(opAt G.ops i).op=.call ⟨.value (.func f),#[s,n,b],ts⟩:=by exact ⟨_,_,rfl⟩)
 (hr:∀a w,(execOp (G.env i a) (opAt G.ops i)).run G.P w=.ok (.enter f #[G.env i a s, .int .i64 m,G.env i a b]) w:=by intro _ _;exact kr (by kernel_rfl))
 (hb:∀a,a.eval b=slots a db:=by exact λ _=> rfl)
 (hs:∀L a,G.env i a=a.eval->G.env i a s=slV (rb (Pc.sl t v xs0 st).fl (lk (closOf G.ops) i L)) (rv (Pc.sl t v xs0 st).ds (slots a)) v st:=by intro _ _ _;exact kr (by kernel_rfl))
 (hx0:∀L,slX (rb (Pc.sl t v xs0 st).fl (lk (closOf G.ops) i L)) xs0 st=xs:=by intro _;exact kr (by kernel_rfl)) (hx1:∀L,slX (rb (Pc.sl t v xs0 st).fl (ln (closOf G.ops) i L)) xs0 st=xs.take m++x::xs.drop m:=by intro _;exact kr (by kernel_rfl))
 (hs1:∀L g u,slV (rb (Pc.sl t v xs0 st).fl (ln (closOf G.ops) i L)) (rv (Pc.sl t v xs0 st).ds (sput g (dstOf G.ops i) u)) v st=u:=by intro _ _ _;exact kr (by kernel_rfl))
 (hin:((closOf G.ops).getD i []).elem ib=true:=by exact kr (by kernel_rfl)) (hsh:∀g a n c,G.shp i g (.slice a n c)=.slice a n c:=by intro _ _ _ _;exact kr (by kernel_rfl))
 (hlt:kb < k:=by decide) (hq:G.quiet i k=true:=by exact kr (by kernel_rfl)) (hw:∀a,wantE G.ops (opAt G.ops i) (G.env i a)=some true:=by intro _;exact kr (by kernel_rfl)):G.Ob i:=Rg.Ob.eff2 G i kb k hlt hkb hk (λ L a w g fp he _ hg hp hdis=> by
 rw [new_there hin] at hg;have e1:rv [db] (slots a) db=slots a db:=by unfold rv;simp
 rw [e1] at hg;obtain ⟨vb,e2,h2,rfl⟩:=hg;have hp':(slA t (slV (rb (Pc.sl t v xs0 st).fl (lk (closOf G.ops) i L)) (rv (Pc.sl t v xs0 st).ds (slots a)) v st) (slX (rb (Pc.sl t v xs0 st).fl (lk (closOf G.ops) i L)) xs0 st)).p w fp:=hp;rw [hx0,<-hs L a he] at hp';rw [hr a w,show G.env i a b=.slice (some ⟨vb,0,none⟩) 1 1 from (congrFun he b).trans ((hb a).trans e2)];refine Calls.mono (hC _ xs m vb x w fp hp' hm hl h1 hx h2 (hdis vb (by simp))) λ e w' h=> ?_;obtain ⟨aa,n,c,f',rfl,h3,h4⟩:=h;refine ⟨_,rfl,G.shp_of (hsh _ _ _ _),f',?_,h4⟩;have e:(Pc.sl t v xs0 st).at (ln (closOf G.ops) i L) (sput (slots a) (dstOf G.ops i) (.slice aa n c))=slA t (.slice aa n c) (xs.take m++x::xs.drop m):=by show slA t (slV _ _ v st) (slX _ xs0 st)=_;rw [hs1,hx1]
 rw [e];exact h3) hq hw
theorem Rg.Ob.del (G:Rg) (i k m f:Nat) (xs:List Value) {t:TypeId} (hC:DelSpec G.P t f) (hm:m < xs.length) (hl:xs.length < 1099511627776) (h1:∀u∈xs,u.oneCell'=true)
 {v:Value} {xs0:List Value} {st:List (Nat×Option Src×List Value)} {s:Operand} (hk:G.pcs[k]? =some (.sl t v xs0 st):=by rfl)
 (_hop:∃n n' ts,(opAt G.ops i).op=.call ⟨.value (.func f),#[s,n,n'],ts⟩:=by exact ⟨_,_,_,rfl⟩)
 (hr:∀a w,(execOp (G.env i a) (opAt G.ops i)).run G.P w=.ok (.enter f #[G.env i a s, .int .i64 m, .int .i64 ((m:Int)+1)]) w:=by intro _ _;exact kr (by kernel_rfl))
 (hs:∀L a,G.env i a=a.eval->G.env i a s=slV (rb (Pc.sl t v xs0 st).fl (lk (closOf G.ops) i L)) (rv (Pc.sl t v xs0 st).ds (slots a)) v st:=by intro _ _ _;exact kr (by kernel_rfl))
 (hx0:∀L,slX (rb (Pc.sl t v xs0 st).fl (lk (closOf G.ops) i L)) xs0 st=xs:=by intro _;exact kr (by kernel_rfl)) (hx1:∀L,slX (rb (Pc.sl t v xs0 st).fl (ln (closOf G.ops) i L)) xs0 st=xs.eraseIdx m:=by intro _;exact kr (by kernel_rfl))
 (hs1:∀L g u,slV (rb (Pc.sl t v xs0 st).fl (ln (closOf G.ops) i L)) (rv (Pc.sl t v xs0 st).ds (sput g (dstOf G.ops i) u)) v st=u:=by intro _ _ _;exact kr (by kernel_rfl))
 (hsh:∀g a n c,G.shp i g (.slice a n c)=.slice a n c:=by intro _ _ _ _;exact kr (by kernel_rfl))
 (hq:G.quiet i k=true:=by exact kr (by kernel_rfl)) (hw:∀a,wantE G.ops (opAt G.ops i) (G.env i a)=some true:=by intro _;exact kr (by kernel_rfl)):G.Ob i:=Rg.Ob.eff G i k hk (λ L a w fp he _ hp=> by
 have hp':(slA t (slV (rb (Pc.sl t v xs0 st).fl (lk (closOf G.ops) i L)) (rv (Pc.sl t v xs0 st).ds (slots a)) v st) (slX (rb (Pc.sl t v xs0 st).fl (lk (closOf G.ops) i L)) xs0 st)).p w fp:=hp;rw [hx0,<-hs L a he] at hp';rw [hr a w];refine Calls.mono (hC _ xs m w fp hp' hm hl h1) λ e w' h=> ?_;obtain ⟨aa,n,c,f',rfl,h3,h4⟩:=h;refine ⟨_,rfl,G.shp_of (hsh _ _ _ _),f',?_,h4⟩;have e:(Pc.sl t v xs0 st).at (ln (closOf G.ops) i L) (sput (slots a) (dstOf G.ops i) (.slice aa n c))=slA t (.slice aa n c) (xs.eraseIdx m):=by show slA t (slV _ _ v st) (slX _ xs0 st)=_;rw [hs1,hx1]
 rw [e];exact h3) hq hw
theorem Rg.Ob.clone (G:Rg) (i ks k f:Nat) (xs:List Value) {t:TypeId} (hC:CloneSpec G.P t f) (hl:xs.length < 1099511627776) (h1:∀u∈xs,u.oneCell'=true) {s:Value} {t':TypeId} {v:Value} {xs0 xs1:List Value} {st:List (Nat×Option Src×List Value)} {u:Value}
 (hsrc:∀w fp,(slA t' u xs1).p w fp->SrcAt w xs s) {d:Nat} (hks:G.pcs[ks]? =some (.sl t' v xs0 st):=by rfl) (hu:∀L g,slV (rb (Pc.sl t' v xs0 st).fl (lk (closOf G.ops) i L)) (rv (Pc.sl t' v xs0 st).ds g) v st=u:=by intro _ _;rfl) (hx0:∀L,slX (rb (Pc.sl t' v xs0 st).fl (lk (closOf G.ops) i L)) xs0 st=xs1:=by intro _;rfl) (hk:G.pcs[k]? =some (.new i [d] λ g=> slA t (g d) xs):=by rfl)
 (hr:∀a w,(execOp (G.env i a) (opAt G.ops i)).run G.P w=.ok (.enter f #[s]) w:=by intro _ _;exact kr (by kernel_rfl))
 (hd:dstOf G.ops i=some d:=by exact kr (by kernel_rfl)) (hself:((closOf G.ops).getD i []).elem i=false:=by exact kr (by kernel_rfl)) (hsh:∀g a n c,G.shp i g (.slice a n c)=.slice a n c:=by intro _ _ _ _;exact kr (by kernel_rfl))
 (hq:G.quiet i k=true:=by exact kr (by kernel_rfl)) (hw:∀a,wantE G.ops (opAt G.ops i) (G.env i a)=some true:=by intro _;exact kr (by kernel_rfl)):G.Ob i:=Rg.Ob.eff G i k hk (λ L a w fp _ hS hp=> by
 rw [new_before hself] at hp;obtain rfl:fp=[]:=hp;obtain ⟨f0,hf⟩:=Rg.has hks hS;have hf':(slA t' (slV (rb (Pc.sl t' v xs0 st).fl (lk (closOf G.ops) i L)) (rv (Pc.sl t' v xs0 st).ds (slots a)) v st) (slX (rb (Pc.sl t' v xs0 st).fl (lk (closOf G.ops) i L)) xs0 st)).p w f0:=hf;rw [hu,hx0] at hf';rw [hr a w];refine Calls.mono (hC xs s w (hsrc w f0 hf') h1 hl) λ e w' h=> ?_;obtain ⟨aa,n,c,f',rfl,h3,h4,h5⟩:=h;refine ⟨_,rfl,G.shp_of (hsh _ _ _ _),f',?_,Tr.of_new h4 h5⟩;rw [new_after,hd];have e:rv [d] (sput (slots a) (some d) (.slice aa n c)) d=.slice aa n c:=by unfold rv sput;simp
 rw [e];exact h3) hq hw
def permB (is:List Nat) (n:Nat):Bool:=is.all (λ i=> decide (i < n)) && (List.range n).all λ i=> is.count i==1
theorem count_range (a:Nat):∀n,(List.range n).count a=if a < n then 1 else 0
 | 0=> rfl
 | n+1=> by
  rw [List.range_succ,List.count_append,count_range a n,List.count_singleton];by_cases h:a < n
  · have:¬ n=a:=by omega
    simp [h,this];omega
  · by_cases h2:n=a
    · subst h2;simp
    · have:¬ a < n+1:=by omega
      simp [h,h2,this]
theorem perm_range {is:List Nat} {n:Nat} (h:permB is n=true):is.Perm (List.range n):=by
 unfold permB at h;simp only [Bool.and_eq_true,beq_iff_eq,List.all_eq_true,decide_eq_true_iff] at h;obtain ⟨h1,h2⟩:=h;refine List.perm_iff_count.2 λ a=> ?_;rw [count_range];by_cases ha:a < n
 · rw [if_pos ha];exact h2 a (List.mem_range.2 ha)
 · rw [if_neg ha]
   exact List.count_eq_zero.2 λ hm=> ha (h1 a hm)
theorem map_getD (L:List Asn):(List.range L.length).map (λ i=> L.getD i emp)=L:=by
 apply List.ext_getElem
 · simp
 · intro i h1 h2
   simp [List.getD,h2]
theorem St_re {w0 w:World} {fp0:List Nat} {L R:List Asn} (h:St w0 fp0 (L++R) w) (is js:List Nat) (hp:permB (is++js) L.length=true):St w0 fp0 (is.map (λ i=> L.getD i emp)++(js.map (λ i=> L.getD i emp)++R)) w:=by
 refine h.perm ?_;rw [<-List.append_assoc,<-List.map_append];refine List.Perm.append_right _ ?_;have h1:=(perm_range hp).map λ i=> L.getD i emp;rw [map_getD] at h1;exact h1.symm
end
end Go.Proofs.YtpdlkdoogojboaaGreat
