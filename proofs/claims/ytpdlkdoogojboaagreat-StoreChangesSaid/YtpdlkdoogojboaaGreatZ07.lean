/- Part 7 of the proof: Rg2, Rh2, Ri2, M0, M1, Mo, Ja, Jb, Jd, Jc -/
import Derived.Test.YtpdlkdoogojboaaGreatZ06
import Derived.Test.YtpdlkdoogojboaaGreatZ01
import Derived.Test.YtpdlkdoogojboaaGreatZ05
import Derived.Lib.Bytealg
import Derived.Lib.IndexLaws
/- The reference's store: Storable, Put, Insert. -/
namespace Go.Proofs.YtpdlkdoogojboaaGreat
open Go Go.RowKit
/- The reference's store: Put. -/
/- The reference's store: Insert; Same. -/
/- Changes of a table's rows, plain: what a change answers, what it makes of the rows, and that its inverse takes it back. -/
/-- The answer to a change. -/
def chkT (cols:Nat) (L:LL) (id:Int) (old new:Rw):Int:=
 if ¬ (1≤id∧id≤4611686018427387904)∨(old=[]∧new=[])∨(new≠[]∧storB cols new=false) then 1
 else if old=[] then (if (getL L id).isSome then 5 else 0) else if getL L id=some old then 0 else 4
/-- The rows behind it. -/
def appT (cols:Nat) (id:Int) (new:Rw) (L:LL):LL:=if new=[] then delL id L else putLL cols id new L
def appN (cols:Nat) (id:Int) (new:Rw) (next:Int):Int:=if new=[] then next else putN cols id new next
theorem chkT_ok {cols:Nat} {L:LL} {id:Int} {old new:Rw} (h:chkT cols L id old new=0):(1≤id∧id≤4611686018427387904)∧¬ (old=[]∧new=[])∧(new≠[]→storB cols new=true)∧((old=[]∧getL L id=none)∨(old≠[]∧getL L id=some old)):=by
 unfold chkT at h
 split at h
 · cases h
 rename_i h1
 refine ⟨Classical.byContradiction fun x=> h1 (.inl x),fun e=> h1 (.inr (.inl e)),fun e=> by
  cases q:storB cols new with
  | true=> rfl
  | false=> exact absurd (.inr (.inr ⟨e,q⟩)) h1,?_⟩
 split at h
 · rename_i e
   split at h
   · cases h
   · rename_i g
     exact .inl ⟨e,by simpa using g⟩
 · rename_i e
   split at h
   · rename_i g
     exact .inr ⟨e,g⟩
   · cases h
/- Layer 40: the schema, the changes, the stores in memory. -/
/-- A table's definition as it is read. -/
structure Td where
 nm:ByteArray
 ca:Option Addr
 n:Nat
 cc:Nat
 kv:Value
 fv:Value
 xa:Option Addr
 xn:Nat
 xc:Nat
 cvs:List Value
 kvs:List Value
 fvs:List Value
 K:List (List Int)
 F:List (List Int)
def Td.c (t:Td):List Value:=[.string t.nm, .slice t.ca t.n t.cc,t.kv,t.fv, .slice t.xa t.xn t.xc]
structure Td.X (w:World) (t:Td):Prop where
 cols:SlX [] w 6 t.n t.cvs (.slice t.ca t.n t.cc)
 one:∀u∈t.cvs,u.oneCell'=true
 keys:KeysX w t.kvs t.K t.kv
 fors:ForsX w t.fvs t.F t.fv
/-- What is small about it. -/
structure Td.Sm (t:Td):Prop where
 n:t.n≤1000
 k:t.K.length≤1000
 f:t.F.length≤1000
 kl:∀c∈t.K,c.length≤1000
 fl:∀c∈t.F,c.length≤1000
structure SchX (w:World) (l:List Td) (v:Value):Prop where
 sl:SlX [] w 5 l.length (l.flatMap Td.c) v
 td:∀t∈l,t.X w
theorem tdc_len (t:Td):t.c.length=5:=rfl
theorem SchX.cells {w:World} {l:List Td} {v:Value} (h:SchX w l v) (i:Nat) (hi:i < l.length):∃b o c,v=.slice (some ⟨b,o,none⟩) l.length c∧b < w.heap.size∧w.cell? ⟨b,o+i * 5,none⟩=some (.string l[i].nm)∧w.cell? ⟨b,o+i * 5+1,none⟩=some (.slice l[i].ca l[i].n l[i].cc)∧w.cell? ⟨b,o+i * 5+2,none⟩=some l[i].kv∧w.cell? ⟨b,o+i * 5+3,none⟩=some l[i].fv∧w.cell? ⟨b,o+i * 5+4,none⟩=some (.slice l[i].xa l[i].xn l[i].xc):=by
 obtain ⟨b,o,c,e, -,hb,hc⟩:=rec_cells (by decide) tdc_len h.sl i hi
 exact ⟨b,o,c,e,hb,hc 0 _ rfl,hc 1 _ rfl,hc 2 _ rfl,hc 3 _ rfl,hc 4 _ rfl⟩
/-- A change as it is read. -/
structure Chg where
 tb:Int
 id:Int
 oa:Option Addr
 oc:Nat
 na:Option Addr
 nc:Nat
 old:Rw
 new:Rw
def Chg.ov (c:Chg):Value:=.slice c.oa c.old.length c.oc
def Chg.nv (c:Chg):Value:=.slice c.na c.new.length c.nc
def Chg.c (c:Chg):List Value:=[.int .i64 c.tb, .int .i64 c.id,c.ov,c.nv]
def Chg.v (c:Chg):Value:=.agg #[.int .i64 c.tb, .int .i64 c.id,c.ov,c.nv]
structure Chg.X (w:World) (c:Chg):Prop where
 old:ValsAt w c.old c.ov
 new:ValsAt w c.new c.nv
theorem Chg.X.mono {w w':World} {c:Chg} (h:c.X w) (hb:Below w.heap.size w w'):c.X w':=⟨h.old.mono hb,h.new.mono hb⟩
/-- Its numbers fit. -/
structure Chg.Ok (c:Chg):Prop where
 tb:I64 c.tb
 id:I64 c.id
 old:∀v∈c.old,I64 v.int
 new:∀v∈c.new,I64 v.int
structure ChsX (w:World) (l:List Chg) (v:Value):Prop where
 sl:SlX [] w 4 l.length (l.flatMap Chg.c) v
 ch:∀c∈l,c.X w
theorem ChsX.mono {w w':World} {l:List Chg} {v:Value} (h:ChsX w l v) (hb:Below w.heap.size w w'):ChsX w' l v:=⟨h.sl.mono hb,fun t ht=> (h.ch t ht).mono hb⟩
theorem chc_len (t:Chg):t.c.length=4:=rfl
theorem ChsX.cells {w:World} {l:List Chg} {v:Value} (h:ChsX w l v) (i:Nat) (hi:i < l.length):∃b o c,v=.slice (some ⟨b,o,none⟩) l.length c∧b < w.heap.size∧w.cell? ⟨b,o+i * 4,none⟩=some (.int .i64 l[i].tb)∧w.cell? ⟨b,o+i * 4+1,none⟩=some (.int .i64 l[i].id)∧w.cell? ⟨b,o+i * 4+2,none⟩=some l[i].ov∧w.cell? ⟨b,o+i * 4+3,none⟩=some l[i].nv:=by
 obtain ⟨b,o,c,e, -,hb,hc⟩:=rec_cells (by decide) chc_len h.sl i hi
 exact ⟨b,o,c,e,hb,hc 0 _ rfl,hc 1 _ rfl,hc 2 _ rfl,hc 3 _ rfl⟩
theorem St.setR {w0 w:World} {fp0:List Nat} {R:List Asn} {t:TypeId} {size g n c:Nat} {xs:List Value} (h:St w0 fp0 (rowA t size (.slice (some ⟨g,0,none⟩) n c) n xs::R) w) (i:Nat) (v:Value):St w0 fp0 (rowA t size (.slice (some ⟨g,0,none⟩) n c) n (xs.set i v)::R) (w.setCell ⟨g,i,none⟩ v):=by
 obtain ⟨f,hf,hk⟩:=h.get 0 rfl
 obtain ⟨h1,h2⟩:=hf
 obtain ⟨h3,h4⟩:=h1.stored i v
 refine hk _ _ [g] ⟨h3,rfl⟩ ?_
 rw [h2]
 exact Tr.of_grown (o:=some g) (o':=some g) h4 (fun k hk=> .inl hk)
theorem St.addF {w0 w w':World} {fp0:List Nat} {L:List Asn} {A:Asn} {f:List Nat} (h:St w0 fp0 L w) (ha:A.p w' f) (hb:Below w.heap.size w w') (hn:∀k∈f,w.heap.size≤k):St w0 fp0 (A::L) w':=
 (h.add hb ha hn).perm List.perm_append_comm
/-- What both sides speak of: a table's columns, rows and next number. -/
abbrev Db:=List (Nat×LL×Int)
/-- A table store. -/
structure Tb where
 S:Nat
 cols:Nat
 I:List (List Int)
 L:LL
 next:Int
def Tb.d (t:Tb):Nat×LL×Int:=(t.cols,t.L,t.next)
def tbA (t:Tb):Asn:=storeA t.S t.cols t.I t.L t.next
theorem map_pick {α β:Type} (f:α→β) (l:List α) (i:Nat) (h:i < l.length):(l.map f).Perm (f l[i]::(l.eraseIdx i).map f):=by
 induction l generalizing i with
 | nil=> simp at h
 | cons x l ih=>
  cases i with
  | zero=> exact List.Perm.refl _
  | succ i=>
   have:=ih i (by simpa using h)
   simp only [List.map_cons,List.getElem_cons_succ,List.eraseIdx_cons_succ]
   exact (List.Perm.cons _ this).trans (List.Perm.swap _ _ _)
theorem map_place {α β:Type} (f:α→β) (l:List α) (i:Nat) (y:α) (h:i < l.length):((l.set i y).map f).Perm (f y::(l.eraseIdx i).map f):=by
 induction l generalizing i with
 | nil=> simp at h
 | cons x l ih=>
  cases i with
  | zero=> exact List.Perm.refl _
  | succ i=>
   have:=ih i (by simpa using h)
   simp only [List.map_cons,List.set_cons_succ,List.eraseIdx_cons_succ]
   exact (List.Perm.cons _ this).trans (List.Perm.swap _ _ _)
/-- The schema that a store keeps. -/
def schA (v:Value) (td:List Td):Asn:=exA fun X:List Asn=> starA (pureA (∀w f,Star w X f→SchX w td v)::X)
theorem schA_at {v:Value} {td:List Td} {w:World} {f:List Nat} (h:(schA v td).p w f):SchX w td v:=by
 obtain ⟨X,g,f2,⟨h1,rfl⟩,h2, -,rfl⟩:=h
 exact h1 w _ h2
theorem St.schA {w0 w:World} {fp0:List Nat} {R X:List Asn} {v:Value} {td:List Td} (h:∀w f,Star w X f→SchX w td v) (hs:St w0 fp0 (X++R) w):St w0 fp0 (schA v td::R) w:=by
 have h1:St w0 fp0 ((pureA (∀w f,Star w X f→SchX w td v)::X)++R) w:=St.pure.2 ⟨h,hs⟩
 exact h1.fold fun f hf=> ⟨X,hf⟩
/-- A store of layer 40, open. -/
structure StQ where
 sa:Option Addr
 sc:Nat
 ta:Option Addr
 tc:Nat
 td:List Td
 ts:List Tb
def StQ.sv (q:StQ):Value:=.slice q.sa q.td.length q.sc
def StQ.tv (q:StQ):Value:=.slice q.ta q.ts.length q.tc
structure StQ.Ok (q:StQ) (D:Db):Prop where
 d:q.ts.map Tb.d=D
 n:q.td.map (·.n)=D.map (·.1)
 sm:∀t∈q.td,t.Sm
 len:q.td.length≤1000
def dbP (b:Nat) (q:StQ):List Asn:=blkA b 104 #[q.sv,q.tv]::schA q.sv q.td::slA 46 q.tv (q.ts.map fun t=> ptrV t.S)::[]
def stA (b:Nat) (D:Db):Asn:=exA fun q:StQ=> starA (pureA (q.Ok D)::(dbP b q++q.ts.map tbA))
section
variable {w0 w:World} {fp0:List Nat} {R:List Asn} {b:Nat} {D:Db}
theorem St.openD (hs:St w0 fp0 (stA b D::R) w):∃q:StQ,q.Ok D∧St w0 fp0 (dbP b q++(q.ts.map tbA++R)) w:=by
 obtain ⟨q,h1⟩:=hs.unfold (L1:=fun q:StQ=> pureA (q.Ok D)::(dbP b q++q.ts.map tbA)) fun f ⟨q,hq⟩=> ⟨q,hq⟩
 have h2:=St.pure.1 h1
 exact ⟨q,h2.1,List.append_assoc (dbP b q) (q.ts.map tbA) R ▸ h2.2⟩
theorem St.shutD {q:StQ} (hk:q.Ok D) (hs:St w0 fp0 (dbP b q++(q.ts.map tbA++R)) w):St w0 fp0 (stA b D::R) w:=by
 have h1:St w0 fp0 ((pureA (q.Ok D)::(dbP b q++q.ts.map tbA))++R) w:=St.pure.2 ⟨hk,by
  have e:=List.append_assoc (dbP b q) (q.ts.map tbA) R
  rw [←e] at hs
  exact hs⟩
 exact h1.fold fun f hf=> ⟨q,hf⟩
/-- One table in front. -/
theorem St.pickT {q:StQ} (hs:St w0 fp0 (dbP b q++(q.ts.map tbA++R)) w) (i:Nat) (hi:i < q.ts.length):St w0 fp0 (tbA q.ts[i]::(dbP b q++((q.ts.eraseIdx i).map tbA++R))) w:=
 hs.perm ((List.Perm.append_left _ (List.Perm.append_right R (map_pick tbA q.ts i hi))).trans List.perm_middle)
theorem St.placeT {q:StQ} {i:Nat} {t:Tb} (hi:i < q.ts.length) (hs:St w0 fp0 (tbA t::(dbP b q++((q.ts.eraseIdx i).map tbA++R))) w):St w0 fp0 (dbP b q++((q.ts.set i t).map tbA++R)) w:=
 hs.perm ((List.Perm.append_left _ (List.Perm.append_right R (map_place tbA q.ts i t hi))).trans List.perm_middle).symm
end
theorem StQ.Ok.tlen {q:StQ} {D:Db} (h:q.Ok D):q.ts.length=D.length:=by rw [←h.d,List.length_map]
theorem StQ.Ok.dlen {q:StQ} {D:Db} (h:q.Ok D):q.td.length=D.length:=by
 have:=congrArg List.length h.n
 simpa using this
theorem StQ.Ok.at {q:StQ} {D:Db} (h:q.Ok D) (i:Nat) (hi:i < q.ts.length):D[i]? =some (q.ts[i].cols,q.ts[i].L,q.ts[i].next):=by
 rw [←h.d,List.getElem?_map,List.getElem?_eq_getElem hi]
 rfl
theorem StQ.Ok.tdn {q:StQ} {D:Db} (h:q.Ok D) (i:Nat) (hi:i < q.ts.length) (hd:i < q.td.length):q.td[i].n=q.ts[i].cols:=by
 have h1:=congrArg (fun l=> l[i]?) h.n
 simp only [List.getElem?_map] at h1
 rw [h.at i hi,List.getElem?_eq_getElem hd] at h1
 simpa using h1
theorem StQ.Ok.put {q:StQ} {D:Db} (h:q.Ok D) (i:Nat) (hi:i < q.ts.length) (L:LL) (next:Int):StQ.Ok { q with ts:=q.ts.set i { q.ts[i] with L:=L,next:=next } } (D.set i (q.ts[i].cols,L,next)):=by
 refine ⟨?_,?_,h.sm,h.len⟩
 · rw [List.map_set,h.d]
   rfl
 · show q.td.map (·.n)=_
   rw [h.n,List.map_set]
   have h2:=h.at i hi
   have h3:(D.map (·.1))[i]? =some q.ts[i].cols:=by rw [List.getElem?_map,h2];rfl
   obtain ⟨h4,h5⟩:=List.getElem?_eq_some_iff.1 h3
   rw [←h5,List.set_getElem_self]
end Go.Proofs.YtpdlkdoogojboaaGreat
/- How schemas and changes that came in are read. -/
namespace Go.Proofs.YtpdlkdoogojboaaGreat
open Go Go.ChangeShapes Go.ChangeAt Go.RowKit Go.WideShapes
set_option maxRecDepth 100000
theorem cCH:Tryz.prog.cellsOf 35=4:=by kernel_rfl
structure Clm where
 nm:ByteArray
 ty:Int
 lo:Int
 hi:Int
 mx:Int
 nn:Bool
instance:Inhabited Clm:=⟨⟨⟨#[]⟩,0,0,0,0,false⟩⟩
instance:Inhabited Td:=⟨⟨⟨#[]⟩,none,0,0, .slice none 0 0, .slice none 0 0,none,0,0,[],[],[],[],[]⟩⟩
instance:Inhabited Chg:=⟨⟨0,0,none,0,none,0,[],[]⟩⟩
section
variable {H:Type} {enc:TypeId×Value→H} {w:World}
/-- An element that is a list of integers. -/
structure Il where
 v:Value
 l:List Int
structure Fl where
 v:Value
 a:Int
 b:Int
 l:List Int
instance:Inhabited Il:=⟨⟨.slice none 0 0,[]⟩⟩
instance:Inhabited Fl:=⟨⟨.slice none 0 0,0,0,[]⟩⟩
theorem read_change {fuel:Nat} {cs:List Value} {x:DataW H×List MemPlace} (h:DataW.trod enc Tryz.prog w 0 (fun _=> true) true fuel 35 cs=some x):∃c:Chg,cs=c.c∧c.X w∧c.Ok:=by
 obtain ⟨xs,n, -,rfl,hl,hxl,hx⟩:=DataW.trod_struct Tryz.underlying35 h
 rw [cCH] at hl
 match cs,hl,hx with
 | [a,b,c,d],_,hx=>
  match xs,hxl,hx with
  | [x0,x1,x2,x3],_,hx=>
   have h0:=hx 0 _ rfl
   have h1:=hx 1 _ rfl
   have h2:=hx 2 _ rfl
   have h3:=hx 3 _ rfl
   simp only [List.getElem_toArray,List.getElem_cons_zero,List.getElem_cons_succ,cINT,cI64,cRW] at h0 h1 h2 h3
   obtain ⟨t,e0, -,ht⟩:=DataW.trod_int Tryz.underlying3 (by simpa using h0)
   obtain ⟨i,e1, -,hi⟩:=DataW.trod_int Tryz.underlying2 (by simpa using h1)
   obtain ⟨old,hO,hOi⟩:=read_row (s:=c) (x:=x2) (by simpa using h2)
   obtain ⟨new,hN,hNi⟩:=read_row (s:=d) (x:=x3) (by simpa using h3)
   obtain ⟨oa,on,oc,rfl,hon, -⟩:=hO.shape
   obtain ⟨na,nn,nc,rfl,hnn, -⟩:=hN.shape
   subst hon hnn
   cases e0
   cases e1
   exact ⟨⟨t,i,oa,oc,na,nc,old,new⟩,rfl,⟨hO,hN⟩,wf64 ht,wf64 hi,fun v hv=> (hOi v hv).1,fun v hv=> (hNi v hv).1⟩
theorem open_changes {W:World} {base:Nat} {v:Value} {d:DataW H} {p:List MemPlace} (hok:Value.okWide Tryz.prog W .any base 24 v) (h:DataW.Trod enc Tryz.prog W 0 (fun _=> true) true 24 v d p):∃l,ChsX W l v∧∀c∈l,c.Ok:=by
 obtain ⟨fuel,h⟩:=h
 rw [cell_of_one_slice W Tryz.underlying24 hok] at h
 rcases slice_read Tryz.underlying24 cCH (by omega) h with ⟨a,e⟩ | ⟨b,o,len,cap,k,D,R,e,hb,hlc,hcm,rfl,hxD,hDl,hel⟩
 · cases e
   exact ⟨[],⟨SlX.nil _ _ _ _ _,by simp⟩,by simp⟩
 · cases e
   obtain ⟨l,h1,h2⟩:=slx_read (w:=W) (cap:=cap) (sz:=4) (by omega) Chg.c (fun _=> rfl) (P:=fun c=> c.X W∧c.Ok) (b:=b) (o:=o) (len:=len) (Nat.le_trans hlc hcm) (fun i hi=> by
    obtain ⟨cs',pl, -,hc,ht⟩:=hel i (by rw [hDl];exact hi)
    obtain ⟨y,rfl,hy⟩:=read_change ht
    exact ⟨y,hc,hy⟩)
   exact ⟨l,⟨h1,fun c hc=> (h2 c hc).1⟩,fun c hc=> (h2 c hc).2⟩
end
end Go.Proofs.YtpdlkdoogojboaaGreat
/- Plain: what bytes say, read as numbers and rows. -/
namespace Go.Proofs.YtpdlkdoogojboaaGreat
open Go Go.RowKit
/-- The number of some digits, the greatest first. -/
def unN (l:List UInt8):Nat:=l.foldl (fun u c=> u * 256+c.toNat) 0
theorem unN_snoc (l:List UInt8) (c:UInt8):unN (l++[c])=unN l * 256+c.toNat:=by simp [unN,List.foldl_append]
theorem unN_acc (l:List UInt8) (u:Nat):l.foldl (fun u c=> u * 256+c.toNat) u=u * 256 ^ l.length+unN l:=by
 induction l generalizing u with
 | nil=> simp [unN]
 | cons c l ih=>
  rw [unN,List.foldl_cons,List.foldl_cons,ih,ih (0 * 256+c.toNat),List.length_cons,Nat.pow_succ]
  rw [Nat.add_mul,Nat.zero_mul,Nat.zero_add,Nat.mul_assoc,Nat.mul_comm 256]
  omega
theorem unN_cons (c:UInt8) (l:List UInt8):unN (c::l)=c.toNat * 256 ^ l.length+unN l:=by
 rw [unN,List.foldl_cons,unN_acc]
 simp
theorem unN_lt (l:List UInt8):unN l < 256 ^ l.length:=by
 induction l with
 | nil=> simp [unN]
 | cons c l ih=>
  rw [unN_cons,List.length_cons,Nat.pow_succ]
  have h:=c.toNat_lt
  have:c.toNat * 256 ^ l.length≤255 * 256 ^ l.length:=Nat.mul_le_mul_right _ (by omega)
  omega
theorem beL_len:∀(k u:Nat),(beL k u).length=k
 | 0,_=> rfl
 | k+1,u=> by rw [beL,List.length_cons,beL_len k u]
theorem unN_be:∀(k u:Nat),unN (beL k u)=u % 256 ^ k
 | 0,u=> by simp [beL,unN,Nat.mod_one]
 | k+1,u=> by
  have hl:(beL k u).length=k:=beL_len k u
  have h:u / 256 ^ k % 256 < 256:=Nat.mod_lt _ (by decide)
  rw [beL,unN_cons,hl,unN_be k u,UInt8.toNat_ofNat_of_lt' h,Nat.pow_succ,Nat.mod_mul,Nat.mul_comm]
  omega
theorem be_unN:∀(l:List UInt8),beL l.length (unN l)=l
 | []=> rfl
 | c::l=> by
  have hc:=c.toNat_lt
  have hl:=unN_lt l
  have hp:0 < 256 ^ l.length:=Nat.pow_pos (by decide)
  have h1:unN (c::l) / 256 ^ l.length % 256=c.toNat:=by
   rw [unN_cons,Nat.mul_comm,Nat.mul_add_div hp,Nat.div_eq_of_lt hl]
   omega
  have h2:beL l.length (unN (c::l))=beL l.length (unN l):=by
   have key:∀(k a b:Nat),a % 256 ^ k=b % 256 ^ k→beL k a=beL k b:=by
    intro k
    induction k with
    | zero=> intro a b _;rfl
    | succ k ih=>
     intro a b h
     rw [Nat.pow_succ,Nat.mod_mul,Nat.mod_mul] at h
     have hq:0 < 256 ^ k:=Nat.pow_pos (by decide)
     have a1:=Nat.mod_lt a hq
     have b1:=Nat.mod_lt b hq
     have e1:a % 256 ^ k=b % 256 ^ k:=by
      have:=congrArg (· % 256 ^ k) h
      simpa [Nat.add_mul_mod_self_left,Nat.mod_mod] using this
     have e2:a / 256 ^ k % 256=b / 256 ^ k % 256:=by
      rw [e1] at h
      exact Nat.eq_of_mul_eq_mul_left hq (by omega)
     rw [beL,beL,e2,ih a b e1]
   refine key _ _ _ ?_
   rw [unN_cons,Nat.mul_comm,Nat.mul_add_mod]
  rw [List.length_cons,beL,h1,h2,be_unN l]
  simp
/-- The integer of eight bytes. -/
def unL (l:List UInt8):Int:=(unN l:Int) - 9223372036854775808
theorem unL_i64 {l:List UInt8} (h:l.length=8):I64 (unL l):=by
 have:=unN_lt l
 rw [h] at this
 unfold unL I64
 omega
theorem numL_unL {l:List UInt8} (h:l.length=8):numL (unL l)=l:=by
 have h1:=be_unN l
 rw [h] at h1
 rw [numL_be]
 have e:uN (unL l)=unN l:=by unfold uN unL;omega
 rw [e,h1]
theorem unL_numL {n:Int} (h:I64 n):unL (numL n)=n:=by
 have:=unN_be 8 (uN n)
 rw [←numL_be,Nat.mod_eq_of_lt (uN_lt h)] at this
 unfold unL
 rw [this]
 obtain ⟨h1,h2⟩:=h
 unfold uN
 omega
theorem numL_take {l:List UInt8} {n:Int} {m:List UInt8} (h:l=numL n++m):l.take 8=numL n∧l.drop 8=m:=by
 subst h
 rw [←numL_length n,List.take_left,List.drop_left]
 exact ⟨rfl,rfl⟩
theorem num_split {l:List UInt8} (h:8≤l.length):l=numL (unL (l.take 8))++l.drop 8:=by
 rw [numL_unL (by rw [List.length_take];omega),List.take_append_drop]
/-- A row of valid values. -/
def RowV (r:Rw):Prop:=∀v∈r,okV v=true∧I64 v.int
/-- The value at the beginning of some bytes, and what follows. -/
def fstL:List UInt8→Option (Vl×List UInt8)
 | []=> none
 | c::l=> if c=1 then some (nullV,l) else if c=2 then (if 8≤l.length then some (⟨1,unL (l.take 8),⟨#[]⟩⟩,l.drop 8) else none)
  else if c=3 then (if (l.drop (l.takeWhile prB).length).head? =some 0∧(l.takeWhile prB).length≤16 then some (⟨2,0,textOf (l.takeWhile prB)⟩,l.drop ((l.takeWhile prB).length+1)) else none) else none
theorem takeW_app {p:UInt8→Bool} {a:List UInt8} {c:UInt8} {m:List UInt8} (h:a.all p=true) (hc:p c=false):(a++c::m).takeWhile p=a:=by
 induction a with
 | nil=> simp [hc]
 | cons x a ih=>
  rw [List.all_cons,Bool.and_eq_true] at h
  rw [List.cons_append,List.takeWhile_cons,h.1,if_pos rfl,ih h.2]
theorem fstL_enc {v:Vl} (h:okV v=true) (hi:I64 v.int) (m:List UInt8):fstL (encL v++m)=some (v,m):=by
 obtain ⟨K,I,T⟩:=v
 rcases okV_cases h with ⟨a1,a2,a3⟩ | ⟨a1,a2⟩ | ⟨a1,a2,a3,a4⟩ <;> simp only at a1 a2 hi
 · simp only at a3
   subst a1 a2 a3
   rfl
 · subst a1 a2
   have hl:(numL I).length=8:=numL_length I
   have h8:8≤(numL I++m).length:=by rw [List.length_append];omega
   obtain ⟨t1,t2⟩:=numL_take (m:=m) (n:=I) rfl
   show fstL (2::(numL I++m))=_
   rw [fstL,if_neg (by decide),if_pos rfl,if_pos h8,t1,t2,unL_numL hi]
   rfl
 · simp only at a3 a4
   subst a1 a2
   obtain ⟨e1, -⟩:=esc_ok a3
   have e2:encL ⟨2,0,T⟩++m=3::(bytes T++0::m):=by
    simp [encL,e1]
   have e3:=takeW_app (p:=prB) (m:=m) (c:=0) (a:=bytes T) a3 (by decide)
   have hl:(bytes T).length=T.size:=by simp [bytes]
   rw [e2,fstL,if_neg (by decide),if_neg (by decide),if_pos rfl,e3,List.drop_left,if_pos ⟨rfl,by rw [hl];exact a4⟩]
   have e4:textOf (bytes T)=T:=bytes_inj (bytes_textOf _)
   rw [e4]
   congr 2
   rw [List.drop_append,List.drop_of_length_le (by omega),List.nil_append]
   have:(bytes T).length+1 - (bytes T).length=1:=by omega
   rw [this]
   rfl
theorem fstL_some {l m:List UInt8} {v:Vl} (h:fstL l=some (v,m)):okV v=true∧I64 v.int∧l=encL v++m:=by
 have i0:I64 0:=by unfold I64;omega
 cases l with
 | nil=> cases h
 | cons c l=>
  rw [fstL] at h
  by_cases h1:c=1
  · rw [if_pos h1] at h
    cases h
    subst h1
    exact ⟨rfl,i0,rfl⟩
  · rw [if_neg h1] at h
    by_cases h2:c=2
    · rw [if_pos h2] at h
      by_cases h3:8≤l.length
      · rw [if_pos h3] at h
        cases h
        subst h2
        exact ⟨rfl,unL_i64 (by rw [List.length_take];omega),by
         show _=2::(numL _++_)
         rw [←num_split h3]⟩
      · rw [if_neg h3] at h
        cases h
    · rw [if_neg h2] at h
      by_cases h3:c=3
      · rw [if_pos h3] at h
        by_cases h4:(l.drop (l.takeWhile prB).length).head? =some 0∧(l.takeWhile prB).length≤16
        · rw [if_pos h4] at h
          cases h
          subst h3
          have ha:(l.takeWhile prB).all prB=true:=List.all_takeWhile
          have hp:prS (textOf (l.takeWhile prB))=true:=by rw [prS,bytes_textOf];exact ha
          have hs:(textOf (l.takeWhile prB)).size≤16:=by
           show (l.takeWhile prB).toArray.size≤16
           simpa using h4.2
          refine ⟨by simp [okV,hp,hs],i0,?_⟩
          obtain ⟨e1, -⟩:=esc_ok hp
          rw [bytes_textOf] at e1
          have e2:encL ⟨2,0,textOf (l.takeWhile prB)⟩=3::(l.takeWhile prB++[0]):=by
           simp [encL,bytes_textOf,e1]
          rw [e2]
          have e3:l=l.takeWhile prB++l.drop (l.takeWhile prB).length:=by
           have h5:l.take (l.takeWhile prB).length=l.takeWhile prB:=by
            have:=List.takeWhile_append_dropWhile (p:=prB) (l:=l)
            conv=> lhs;arg 2;rw [←this]
            rw [List.take_left]
           conv=> lhs;rw [←List.take_append_drop (l.takeWhile prB).length l,h5]
          have e4:l.drop (l.takeWhile prB).length=0::l.drop ((l.takeWhile prB).length+1):=by
           rw [←List.drop_drop]
           generalize l.drop (l.takeWhile prB).length=d at h4 ⊢
           cases d with
           | nil=> simp at h4
           | cons x d=>
            have:x=0:=by simpa using h4.1
            rw [this]
            rfl
          rw [List.cons_append,List.append_assoc,List.singleton_append,←e4,←e3]
        · rw [if_neg h4] at h
          cases h
      · rw [if_neg h3] at h
        cases h
/-- What bytes say of a row: it, or that there is none. -/
def DecP (l:List UInt8):Option Rw→Prop
 | some r=> RowV r∧encR r=l
 | none=> ∀r,RowV r→encR r≠l
theorem encR_cons (v:Vl) (r:Rw):encR (v::r)=encL v++encR r:=rfl
theorem encR_app (r s:Rw):encR (r++s)=encR r++encR s:=List.flatMap_append
theorem encR_pre:∀{d r:Rw} {rest:List UInt8},RowV d→RowV r→encR r=encR d++rest→∃r',r=d++r'∧encR r'=rest∧RowV r'
 | [],r,rest,_,hr,h=> ⟨r,rfl,h,hr⟩
 | v::d,r,rest,hd,hr,h=> by
  have hv:=hd v (by simp)
  rw [encR_cons,List.append_assoc] at h
  have h1:=fstL_enc hv.1 hv.2 (encR d++rest)
  rw [←h] at h1
  cases r with
  | nil=> cases h1
  | cons u r=>
   have hu:=hr u (by simp)
   rw [encR_cons,fstL_enc hu.1 hu.2] at h1
   obtain ⟨rfl,h2⟩:=Prod.mk.inj (Option.some.inj h1)
   obtain ⟨r',e1,e2,e3⟩:=encR_pre (d:=d) (r:=r) (fun x hx=> hd x (by simp [hx])) (fun x hx=> hr x (by simp [hx])) h2
   exact ⟨r',by rw [e1];rfl,e2,e3⟩
theorem encR_inj {r s:Rw} (hr:RowV r) (hs:RowV s) (h:encR r=encR s):r=s:=by
 obtain ⟨r',e1,e2, -⟩:=encR_pre (d:=s) (r:=r) (rest:=[]) hs hr (by rw [h,List.append_nil])
 cases r' with
 | nil=> rw [e1,List.append_nil]
 | cons v r'=>
  obtain ⟨c,l,e, -⟩:=encL_head v
  rw [encR_cons,e] at e2
  cases e2
theorem DecP.fail {d:Rw} {rest:List UInt8} (hd:RowV d) (hne:rest≠[]) (h:fstL rest=none):DecP (encR d++rest) none:=by
 intro r hr e
 obtain ⟨r', -,e2,hr'⟩:=encR_pre hd hr e
 cases r' with
 | nil=> exact hne e2.symm
 | cons v r'=>
  have hv:=hr' v (by simp)
  rw [←e2,encR_cons,fstL_enc hv.1 hv.2] at h
  cases h
theorem RowV.snoc {d:Rw} {v:Vl} (hd:RowV d) (h1:okV v=true) (h2:I64 v.int):RowV (d++[v]):=by
 intro x hx
 rcases List.mem_append.1 hx with h | h
 · exact hd x h
 · rw [List.mem_singleton.1 h];exact ⟨h1,h2⟩
/- strings.IndexByte; ParseNumber; first. -/
theorem run_ixb (s:ByteArray) (c:Int) (w:World):(callFunc 208 #[.string s, .int .u8 c]).run Tryz.prog w=.ok (.value (.int .i64 (Lib.indexByte (bytes s) c.toNat.toUInt8))) w:=by
 rw [run_callFunc_extern Tryz.func208 (by kernel_rfl) (by kernel_rfl) (by kernel_rfl) (e:=Extern.BytealgIndexByte.indexByte) (by kernel_rfl),Lib.run_indexByteString]
 rfl
theorem ixbL_calls (s:ByteArray) (c:Int) (w:World):Calls Tryz.prog 197 #[.string s, .int .u8 c] w fun e w'=> e=.returned (.int .i64 (Lib.indexByte (bytes s) c.toNat.toUInt8))∧w=w':=by
 have hr:=run_ixb s c
 go_enter Tryz.func197,Tryz.ntmps197
 go_wp2
 go_ret
 exact ⟨rfl,rfl⟩
theorem ixb_calls (s:ByteArray) (c:Int) (w:World):Calls Tryz.prog 168 #[.string s, .int .u8 c] w fun e w'=> e=.returned (.int .i64 (Lib.indexByte (bytes s) c.toNat.toUInt8))∧w=w':=by
 have H:=Lib.hid (ixbL_calls s c w)
 go_enter Tryz.func168,Tryz.ntmps168
 go_wp2_with fail
 (with_reducible refine H.out.mono ?_)
 rintro e w1 ⟨rfl,rfl⟩
 go_wp2
 go_ret
 exact ⟨rfl,rfl⟩
theorem or_byte (u c:Nat) (hu:u < 2 ^ 56) (hc:c < 256):bits .or .u64 (((u * 256:Nat):Int)) (c:Int)=((u * 256+c:Nat):Int):=by
 have e1:(BitVec.ofInt 64 ((u * 256:Nat):Int)).toNat=u * 256:=by rw [BitVec.toNat_ofInt];omega
 have e2:(BitVec.ofInt 64 (c:Int)).toNat=c:=by rw [BitVec.toNat_ofInt];omega
 have e3:u * 256 ||| c=u * 256+c:=by
  have:=Nat.shiftLeft_add_eq_or_of_lt (i:=8) (b:=c) (by simpa using hc) u
  rw [Nat.shiftLeft_eq] at this
  exact this.symm
 show IntKind.u64.wrap ((((BitVec.ofInt 64 ((u * 256:Nat):Int)) ||| BitVec.ofInt 64 (c:Int)).toNat:Nat):Int)=_
 rw [BitVec.toNat_or,e1,e2,e3]
 simp only [IntKind.wrap,IntKind.bits,IntKind.signed]
 simp
 omega
theorem xor_un (u:Nat) (hu:u < 2 ^ 64):IntKind.i64.wrap (bits .xor .u64 (u:Int) 9223372036854775808)=(u:Int) - 9223372036854775808:=by
 have e1:(BitVec.ofInt 64 (9223372036854775808:Int)).toNat=2 ^ 63:=by decide
 have e2:(BitVec.ofInt 64 (u:Int)).toNat=u:=by rw [BitVec.toNat_ofInt];omega
 have e3:((BitVec.ofInt 64 (u:Int)) ^^^ BitVec.ofInt 64 (9223372036854775808:Int)).toNat=if u < 2 ^ 63 then 2 ^ 63+u else u - 2 ^ 63:=by
  rw [BitVec.toNat_xor,e1,e2]
  split
  · exact xor_hi (by assumption)
  · obtain ⟨r,rfl⟩:∃r,u=2 ^ 63+r:=⟨u - 2 ^ 63,by omega⟩
    have hr:r < 2 ^ 63:=by omega
    rw [←xor_hi hr,Nat.xor_assoc,Nat.xor_self,Nat.xor_zero,xor_hi hr]
    omega
 show IntKind.i64.wrap (IntKind.u64.wrap ((((BitVec.ofInt 64 (u:Int)) ^^^ BitVec.ofInt 64 (9223372036854775808:Int)).toNat:Nat):Int))=_
 rw [e3]
 simp only [IntKind.wrap,IntKind.bits,IntKind.signed]
 split <;> simp <;> omega
theorem wrapEq (x:Int):IntKind.i64.wrap x=wrap64 x:=by rw [IntKind.wrap_i64];unfold wrap64;omega
theorem unN_step {l:List UInt8} {k:Nat} (h:k < l.length):unN (l.take (k+1))=unN (l.take k) * 256+(l[k]'h).toNat:=by
 rw [List.take_add_one,List.getElem?_eq_getElem h]
 exact unN_snoc _ _
set_option maxHeartbeats 1000000 in
theorem parse_calls (l:List UInt8) (hl:l.length=8) (w:World):Calls Tryz.prog 97 #[.string (textOf l)] w fun e w'=> e=.returned (.tuple #[.int .i64 (unL l), .int .i64 0])∧w=w':=by
 have HL:=Lib.hid hl
 have hz:(textOf l).size=8:=by rw [text_size,hl]
 obtain ⟨s,hs⟩:∃s,textOf l=s:=⟨_,rfl⟩
 have HG:RowKit.Hid (∀(j:Nat) (h:j < s.size) (h2:j < l.length),s[j]'h=l[j]'h2):=by
  intro j h h2
  subst hs
  rfl
 rw [hs] at hz ⊢
 clear hs
 clear hl
 go_enter Tryz.func97,Tryz.ntmps97
 go_wp2
 go_loopg [4,9] 8 (fun g z4 z9 wr=> ∃k:Nat,z9=.int .i64 k∧z4=.int .u64 (unN (l.take k):Nat)∧g+k=8∧wr=w)
 case atStart=> exact ⟨0,rfl,rfl,rfl,rfl⟩
 case round=>
  obtain ⟨k,rfl,rfl,hgk,rfl⟩:=hrel
  by_cases hk:k < 8
  · have hk1:(k:Int) < 8:=by omega
    have hk2:(0:Int)≤k:=by omega
    have hks:(k:Int) < s.size:=by rw [hz];omega
    have hkl:k < l.length:=by rw [HL.out];exact hk
    have hu:unN (l.take k) < 2 ^ 56:=by
     have:=unN_lt (l.take k)
     rw [List.length_take] at this
     refine Nat.lt_of_lt_of_le this ?_
     have:(256:Nat) ^ min k l.length≤256 ^ 7:=Nat.pow_le_pow_right (by decide) (by omega)
     exact this
    have HST:=Lib.hid (unN_step hkl)
    have hkn:k < s.size:=by omega
    have HC:=Lib.hid (HG.out k hkn hkl)
    have HO:=Lib.hid (or_byte _ (l[k]'hkl).toNat hu (l[k]'hkl).toNat_lt)
    have Hgk:=Lib.hid hgk
    generalize unN (l.take k)=u at *
    clear hgk
    go_wp2
    go_roundg (gk - 1)
    case rel=>
     refine ⟨k+1,by go_num,?_,by have:=Hgk.out;omega,rfl⟩
     have h1:IntKind.u64.wrap ((s[k]'hkn).toNat:Int)=((l[k]'hkl).toNat:Int):=by
      rw [HC.out]
      have:=(l[k]'hkl).toNat_lt
      simp only [IntKind.wrap,IntKind.bits,IntKind.signed]
      simp
      omega
     rw [h1,HST.out,←HO.out]
     rfl
    case measure=> have:=Hgk.out;omega
  · obtain rfl:k=8:=by omega
    have hl:l.take 8=l:=List.take_of_length_le (by rw [HL.out];exact Nat.le_refl _)
    have hu:unN l < 2 ^ 64:=by
     have:=unN_lt l
     rw [HL.out] at this
     exact this
    have HX:=Lib.hid (xor_un _ hu)
    rw [hl]
    have HR:RowKit.Hid (unL l=(unN l:Int) - 9223372036854775808):=rfl
    generalize unN l=u at *
    go_wp2
    refine bodyPost_ret (v:=.tuple #[.int .i64 (unL l), .int .i64 0]) ?_ rfl ?_
    · rw [HR.out,←HX.out]
      simp [results,Tryz.results97,go_sem]
      exact (wrapEq _).symm
    · exact ⟨rfl,rfl⟩
/- rowcodec: first. -/
theorem text_ext (l:List UInt8) (i j:Nat):(textOf l).extract i j=textOf ((l.take j).drop i):=by
 apply ByteArray.ext
 rw [ByteArray.data_extract]
 show l.toArray.extract i j=((l.take j).drop i).toArray
 simp [List.drop_take]
theorem headD (l:List UInt8) (k:Nat):(l.drop k).head? =l[k]? :=by
 induction l generalizing k with
 | nil=> simp
 | cons c l ih=> cases k <;> simp
theorem fst3_none {l:List UInt8} (h:∀k:Nat,l[k]? ≠some 0):fstL (3::l)=none:=by
 rw [fstL,if_neg (by decide),if_neg (by decide),if_pos rfl,headD,if_neg]
 exact fun e=> h _ e.1
theorem takeW_pre {p:UInt8→Bool}:∀(a m:List UInt8),¬ a.all p=true→((a++m).takeWhile p).length < a.length
 | [],m,h=> absurd rfl h
 | c::a,m,h=> by
  rw [List.cons_append,List.takeWhile_cons]
  by_cases hc:p c=true
  · rw [if_pos hc,List.length_cons,List.length_cons]
    have:¬ a.all p=true:=fun e=> h (by rw [List.all_cons,hc,e];rfl)
    have:=takeW_pre a m this
    omega
  · rw [if_neg hc]
    simp
theorem fst3_some {l:List UInt8} {k:Nat} (h0:l[k]? =some 0) (h1:∀j:Nat,j < k→l[j]? ≠some 0):fstL (3::l)=if (l.take k).all prB=true∧k≤16 then some (⟨2,0,textOf (l.take k)⟩,l.drop (k+1)) else none:=by
 obtain ⟨hk,hk0⟩:=List.getElem?_eq_some_iff.1 h0
 have e:l=l.take k++0::l.drop (k+1):=by
  conv=> lhs;rw [←List.take_append_drop k l,List.drop_eq_getElem_cons hk,hk0]
 have hl:(l.take k).length=k:=by rw [List.length_take];omega
 rw [fstL,if_neg (by decide),if_neg (by decide),if_pos rfl,headD]
 by_cases hp:(l.take k).all prB=true
 · have hw:l.takeWhile prB=l.take k:=by
    conv=> lhs;rw [e]
    exact takeW_app hp (by decide)
   rw [hw,hl,h0]
   simp only [hp,true_and]
 · have hq:¬ (l[(l.takeWhile prB).length]? =some 0∧(l.takeWhile prB).length≤16):=by
    intro h
    have:=takeW_pre (l.take k) (0::l.drop (k+1)) hp
    rw [←e,hl] at this
    exact h1 _ this h.1
   rw [if_neg hq,if_neg (fun h=> hp h.1)]
theorem okT_iff {t:List UInt8}:okV ⟨2,0,textOf t⟩=true↔t.all prB=true∧t.length≤16:=by
 have h:(textOf t).size=t.length:=text_size t
 simp [okV,prS,bytes_textOf,h]
/-- What first returns. -/
def FirstP (L:List UInt8) (e:Ending):Prop:=∃(v:Vl) (n:Nat),e=.returned (.tuple #[v.val, .int .i64 n])∧I64 v.int∧v.text.size≤L.length∧n≤L.length∧((n=0∨okV v=false)→fstL L=none)∧(n≠0→okV v=true→fstL L=some (v,L.drop n))
theorem i64_0:I64 0:=by unfold I64;omega
theorem FirstP.no {L:List UInt8} (h:fstL L=none):FirstP L (.returned (.tuple #[nullV.val, .int .i64 0])):=⟨nullV,0,rfl,i64_0,Nat.zero_le _,Nat.zero_le _,fun _=> h,fun h0=> absurd rfl h0⟩
theorem FirstP.one (l:List UInt8):FirstP (1::l) (.returned (.tuple #[nullV.val, .int .i64 1])):=⟨nullV,1,rfl,i64_0,Nat.zero_le _,(by simp),fun h=> (by rcases h with h | h <;> cases h),fun _ _=> rfl⟩
theorem FirstP.two {l:List UInt8} (h:8≤l.length):FirstP (2::l) (.returned (.tuple #[.agg #[.int .i64 1, .int .i64 (unL (l.take 8)), .string ⟨#[]⟩], .int .i64 9])):=
 ⟨⟨1,unL (l.take 8),⟨#[]⟩⟩,9,rfl,unL_i64 (by rw [List.length_take];omega),Nat.zero_le _,(by rw [List.length_cons];omega),fun h=> (by rcases h with h | h <;> cases h),fun _ _=> by
  rw [fstL,if_neg (by decide),if_pos rfl,if_pos h]
  rfl⟩
theorem FirstP.two0 {l:List UInt8} (h:l.length < 8):fstL (2::l)=none:=by
 rw [fstL,if_neg (by decide),if_pos rfl,if_neg (by omega)]
theorem FirstP.three {l:List UInt8} {k:Nat} (h0:l[k]? =some 0) (h1:∀j:Nat,j < k→l[j]? ≠some 0):FirstP (3::l) (.returned (.tuple #[.agg #[.int .i64 2, .int .i64 0, .string (textOf (l.take k))], .int .i64 ((k+2:Nat):Int)])):=by
 obtain ⟨hk, -⟩:=List.getElem?_eq_some_iff.1 h0
 have hl:(l.take k).length=k:=by rw [List.length_take];omega
 refine ⟨⟨2,0,textOf (l.take k)⟩,k+2,rfl,i64_0,?_,?_,fun h=> ?_,fun _ h=> ?_⟩
 · show (textOf (l.take k)).size≤_
   rw [text_size,hl,List.length_cons]
   omega
 · rw [List.length_cons];omega
 · rcases h with h | h
   · cases h
   · rw [fst3_some h0 h1,if_neg]
     intro h2
     have:=okT_iff.2 ⟨h2.1,by rw [hl];exact h2.2⟩
     rw [h] at this
     cases this
 · have h2:=okT_iff.1 h
   rw [fst3_some h0 h1,if_pos ⟨h2.1,by rw [←hl];exact h2.2⟩]
   rfl
/-- A byte 1 ahead of the first 0. -/
theorem fst3_one {l:List UInt8} {k j:Nat} (h0:l[k]? =some 0) (h1:∀j:Nat,j < k→l[j]? ≠some 0) (hj:(l.take k)[j]? =some 1):fstL (3::l)=none:=by
 rw [fst3_some h0 h1,if_neg]
 intro h
 have:=List.all_eq_true.1 h.1 1 (List.mem_of_getElem? hj)
 exact absurd this (by decide)
theorem fst_other {c:UInt8} {l:List UInt8} (h1:c≠1) (h2:c≠2) (h3:c≠3):fstL (c::l)=none:=by
 rw [fstL,if_neg h1,if_neg h2,if_neg h3]
theorem byte_eq {c:UInt8} (n:Nat) (hn:n < 256):(((c.toNat:Int)==(n:Int))=decide (c=UInt8.ofNat n)):=by
 have h:(UInt8.ofNat n).toNat=n:=UInt8.toNat_ofNat_of_lt' hn
 rw [Bool.eq_iff_iff,beq_iff_eq,decide_eq_true_iff,←UInt8.toNat_inj,h]
 omega
set_option maxHeartbeats 4000000 in
theorem first_calls (c:UInt8) (l:List UInt8) (hl:l.length < 1099511627776) (w:World):Calls Tryz.prog 132 #[.string (textOf (c::l))] w fun e w'=> FirstP (c::l) e∧Below w.heap.size w w':=by
 obtain ⟨s,hs⟩:∃s,textOf (c::l)=s:=⟨_,rfl⟩
 have hz:s.size=l.length+1:=by rw [←hs,text_size,List.length_cons]
 have h0:∀(h:0 < s.size),s[0]'h=c:=by
  intro h
  subst hs
  rfl
 have HX:RowKit.Hid (∀i j,s.extract i j=textOf (((c::l).take j).drop i)):=by
  intro i j
  rw [←hs]
  exact text_ext _ _ _
 have HL:=Lib.hid hl
 rw [hs]
 clear hs hl
 have hz0:0 < s.size:=by omega
 have b1:=byte_eq (c:=c) 1 (by decide)
 have b2:=byte_eq (c:=c) 2 (by decide)
 have b3:=byte_eq (c:=c) 3 (by decide)
 have HC:=Lib.hid (h0 hz0)
 generalize s[0]'hz0=d at *
 obtain rfl:=HC.out
 have V:=VarIs.new w #[.int .i64 0, .int .i64 0, .string ⟨#[]⟩] 68
 have hx1:s.extract 1 (l.length+1)=textOf l:=by rw [HX.out];simp
 have HB:RowKit.Hid (Below w.heap.size w (w.alloc (.cells #[.int .i64 0, .int .i64 0, .string ⟨#[]⟩] 68))):=(Below.refl _ _).alloc (Nat.le_refl _) _
 by_cases h1:d=1
 · subst h1
   have HF:=Lib.hid (FirstP.one l)
   clear hx1
   go_enter Tryz.func132,Tryz.ntmps132
   go_wp2
   refine bodyPost_ret (v:=.tuple #[nullV.val, .int .i64 1]) (by simp [results,Tryz.results132,go_sem];rfl) rfl ⟨HF.out,HB.out⟩
 · by_cases h2:d=2
   · subst h2
     clear hx1
     by_cases h8:8≤l.length
     · have HF:=Lib.hid (FirstP.two h8)
       have hx:s.extract 1 9=textOf (l.take 8):=HX.out 1 9
       have HP:=Lib.hid (parse_calls (l.take 8) (by rw [List.length_take];omega))
       have h9:(9:Int)≤s.size:=by omega
       go_enter Tryz.func132,Tryz.ntmps132
       go_wp2_with fail
       (with_reducible refine (HP.out _).mono ?_)
       rintro e w1 ⟨rfl,rfl⟩
       clear HP hx
       generalize unL (l.take 8)=u at *
       go_wp2
       refine bodyPost_ret (v:=.tuple #[.agg #[.int .i64 1, .int .i64 u, .string ⟨#[]⟩], .int .i64 9]) (by simp [results,Tryz.results132,go_sem]) rfl ⟨HF.out,(Below.refl _ _).alloc (Nat.le_refl _) _⟩
     · have HF:=Lib.hid (FirstP.no (FirstP.two0 (l:=l) (by omega)))
       have h9:¬ (9:Int)≤s.size:=by omega
       go_enter Tryz.func132,Tryz.ntmps132
       go_wp2
       refine bodyPost_ret (v:=.tuple #[nullV.val, .int .i64 0]) (by simp [results,Tryz.results132,go_sem];rfl) rfl ⟨HF.out,HB.out⟩
   · by_cases h3:d=3
     · subst h3
       have HI:=Lib.hid (ixb_calls (textOf l) 0)
       rw [bytes_textOf] at HI
       obtain ⟨q,hq⟩:∃q,Lib.indexByte l 0=q:=⟨_,rfl⟩
       rw [show (0:Int).toNat.toUInt8=0 from rfl,hq] at HI
       have hge:=Lib.indexByte_ge l 0
       rw [hq] at hge
       by_cases hq0:q= -1
       · subst hq0
         have HF:=Lib.hid (FirstP.no (fst3_none (Lib.indexByte_none hq)))
         clear hq
         go_enter Tryz.func132,Tryz.ntmps132
         go_wp2_with fail
         (with_reducible refine (HI.out _).mono ?_)
         rintro e w1 ⟨rfl,rfl⟩
         clear HI
         go_wp2
         refine bodyPost_ret (v:=.tuple #[nullV.val, .int .i64 0]) (by simp [results,Tryz.results132,go_sem];rfl) rfl ⟨HF.out,HB.out⟩
       · obtain ⟨k,rfl⟩:∃k:Nat,q=k:=⟨q.toNat,by omega⟩
         obtain ⟨i0,i1⟩:=Lib.indexByte_some hq
         obtain ⟨hk, -⟩:=List.getElem?_eq_some_iff.1 i0
         have hw1:wrap64 ((k:Int)+1)=((k+1:Nat):Int):=by have:=HL.out;unfold wrap64;omega
         have hw2:wrap64 ((k:Int)+2)=((k+2:Nat):Int):=by have:=HL.out;unfold wrap64;omega
         have hx:s.extract 1 (k+1)=textOf (l.take k):=HX.out 1 (k+1)
         have hsz:k+1≤s.size:=by omega
         have HJ:=Lib.hid (ixb_calls (textOf (l.take k)) 1)
         rw [bytes_textOf] at HJ
         obtain ⟨j,hj⟩:∃j,Lib.indexByte (l.take k) 1=j:=⟨_,rfl⟩
         rw [show (1:Int).toNat.toUInt8=1 from rfl,hj] at HJ
         have hgj:=Lib.indexByte_ge (l.take k) 1
         rw [hj] at hgj
         by_cases hj0:j= -1
         · subst hj0
           have HF:=Lib.hid (FirstP.three i0 i1)
           clear hq hj i0 i1
           go_enter Tryz.func132,Tryz.ntmps132
           go_wp2_with fail
           (with_reducible refine (HI.out _).mono ?_)
           rintro e w1 ⟨rfl,rfl⟩
           clear HI
           go_wp2_with fail
           (with_reducible refine (HJ.out _).mono ?_)
           rintro e w1 ⟨rfl,rfl⟩
           clear HJ
           generalize textOf (l.take k)=u at *
           go_wp2
           refine bodyPost_ret (v:=.tuple #[.agg #[.int .i64 2, .int .i64 0, .string u], .int .i64 ((k+2:Nat):Int)]) (by simp [results,Tryz.results132,go_sem];omega) rfl ⟨HF.out,(Below.refl _ _).alloc (Nat.le_refl _) _⟩
         · have hjn:¬ j < 0:=by omega
           obtain ⟨m,rfl⟩:∃m:Nat,j=m:=⟨j.toNat,by omega⟩
           have HF:=Lib.hid (FirstP.no (fst3_one i0 i1 (Lib.indexByte_some hj).1))
           clear hq hj i0 i1
           go_enter Tryz.func132,Tryz.ntmps132
           go_wp2_with fail
           (with_reducible refine (HI.out _).mono ?_)
           rintro e w1 ⟨rfl,rfl⟩
           clear HI
           go_wp2_with fail
           (with_reducible refine (HJ.out _).mono ?_)
           rintro e w1 ⟨rfl,rfl⟩
           clear HJ
           go_wp2
           refine bodyPost_ret (v:=.tuple #[nullV.val, .int .i64 0]) (by simp [results,Tryz.results132,go_sem];rfl) rfl ⟨HF.out,HB.out⟩
     · have HF:=Lib.hid (FirstP.no (fst_other (l:=l) h1 h2 h3))
       have g1:((d.toNat:Int)==1)=false:=by rw [show ((1:Int)=((1:Nat):Int)) from rfl,b1];simpa using h1
       have g2:((d.toNat:Int)==2)=false:=by rw [show ((2:Int)=((2:Nat):Int)) from rfl,b2];simpa using h2
       have g3:((d.toNat:Int)==3)=false:=by rw [show ((3:Int)=((3:Nat):Int)) from rfl,b3];simpa using h3
       clear b1 b2 b3 hx1
       go_enter Tryz.func132,Tryz.ntmps132
       go_wp2
       refine bodyPost_ret (v:=.tuple #[nullV.val, .int .i64 0]) (by simp [results,Tryz.results132,go_sem];rfl) rfl ⟨HF.out,HB.out⟩
/- Plain: numbers, rows and changes at the beginning of some bytes. -/
/-- A number, and what follows. -/
def NumG (l:List UInt8) (n:Int) (m:List UInt8):Prop:=I64 n∧l=numL n++m
theorem NumG.uniq {l m m':List UInt8} {n n':Int} (h:NumG l n m) (h':NumG l n' m'):n=n'∧m=m':=by
 have e:numL n++m=numL n'++m':=h.2.symm.trans h'.2
 have:=List.append_inj e (by rw [numL_length,numL_length])
 exact ⟨numL_inj h.1 h'.1 this.1,this.2⟩
theorem NumG.of {l:List UInt8} (h:8≤l.length):NumG l (unL (l.take 8)) (l.drop 8):=⟨unL_i64 (by rw [List.length_take];omega),num_split h⟩
theorem NumG.len {l m:List UInt8} {n:Int} (h:NumG l n m):l.length=m.length+8:=by rw [h.2,List.length_append,numL_length];omega
/-- The bytes of a row with their number. -/
def rowB (r:Rw):List UInt8:=numL ((encR r).length:Int)++encR r
def RowG (l:List UInt8) (r:Rw) (m:List UInt8):Prop:=RowV r∧I64 (encR r).length∧l=rowB r++m
theorem RowG.num {l m:List UInt8} {r:Rw} (h:RowG l r m):NumG l (encR r).length (encR r++m):=⟨h.2.1,by rw [h.2.2,rowB,List.append_assoc]⟩
theorem RowG.uniq {l m m':List UInt8} {r r':Rw} (h:RowG l r m) (h':RowG l r' m'):r=r'∧m=m':=by
 obtain ⟨e1,e2⟩:=h.num.uniq h'.num
 have:=List.append_inj e2 (by omega)
 exact ⟨encR_inj h.1 h'.1 this.1,this.2⟩
theorem RowG.of {l m:List UInt8} {n:Int} {k:Nat} {r:Rw} (h:NumG l n m) (hn:n=(k:Int)) (hk:k≤m.length) (hr:DecP (m.take k) (some r)):RowG l r (m.drop k):=by
 have e:(encR r).length=k:=by rw [hr.2,List.length_take];omega
 refine ⟨hr.1,by rw [e,←hn];exact h.1,?_⟩
 rw [rowB,e,←hn,List.append_assoc,hr.2,List.take_append_drop]
 exact h.2
theorem RowG.not1 {l:List UInt8} (h:l.length < 8) (r:Rw) (m:List UInt8):¬ RowG l r m:=fun g=> by
 have:=g.num.len
 omega
theorem RowG.not2 {l m:List UInt8} {n:Int} (h:NumG l n m) (hn:n < 0∨(m.length:Int) < n) (r:Rw) (q:List UInt8):¬ RowG l r q:=fun g=> by
 obtain ⟨e1,e2⟩:=h.uniq g.num
 rw [e2,List.length_append] at hn
 omega
theorem RowG.not3 {l m:List UInt8} {n:Int} {k:Nat} (h:NumG l n m) (hn:n=(k:Int)) (hr:DecP (m.take k) none) (r:Rw) (q:List UInt8):¬ RowG l r q:=fun g=> by
 obtain ⟨e1,e2⟩:=h.uniq g.num
 refine hr r g.1 ?_
 have e:k=(encR r).length:=by omega
 rw [e2,e,List.take_left]
/-- A change. -/
structure Cp where
 tb:Int
 id:Int
 old:Rw
 new:Rw
 deriving DecidableEq
structure Cp.V (c:Cp):Prop where
 tb:I64 c.tb
 id:I64 c.id
 old:RowV c.old
 new:RowV c.new
 ol:I64 (encR c.old).length
 nl:I64 (encR c.new).length
def encC (c:Cp):List UInt8:=numL c.tb++(numL c.id++(rowB c.old++rowB c.new))
def ChG (l:List UInt8) (c:Cp) (m:List UInt8):Prop:=c.V∧l=encC c++m
theorem ChG.parts {l m:List UInt8} {c:Cp} (h:ChG l c m):∃a b d,NumG l c.tb a∧NumG a c.id b∧RowG b c.old d∧RowG d c.new m:=
 ⟨_,_,_,⟨h.1.tb,by rw [h.2,encC,List.append_assoc]⟩,⟨h.1.id,by rw [List.append_assoc]⟩,⟨h.1.old,h.1.ol,by rw [List.append_assoc]⟩,⟨h.1.new,h.1.nl,rfl⟩⟩
theorem ChG.of {l a b d m:List UInt8} {t i:Int} {r s:Rw} (h1:NumG l t a) (h2:NumG a i b) (h3:RowG b r d) (h4:RowG d s m):ChG l ⟨t,i,r,s⟩ m:=
 ⟨⟨h1.1,h2.1,h3.1,h4.1,h3.2.1,h4.2.1⟩,by rw [h1.2,h2.2,h3.2.2,h4.2.2,encC];simp only [List.append_assoc]⟩
theorem ChG.uniq {l m m':List UInt8} {c c':Cp} (h:ChG l c m) (h':ChG l c' m'):c=c'∧m=m':=by
 obtain ⟨a,b,d,h1,h2,h3,h4⟩:=h.parts
 obtain ⟨a',b',d',g1,g2,g3,g4⟩:=h'.parts
 obtain ⟨e1,rfl⟩:=h1.uniq g1
 obtain ⟨e2,rfl⟩:=h2.uniq g2
 obtain ⟨e3,rfl⟩:=h3.uniq g3
 obtain ⟨e4,rfl⟩:=h4.uniq g4
 cases c
 cases c'
 simp only at e1 e2 e3 e4
 exact ⟨by rw [e1,e2,e3,e4],rfl⟩
def encCs (l:List Cp):List UInt8:=l.flatMap encC
theorem encCs_cons (c:Cp) (l:List Cp):encCs (c::l)=encC c++encCs l:=rfl
theorem encCs_app (l m:List Cp):encCs (l++m)=encCs l++encCs m:=List.flatMap_append
theorem encCs_snoc (l:List Cp) (c:Cp):encCs (l++[c])=encCs l++encC c:=by simp [encCs]
def CpsV (l:List Cp):Prop:=∀c∈l,c.V
theorem encCs_pre:∀{d l:List Cp} {rest:List UInt8},CpsV d→CpsV l→encCs l=encCs d++rest→∃l',l=d++l'∧encCs l'=rest∧CpsV l'
 | [],l,rest,_,hl,h=> ⟨l,rfl,h,hl⟩
 | c::d,l,rest,hd,hl,h=> by
  rw [encCs_cons,List.append_assoc] at h
  cases l with
  | nil=>
   have:=congrArg List.length h
   simp only [encCs,List.flatMap_nil,List.length_nil,List.length_append,encC,numL_length] at this
   omega
  | cons u l=>
   have h1:ChG (encCs (u::l)) c (encCs d++rest):=⟨hd c (by simp),h⟩
   have h2:ChG (encCs (u::l)) u (encCs l):=⟨hl u (by simp),rfl⟩
   obtain ⟨rfl,e⟩:=h2.uniq h1
   obtain ⟨l',e1,e2,e3⟩:=encCs_pre (d:=d) (l:=l) (fun x hx=> hd x (by simp [hx])) (fun x hx=> hl x (by simp [hx])) e
   exact ⟨l',by rw [e1];rfl,e2,e3⟩
/-- What bytes say of changes: them, or that there are none. -/
def DecC (l:List UInt8):Option (List Cp)→Prop
 | some cs=> CpsV cs∧I64 cs.length∧l=numL cs.length++encCs cs
 | none=> ∀cs,CpsV cs→I64 (cs.length:Nat)→l≠numL cs.length++encCs cs
theorem encCs_inj {a b:List Cp} (ha:CpsV a) (hb:CpsV b) (h:encCs a=encCs b) (hl:a.length=b.length):a=b:=by
 obtain ⟨l',e1, -, -⟩:=encCs_pre (d:=b) (l:=a) (rest:=[]) hb ha (by rw [h,List.append_nil])
 have:=congrArg List.length e1
 rw [List.length_append] at this
 have:l'=[]:=List.length_eq_zero_iff.1 (by omega)
 rw [e1,this,List.append_nil]
theorem DecC.uniq {l:List UInt8} {a b:Option (List Cp)} (ha:DecC l a) (hb:DecC l b):a=b:=by
 cases a with
 | none=> cases b with
  | none=> rfl
  | some r=> exact absurd hb.2.2 (ha r hb.1 hb.2.1)
 | some r=> cases b with
  | none=> exact absurd ha.2.2 (hb r ha.1 ha.2.1)
  | some s=>
   obtain ⟨h1,h2,h3⟩:=ha
   obtain ⟨g1,g2,g3⟩:=hb
   obtain ⟨e1,e2⟩:=NumG.uniq ⟨h2,h3⟩ ⟨g2,g3⟩
   rw [encCs_inj h1 g1 e2 (by omega)]
/-- What has been read of them. -/
structure Mid (b:List UInt8) (N:Int) (cs:List Cp) (l:List UInt8):Prop where
 n:I64 N
 v:CpsV cs
 e:b=numL N++(encCs cs++l)
theorem Mid.start {b l:List UInt8} {N:Int} (h:NumG b N l):Mid b N [] l:=⟨h.1,fun _c hc=> (nomatch hc),h.2⟩
theorem Mid.step {b l m:List UInt8} {N:Int} {cs:List Cp} {c:Cp} (h:Mid b N cs l) (hc:ChG l c m):Mid b N (cs++[c]) m:=
 ⟨h.n,fun x hx=> by
  rcases List.mem_append.1 hx with hx | hx
  · exact h.v x hx
  · rw [List.mem_singleton.1 hx];exact hc.1,by rw [h.e,hc.2,encCs_snoc];simp only [List.append_assoc]⟩
theorem Mid.all {b l:List UInt8} {N:Int} {cs ds:List Cp} (h:Mid b N cs l) (hd:CpsV ds) (hn:I64 (ds.length:Nat)) (e:b=numL ds.length++encCs ds):N=ds.length∧∃l',ds=cs++l'∧encCs l'=l∧CpsV l':=by
 obtain ⟨e1,e2⟩:=NumG.uniq (l:=b) ⟨h.n,h.e⟩ ⟨hn,e⟩
 exact ⟨e1,encCs_pre h.v hd e2.symm⟩
theorem Mid.done {b:List UInt8} {cs:List Cp} {N:Int} (h:Mid b N cs []) (hN:N=(cs.length:Int)):DecC b (some cs):=by
 refine ⟨h.v,hN ▸ h.n,?_⟩
 rw [←hN]
 have:=h.e
 rwa [List.append_nil] at this
/-- Bytes are left. -/
theorem Mid.more {b l:List UInt8} {cs:List Cp} {N:Int} (h:Mid b N cs l) (hN:N=(cs.length:Int)) (hl:l≠[]):DecC b none:=fun ds hd hn e=> by
 obtain ⟨e1,l',rfl,e2, -⟩:=h.all hd hn e
 rw [List.length_append] at e1
 have:l'=[]:=List.length_eq_zero_iff.1 (by omega)
 rw [this] at e2
 exact hl e2.symm
/-- No change begins here. -/
theorem Mid.bad {b l:List UInt8} {cs:List Cp} {N:Int} (h:Mid b N cs l) (hN:N≠(cs.length:Int)) (hl:∀c m,¬ ChG l c m):DecC b none:=fun ds hd hn e=> by
 obtain ⟨e1,l',rfl,e2,e3⟩:=h.all hd hn e
 cases l' with
 | nil=> exact hN (by rw [e1,List.append_nil])
 | cons c l'=> exact hl c (encCs l') ⟨e3 c (by simp),e2.symm⟩
theorem Mid.neg {b l:List UInt8} {cs:List Cp} {N:Int} (h:Mid b N cs l) (hN:N < 0):DecC b none:=fun ds hd hn e=> by
 obtain ⟨e1, -⟩:=h.all hd hn e
 omega
theorem DecC.short {b:List UInt8} (h:b.length < 8):DecC b none:=fun ds _ _ e=> by
 have:=congrArg List.length e
 rw [List.length_append,numL_length] at this
 omega
/-- What is left of the bytes of a reader; none: they were malformed. -/
def NumS:Option (List UInt8)→Int→Option (List UInt8)→Prop
 | none,_,o=> o=none
 | some l,n,o=> (∃m,NumG l n m∧o=some m)∨(o=none∧∀n m,¬ NumG l n m)
def RowS2:Option (List UInt8)→Rw→Option (List UInt8)→Prop
 | none,_,o=> o=none
 | some l,r,o=> (∃m,RowG l r m∧o=some m)∨(o=none∧∀r m,¬ RowG l r m)
def ChS:Option (List UInt8)→Cp→Option (List UInt8)→Prop
 | none,_,o=> o=none
 | some l,c,o=> (∃m,ChG l c m∧o=some m)∨(o=none∧∀c m,¬ ChG l c m)
theorem ChS.of {o1 o2 o3 o4 o5:Option (List UInt8)} {t i:Int} {r s:Rw} (h1:NumS o1 t o2) (h2:NumS o2 i o3) (h3:RowS2 o3 r o4) (h4:RowS2 o4 s o5):ChS o1 ⟨t,i,r,s⟩ o5:=by
 have n1:o2=none→o5=none:=by
  rintro rfl
  obtain rfl:o3=none:=h2
  obtain rfl:o4=none:=h3
  exact h4
 have n2:o3=none→o5=none:=by
  rintro rfl
  obtain rfl:o4=none:=h3
  exact h4
 have n3:o4=none→o5=none:=by
  rintro rfl
  exact h4
 cases o1 with
 | none=> exact n1 h1
 | some l=>
  rcases h1 with ⟨a,g1,rfl⟩ | ⟨e,g1⟩
  · rcases h2 with ⟨b,g2,rfl⟩ | ⟨e,g2⟩
    · rcases h3 with ⟨d,g3,rfl⟩ | ⟨e,g3⟩
      · rcases h4 with ⟨m,g4,rfl⟩ | ⟨e,g4⟩
        · exact .inl ⟨m,ChG.of g1 g2 g3 g4,rfl⟩
        · refine .inr ⟨e,fun c m hc=> ?_⟩
          obtain ⟨a',b',d',q1,q2,q3,q4⟩:=hc.parts
          obtain ⟨-,rfl⟩:=g1.uniq q1
          obtain ⟨-,rfl⟩:=g2.uniq q2
          obtain ⟨-,rfl⟩:=g3.uniq q3
          exact g4 _ _ q4
      · refine .inr ⟨n3 e,fun c m hc=> ?_⟩
        obtain ⟨a',b',d',q1,q2,q3,q4⟩:=hc.parts
        obtain ⟨-,rfl⟩:=g1.uniq q1
        obtain ⟨-,rfl⟩:=g2.uniq q2
        exact g3 _ _ q3
    · refine .inr ⟨n2 e,fun c m hc=> ?_⟩
      obtain ⟨a',b',d',q1,q2,q3,q4⟩:=hc.parts
      obtain ⟨-,rfl⟩:=g1.uniq q1
      exact g2 _ _ q2
  · refine .inr ⟨n1 e,fun c m hc=> ?_⟩
    obtain ⟨a',b',d',q1,q2,q3,q4⟩:=hc.parts
    exact g1 _ _ q1
end Go.Proofs.YtpdlkdoogojboaaGreat
