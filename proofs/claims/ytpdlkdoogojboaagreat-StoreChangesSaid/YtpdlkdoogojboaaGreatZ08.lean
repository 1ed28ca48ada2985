/- Part 8 of the proof: Je, Jz, JtP, JtR, Jf, Jg, Tg, Jh, Ji, Jj, Jk, Cn2 -/
import Derived.Test.YtpdlkdoogojboaaGreatZ07
import Derived.Test.YtpdlkdoogojboaaGreatZ06
import Derived.Test.YtpdlkdoogojboaaGreatZ05
import Derived.Test.YtpdlkdoogojboaaGreatZ00
/- The readers' take. -/
namespace Go.Proofs.YtpdlkdoogojboaaGreat
open Go Go.RowKit
def SlC (v:Value) (n:Nat):Prop:=∃a c,v=.slice a n c∧n≤c∧c≤maxLen
/-- The bytes that a reader has left lie at v. -/
def RdrP (w0:World) (fp0:List Nat) (R:List Asn) (v:Value):Option (List UInt8)→Prop
 | some l=> SlC v l.length∧Rd w0 fp0 R fun w=> BytesX [] w l v
 | none=> True
/-- A reader. -/
def rdrA (p:Nat) (t:TypeId) (v:Value) (o:Option (List UInt8)):Asn:=blkA p t #[v, .bool o.isNone]
/-- Some bytes are taken. -/
def TakeS:Option (List UInt8)→Int→List UInt8→Option (List UInt8)→Prop
 | none,_,x,o=> x=[]∧o=none
 | some l,n,x,o=> (∃k:Nat,n=k∧k≤l.length∧x=l.take k∧o=some (l.drop k))∨((n < 0∨(l.length:Int) < n)∧x=[]∧o=none)
def TakeP (w0:World) (fp0:List Nat) (R B:List Asn) (p:Nat) (t:TypeId) (o:Option (List UInt8)) (n:Int) (e:Ending) (w':World):Prop:=
 ∃u v o2 x,e=.returned u∧St w0 fp0 (rdrA p t v o2::R) w'∧RdrP w0 fp0 B v o2∧Rd w0 fp0 B (fun w=> BytesX [] w x u)∧TakeS o n x o2∧SlC u x.length
theorem BytesX.shape {w:World} {x:List UInt8} {u:Value} (h:BytesX [] w x u):∃a n c,u=.slice a n c∧n=x.length:=by
 obtain ⟨a,c,e⟩:=SlX.shape h
 exact ⟨a,_,c,e,rfl⟩
theorem BytesX.has {w:World} {x:List UInt8} {a:Option Addr} {n c:Nat} (h:BytesX [] w x (.slice a n c)) (hx:0 < x.length):∃b o,a=some ⟨b,o,none⟩∧b < w.heap.size:=by
 obtain ⟨b,o,h1, -,h2⟩:=SlX.has h (by rwa [List.length_map])
 exact ⟨b,o,h1,h2⟩
theorem BytesX.take {w:World} {l:List UInt8} {a:Option Addr} {n c:Nat} (h:BytesX [] w l (.slice a n c)) (k c2:Nat) (hk:k≤l.length):BytesX [] w (l.take k) (.slice a k c2):=by
 have hl:(l.take k).length=k:=by rw [List.length_take];omega
 obtain ⟨h1,h2,a',c',h3,h4⟩:=h
 obtain ⟨rfl, -, -⟩:=Value.slice.inj h3
 refine ⟨by rw [hl];exact Nat.le_trans hk h1,by simp,a,c2,by rw [hl],fun j hj=> ?_⟩
 have hj':j < k:=by rw [List.length_map,hl] at hj;exact hj
 obtain ⟨b,o,e1,e2,e3⟩:=h4 j (by rw [List.length_map];omega)
 refine ⟨b,o,e1,e2,?_⟩
 rw [e3]
 simp
theorem BytesX.drop {w:World} {l:List UInt8} {a:Option Addr} {n c:Nat} (h:BytesX [] w l (.slice a n c)) (k c2:Nat):BytesX [] w (l.drop k) (.slice (a.map fun x=> x.add k) (l.length - k) c2):=by
 obtain ⟨h1,h2,a',c',h3,h4⟩:=h
 obtain ⟨rfl, -, -⟩:=Value.slice.inj h3
 have hn:l.length - k=(l.drop k).length:=by rw [List.length_drop]
 refine ⟨by omega,by simp,_,c2,by rw [hn],fun j hj=> ?_⟩
 have hj':j < l.length - k:=by rw [List.length_map] at hj;omega
 obtain ⟨b,o,e1,e2,e3⟩:=h4 (k+j) (by rw [List.length_map];omega)
 refine ⟨b,o+k,by rw [e1,Option.map_some,add_plain],e2,?_⟩
 rw [Nat.add_assoc,e3]
 simp
theorem TakeP.none' {w0:World} {fp0:List Nat} {R B:List Asn} {p:Nat} {t:TypeId} {n:Int} {v:Value} {o:Option (List UInt8)} {w':World} (hS:St w0 fp0 (blkA p t #[v, .bool true]::R) w') (h:TakeS o n [] none):TakeP w0 fp0 R B p t o n (.returned (.slice none 0 0)) w':=
 ⟨_,v,none,[],rfl,hS,trivial,fun _ _ _=> SlX.nil _ _ _ _ _,h,_,_,rfl,Nat.le_refl _,Nat.zero_le _⟩
theorem TakeP.some' {w0:World} {fp0:List Nat} {R B:List Asn} {p:Nat} {t:TypeId} {l:List UInt8} {a b:Option Addr} {k c:Nat} {w':World} (hR:Rd w0 fp0 B fun w=> BytesX [] w l (.slice a l.length c)) (hk:k≤l.length) (hc:l.length≤c) (hm:c≤maxLen) (hb:b=(a.map fun x=> x.add k)∨k=l.length)
 (hS:St w0 fp0 (blkA p t #[.slice b (l.length - k) (c - k), .bool false]::R) w'):TakeP w0 fp0 R B p t (some l) k (.returned (.slice a k c)) w':=by
 refine ⟨_, .slice b (l.length - k) (c - k),some (l.drop k),l.take k,rfl,hS,⟨⟨b,c - k,by rw [List.length_drop],by rw [List.length_drop];omega,by omega⟩,hR.imp fun w h=> ?_⟩,hR.imp fun w h=> h.take k c hk, .inl ⟨k,rfl,hk,rfl,rfl⟩,a,c,by rw [List.length_take,Nat.min_eq_left hk],by rw [List.length_take];omega,hm⟩
 rcases hb with rfl | hb
 · exact h.drop k _
 · have e:l.drop k=[]:=List.drop_of_length_le (by omega)
   have e2:l.length - k=0:=by omega
   rw [e,e2]
   exact SlX.nil _ _ _ _ _
end Go.Proofs.YtpdlkdoogojboaaGreat
/- How bytes that came in are read. -/
namespace Go.Proofs.YtpdlkdoogojboaaGreat
open Go Go.ChangeShapes Go.ChangeAt Go.RowKit Go.WideShapes
set_option maxRecDepth 100000
section
variable {H:Type} {enc:TypeId×Value→H}
theorem wf8 {n:Int} (h:(Lit.int .u8 n).wf=true):0≤n∧n < 256:=by
 unfold Lit.wf at h
 simp [IntKind.min,IntKind.max,IntKind.bits,IntKind.signed] at h
 omega
theorem open_bytes {W:World} {base:Nat} {v:Value} {d:DataW H} {p:List MemPlace} (hok:Value.okWide Tryz.prog W .any base 52 v) (h:DataW.Trod enc Tryz.prog W 0 (fun _=> true) true 52 v d p):∃l,BytesX [] W l v∧SlC v l.length:=by
 obtain ⟨fuel,h⟩:=h
 rw [cell_of_one_slice W Tryz.underlying52 hok] at h
 rcases slice_read Tryz.underlying52 cU8 (by omega) h with ⟨a,e⟩ | ⟨b,o,len,cap,k,D,R,e,hb,hlc,hcm,rfl,hxD,hDl,hel⟩
 · cases e
   exact ⟨[],SlX.nil _ _ _ _ _,_,_,rfl,Nat.le_refl _,Nat.zero_le _⟩
 · cases e
   obtain ⟨l,h1, -⟩:=slx_read (w:=W) (cap:=cap) (sz:=1) (by omega) (fun c:UInt8=> [u8C c]) (fun _=> rfl) (P:=fun _=> True) (b:=b) (o:=o) (len:=len) (Nat.le_trans hlc hcm) (fun i hi=> by
    obtain ⟨cs',pl, -,hc,ht⟩:=hel i (by rw [hDl];exact hi)
    obtain ⟨n,rfl, -,hn⟩:=DataW.trod_int Tryz.underlying5 ht
    obtain ⟨n0,n1⟩:=wf8 hn
    refine ⟨UInt8.ofNat n.toNat,fun j hj=> ?_,trivial⟩
    have e:u8C (UInt8.ofNat n.toNat)=.int .u8 n:=by
     have h8:n.toNat < 256:=by omega
     rw [u8C,UInt8.toNat_ofNat_of_lt' h8]
     congr 1
     omega
    rw [hc j hj,←e])
   have hm:l.flatMap (fun c:UInt8=> [u8C c])=l.map u8C:=by
    clear h1
    induction l with
    | nil=> rfl
    | cons c l ih=> rw [List.flatMap_cons,ih];rfl
   rw [hm] at h1
   have hl:l.length=len:=by
    have:=h1.2.1
    rw [List.length_map] at this
    have:=(SlX.len h1).1
    omega
   refine ⟨l,h1,some ⟨b,o,none⟩,cap,by rw [hl],by rw [hl];exact hlc,hcm⟩
end
end Go.Proofs.YtpdlkdoogojboaaGreat
/- A reader's take. -/
namespace Go.Proofs.YtpdlkdoogojboaaGreat
open Go Go.RowKit
set_option maxHeartbeats 4000000 in
theorem take_callsP (p:Nat) (v:Value) (o:Option (List UInt8)) (n:Int) (hn:I64 n) (w0 w:World) (fp0:List Nat) (R B:List Asn) (hS:St w0 fp0 (rdrA p 126 v o::R) w) (hR:RdrP w0 fp0 B v o):
 Calls Tryz.prog 98 #[.pointer (some ⟨p,0,none⟩), .int .i64 n] w fun e w'=> TakeP w0 fp0 R B p 126 o n e w':=by
 obtain ⟨_,hp⟩:=hS.has 0 rfl
 have c0:=(blk_get hp).1 0
 have c1:=(blk_get hp).1 1
 have cl:=(blk_get hp).2.2
 simp only [List.getElem?_toArray,List.getElem?_cons_zero,List.getElem?_cons_succ] at c0 c1
 have f0:=(blk_get hp).2.1 0
 have f1:=(blk_get hp).2.1 1
 have HSET:=Lib.hid (fun i hi u=> St.setB hS i hi u)
 clear hp
 cases o with
 | none=>
  have c1:w.cell? ⟨p,1,none⟩=some (.bool true):=c1
  have HF:RowKit.Hid (TakeP w0 fp0 R B p 126 none n (.returned (.slice none 0 0)) (w.setCell ⟨p,1,none⟩ (.bool true))):=TakeP.none' (HSET.out 1 (by simp) (.bool true)) ⟨rfl,rfl⟩
  clear HSET hS hR
  go_enter Tryz.func98,Tryz.ntmps98
  go_wp2
  go_ret
  exact HF.out
 | some l=>
  have c1:w.cell? ⟨p,1,none⟩=some (.bool false):=c1
  obtain ⟨⟨a,c,rfl,hcap,hcm⟩,hR⟩:=hR
  unfold maxLen at hcm
  by_cases h0:0≤n
  · by_cases h1:n≤l.length
    · obtain ⟨k,rfl⟩:∃k:Nat,n=k:=⟨n.toNat,by omega⟩
      have hk:k≤l.length:=by omega
      have hkc:k≤c:=by omega
      have HF:RowKit.Hid (∀b,(b=(a.map fun x=> x.add k)∨k=l.length)→TakeP w0 fp0 R B p 126 (some l) k (.returned (.slice a k c)) (w.setCell ⟨p,0,none⟩ (.slice b (l.length - k) (c - k)))):=
       fun b hb=> TakeP.some' hR hk hcap hcm hb (HSET.out 0 (by simp) _)
      clear HSET hS hR
      go_enter Tryz.func98,Tryz.ntmps98
      by_cases hck:c=k
      · obtain rfl:k=l.length:=by omega
        subst hck
        go_wp2
        go_ret
        have h:=HF.out a (by simp)
        first | exact h | (rw [Nat.sub_self] at h;exact h)
      · go_wp2
        go_ret
        exact HF.out _ (.inl rfl)
    · have HF:RowKit.Hid (TakeP w0 fp0 R B p 126 (some l) n (.returned (.slice none 0 0)) (w.setCell ⟨p,1,none⟩ (.bool true))):=TakeP.none' (HSET.out 1 (by simp) (.bool true)) (.inr ⟨by omega,rfl,rfl⟩)
      clear HSET hS hR
      have h2:(l.length:Int) < n:=by omega
      go_enter Tryz.func98,Tryz.ntmps98
      go_wp2
      go_ret
      exact HF.out
  · have HF:RowKit.Hid (TakeP w0 fp0 R B p 126 (some l) n (.returned (.slice none 0 0)) (w.setCell ⟨p,1,none⟩ (.bool true))):=TakeP.none' (HSET.out 1 (by simp) (.bool true)) (.inr ⟨by omega,rfl,rfl⟩)
    clear HSET hS hR
    have h2:n < 0:=by omega
    go_enter Tryz.func98,Tryz.ntmps98
    go_wp2
    go_ret
    exact HF.out
/- A reader's take. -/
set_option maxHeartbeats 4000000 in
theorem take_callsR (p:Nat) (v:Value) (o:Option (List UInt8)) (n:Int) (hn:I64 n) (w0 w:World) (fp0:List Nat) (R B:List Asn) (hS:St w0 fp0 (rdrA p 130 v o::R) w) (hR:RdrP w0 fp0 B v o):
 Calls Tryz.prog 100 #[.pointer (some ⟨p,0,none⟩), .int .i64 n] w fun e w'=> TakeP w0 fp0 R B p 130 o n e w':=by
 obtain ⟨_,hp⟩:=hS.has 0 rfl
 have c0:=(blk_get hp).1 0
 have c1:=(blk_get hp).1 1
 have cl:=(blk_get hp).2.2
 simp only [List.getElem?_toArray,List.getElem?_cons_zero,List.getElem?_cons_succ] at c0 c1
 have f0:=(blk_get hp).2.1 0
 have f1:=(blk_get hp).2.1 1
 have HSET:=Lib.hid (fun i hi u=> St.setB hS i hi u)
 clear hp
 cases o with
 | none=>
  have c1:w.cell? ⟨p,1,none⟩=some (.bool true):=c1
  have HF:RowKit.Hid (TakeP w0 fp0 R B p 130 none n (.returned (.slice none 0 0)) (w.setCell ⟨p,1,none⟩ (.bool true))):=TakeP.none' (HSET.out 1 (by simp) (.bool true)) ⟨rfl,rfl⟩
  clear HSET hS hR
  go_enter Tryz.func100,Tryz.ntmps100
  go_wp2
  go_ret
  exact HF.out
 | some l=>
  have c1:w.cell? ⟨p,1,none⟩=some (.bool false):=c1
  obtain ⟨⟨a,c,rfl,hcap,hcm⟩,hR⟩:=hR
  unfold maxLen at hcm
  by_cases h0:0≤n
  · by_cases h1:n≤l.length
    · obtain ⟨k,rfl⟩:∃k:Nat,n=k:=⟨n.toNat,by omega⟩
      have hk:k≤l.length:=by omega
      have hkc:k≤c:=by omega
      have HF:RowKit.Hid (∀b,(b=(a.map fun x=> x.add k)∨k=l.length)→TakeP w0 fp0 R B p 130 (some l) k (.returned (.slice a k c)) (w.setCell ⟨p,0,none⟩ (.slice b (l.length - k) (c - k)))):=
       fun b hb=> TakeP.some' hR hk hcap hcm hb (HSET.out 0 (by simp) _)
      clear HSET hS hR
      go_enter Tryz.func100,Tryz.ntmps100
      by_cases hck:c=k
      · obtain rfl:k=l.length:=by omega
        subst hck
        go_wp2
        go_ret
        have h:=HF.out a (by simp)
        first | exact h | (rw [Nat.sub_self] at h;exact h)
      · go_wp2
        go_ret
        exact HF.out _ (.inl rfl)
    · have HF:RowKit.Hid (TakeP w0 fp0 R B p 130 (some l) n (.returned (.slice none 0 0)) (w.setCell ⟨p,1,none⟩ (.bool true))):=TakeP.none' (HSET.out 1 (by simp) (.bool true)) (.inr ⟨by omega,rfl,rfl⟩)
      clear HSET hS hR
      have h2:(l.length:Int) < n:=by omega
      go_enter Tryz.func100,Tryz.ntmps100
      go_wp2
      go_ret
      exact HF.out
  · have HF:RowKit.Hid (TakeP w0 fp0 R B p 130 (some l) n (.returned (.slice none 0 0)) (w.setCell ⟨p,1,none⟩ (.bool true))):=TakeP.none' (HSET.out 1 (by simp) (.bool true)) (.inr ⟨by omega,rfl,rfl⟩)
    clear HSET hS hR
    have h2:n < 0:=by omega
    go_enter Tryz.func100,Tryz.ntmps100
    go_wp2
    go_ret
    exact HF.out
/- What the readers' number promises. -/
theorem conv_bytes {w:World} {x:List UInt8} {u:Value} (h:BytesX [] w x u):(convert 52 9 u).run Tryz.prog w=.ok (.string (textOf x)) w:=by
 obtain ⟨h1,h2,a,c,rfl,h4⟩:=h
 cases a with
 | none=>
  have hx:x=[]:=by
   cases x with
   | nil=> rfl
   | cons b x=>
    obtain ⟨_,_,e, -⟩:=h4 0 (by simp)
    cases e
  subst hx
  rw [List.length_nil,run_convert_bytes_string w 52 9 5 none _ c (by kernel_rfl) (by kernel_rfl) (by kernel_rfl)]
  rfl
 | some ad=>
  refine run_convert_bytes_back w 52 9 5 ad c x (by kernel_rfl) (by kernel_rfl) (by kernel_rfl) fun j hj=> ?_
  obtain ⟨b,o,e1, -,e3⟩:=h4 j (by rw [List.length_map];exact hj)
  obtain rfl:=Option.some.inj e1
  rw [add_plain,e3]
  simp [u8C]
theorem parse0_calls (w:World):Calls Tryz.prog 97 #[.string ⟨#[]⟩] w fun e w'=> e=.returned (.tuple #[.int .i64 0, .int .i64 2])∧w=w':=by
 go_enter Tryz.func97,Tryz.ntmps97
 go_wp2
 refine bodyPost_ret (v:=.tuple #[.int .i64 0, .int .i64 2]) (by simp [results,Tryz.results97,go_sem]) rfl ⟨rfl,rfl⟩
def NumP (w0:World) (fp0:List Nat) (R B:List Asn) (p:Nat) (t:TypeId) (o:Option (List UInt8)) (e:Ending) (w':World):Prop:=
 ∃n v o2,e=.returned (.int .i64 n)∧I64 n∧St w0 fp0 (rdrA p t v o2::R) w'∧RdrP w0 fp0 B v o2∧NumS o n o2
/-- What taking eight bytes means. -/
theorem TakeS.num {o o2:Option (List UInt8)} {x:List UInt8} (h:TakeS o 8 x o2):(x.length=8∧(∃m,o2=some m)∧NumS o (unL x) o2)∨(x=[]∧o2=none∧∀n,NumS o n none):=by
 cases o with
 | none=> exact .inr ⟨h.1,h.2,fun _=> rfl⟩
 | some l=>
  rcases h with ⟨k,e,hk,rfl,rfl⟩ | ⟨hl,rfl,rfl⟩
  · obtain rfl:k=8:=by omega
    exact .inl ⟨by rw [List.length_take];omega,⟨_,rfl⟩, .inl ⟨_,NumG.of hk,rfl⟩⟩
  · refine .inr ⟨rfl,rfl,fun n=> .inr ⟨rfl,fun n m g=> ?_⟩⟩
    have:=g.len
    omega
set_option maxHeartbeats 4000000 in
set_option maxRecDepth 20000 in
theorem rdNumber_calls (p:Nat) (v:Value) (o:Option (List UInt8)) (w0 w:World) (fp0:List Nat) (R B:List Asn) (hB:∃M,R=M++B) (hS:St w0 fp0 (rdrA p 126 v o::R) w) (hR:RdrP w0 fp0 B v o):
 Calls Tryz.prog 64 #[.pointer (some ⟨p,0,none⟩)] w fun e w'=> NumP w0 fp0 R B p 126 o e w':=by
 have HT:=Lib.hid (take_callsP p v o 8 (by unfold I64;omega) w0 w fp0 R B hS hR)
 obtain ⟨M,hB⟩:=hB
 clear hS hR
 go_enter Tryz.func64,Tryz.ntmps64
 go_wp2_with fail
 (with_reducible refine HT.out.mono ?_)
 rintro e w1 ⟨u,v2,o2,x,rfl,h1,h2,h3,h4, -⟩
 clear HT
 have h3:BytesX [] w1 x u:=by
  rw [hB] at h1
  exact h3 (_::M) w1 h1
 have hx:=conv_bytes h3
 obtain ⟨ua,n,uc,rfl,hn0⟩:=h3.shape
 obtain ⟨_,hp⟩:=h1.has 0 rfl
 have c1:=(blk_get hp).1 1
 have cl:=(blk_get hp).2.2
 simp only [List.getElem?_toArray,List.getElem?_cons_zero,List.getElem?_cons_succ] at c1
 have f1:=(blk_get hp).2.1 1
 have HSET:=Lib.hid (fun i hi u=> St.setB h1 i hi u)
 have HR2:=Lib.hid h2
 rcases h4.num with ⟨e8,⟨m,rfl⟩,hn⟩ | ⟨rfl,rfl,hn⟩
 · have c1:w1.cell? ⟨p,1,none⟩=some (.bool false):=c1
   obtain rfl:n=8:=by omega
   have HP:=Lib.hid (parse_calls x e8)
   have HF:RowKit.Hid (NumP w0 fp0 R B p 126 o (.returned (.int .i64 (unL x))) (w1.setCell ⟨p,1,none⟩ (.bool false))):=⟨unL x,v2,some m,rfl,unL_i64 e8,HSET.out 1 (by simp) _,h2,hn⟩
   clear h1 h2 h3 h4 hp HSET HR2 hn e8 hn0
   go_wp2_with fail
   (with_reducible refine (HP.out _).mono ?_)
   rintro e w2 ⟨rfl,rfl⟩
   clear HP hx
   generalize unL x=z at *
   go_wp2
   go_ret
   exact HF.out
 · have c1:w1.cell? ⟨p,1,none⟩=some (.bool true):=c1
   have HP:=Lib.hid parse0_calls
   obtain rfl:n=0:=hn0
   replace hx:(convert 52 9 (.slice ua 0 uc)).run Tryz.prog w1=.ok (.string ⟨#[]⟩) w1:=hx
   have HF:RowKit.Hid (NumP w0 fp0 R B p 126 o (.returned (.int .i64 0)) (w1.setCell ⟨p,1,none⟩ (.bool true))):=⟨0,v2,none,rfl,i64_0,HSET.out 1 (by simp) _,trivial,hn 0⟩
   clear h1 h2 h3 h4 hp HSET HR2 hn
   go_wp2_with fail
   (with_reducible refine (HP.out _).mono ?_)
   rintro e w2 ⟨rfl,rfl⟩
   clear HP hx
   go_wp2
   go_ret
   exact HF.out
/- The reference's number. -/
set_option maxHeartbeats 4000000 in
set_option maxRecDepth 20000 in
theorem RdNumber_calls (p:Nat) (v:Value) (o:Option (List UInt8)) (w0 w:World) (fp0:List Nat) (R B:List Asn) (hB:∃M,R=M++B) (hS:St w0 fp0 (rdrA p 130 v o::R) w) (hR:RdrP w0 fp0 B v o):
 Calls Tryz.prog 66 #[.pointer (some ⟨p,0,none⟩)] w fun e w'=> NumP w0 fp0 R B p 130 o e w':=by
 have HT:=Lib.hid (take_callsR p v o 8 (by unfold I64;omega) w0 w fp0 R B hS hR)
 obtain ⟨M,hB⟩:=hB
 clear hS hR
 go_enter Tryz.func66,Tryz.ntmps66
 go_wp2_with fail
 (with_reducible refine HT.out.mono ?_)
 rintro e w1 ⟨u,v2,o2,x,rfl,h1,h2,h3,h4, -⟩
 clear HT
 have hb:BytesX [] w1 x u:=by
  rw [hB] at h1
  exact h3 (_::M) w1 h1
 obtain ⟨ua,n,uc,rfl,hn⟩:=hb.shape
 have HN:=Lib.hid hn
 have HB:=Lib.hid hb
 have HD:RowKit.Hid ((n=8∧NumP w0 fp0 R B p 130 o (.returned (.int .i64 (unL x))) w1)∨(n=0∧NumP w0 fp0 R B p 130 o (.returned (.int .i64 (-9223372036854775808))) w1)):=by
  rcases h4.num with ⟨e8,⟨m,rfl⟩,hn'⟩ | ⟨rfl,rfl,hn'⟩
  · exact .inl ⟨hn.trans e8,unL x,v2,_,rfl,unL_i64 e8,h1,h2,hn'⟩
  · exact .inr ⟨hn, -9223372036854775808,v2,_,rfl,by unfold I64;omega,h1,h2,hn' _⟩
 have hn8:n≤8:=by rcases HD.out with h | h <;> omega
 clear h1 h2 h3 h4 hb hn
 have h0:(0:Int)=((unN (x.take 0):Nat):Int):=rfl
 go_upto_region 4 with (fail)
 go_loopg [3,5] n (fun g z3 z5 wr=> ∃k:Nat,z5=.int .i64 k∧z3=.int .u64 (unN (x.take k):Nat)∧g+k=n∧wr=w1)
 case atStart=> exact ⟨0,rfl,rfl,rfl,rfl⟩
 case round=>
  obtain ⟨k,rfl,rfl,hgk,rfl⟩:=hrel
  clear h0
  by_cases hk:k < n
  · have hkx:k < x.length:=by rw [←HN.out];exact hk
    obtain ⟨b,o,rfl,hbl⟩:=HB.out.has (by omega)
    have hc:=HB.out.cell k hkx
    have hkn:(k:Int) < n:=by omega
    have hu:unN (x.take k) < 2 ^ 56:=by
     have:=unN_lt (x.take k)
     rw [List.length_take] at this
     refine Nat.lt_of_lt_of_le this ?_
     have:(256:Nat) ^ min k x.length≤256 ^ 7:=Nat.pow_le_pow_right (by decide) (by omega)
     exact this
    have HST:=Lib.hid (unN_step hkx)
    have hy:=(x[k]'hkx).toNat_lt
    generalize (x[k]'hkx).toNat=y at *
    have h1:IntKind.u64.wrap (y:Int)=(y:Int):=by
     simp only [IntKind.wrap,IntKind.bits,IntKind.signed]
     simp
     omega
    have Hgk:=Lib.hid hgk
    generalize unN (x.take k)=s at *
    have h2:IntKind.u64.wrap ((s:Int) * 256)=((s * 256:Nat):Int):=by
     simp only [IntKind.wrap,IntKind.bits,IntKind.signed]
     simp
     omega
    have h3:IntKind.u64.wrap (((s * 256:Nat):Int)+(y:Int))=((s * 256+y:Nat):Int):=by
     simp only [IntKind.wrap,IntKind.bits,IntKind.signed]
     simp
     omega
    clear hgk hkx
    go_wp2
    go_roundg (gk - 1)
    case rel=> exact ⟨k+1,by go_num,by rw [HST.out];first | rfl | (rw [←h3];rfl),by have:=Hgk.out;omega,rfl⟩
    case measure=> have:=Hgk.out;omega
  · obtain rfl:k=n:=by omega
    have hl:x.take k=x:=List.take_of_length_le (by rw [←HN.out];exact Nat.le_refl _)
    rw [hl]
    have hu:unN x < 2 ^ 64:=by
     have:=unN_lt x
     refine Nat.lt_of_lt_of_le this ?_
     have:(256:Nat) ^ x.length≤256 ^ 8:=Nat.pow_le_pow_right (by decide) (by rw [←HN.out];exact hn8)
     exact this
    have hx:=xor_un _ hu
    have HR:RowKit.Hid (NumP w0 fp0 R B p 130 o (.returned (.int .i64 ((unN x:Int) - 9223372036854775808))) wr):=by
     rcases HD.out with ⟨-,h⟩ | ⟨h0,h⟩
     · exact h
     · have:x=[]:=List.length_eq_zero_iff.1 (by rw [←HN.out];exact h0)
       subst this
       exact h
    rw [wrapEq] at hx
    rw [←hx] at HR
    clear hx
    generalize unN x=u at *
    go_wp2
    go_ret
    exact HR.out
/- Obligations and operations of any program. -/
/-- A call that lays a piece, whatever else was done. -/
theorem Rg.Ob.callNew (G:Rg) (i k:Nat) {d:Nat} {A:(Nat→Value)→Asn} (B:Value→Asn) (hB:∀v w f,(B v).p w f→∃a n c,v=.slice a n c) {f:Nat} {args:Array Value} (hc:∀L w,St G.w0 G.fp0 (L++G.R) w→Calls G.P f args w fun e w2=> ∃v f',e=.returned v∧(B v).p w2 f'∧Below w.heap.size w w2∧∀k∈f',w.heap.size≤k)
 (hk:G.pcs[k]? =some (.new i [d] A):=by rfl) (hA:∀g v,A (rv [d] (sput g (some d) v))=B v:=by intro _ _;exact kr (by kernel_rfl)) (hr:∀a w,(execOp (G.env i a) (opAt G.ops i)).run G.P w=.ok (.enter f args) w:=by intro _ _;exact kr (by kernel_rfl))
 (hd:dstOf G.ops i=some d:=by exact kr (by kernel_rfl)) (hself:((closOf G.ops).getD i []).elem i=false:=by exact kr (by kernel_rfl)) (hsh:∀g a n c,G.shp i g (.slice a n c)=.slice a n c:=by intro _ _ _ _;exact kr (by kernel_rfl))
 (hq:G.quiet i k=true:=by exact kr (by kernel_rfl)) (hw:∀a,wantE G.ops (opAt G.ops i) (G.env i a)=some true:=by intro _;exact kr (by kernel_rfl)):G.Ob i:=
 Rg.Ob.call G i k (args:=fun _=> args) hr (fun L a w fp _ hS hp=> by
  rw [new_before hself] at hp
  obtain rfl:fp=[]:=hp
  refine (hc _ w hS).mono ?_
  rintro e w2 ⟨v,f',rfl,h2,h3,h4⟩
  obtain ⟨va,vn,vc,rfl⟩:=hB _ _ _ h2
  refine ⟨_,rfl,hsh _ _ _ _,f',?_,⟨h3.os,h3.tape,h3.output,h3.size,fun k hk _=> h3.block k hk,fun k hk=> .inr (h4 k hk)⟩⟩
  rw [new_after,hd,hA]
  exact h2) hk hq hw
/-- An operation that is carried out at once and turns one piece, whatever else was done. -/
theorem Rg.Ob.run1 (G:Rg) (i k:Nat) {p:Pc} (PB:(Nat→Value)→Asn) (PA:(Nat→Value)→Value→Asn)
 (h:∀L a w fp,stP G (lk (closOf G.ops) i L) (slots a) w→(PB (slots a)).p w fp→∃v w' f',(execOp (G.env i a) (opAt G.ops i)).run G.P w=.ok (.value v) w'∧G.shp i (slots a) v=v∧(PA (slots a) v).p w' f'∧Tr w w' fp f')
 (hk:G.pcs[k]? =some p:=by rfl) (hB:∀L g,p.at (lk (closOf G.ops) i L) g=PB g:=by intro _ _;exact kr (by kernel_rfl)) (hA:∀L g v,p.at (ln (closOf G.ops) i L) (sput g (dstOf G.ops i) v)=PA g v:=by intro _ _ _;exact kr (by kernel_rfl))
 (hq:G.quiet i k=true:=by exact kr (by kernel_rfl)) (hw:∀a,wantE G.ops (opAt G.ops i) (G.env i a)=some true:=by intro _;exact kr (by kernel_rfl)):G.Ob i:=
 Rg.Ob.eff G i k hk (fun L a w fp _ hS hp=> by
  rw [hB] at hp
  obtain ⟨v,w',f',h1,h2,h3,h4⟩:=h L a w fp hS hp
  rw [h1]
  exact ⟨G.shp_of h2,f',by rw [hA];exact h3,h4⟩) hq hw
/-- .. without a value. -/
theorem Rg.Ob.skip1 (G:Rg) (i k:Nat) {p:Pc} (PB PA:(Nat→Value)→Asn)
 (h:∀L a w fp,stP G (lk (closOf G.ops) i L) (slots a) w→(PB (slots a)).p w fp→∃w' f',(execOp (G.env i a) (opAt G.ops i)).run G.P w=.ok .skip w'∧(PA (slots a)).p w' f'∧Tr w w' fp f')
 (hk:G.pcs[k]? =some p:=by rfl) (hB:∀L g,p.at (lk (closOf G.ops) i L) g=PB g:=by intro _ _;exact kr (by kernel_rfl)) (hA:∀L g,p.at (ln (closOf G.ops) i L) g=PA g:=by intro _ _;exact kr (by kernel_rfl))
 (hd:dstOf G.ops i=none:=by exact kr (by kernel_rfl)) (hvo:(G.valOf i).isNone=true:=by exact kr (by kernel_rfl)) (hq:G.quiet i k=true:=by exact kr (by kernel_rfl)) (hw:∀a,wantE G.ops (opAt G.ops i) (G.env i a)=some true:=by intro _;exact kr (by kernel_rfl)):G.Ob i:=
 Rg.Ob.eff G i k hk (fun L a w fp _ hS hp=> by
  have hvo':G.valOf i=none:=by simpa using hvo
  rw [hB] at hp
  obtain ⟨w',f',h1,h3,h4⟩:=h L a w fp hS hp
  rw [h1,hd,hvo']
  exact ⟨fun t h=> (nomatch h),f',by rw [sput_none,hA];exact h3,h4⟩) hq hw
theorem piece_of {w0 w:World} {A:Asn} (h:St w [] [A] w0):∃f,A.p w0 f∧Below w.heap.size w w0∧∀k∈f,w.heap.size≤k:=by
 obtain ⟨fp,⟨f,g,h3,hg, -,e⟩,ht⟩:=h
 obtain rfl:g=[]:=hg
 rw [List.append_nil] at e
 subst e
 exact ⟨_,h3,ht.below (Nat.le_refl _) (fun k hk=> nomatch hk),fun k hk=> (ht.new k hk).resolve_left (by simp)⟩
theorem exec_store {P:Program} {o:Oper} {env:Operand→Value} {w w':World} {ty:TypeId} {x y:Operand} {p u:Value} (hop:o.op=.store ty x y) (hx:env x=p) (hy:env y=u) (h:(Instr.storeAt ty p u).run P w=.ok () w'):(execOp env o).run P w=.ok .skip w':=by
 simp only [execOp,hop,hx,hy,Sem.run_bind,h,Result.andThen_ok,Sem.run_pure]
theorem slSelf {t:TypeId} {w:World} {v:Value} {xs:List Value} {f:List Nat} (h:(slA t v xs).p w f):(slA t (.slice (sa v) (sn v) (sc v)) xs).p w f:=by
 obtain ⟨a,n,c,rfl⟩:=sl_shape h
 exact h
theorem one_int (l:List Int):∀u∈l.map intC,u.oneCell'=true:=by
 intro u hu
 obtain ⟨z, -,rfl⟩:=List.mem_map.1 hu
 rfl
theorem Rg.Ob.eqlS (G:Rg) (i:Nat) (k:IntKind) (p:Int) {ty r:TypeId} {x y:Operand} (hop:(opAt G.ops i).op=.binOp .eql ty x y r:=by rfl) (hx:∀a,G.env i a x=.int k p:=by intro _;exact kr (by kernel_rfl)) (hy:∀a,G.env i a y=.int k p:=by intro _;exact kr (by kernel_rfl)) (hv:∀g,G.valD i g=.bool true:=by intro _;exact kr (by kernel_rfl))
 (hq:(G.quiet i G.pcs.length && G.okV i)=true:=by exact kr (by kernel_rfl)) (hw:∀a,wantE G.ops (opAt G.ops i) (G.env i a)=some true:=by intro _;exact kr (by kernel_rfl)):G.Ob i:=Rg.Ob.read G i hq hw fun L a w _ _=> by
 simp [execOp,hop,hx,hy,go_sem,hv]
/-- A piece is laid down. -/
theorem newB {w0 w w':World} {fp0:List Nat} {L:List Asn} {A:Asn} (h:St w0 fp0 L w) (h2:St w [] [A] w'):St w0 fp0 (A::L) w':=by
 obtain ⟨fp,⟨f,g,h3,hg, -,e⟩,ht⟩:=h2
 obtain rfl:g=[]:=hg
 rw [List.append_nil] at e
 subst e
 have h4:=St.add h (ht.below (Nat.le_refl _) (fun k hk=> nomatch hk)) h3 (fun k hk=> (ht.new k hk).resolve_left (by simp))
 exact h4.perm List.perm_append_comm
/-- An element's address. -/
theorem Rg.Ob.indexO (G:Rg) (i b o n c m s:Nat) (hm:m < n) {t e:TypeId} {x y:Operand} (hop:(opAt G.ops i).op=.indexAddr t x y:=by rfl) (hu:G.P.underlying t=some (.slice e):=by rfl) (hz:∀w,(sizeOf e).run G.P w=.ok s w:=by intro _;exact kr (by kernel_rfl)) (hx:∀a,G.env i a x=.slice (some ⟨b,o,none⟩) n c:=by intro _;exact kr (by kernel_rfl)) (hy:∀a,G.env i a y=.int .i64 m:=by intro _;exact kr (by kernel_rfl)) (hv:∀g,G.valD i g=.pointer (some ⟨b,o+m * s,none⟩):=by intro _;exact kr (by kernel_rfl))
 (hq:(G.quiet i G.pcs.length && G.okV i)=true:=by exact kr (by kernel_rfl)) (hw:∀a,wantE G.ops (opAt G.ops i) (G.env i a)=some true:=by intro _;exact kr (by kernel_rfl)):G.Ob i:=Rg.Ob.read G i hq hw fun L a w _ _=> by
 simp only [execOp,hop,hx,hy,Sem.run_bind,run_index1 hu (hz w) hm,Result.andThen_ok,Sem.run_pure,hv]
/-- A struct is loaded. -/
theorem exec_loads {P:Program} {o:Oper} {env:Operand→Value} {w:World} {ty:TypeId} {x:Operand} {b off:Nat} {cs:List Value} (hop:o.op=.load ty x) (ha:(isAgg ty).run P w=.ok true w) (hs:(sizeOf ty).run P w=.ok cs.length w) (hx:env x=.pointer (some ⟨b,off,none⟩)) (hc:∀j u,cs[j]? =some u→w.cell? ⟨b,off+j,none⟩=some u):(execOp env o).run P w=.ok (.value (.agg cs.toArray)) w:=by
 have h:=run_loadCells_list (P:=P) (w:=w) ⟨b,off,none⟩ cs (fun j v hj=> by
  rw [add_plain]
  exact hc j v hj)
 simp [execOp,hop,hx,Instr.loadAt,Instr.sureAddr,loadVar,ha,hs,h]
theorem Rg.Ob.loadR1 (G:Rg) (i:Nat) {b off:Nat} (u:Value) (hl:∀L w,St G.w0 G.fp0 (L++G.R) w→w.cell? ⟨b,off,none⟩=some u) {ty:TypeId} {d:Nat} (hop:(opAt G.ops i).op=.load ty (.tmp d):=by rfl) (ha:∀w,(isAgg ty).run G.P w=.ok false w:=by intro _;exact kr (by kernel_rfl)) (hx:∀a,G.env i a (.tmp d)=.pointer (some ⟨b,off,none⟩):=by intro _;exact kr (by kernel_rfl)) (hv:∀g,G.valD i g=u:=by intro _;exact kr (by kernel_rfl))
 (hq:(G.quiet i G.pcs.length && G.okV i)=true:=by exact kr (by kernel_rfl)) (hw:∀a,wantE G.ops (opAt G.ops i) (G.env i a)=some true:=by intro _;exact kr (by kernel_rfl)):G.Ob i:=Rg.Ob.read G i hq hw fun L a w _ hS=> by
 simp only [execOp,hop,hx,Sem.run_bind,run_load1 (ha w) (hl _ w hS),Result.andThen_ok,Sem.run_pure,hv]
/-- A call that reads the frame. -/
theorem Rg.Ob.askR (G:Rg) (i:Nat) {f:Nat} {args:Array Value} {v:Value} (hc:∀L w,St G.w0 G.fp0 (L++G.R) w→Calls G.P f args w fun e w'=> e=.returned v∧Below w.heap.size w w') (hv:∀g,G.valD i g=v:=by intro _;exact kr (by kernel_rfl))
 (hr:∀a w,(execOp (G.env i a) (opAt G.ops i)).run G.P w=.ok (.enter f args) w:=by intro _ _;exact kr (by kernel_rfl))
 (hq:(G.quiet i G.pcs.length && G.okV i)=true:=by exact kr (by kernel_rfl)) (hw:∀a,wantE G.ops (opAt G.ops i) (G.env i a)=some true:=by intro _;exact kr (by kernel_rfl)):G.Ob i:=
 Rg.Ob.ask G i (args:=fun _=> args) hr (fun L a w _ hS=> by rw [hv];exact hc _ w hS) hq hw
/- DecodeRow's drawn region. -/
set_option maxRecDepth 100000
noncomputable def rgxq (P:Program) (F:Func) (id nt:Nat) (ks:List Nat) (inp:List (Nat×Value)) (inq:List (Nat×Value×Nat)) (vals:List Vf) (pcs:List Pc) (w0:World) (fp0:List Nat) (R:List Asn):Rg:=⟨P,opsR F id,nt,ks,inp,inq,vals,pcs,w0,fp0,R⟩
theorem Rg.Ob.substr (G:Rg) (i:Nat) (s s2:ByteArray) (n:Nat) (hn:n≤s.size) (hs:s.extract n s.size=s2) {ty:TypeId} {x y:Operand} (ht:G.P.underlying ty=some .string:=by kernel_rfl) (hop:(opAt G.ops i).op=.slice ty x (some y) none none:=by rfl) (hx:∀a,G.env i a x=.string s:=by intro _;exact kr (by kernel_rfl)) (hy:∀a,G.env i a y=.int .i64 (n:Int):=by intro _;exact kr (by kernel_rfl)) (hv:∀g,G.valD i g=.string s2:=by intro _;exact kr (by kernel_rfl))
 (hq:(G.quiet i G.pcs.length && G.okV i)=true:=by exact kr (by kernel_rfl)) (hw:∀a,wantE G.ops (opAt G.ops i) (G.env i a)=some true:=by intro _;exact kr (by kernel_rfl)):G.Ob i:=Rg.Ob.read G i hq hw fun _ a w _ _=> by
 have h1:(n:Int)≤s.size:=by omega
 have h2:¬ (s.size:Int) < n:=by omega
 rw [hv,←hs]
 simp [execOp,hop,hx,hy,go_sem,h1,ht]
 try omega
noncomputable def gDr7 (pv n m:Nat) (z:Value) (s s2 T:ByteArray) (K I:Int) (XS:List Value):=rgxq Tryz.prog Tryz.f99 7 32 [24,25,26,27,28,29,30,4,5] [(6,pV pv 0),(7, .int .i64 (m:Int))] [(4,z,7),(5, .string s,8)] (Vq 0 24 [Kv z,Kv (.agg #[.int .i64 K, .int .i64 I, .string T]),Vf.box,Vf.slice,Kv (.string s),Kv (.int .i64 (m:Int)),Kv (.string s2)]++Vq 7 4 [Fv [27] fun g=> .slice (sa (g 27)) (sn (g 27)) (sc (g 27)),Kv (.string s2)]) [Bk pv (68) [.int .i64 K, .int .i64 I, .string T], .new 2 [26] fun g=> boxsA 68 (g 26) #[.int .i64 K, .int .i64 I, .string T], .gen [3] [27] fun L g=> match L 3 with | true=> rowA 68 3 (g 27) (n+1) (XS++[.int .i64 K, .int .i64 I, .string T]) | false=> rowA 68 3 (z) n XS]
theorem rDr7 (pv n m:Nat) (z:Value) (s s2 T:ByteArray) (K I:Int) (XS:List Value) (w0:World) (fp0:List Nat) (R:List Asn) (hl:n+1 < 1099511627776) (hm:m≤s.size) (hs:s.extract m s.size=s2) {w:World} {c:Code} {a:Act} {Q:Exit→Act→World→Prop} (c1:isReg c=true) (c2:cops c=opsR Tryz.f99 7) (c3:a.tmps.size=32) (_c4:a.defers=a.defers) (i6:a.eval (.tmp 6)=.pointer (some ⟨pv,0,none⟩)) (i7:a.eval (.tmp 7)=.int .i64 (m:Int)) (i4:a.eval (.tmp 4)=z) (i5:a.eval (.tmp 5)=.string s)
 (hS:St w0 fp0 ([blkA pv (68) #[.int .i64 K, .int .i64 I, .string T],emp,rowA 68 3 (z) n XS]++R) w)
 (hQ:∀(u4 u26 u27:Value) (w1:World),(∃b,u26=.slice (some ⟨b,0,none⟩) 1 1)→(∃a n c,u27=.slice a n c)→u4=.slice (sa (u27)) (sn (u27)) (sc (u27))→St w0 fp0 ([blkA pv (68) #[.int .i64 K, .int .i64 I, .string T],boxsA 68 (u26) #[.int .i64 K, .int .i64 I, .string T],rowA 68 3 (u27) (n+1) (XS++[.int .i64 K, .int .i64 I, .string T])]++R) w1→Q .normal (putL a [(24,z),(25, .agg #[.int .i64 K, .int .i64 I, .string T]),(26,u26),(27,u27),(28, .string s),(29, .int .i64 (m:Int)),(30, .string s2),(4,u4),(5, .string s2)]) w1):c.wp Tryz.prog Q a w:=by
 have ok:(gDr7 pv n m z s s2 T K I XS w0 fp0 R).Ok 9:=Rg.ok _ 9 [1,2,3,6] ⟨.run1 _ 1 0 (fun _=> blkA pv 68 #[.int .i64 K, .int .i64 I, .string T]) (fun _ _=> blkA pv 68 #[.int .i64 K, .int .i64 I, .string T]) (fun L a w fp _ hp=> (by obtain ⟨h1, -, -⟩:=blk_get hp;exact ⟨.agg #[.int .i64 K, .int .i64 I, .string T],w,fp,exec_loads (cs:=[.int .i64 K, .int .i64 I, .string T]) (off:=0) rfl (kr (by kernel_rfl)) (kr (by kernel_rfl)) (kr (by kernel_rfl)) (fun j u hj=> (by rw [Nat.zero_add,h1 j];simpa using hj)),kr (by kernel_rfl),hp,Tr.refl _ _⟩)), .boxs _ 2 1, .appG _ 3 (fun g=> [blkA pv 68 #[.int .i64 K, .int .i64 I, .string T],boxsA 68 (g 26) #[.int .i64 K, .int .i64 I, .string T],rowA 68 3 (z) n XS]) (fun g v=> [blkA pv 68 #[.int .i64 K, .int .i64 I, .string T],boxsA 68 (g 26) #[.int .i64 K, .int .i64 I, .string T],rowA 68 3 (v) (n+1) (XS++[.int .i64 K, .int .i64 I, .string T])]) (fun ty g w h=> (by obtain ⟨fb,hfb⟩:=h.has 1 rfl;obtain ⟨v,w2,h1,h2⟩:=St.appSrc appW ty (St_re (L:=[_,_,_]) h [2,0,1] [] (by kernel_rfl)) (boxs_src (tx:=33) (e':=68) (by kernel_rfl) hfb rfl (by intro u hu;simp only [List.mem_cons,List.not_mem_nil,or_false] at hu;rcases hu with rfl | rfl | rfl <;> rfl)) (by omega);obtain ⟨_,hr⟩:=h2.has 0 rfl;obtain ⟨a,c,rfl, -⟩:=row_shape hr;exact ⟨_,w2,h1,kr (by kernel_rfl),St_re (L:=[_,_,_]) h2 [1,2,0] [] (by kernel_rfl)⟩)), .substr _ 6 s s2 m hm hs,trivial⟩
 refine wp_regD ok (by kernel_rfl) ⟨c1,c2⟩ ⟨c3,fun p hp=> ?_⟩ hS fun A1 w1 N1 H1=> ?_
 · simp only [gDr7,rgxq,List.map_cons,List.map_nil,List.cons_append,List.nil_append,List.mem_cons,List.not_mem_nil,or_false] at hp
   rcases hp with rfl | rfl | rfl | rfl
   · exact i6
   · exact i7
   · exact i4
   · exact i5
 have e24:=N1.val 0 rfl
 have e25:=N1.val 1 rfl
 have e26:=N1.val 2 rfl
 have e27:=N1.val 3 rfl
 have e28:=N1.val 4 rfl
 have e29:=N1.val 5 rfl
 have e30:=N1.val 6 rfl
 have e4:=N1.val 7 rfl
 have e5:=N1.val 8 rfl
 have h:=hQ (slots A1 4) (slots A1 26) (slots A1 27) w1 ⟨_,e26⟩ ⟨_,_,_,e27⟩ e4 H1
 rw [frame_eq N1.frame (cons_eq e24 (cons_eq e25 (cons_eq rfl (cons_eq rfl (cons_eq e28 (cons_eq e29 (cons_eq e30 (cons_eq rfl (cons_eq e5 rfl)))))))))]
 exact h
end Go.Proofs.YtpdlkdoogojboaaGreat
/- DecodeRow. -/
namespace Go.Proofs.YtpdlkdoogojboaaGreat
open Go Go.RowKit
/-- What a decoder of rows promises: a row of its own, and whether there is one. -/
def DecRP (b:List UInt8) (yes no:Value) (w:World) (e:Ending) (w':World):Prop:=
 ∃(q:Option Rw) (v:Value) (r:Rw),e=.returned (.tuple #[v,if q.isSome then yes else no])∧St w [] [rowA 68 3 v r.length (flat r)] w'∧DecP b q∧(q=some r∨q=none∧r=[])∧∃a n c,v=.slice a n c
theorem DecRP.bad {b:List UInt8} {yes no:Value} {w w':World} (h:DecP b none) (hb:Below w.heap.size w w'):DecRP b yes no w (.returned (.tuple #[.slice none 0 0,no])) w':=
 ⟨none, .slice none 0 0,[],rfl,St.nilR 68 3 ((St.start (w:=w) (L:=[]) (fp:=[]) rfl).mono hb),h, .inr ⟨rfl,rfl⟩,_,_,_,rfl⟩
theorem DecRP.good {b:List UInt8} {yes no v:Value} {w w':World} {r:Rw} (h:DecP b (some r)) (hs:St w [] [rowA 68 3 v r.length (flat r)] w'):DecRP b yes no w (.returned (.tuple #[v,yes])) w':=by
 obtain ⟨_,hr⟩:=hs.has 0 rfl
 obtain ⟨a,c,e, -⟩:=row_shape hr
 exact ⟨some r,v,r,rfl,hs,h, .inl rfl,a,_,c,e⟩
theorem text_ne (c:UInt8) (l:List UInt8):(textOf (c::l)).toList.isEmpty=false:=by
 cases h:(textOf (c::l)).toList with
 | nil=>
  have h1:=(text_mt _).1 h
  have h2:=congrArg bytes h1
  rw [bytes_textOf] at h2
  cases h2
 | cons a l=> rfl
set_option maxHeartbeats 4000000 in
set_option maxRecDepth 20000 in
theorem decodeRow_calls (b:List UInt8) (bv:Value) (hl:b.length < 1099511627776) (w:World) (hb:BytesX [] w b bv):
 Calls Tryz.prog 99 #[bv] w fun e w'=> DecRP b (.int .i64 0) (.int .i64 2) w e w':=by
 obtain ⟨ba,n,bc,rfl,hn⟩:=hb.shape
 have hcv:=conv_bytes hb
 have H0:RowKit.Hid (St w [] [rowA 68 3 (.slice none 0 0) ([]:Rw).length (flat [])] w):=St.nilR 68 3 (St.start (w:=w) (L:=[]) (fp:=[]) rfl)
 have HL:=Lib.hid hl
 have HM:RowKit.Hid (∀t,textOf t=textOf b→t=b):=fun t h=> by
  have:=congrArg bytes h
  rwa [bytes_textOf,bytes_textOf] at this
 clear hb hn hl
 go_enter Tryz.func99,Tryz.ntmps99
 go_wp2
 clear hcv
 go_loopg [4,5] b.length (fun g z4 z5 wr=> ∃(d:Rw) (l:List UInt8),z5=.string (textOf l)∧l.length=g∧RowKit.Hid (RowV d∧b=encR d++l∧d.length+l.length≤b.length)∧RowKit.Hid (St w [] [rowA 68 3 z4 d.length (flat d)] wr))
 case atStart=> exact ⟨[],b,rfl,rfl,⟨fun v hv=> (nomatch hv),rfl,by simp⟩,H0⟩
 case round=>
  clear H0
  obtain ⟨d,l,rfl,hlg,Hd,Hs⟩:=hrel
  cases l with
  | nil=>
   have HF:RowKit.Hid (DecP b (some d)):=⟨Hd.out.1,by rw [Hd.out.2.1,List.append_nil]⟩
   have ht:textOf []=⟨#[]⟩:=rfl
   rw [ht]
   clear hlg
   go_wp2
   refine bodyPost_ret (v:=.tuple #[_, .int .i64 0]) (by simp [results,Tryz.results99,go_sem]) rfl (DecRP.good HF.out Hs.out)
  | cons c l=>
   have ht:=text_ne c l
   have HFI:=Lib.hid (fun w=> first_calls c l (by have:=HL.out;have:=Hd.out.2.2;rw [List.length_cons] at this;omega) w)
   have HX:RowKit.Hid (∀m,(textOf (c::l)).extract m (textOf (c::l)).size=textOf ((c::l).drop m)):=fun m=> by
    rw [text_ext,text_size,List.take_length]
   have HZ:RowKit.Hid ((textOf (c::l)).size=l.length+1):=by show _=_;rw [text_size,List.length_cons]
   obtain ⟨s,hs⟩:∃s,textOf (c::l)=s:=⟨_,rfl⟩
   rw [hs] at ht HFI HX HZ ⊢
   have Hlg:=Lib.hid hlg
   clear hs hlg
   go_wp2_with fail
   (with_reducible refine (HFI.out _).mono ?_)
   rintro e w1 ⟨⟨⟨K,I,T⟩,m,he,hvi,hvt,hm,hbad,hgood⟩,hb1⟩
   unfold Vl.val at he
   subst he
   clear HFI
   simp only at hvi hvt
   have Hs1:=Lib.hid (Hs.out.mono hb1)
   have HVI:=Lib.hid hvi
   have HVT:=Lib.hid hvt
   have HMM:=Lib.hid hm
   have HBAD:=Lib.hid hbad
   have HGOOD:=Lib.hid hgood
   clear Hs hvi hvt hm hbad hgood hb1
   have HW:=Lib.hid (Hs1.out.newblk 68 #[.int .i64 K, .int .i64 I, .string T])
   have V:=VarIs.new w1 #[.int .i64 K, .int .i64 I, .string T] 68
   by_cases hm0:m=0
   · subst hm0
     have HF:RowKit.Hid (DecP b none):=by
      show DecP b none
      rw [Hd.out.2.1]
      exact DecP.fail Hd.out.1 (by simp) (HBAD.out (.inl rfl))
     have HB:=Lib.hid HW.out.below0
     clear HGOOD HBAD
     go_wp2
     refine bodyPost_ret (v:=.tuple #[.slice none 0 0, .int .i64 2]) (by simp [results,Tryz.results99,go_sem]) rfl ?_
     exact DecRP.bad HF.out HB.out
   · have HVC:=Lib.hid (valid_calls ⟨K,I,T⟩)
     unfold Vl.val at HVC
     simp only at HVC
     have hmn:((m:Int)==0)=false:=by simp;omega
     cases hok:okV ⟨K,I,T⟩
     · rw [hok] at HVC
       have HF:RowKit.Hid (DecP b none):=by
        show DecP b none
        rw [Hd.out.2.1]
        exact DecP.fail Hd.out.1 (by simp) (HBAD.out (.inr hok))
       have HB:=Lib.hid HW.out.below0
       clear HGOOD HBAD hok hm0
       go_wp2_with fail
       (with_reducible refine (HVC.out _ ?tx).mono ?_)
       case tx=> have:=HL.out;have:=HVT.out;have:=Hd.out.2.2;unfold maxLen;omega
       rintro e w2 ⟨rfl,hb2⟩
       have HB2:=Lib.hid (HB.out.trans (hb2.mono HB.out.size))
       clear hb2 HVC
       go_wp2
       refine bodyPost_ret (v:=.tuple #[.slice none 0 0, .int .i64 2]) (by simp [results,Tryz.results99,go_sem]) rfl ?_
       exact DecRP.bad HF.out HB2.out
     · rw [hok] at HVC
       obtain ⟨v1,v2,v3⟩:=fstL_some (HGOOD.out hm0 hok)
       have HN:RowKit.Hid (RowV (d++[(⟨K,I,T⟩:Vl)])∧b=encR (d++[(⟨K,I,T⟩:Vl)])++(c::l).drop m∧(d++[(⟨K,I,T⟩:Vl)]).length+((c::l).drop m).length≤b.length):=by
        refine And.intro (Hd.out.1.snoc hok HVI.out) (And.intro ?_ ?_)
        · rw [encR_app,List.append_assoc]
          show b=encR d++(encL _++[]++_)
          rw [List.append_nil,←v3]
          exact Hd.out.2.1
        · have h1:=Hd.out.2.2
          have h2:=HMM.out
          rw [List.length_append,List.length_drop]
          simp only [List.length_cons,List.length_nil] at h1 h2 ⊢
          omega
       clear HGOOD HBAD hok v1 v2 v3
       go_wp2_with fail
       (with_reducible refine (HVC.out _ ?tx).mono ?_)
       case tx=> have:=HL.out;have:=HVT.out;have:=Hd.out.2.2;unfold maxLen;omega
       rintro e w2 ⟨rfl,hb2⟩
       have HW2:=Lib.hid (HW.out.mono hb2)
       clear hb2 HVC HW V
       generalize w1.heap.size=pv at *
       go_upto_region 7 with (fail)
       refine rDr7 (w0:=w) (fp0:=[]) (R:=[]) pv d.length m _ s (textOf ((c::l).drop m)) T K I (flat d) (by have:=HL.out;have:=Hd.out.2.2;rw [List.length_cons] at this;omega) (by have:=HZ.out;have:=HMM.out;rw [List.length_cons] at this;omega) (HX.out m) rfl (by kernel_rfl) rfl rfl rfl rfl rfl rfl (St_re (L:=[_,_,_]) (St.emp.2 HW2.out) [1,0,2] [] (by kernel_rfl)) ?_
       intro u4' u26 u27 w3 _ ⟨ya,yn,yc,e27⟩ e4 h3
       subst e27
       obtain rfl:u4'=.slice ya yn yc:=e4
       have HS3:RowKit.Hid (St w [] [rowA 68 3 (.slice ya yn yc) (d++[(⟨K,I,T⟩:Vl)]).length (flat (d++[(⟨K,I,T⟩:Vl)]))] w3):=by
        show St _ _ _ _
        rw [flat_append,List.length_append]
        exact h3.drop.drop
       clear h3 HW2
       simp only [putL,List.foldl,Act.put,List.setIfInBounds_toArray,List.set_cons_succ,List.set_cons_zero]
       go_wp2
       go_roundg ((c::l).drop m).length
       case rel=> exact ⟨d++[⟨K,I,T⟩],(c::l).drop m,rfl,rfl,HN,HS3⟩
       case measure=>
        have h1:=Hlg.out
        have h2:=HMM.out
        rw [List.length_drop]
        simp only [List.length_cons] at h1 h2 ⊢
        omega
/- The reference's Decode. -/
theorem fst1 (l:List UInt8):fstL (1::l)=some (nullV,l):=by rw [fstL,if_pos rfl]
theorem fst2 {l:List UInt8} (h:8≤l.length):fstL (2::l)=some (⟨1,unL (l.take 8),⟨#[]⟩⟩,l.drop 8):=by rw [fstL,if_neg (by decide),if_pos rfl,if_pos h]
/-- How far a text is looked at. -/
theorem takeW_step {l:List UInt8} {k:Nat} (hk:k < l.length) (h:(l.take k).all prB=true) (hp:prB (l[k]'hk)=true):(l.take (k+1)).all prB=true:=by
 rw [List.take_add_one,List.getElem?_eq_getElem hk,List.all_append,h]
 simp [hp]
theorem takeW_stop {l:List UInt8} {k:Nat} (h:(l.take k).all prB=true) (hk:k≤l.length) (hp:∀(h:k < l.length),prB (l[k]'h)=false):l.takeWhile prB=l.take k:=by
 by_cases hl:k < l.length
 · have e:l=l.take k++l[k]::l.drop (k+1):=by
    conv=> lhs;rw [←List.take_append_drop k l,List.drop_eq_getElem_cons hl]
   conv=> lhs;rw [e]
   exact takeW_app h (hp hl)
 · have:l.take k=l:=List.take_of_length_le (by omega)
   rw [this] at h ⊢
   clear this hp hl hk
   induction l with
   | nil=> rfl
   | cons c l ih=>
    rw [List.all_cons,Bool.and_eq_true] at h
    rw [List.takeWhile_cons,if_pos h.1,ih h.2]
theorem fst3 (l:List UInt8) (k:Nat) (h:l.takeWhile prB=l.take k) (hk:k≤l.length):fstL (3::l)=if l[k]? =some 0∧k≤16 then some (⟨2,0,textOf (l.take k)⟩,l.drop (k+1)) else none:=by
 have hl:(l.take k).length=k:=by rw [List.length_take];omega
 rw [fstL,if_neg (by decide),if_neg (by decide),if_pos rfl,headD,h,hl]
theorem dec_step {b:List UInt8} {d:Rw} {k k':Nat} {v:Vl} (h:RowV d∧b=encR d++b.drop k∧d.length≤k) (hf:fstL (b.drop k)=some (v,b.drop k')) (hk:k < k'):RowV (d++[v])∧b=encR (d++[v])++b.drop k'∧(d++[v]).length≤k':=by
 obtain ⟨v1,v2,v3⟩:=fstL_some hf
 refine ⟨h.1.snoc v1 v2,?_,by rw [List.length_append];simp only [List.length_cons,List.length_nil];have:=h.2.2;omega⟩
 rw [encR_app,List.append_assoc]
 show b=encR d++(encL _++[]++_)
 rw [List.append_nil,←v3]
 exact h.2.1
theorem dec_fail {b:List UInt8} {d:Rw} {k:Nat} (h:RowV d∧b=encR d++b.drop k∧d.length≤k) (hk:k < b.length) (hf:fstL (b.drop k)=none):DecP b none:=by
 rw [h.2.1]
 refine DecP.fail h.1 (fun e=> ?_) hf
 have:=congrArg List.length e
 rw [List.length_drop,List.length_nil] at this
 omega
theorem St.snocV {w:World} {d:Rw} {u:Value} {K I:Int} {T:ByteArray} {w':World} {L:List Asn} (h:St w [] (rowA 68 3 u (d.length+1) (flat d++[.int .i64 K, .int .i64 I, .string T])::L) w'):St w [] (rowA 68 3 u (d++[(⟨K,I,T⟩:Vl)]).length (flat (d++[(⟨K,I,T⟩:Vl)]))::L) w':=by
 rw [flat_append,List.length_append]
 exact h
theorem one3 (K I:Int) (T:ByteArray):∀u∈(#[.int .i64 K, .int .i64 I, .string T]:Array Value).toList,u.oneCell'=true:=by
 intro u hu
 simp only [List.mem_cons,List.not_mem_nil,or_false] at hu
 rcases hu with rfl | rfl | rfl <;> rfl
set_option maxHeartbeats 8000000 in
set_option maxRecDepth 20000 in
theorem rdecode_calls (b:List UInt8) (bv:Value) (hl:b.length < 1099511627776) (w:World) (hb:BytesX [] w b bv) (hcp:SlC bv b.length):
 Calls Tryz.prog 101 #[bv] w fun e w'=> DecRP b (.bool true) (.bool false) w e w':=by
 obtain ⟨ba,n,bc,rfl,hn⟩:=hb.shape
 obtain ⟨_,_,e0,hcap,hcm⟩:=hcp
 obtain ⟨rfl, -,rfl⟩:=Value.slice.inj e0
 rw [←hn] at hcap
 clear e0
 have HCAP:=Lib.hid hcap
 have HCM:=Lib.hid hcm
 clear hcap hcm
 have H0:RowKit.Hid (St w [] [rowA 68 3 (.slice none 0 0) ([]:Rw).length (flat [])] w):=St.nilR 68 3 (St.start (w:=w) (L:=[]) (fp:=[]) rfl)
 have HL:=Lib.hid hl
 have HB:=Lib.hid hb
 have HN:=Lib.hid hn
 have hnl:n < 1099511627776:=by omega
 clear hb hl hn
 go_enter Tryz.func101,Tryz.ntmps101
 go_upto_region 3 with (fail)
 go_loopg [4,5] n (fun g z4 z5 wr=> ∃(d:Rw) (k:Nat),z5=.int .i64 k∧k+g=n∧RowKit.Hid (RowV d∧b=encR d++b.drop k∧d.length≤k)∧RowKit.Hid (St w [] [rowA 68 3 z4 d.length (flat d)] wr))
 case atStart=> exact ⟨[],0,rfl,by omega,⟨fun v hv=> (nomatch hv),rfl,Nat.le_refl _⟩,H0⟩
 case round=>
  clear H0
  obtain ⟨d,k,rfl,hkg,Hd,Hs⟩:=hrel
  by_cases hk:k < n
  · have hkb:k < b.length:=by rw [←HN.out];exact hk
    have hbw:=HB.out.mono Hs.out.below0
    obtain ⟨bb,o,rfl,hbl⟩:=BytesX.has hbw (by omega)
    have hc:=BytesX.cell hbw k hkb
    have hkn:(k:Int) < n:=by omega
    have Hkg:=Lib.hid hkg
    have HD:=Lib.hid (List.drop_eq_getElem_cons hkb)
    generalize (b[k]'hkb)=c at *
    have b1:=byte_eq (c:=c) 1 (by decide)
    have b2:=byte_eq (c:=c) 2 (by decide)
    have b3:=byte_eq (c:=c) 3 (by decide)
    clear hkg hbw
    by_cases h1:c=1
    · subst h1
      have HNX:=Lib.hid (dec_step Hd.out (k':=k+1) (by rw [HD.out];exact fst1 _) (by omega))
      have hw1:wrap64 ((k:Int)+1)=((k+1:Nat):Int):=by unfold wrap64;omega
      have hln:d.length+1 < 1099511627776:=by have:=Hd.out.2.2;omega
      have HLN:=Lib.hid hln
      clear hln
      go_wp2_with (at_builtin;go_loud (refine wpList_appR rfl _ _ _ _ rfl rfl rfl appW (Hs.out.mono ((Below.refl _ _).alloc (Nat.le_refl _) _)) (src_litk (e':=68) (by kernel_rfl) _ 3 _ 1 _ _ _ #[.int .i64 0, .int .i64 0, .string ⟨#[]⟩] (heap_alloc_new _ _) rfl (one3 _ _ _)) HLN.out ?_);intro v3 w3 h3)
      go_roundg (gk - 1)
      case rel=> exact ⟨_,k+1,by go_num,by have:=Hkg.out;omega,HNX,St.snocV h3.out⟩
      case measure=> have:=Hkg.out;omega
    · have g1 : ((c.toNat:Int)==1)=false:=by rw [show ((1:Int)=((1:Nat):Int)) from rfl,b1];simpa using h1
      have HBW:=Lib.hid (HB.out.mono Hs.out.below0)
      have Hkb:=Lib.hid hkb
      obtain ⟨l,hl⟩:∃l,b.drop (k+1)=l:=⟨_,rfl⟩
      have hll:l.length=n - (k+1):=by rw [←hl,List.length_drop,HN.out]
      have HLL:=Lib.hid hll
      have HLC:RowKit.Hid (∀j (hj:j < l.length),wr.cell? ⟨bb,o+(k+1+j),none⟩=some (.int .u8 (l[j]'hj).toNat)):=fun j hj=> by
       have hj':k+1+j < b.length:=by rw [hll,HN.out] at hj;omega
       have e:=BytesX.cell HBW.out (k+1+j) hj'
       rw [e]
       subst hl
       rw [List.getElem_drop]
      have HDL:=Lib.hid hl
      rw [hl] at HD
      clear hl hll hkb
      by_cases h2:c=2
      · subst h2
        clear g1
        by_cases h9:k+9≤n
        · have hw9:wrap64 ((k:Int)+9)=((k+9:Nat):Int):=by unfold wrap64;omega
          have hw1:wrap64 ((k:Int)+1)=((k+1+0:Nat):Int):=by unfold wrap64;omega
          have e9:l.drop 8=b.drop (k+9):=by rw [←HDL.out,List.drop_drop]
          have HNX:=Lib.hid (dec_step Hd.out (k':=k+9) (by rw [HD.out,fst2 (by rw [HLL.out];omega),e9]) (by omega))
          clear e9
          have hln:d.length+1 < 1099511627776:=by have:=Hd.out.2.2;omega
          have HLN:=Lib.hid hln
          have h0:(0:Int)=((unN (l.take 0):Nat):Int):=rfl
          obtain ⟨wr0,rfl⟩:∃x,x=wr:=⟨_,rfl⟩
          obtain ⟨gk0,rfl⟩:∃x,x=gk:=⟨_,rfl⟩
          clear hln
          go_upto_region 11 with (fail)
          go_loopg [6,7] 8 (fun gm z6 z7 wr=> ∃j:Nat,z7=.int .i64 ((k+1+j:Nat):Int)∧z6=.int .u64 (unN (l.take j):Nat)∧gm+j=8∧wr=wr0)
          case atStart=> exact ⟨0,rfl,rfl,rfl,rfl⟩
          case round=>
           obtain ⟨j,rfl,rfl,hgj,rfl⟩:=hrel
           clear h0
           by_cases hj:j < 8
           · have hjl:j < l.length:=by rw [HLL.out];omega
             have hcj:=HLC.out j hjl
             have hjn:((k+1+j:Nat):Int) < ((k+9:Nat):Int):=by omega
             have hjm:((k+1+j:Nat):Int) < n:=by omega
             have hj0:(0:Int)≤((k+1+j:Nat):Int):=by omega
             have hw2:wrap64 (((k+1+j:Nat):Int)+1)=((k+1+(j+1):Nat):Int):=by unfold wrap64;omega
             have hu:unN (l.take j) < 2 ^ 56:=by
              have:=unN_lt (l.take j)
              rw [List.length_take] at this
              refine Nat.lt_of_lt_of_le this ?_
              have:(256:Nat) ^ min j l.length≤256 ^ 7:=Nat.pow_le_pow_right (by decide) (by omega)
              exact this
             have HST:=Lib.hid (unN_step hjl)
             have hy:=(l[j]'hjl).toNat_lt
             generalize (l[j]'hjl).toNat=y at *
             have h1:IntKind.u64.wrap (y:Int)=(y:Int):=by
              simp only [IntKind.wrap,IntKind.bits,IntKind.signed]
              simp
              omega
             have Hgj:=Lib.hid hgj
             generalize unN (l.take j)=s at *
             have h2:IntKind.u64.wrap ((s:Int) * 256)=((s * 256:Nat):Int):=by
              simp only [IntKind.wrap,IntKind.bits,IntKind.signed]
              simp
              omega
             have h3:IntKind.u64.wrap (((s * 256:Nat):Int)+(y:Int))=((s * 256+y:Nat):Int):=by
              simp only [IntKind.wrap,IntKind.bits,IntKind.signed]
              simp
              omega
             obtain ⟨K,hK⟩:∃K,k+1+j=K:=⟨_,rfl⟩
             have HK:=Lib.hid hK
             rw [hK] at hcj hjn hjm hj0 hw2 ⊢
             obtain ⟨K2,hK2⟩:∃K2,k+1+(j+1)=K2:=⟨_,rfl⟩
             rw [hK2] at hw2
             have HK2:=Lib.hid hK2
             obtain ⟨N9,hN9⟩:∃N9,k+9=N9:=⟨_,rfl⟩
             rw [hN9] at hjn hw9
             have hjn2:(K:Int) < (k:Int)+9:=by omega
             have H9:=Lib.hid h9
             have Hj:=Lib.hid hj
             clear hgj hjl hK hK2 h9 hN9 hw1 b1 b2 b3 hc hj hkn hbl
             go_wp2
             go_roundg (gk - 1)
             case rel=> exact ⟨j+1,congrArg (Value.int .i64) (by have:=HK2.out;have:=HK.out;omega),by rw [HST.out];first | rfl | (rw [←h3];rfl),by have:=Hgj.out;have:=Hj.out;omega,rfl⟩
             case measure=> have:=Hgj.out;have:=Hj.out;omega
           · obtain rfl:j=8:=by omega
             have hu:unN (l.take 8) < 2 ^ 64:=by
              have:=unN_lt (l.take 8)
              rw [List.length_take] at this
              refine Nat.lt_of_lt_of_le this ?_
              have:(256:Nat) ^ min 8 l.length≤256 ^ 8:=Nat.pow_le_pow_right (by decide) (by omega)
              exact this
             have hx:=xor_un _ hu
             rw [wrapEq] at hx
             have HX:RowKit.Hid (wrap64 (bits .xor .u64 (unN (l.take 8):Int) 9223372036854775808)=unL (l.take 8)):=hx
             have hjn:¬ ((k+1+8:Nat):Int) < ((k+9:Nat):Int):=by omega
             obtain ⟨N9,hN9⟩:∃N9,k+9=N9:=⟨_,rfl⟩
             rw [hN9] at hw9
             rw [show k+1+8=N9 from hN9]
             have hjn2:¬ (N9:Int) < (k:Int)+9:=by omega
             clear hjn
             have H9:=Lib.hid h9
             have HN9:=Lib.hid hN9
             clear hx hu h9 hN9 hw1 b1 b2 b3 hc hj hkn hbl
             generalize unN (l.take 8)=u at *
             generalize unL (l.take 8)=U at *
             obtain ⟨E,hE⟩:∃E,wrap64 (bits .xor .u64 (u:Int) 9223372036854775808)=E:=⟨_,rfl⟩
             have hEU:E=U:=hE.symm.trans HX.out
             subst hEU
             clear HX hgj
             go_wp2_with (at_builtin;go_loud (refine wpList_appR rfl _ _ _ _ rfl rfl rfl appW (Hs.out.mono ((Below.refl _ _).alloc (Nat.le_refl _) _)) (src_litk (e':=68) (by kernel_rfl) _ 3 _ 1 _ _ _ #[.int .i64 1, .int .i64 E, .string ⟨#[]⟩] (heap_alloc_new _ _) rfl (one3 _ _ _)) HLN.out ?_);intro v3 w3 h3)
             go_roundg (gk0 - 9)
             case rel=> exact ⟨_,k+9,congrArg (Value.int .i64) (by have:=HN9.out;omega),by have:=Hkg.out;have:=H9.out;omega,HNX,St.snocV h3.out⟩
             case measure=> have:=Hkg.out;omega
        · have HF:=Lib.hid (dec_fail Hd.out Hkb.out (by rw [HD.out];exact FirstP.two0 (by rw [HLL.out];omega)))
          have HB0:=Lib.hid Hs.out.below0
          have hw9:wrap64 ((k:Int)+9)=((k+9:Nat):Int):=by unfold wrap64;omega
          have h9':¬ (k:Int)+9≤n:=by omega
          go_wp2
          refine bodyPost_ret (v:=.tuple #[.slice none 0 0, .bool false]) (by simp [results,Tryz.results101,go_sem]) rfl (DecRP.bad HF.out HB0.out)
      · have g2 : ((c.toNat:Int)==2)=false:=by rw [show ((2:Int)=((2:Nat):Int)) from rfl,b2];simpa using h2
        by_cases h3:c=3
        · subst h3
          clear g1 g2 b1 b2 b3
          have hw1:wrap64 ((k:Int)+1)=((k+1+0:Nat):Int):=by unfold wrap64;omega
          obtain ⟨wr0,rfl⟩:∃x,x=wr:=⟨_,rfl⟩
          obtain ⟨gk0,rfl⟩:∃x,x=gk:=⟨_,rfl⟩
          have Hk:=Lib.hid hk
          go_upto_region 18 with (fail)
          clear hkn hc hk
          go_loopg [8] l.length (fun gm z8 wr=> ∃j:Nat,z8=.int .i64 ((k+1+j:Nat):Int)∧gm+j=l.length∧RowKit.Hid ((l.take j).all prB=true)∧wr=wr0)
          case atStart=> exact ⟨0,rfl,rfl,rfl,rfl⟩
          case round=>
           obtain ⟨j,rfl,hgj,Hp,rfl⟩:=hrel
           have hw2:wrap64 (((k+1+j:Nat):Int)+1)=((k+1+(j+1):Nat):Int):=by have:=HLL.out;have:=Hk.out;unfold wrap64;omega
           have hjl0:j≤l.length:=by omega
           have HST:RowKit.Hid ((∀(h:j < l.length),prB (l[j]'h)=false)→l.takeWhile prB=l.take j):=fun h=> takeW_stop Hp.out hjl0 h
           have HF3:RowKit.Hid (l.takeWhile prB=l.take j→fstL (b.drop k)=if l[j]? =some 0∧j≤16 then some (⟨2,0,textOf (l.take j)⟩,b.drop (k+1+(j+1))) else none):=fun h=> by
            rw [HD.out,fst3 l j h hjl0,←HDL.out,List.drop_drop]
           have HNP:RowKit.Hid (∀(hj:j < l.length),prB (l[j]'hj)=true→(l.take (j+1)).all prB=true):=fun hj h=> takeW_step hj Hp.out h
           obtain ⟨K,hK⟩:∃K,k+1+j=K:=⟨_,rfl⟩
           obtain ⟨K2,hK2⟩:∃K2,k+1+(j+1)=K2:=⟨_,rfl⟩
           have HK:=Lib.hid hK
           have HK2:=Lib.hid hK2
           rw [hK2] at hw2 HF3
           rw [hK] at hw2 ⊢
           have hK0:(0:Int)≤K:=by omega
           by_cases hj:j < l.length
           · have hcj:=HLC.out j hj
             rw [hK] at hcj
             have hKn:(K:Int) < n:=by have:=HLL.out;have:=Hk.out;omega
             obtain ⟨y,hy⟩:∃y,l[j]'hj=y:=⟨_,rfl⟩
             have hjq:l[j]? =some y:=by rw [List.getElem?_eq_getElem hj,hy]
             have Hjq:=Lib.hid hjq
             have HY:RowKit.Hid (prB y=true→(l.take (j+1)).all prB=true):=fun h=> HNP.out hj (by rw [hy];exact h)
             have HZ:RowKit.Hid (prB y=false→l.takeWhile prB=l.take j):=fun h=> HST.out fun _=> by rw [hy];exact h
             rw [hy] at hcj
             have Hgj:=Lib.hid hgj
             have Hj:=Lib.hid hj
             clear hjq hy hK hK2 hgj hjl0 HNP HST hj hw1
             by_cases hy1:32≤y.toNat
             · by_cases hy2:y.toNat≤126
               · have HP2:RowKit.Hid ((l.take (j+1)).all prB=true):=HY.out (by
                  have a1:¬ y < 32:=by rw [UInt8.lt_iff_toNat_lt];exact Nat.not_lt.2 hy1
                  have a2:¬ 126 < y:=by rw [UInt8.lt_iff_toNat_lt];exact Nat.not_lt.2 hy2
                  simp [prB,a1,a2])
                 clear HY HZ HF3
                 go_wp2
                 go_roundg (gk - 1)
                 case rel=> exact ⟨j+1,congrArg (Value.int .i64) (by have:=HK2.out;have:=HK.out;omega),by have:=Hgj.out;have:=Hj.out;omega,HP2,rfl⟩
                 case measure=> have:=Hgj.out;have:=Hj.out;omega
               · have hy0:((y.toNat:Int) !=0)=true:=by simp;omega
                 have HF:RowKit.Hid (DecP b none):=dec_fail Hd.out Hkb.out (by
                  rw [HF3.out (HZ.out (by
                   have a2:126 < y:=by rw [UInt8.lt_iff_toNat_lt];exact Nat.lt_of_not_le hy2
                   simp [prB,a2])),if_neg]
                  rw [Hjq.out]
                  rintro ⟨e, -⟩
                  obtain rfl:=Option.some.inj e
                  exact absurd hy2 (by decide))
                 have HB0:=Lib.hid Hs.out.below0
                 have hKn':((K:Int)==n)=false:=by simp;omega
                 clear HY HZ HF3
                 go_wp2
                 refine bodyPost_ret (v:=.tuple #[.slice none 0 0, .bool false]) (by simp [results,Tryz.results101,go_sem]) rfl (DecRP.bad HF.out HB0.out)
             · have HW:=Lib.hid (HF3.out (HZ.out (by
                have a1:y < 32:=by rw [UInt8.lt_iff_toNat_lt];exact Nat.lt_of_not_le hy1
                simp [prB,a1])))
               have hKn':((K:Int)==n)=false:=by simp;omega
               clear HY HZ HF3
               by_cases hy0:y=0
               · subst hy0
                 by_cases hj16:j≤16
                 · have hd:¬ (16:Int) < (K:Int) - k - 1:=by have:=HK.out;omega
                   have hd0:(k:Int)+1≤K:=by have:=HK.out;omega
                   have hcap:=HCAP.out
                   have hKc:K≤bc:=by omega
                   have hcm:bc≤9223372036854775807:=HCM.out
                   have hx:(convert 52 9 (.slice (some ⟨bb,o+(k+1),none⟩) (K - (k+1)) (bc - (k+1)))).run Tryz.prog wr=.ok (.string (textOf (l.take j))) wr:=by
                    have h1:=BytesX.drop HBW.out (k+1) (bc - (k+1))
                    rw [HDL.out,Option.map_some,add_plain] at h1
                    have h2:=h1.take j (bc - (k+1)) (Nat.le_of_lt Hj.out)
                    have e:K - (k+1)=j:=by have:=HK.out;omega
                    rw [e]
                    exact conv_bytes h2
                   have HNX:=Lib.hid (dec_step Hd.out (k':=K2) (by rw [HW.out,if_pos ⟨Hjq.out,hj16⟩]) (by have:=HK2.out;omega))
                   have hln:d.length+1 < 1099511627776:=by have:=Hd.out.2.2;have:=Hk.out;omega
                   have HLN:=Lib.hid hln
                   clear hln HW
                   generalize textOf (l.take j)=T at *
                   go_wp2_with (at_builtin;go_loud (refine wpList_appR rfl _ _ _ _ rfl rfl rfl appW (Hs.out.mono ((Below.refl _ _).alloc (Nat.le_refl _) _)) (src_litk (e':=68) (by kernel_rfl) _ 3 _ 1 _ _ _ #[.int .i64 2, .int .i64 0, .string T] (heap_alloc_new _ _) rfl (one3 _ _ _)) HLN.out ?_);intro v3 w3 h3)
                   go_roundg (gk0 - 2 - j)
                   case rel=> exact ⟨_,K2,congrArg (Value.int .i64) (by have:=HK2.out;have:=HK.out;omega),by have:=Hkg.out;have:=HK2.out;have:=HLL.out;have:=Hj.out;omega,HNX,St.snocV h3.out⟩
                   case measure=> have:=Hkg.out;have:=Hk.out;omega
                 · have HF:RowKit.Hid (DecP b none):=dec_fail Hd.out Hkb.out (by
                    rw [HW.out,if_neg]
                    rintro ⟨-,e⟩
                    exact hj16 e)
                   have HB0:=Lib.hid Hs.out.below0
                   have hd:(16:Int) < (K:Int) - k - 1:=by have:=HK.out;omega
                   have hd0:(k:Int)+1≤K:=by have:=HK.out;omega
                   clear HW
                   go_wp2
                   refine bodyPost_ret (v:=.tuple #[.slice none 0 0, .bool false]) (by simp [results,Tryz.results101,go_sem]) rfl (DecRP.bad HF.out HB0.out)
               · have hyz:((y.toNat:Int) !=0)=true:=by
                  have:y.toNat≠0:=fun e=> hy0 (by rw [←UInt8.toNat_inj];exact e)
                  simp;omega
                 have HF:RowKit.Hid (DecP b none):=dec_fail Hd.out Hkb.out (by
                  rw [HW.out,if_neg]
                  rw [Hjq.out]
                  rintro ⟨e, -⟩
                  exact hy0 (Option.some.inj e))
                 have HB0:=Lib.hid Hs.out.below0
                 clear HW
                 go_wp2
                 refine bodyPost_ret (v:=.tuple #[.slice none 0 0, .bool false]) (by simp [results,Tryz.results101,go_sem]) rfl (DecRP.bad HF.out HB0.out)
           · have HF:RowKit.Hid (DecP b none):=dec_fail Hd.out Hkb.out (by
              rw [HF3.out (HST.out fun h=> absurd h hj),if_neg]
              rw [List.getElem?_eq_none (by omega)]
              rintro ⟨e, -⟩
              cases e)
             have HB0:=Lib.hid Hs.out.below0
             have hKn:K=n:=by have:=HLL.out;have:=Hk.out;omega
             clear HF3 HST HNP hK hK2 hgj
             subst hKn
             go_wp2
             refine bodyPost_ret (v:=.tuple #[.slice none 0 0, .bool false]) (by simp [results,Tryz.results101,go_sem]) rfl (DecRP.bad HF.out HB0.out)
        · have g3:((c.toNat:Int)==3)=false:=by rw [show ((3:Int)=((3:Nat):Int)) from rfl,b3];simpa using h3
          have HF:=Lib.hid (dec_fail Hd.out Hkb.out (by rw [HD.out];exact fst_other h1 h2 h3))
          have HB0:=Lib.hid Hs.out.below0
          clear b1 b2 b3
          go_wp2
          refine bodyPost_ret (v:=.tuple #[.slice none 0 0, .bool false]) (by simp [results,Tryz.results101,go_sem]) rfl (DecRP.bad HF.out HB0.out)
  · obtain rfl:k=n:=by omega
    have HF:RowKit.Hid (DecP b (some d)):=⟨Hd.out.1,by
     have:=Hd.out.2.1
     rw [List.drop_of_length_le (by rw [HN.out];exact Nat.le_refl _),List.append_nil] at this
     exact this.symm⟩
    clear hkg
    go_wp2
    refine bodyPost_ret (v:=.tuple #[_, .bool true]) (by simp [results,Tryz.results101,go_sem]) rfl (DecRP.good HF.out Hs.out)
/- The readers' row. -/
def RowP (w0:World) (fp0:List Nat) (R B:List Asn) (p:Nat) (t:TypeId) (o:Option (List UInt8)) (e:Ending) (w':World):Prop:=
 ∃rv r v o2,e=.returned rv∧St w0 fp0 (rdrA p t v o2::rowA 68 3 rv r.length (flat r)::R) w'∧RdrP w0 fp0 B v o2∧RowS2 o r o2∧RowV r∧∃a n c,rv=.slice a n c
/-- A row's bytes, taken. -/
theorem RowS2.of {o o1 o2:Option (List UInt8)} {n:Int} {x:List UInt8} {q:Option Rw} {r:Rw} (h1:NumS o n o1) (h2:TakeS o1 n x o2) (h3:DecP x q) (hq:q=some r∨q=none∧r=[]):RowS2 o r (if q.isSome then o2 else none):=by
 have hn:o2=none→(if q.isSome then o2 else none)=none:=by rintro rfl;split <;> rfl
 cases o with
 | none=>
  obtain rfl:o1=none:=h1
  exact hn h2.2
 | some l=>
  rcases h1 with ⟨m,g1,rfl⟩ | ⟨rfl,g1⟩
  · rcases h2 with ⟨k,hk,hkm,rfl,rfl⟩ | ⟨hb,rfl,rfl⟩
    · rcases hq with rfl | ⟨rfl,rfl⟩
      · exact .inl ⟨_,RowG.of g1 hk hkm h3,rfl⟩
      · exact .inr ⟨rfl,fun r q=> RowG.not3 g1 hk h3 r q⟩
    · exact .inr ⟨hn rfl,fun r q=> RowG.not2 g1 hb r q⟩
  · have:l.length < 8:=by
     apply Classical.byContradiction
     intro h
     exact g1 _ _ (NumG.of (by omega))
    exact .inr ⟨hn h2.2,fun r q=> RowG.not1 this r q⟩
theorem RowV.of {l:List UInt8} {q:Option Rw} {r:Rw} (h:DecP l q) (hq:q=some r∨q=none∧r=[]):RowV r:=by
 rcases hq with rfl | ⟨rfl,rfl⟩
 · exact h.1
 · exact fun v hv=> nomatch hv
theorem TakeS.len {o o2:Option (List UInt8)} {n:Int} {x:List UInt8} (h:TakeS o n x o2) {N:Nat} (ho:∀l,o=some l→l.length < N) (h0:0 < N):x.length < N:=by
 cases o with
 | none=> rw [h.1];exact h0
 | some l=>
  rcases h with ⟨k, -,hk,rfl, -⟩ | ⟨-,rfl, -⟩
  · rw [List.length_take]
    have:=ho l rfl
    omega
  · exact h0
theorem NumS.len {o o2:Option (List UInt8)} {n:Int} (h:NumS o n o2) {N:Nat} (ho:∀l,o=some l→l.length < N):∀l,o2=some l→l.length < N:=by
 rintro m rfl
 cases o with
 | none=> cases h
 | some l=>
  rcases h with ⟨m',g,e⟩ | ⟨e, -⟩
  · obtain rfl:=Option.some.inj e
    have:=g.len
    have:=ho l rfl
    omega
  · cases e
theorem RowS2.len {o o2:Option (List UInt8)} {r:Rw} (h:RowS2 o r o2) {N:Nat} (ho:∀l,o=some l→l.length < N):∀l,o2=some l→l.length < N:=by
 rintro m rfl
 cases o with
 | none=> cases h
 | some l=>
  rcases h with ⟨m',g,e⟩ | ⟨e, -⟩
  · obtain rfl:=Option.some.inj e
    have:=g.2.2
    have h2:=ho l rfl
    rw [this,List.length_append] at h2
    omega
  · cases e
set_option maxHeartbeats 4000000 in
set_option maxRecDepth 20000 in
theorem rdRow_calls (p:Nat) (v:Value) (o:Option (List UInt8)) (ho:∀l,o=some l→l.length < 1099511627776) (w0 w:World) (fp0:List Nat) (R B:List Asn) (hB:∃M,R=M++B) (hS:St w0 fp0 (rdrA p 126 v o::R) w) (hR:RdrP w0 fp0 B v o):
 Calls Tryz.prog 65 #[.pointer (some ⟨p,0,none⟩)] w fun e w'=> RowP w0 fp0 R B p 126 o e w':=by
 have HT:=Lib.hid (rdNumber_calls p v o w0 w fp0 R B hB hS hR)
 obtain ⟨M,hB⟩:=hB
 have HO:=Lib.hid ho
 clear hS hR ho
 go_enter Tryz.func65,Tryz.ntmps65
 go_wp2_with fail
 (with_reducible refine HT.out.mono ?_)
 rintro e w1 ⟨n,v1,o1,rfl,hi,h1,h2,h3⟩
 have HT2:=Lib.hid (take_callsP p v1 o1 n hi w0 w1 fp0 R B h1 h2)
 have H3:=Lib.hid h3
 clear HT hi h1 h2 h3
 go_wp2_with fail
 (with_reducible refine HT2.out.mono ?_)
 rintro e w2 ⟨u,v2,o2,x,rfl,h1,h2,h3,h4,h5⟩
 have h3:BytesX [] w2 x u:=by
  rw [hB] at h1
  exact h3 (_::M) w2 h1
 have HD:=Lib.hid (decodeRow_calls x u (h4.len (H3.out.len HO.out) (by decide)) w2 h3)
 have H1:=Lib.hid h1
 have H2:=Lib.hid h2
 have H4:=Lib.hid h4
 clear HT2 h1 h2 h3 h4 h5
 go_wp2_with fail
 (with_reducible refine HD.out.mono ?_)
 rintro e w3 ⟨q,rv,r,rfl,h1,h2,h3,ra,rn,rc,rfl⟩
 clear HD
 have hs:=(newB H1.out h1).perm (List.Perm.swap _ _ _)
 obtain ⟨_,hp⟩:=hs.has 0 rfl
 have c1:=(blk_get hp).1 1
 have cl:=(blk_get hp).2.2
 simp only [List.getElem?_toArray,List.getElem?_cons_zero,List.getElem?_cons_succ] at c1
 have f1:=(blk_get hp).2.1 1
 have HR:=Lib.hid (RowS2.of H3.out H4.out h2 h3)
 have HV:=Lib.hid (RowV.of h2 h3)
 have HSET:=Lib.hid (fun i hi u=> St.setB hs i hi u)
 cases q with
 | none=>
  have HF:RowKit.Hid (RowP w0 fp0 R B p 126 o (.returned (.slice ra rn rc)) (w3.setCell ⟨p,1,none⟩ (.bool true))):=⟨_,r,v2,none,rfl,HSET.out 1 (by simp) _,trivial,HR.out,HV.out,_,_,_,rfl⟩
  clear H1 H2 H3 H4 HR HV HSET hs h1 h2 h3 hp
  cases o2 with
  | none=>
   have c1:w3.cell? ⟨p,1,none⟩=some (.bool true):=c1
   go_wp2
   go_ret
   exact HF.out
  | some l=>
   have c1:w3.cell? ⟨p,1,none⟩=some (.bool false):=c1
   go_wp2
   go_ret
   exact HF.out
 | some r'=>
  have HF:RowKit.Hid (RowP w0 fp0 R B p 126 o (.returned (.slice ra rn rc)) (w3.setCell ⟨p,1,none⟩ (.bool o2.isNone))):=⟨_,r,v2,o2,rfl,HSET.out 1 (by simp) _,H2.out,HR.out,HV.out,_,_,_,rfl⟩
  clear H1 H2 H3 H4 HR HV HSET hs h1 h2 h3 hp
  cases o2 with
  | none=>
   have c1:w3.cell? ⟨p,1,none⟩=some (.bool true):=c1
   go_wp2
   go_ret
   exact HF.out
  | some l=>
   have c1:w3.cell? ⟨p,1,none⟩=some (.bool false):=c1
   go_wp2
   go_ret
   exact HF.out
set_option maxHeartbeats 4000000 in
set_option maxRecDepth 20000 in
theorem RdRow_calls (p:Nat) (v:Value) (o:Option (List UInt8)) (ho:∀l,o=some l→l.length < 1099511627776) (w0 w:World) (fp0:List Nat) (R B:List Asn) (hB:∃M,R=M++B) (hS:St w0 fp0 (rdrA p 130 v o::R) w) (hR:RdrP w0 fp0 B v o):
 Calls Tryz.prog 67 #[.pointer (some ⟨p,0,none⟩)] w fun e w'=> RowP w0 fp0 R B p 130 o e w':=by
 have HT:=Lib.hid (RdNumber_calls p v o w0 w fp0 R B hB hS hR)
 obtain ⟨M,hB⟩:=hB
 have HO:=Lib.hid ho
 clear hS hR ho
 go_enter Tryz.func67,Tryz.ntmps67
 go_wp2_with fail
 (with_reducible refine HT.out.mono ?_)
 rintro e w1 ⟨n,v1,o1,rfl,hi,h1,h2,h3⟩
 have HT2:=Lib.hid (take_callsR p v1 o1 n hi w0 w1 fp0 R B h1 h2)
 have H3:=Lib.hid h3
 clear HT hi h1 h2 h3
 go_wp2_with fail
 (with_reducible refine HT2.out.mono ?_)
 rintro e w2 ⟨u,v2,o2,x,rfl,h1,h2,h3,h4,h5⟩
 have h3:BytesX [] w2 x u:=by
  rw [hB] at h1
  exact h3 (_::M) w2 h1
 have HD:=Lib.hid (rdecode_calls x u (h4.len (H3.out.len HO.out) (by decide)) w2 h3 h5)
 have H1:=Lib.hid h1
 have H2:=Lib.hid h2
 have H4:=Lib.hid h4
 clear HT2 h1 h2 h3 h4 h5
 go_wp2_with fail
 (with_reducible refine HD.out.mono ?_)
 rintro e w3 ⟨q,rv,r,rfl,h1,h2,h3,ra,rn,rc,rfl⟩
 clear HD
 have hs:=(newB H1.out h1).perm (List.Perm.swap _ _ _)
 obtain ⟨_,hp⟩:=hs.has 0 rfl
 have c1:=(blk_get hp).1 1
 have cl:=(blk_get hp).2.2
 simp only [List.getElem?_toArray,List.getElem?_cons_zero,List.getElem?_cons_succ] at c1
 have f1:=(blk_get hp).2.1 1
 have HR:=Lib.hid (RowS2.of H3.out H4.out h2 h3)
 have HV:=Lib.hid (RowV.of h2 h3)
 have HSET:=Lib.hid (fun i hi u=> St.setB hs i hi u)
 cases q with
 | none=>
  have HF:RowKit.Hid (RowP w0 fp0 R B p 130 o (.returned (.slice ra rn rc)) (w3.setCell ⟨p,1,none⟩ (.bool true))):=⟨_,r,v2,none,rfl,HSET.out 1 (by simp) _,trivial,HR.out,HV.out,_,_,_,rfl⟩
  clear H1 H2 H3 H4 HR HV HSET hs h1 h2 h3 hp
  cases o2 with
  | none=>
   have c1:w3.cell? ⟨p,1,none⟩=some (.bool true):=c1
   go_wp2
   go_ret
   exact HF.out
  | some l=>
   have c1:w3.cell? ⟨p,1,none⟩=some (.bool false):=c1
   go_wp2
   go_ret
   exact HF.out
 | some r'=>
  have HF:RowKit.Hid (RowP w0 fp0 R B p 130 o (.returned (.slice ra rn rc)) (w3.setCell ⟨p,1,none⟩ (.bool o2.isNone))):=⟨_,r,v2,o2,rfl,HSET.out 1 (by simp) _,H2.out,HR.out,HV.out,_,_,_,rfl⟩
  clear H1 H2 H3 H4 HR HV HSET hs h1 h2 h3 hp
  cases o2 with
  | none=>
   have c1:w3.cell? ⟨p,1,none⟩=some (.bool true):=c1
   go_wp2
   go_ret
   exact HF.out
  | some l=>
   have c1:w3.cell? ⟨p,1,none⟩=some (.bool false):=c1
   go_wp2
   go_ret
   exact HF.out
/- slices.Clone of columns, of lists of integers, of foreign keys. -/
theorem appCL:AppSrc Tryz.prog 84 84 146 6:=appSrc (z:=.agg #[.string ⟨#[]⟩, .int .i64 0, .int .i64 0, .int .i64 0, .int .i64 0, .bool false]) (bytes:=56) (by kernel_rfl) (by kernel_rfl) rfl (by decide) (by decide)
set_option maxHeartbeats 1000000 in
theorem cloneCL (xs:List Value) (n:Nat) (v:Value) (w:World) (hs:SlX [] w 6 n xs v) (h1:∀u∈xs,u.oneCell'=true) (hlen:n < 1099511627776):
 Calls Tryz.prog 108 #[v] w fun e w'=> ∃v' f',e=.returned v'∧(rowA 146 6 v' n xs).p w' f'∧Below w.heap.size w w'∧∀k∈f',w.heap.size≤k:=by
 rcases hs.cases (by decide) with ⟨c,rfl,rfl,rfl⟩ | ⟨ad,c,rfl⟩
 · have hnil:=fun w'=> Lib.run_eql_slice_nil (P:=Tryz.prog) w' 84 146 none 0 c 0 0 Tryz.underlying84
   simp only [Option.isNone_none] at hnil
   clear hs hlen h1
   go_enter Tryz.func108,Tryz.ntmps108
   go_wp2
   go_ret
   exact ⟨_,[],rfl,row_nil _ _ _,Below.refl _ _,by simp⟩
 · have hb0:Below w.heap.size w (w.alloc (.cells #[] 146)):=(Below.refl _ _).alloc (Nat.le_refl _) _
   have hrow:(rowA 146 6 (.slice (some ⟨w.heap.size,0,none⟩) 0 0) 0 []).p (w.alloc (.cells #[] 146)) [w.heap.size]:=by
    have h:=World.ownsRow_lit (base:=0) (e:=146) (size:=6) w #[] 0 (Nat.zero_le _) (by simp) (by simp)
    exact ⟨h,rfl⟩
   obtain ⟨v',w',f',hr,h2,h3⟩:=appCL 84 _ _ 0 [] _ _ _ _ hrow ((hs.mono hb0).src (tx:=84) (e':=146) (by kernel_rfl) (by decide) h1) (by omega)
   rw [Nat.zero_add,List.nil_append] at h2
   have hb:Below w.heap.size w w':=hb0.trans (h3.below (by simp) (by simp))
   have HO:RowKit.Hid ((rowA 146 6 v' n xs).p w' f'∧Below w.heap.size w w'∧∀k∈f',w.heap.size≤k):=by
    refine ⟨h2,hb,fun k hk=> ?_⟩
    rcases h3.new k hk with h | h
    · rw [List.mem_singleton.1 h];exact Nat.le_refl _
    · have:=hb0.size;omega
   have hnil:=fun w'=> Lib.run_eql_slice_nil (P:=Tryz.prog) w' 84 146 (some ad) n c 0 0 Tryz.underlying84
   simp only [Option.isNone_some] at hnil
   have HR:=Lib.hid hr
   clear hs hrow h2 h3 hb hb0 hr
   go_enter Tryz.func108,Tryz.ntmps108
   go_wp2_with (at_builtin;refine wpList_append_run rfl _ _ _ rfl rfl rfl HR.out ?_)
   go_ret
   exact ⟨_,_,rfl,HO.out⟩
theorem appJS:AppSrc Tryz.prog 85 85 90 1:=appSrc (z:=.slice none 0 0) (bytes:=24) (by kernel_rfl) (by kernel_rfl) rfl (by decide) (by decide)
set_option maxHeartbeats 1000000 in
theorem cloneJS (xs:List Value) (n:Nat) (v:Value) (w:World) (hs:SlX [] w 1 n xs v) (h1:∀u∈xs,u.oneCell'=true) (hlen:n < 1099511627776):
 Calls Tryz.prog 109 #[v] w fun e w'=> ∃v' f',e=.returned v'∧(rowA 90 1 v' n xs).p w' f'∧Below w.heap.size w w'∧∀k∈f',w.heap.size≤k:=by
 rcases hs.cases (by decide) with ⟨c,rfl,rfl,rfl⟩ | ⟨ad,c,rfl⟩
 · have hnil:=fun w'=> Lib.run_eql_slice_nil (P:=Tryz.prog) w' 85 90 none 0 c 0 0 Tryz.underlying85
   simp only [Option.isNone_none] at hnil
   clear hs hlen h1
   go_enter Tryz.func109,Tryz.ntmps109
   go_wp2
   go_ret
   exact ⟨_,[],rfl,row_nil _ _ _,Below.refl _ _,by simp⟩
 · have hb0:Below w.heap.size w (w.alloc (.cells #[] 90)):=(Below.refl _ _).alloc (Nat.le_refl _) _
   have hrow:(rowA 90 1 (.slice (some ⟨w.heap.size,0,none⟩) 0 0) 0 []).p (w.alloc (.cells #[] 90)) [w.heap.size]:=by
    have h:=World.ownsRow_lit (base:=0) (e:=90) (size:=1) w #[] 0 (Nat.zero_le _) (by simp) (by simp)
    exact ⟨h,rfl⟩
   obtain ⟨v',w',f',hr,h2,h3⟩:=appJS 85 _ _ 0 [] _ _ _ _ hrow ((hs.mono hb0).src (tx:=85) (e':=90) (by kernel_rfl) (by decide) h1) (by omega)
   rw [Nat.zero_add,List.nil_append] at h2
   have hb:Below w.heap.size w w':=hb0.trans (h3.below (by simp) (by simp))
   have HO:RowKit.Hid ((rowA 90 1 v' n xs).p w' f'∧Below w.heap.size w w'∧∀k∈f',w.heap.size≤k):=by
    refine ⟨h2,hb,fun k hk=> ?_⟩
    rcases h3.new k hk with h | h
    · rw [List.mem_singleton.1 h];exact Nat.le_refl _
    · have:=hb0.size;omega
   have hnil:=fun w'=> Lib.run_eql_slice_nil (P:=Tryz.prog) w' 85 90 (some ad) n c 0 0 Tryz.underlying85
   simp only [Option.isNone_some] at hnil
   have HR:=Lib.hid hr
   clear hs hrow h2 h3 hb hb0 hr
   go_enter Tryz.func109,Tryz.ntmps109
   go_wp2_with (at_builtin;refine wpList_append_run rfl _ _ _ rfl rfl rfl HR.out ?_)
   go_ret
   exact ⟨_,_,rfl,HO.out⟩
theorem appFO:AppSrc Tryz.prog 86 86 92 3:=appSrc (z:=.agg #[.slice none 0 0, .int .i64 0, .int .i64 0]) (bytes:=40) (by kernel_rfl) (by kernel_rfl) rfl (by decide) (by decide)
set_option maxHeartbeats 1000000 in
theorem cloneFO (xs:List Value) (n:Nat) (v:Value) (w:World) (hs:SlX [] w 3 n xs v) (h1:∀u∈xs,u.oneCell'=true) (hlen:n < 1099511627776):
 Calls Tryz.prog 111 #[v] w fun e w'=> ∃v' f',e=.returned v'∧(rowA 92 3 v' n xs).p w' f'∧Below w.heap.size w w'∧∀k∈f',w.heap.size≤k:=by
 rcases hs.cases (by decide) with ⟨c,rfl,rfl,rfl⟩ | ⟨ad,c,rfl⟩
 · have hnil:=fun w'=> Lib.run_eql_slice_nil (P:=Tryz.prog) w' 86 92 none 0 c 0 0 Tryz.underlying86
   simp only [Option.isNone_none] at hnil
   clear hs hlen h1
   go_enter Tryz.func111,Tryz.ntmps111
   go_wp2
   go_ret
   exact ⟨_,[],rfl,row_nil _ _ _,Below.refl _ _,by simp⟩
 · have hb0:Below w.heap.size w (w.alloc (.cells #[] 92)):=(Below.refl _ _).alloc (Nat.le_refl _) _
   have hrow:(rowA 92 3 (.slice (some ⟨w.heap.size,0,none⟩) 0 0) 0 []).p (w.alloc (.cells #[] 92)) [w.heap.size]:=by
    have h:=World.ownsRow_lit (base:=0) (e:=92) (size:=3) w #[] 0 (Nat.zero_le _) (by simp) (by simp)
    exact ⟨h,rfl⟩
   obtain ⟨v',w',f',hr,h2,h3⟩:=appFO 86 _ _ 0 [] _ _ _ _ hrow ((hs.mono hb0).src (tx:=86) (e':=92) (by kernel_rfl) (by decide) h1) (by omega)
   rw [Nat.zero_add,List.nil_append] at h2
   have hb:Below w.heap.size w w':=hb0.trans (h3.below (by simp) (by simp))
   have HO:RowKit.Hid ((rowA 92 3 v' n xs).p w' f'∧Below w.heap.size w w'∧∀k∈f',w.heap.size≤k):=by
    refine ⟨h2,hb,fun k hk=> ?_⟩
    rcases h3.new k hk with h | h
    · rw [List.mem_singleton.1 h];exact Nat.le_refl _
    · have:=hb0.size;omega
   have hnil:=fun w'=> Lib.run_eql_slice_nil (P:=Tryz.prog) w' 86 92 (some ad) n c 0 0 Tryz.underlying86
   simp only [Option.isNone_some] at hnil
   have HR:=Lib.hid hr
   clear hs hrow h2 h3 hb hb0 hr
   go_enter Tryz.func111,Tryz.ntmps111
   go_wp2_with (at_builtin;refine wpList_append_run rfl _ _ _ rfl rfl rfl HR.out ?_)
   go_ret
   exact ⟨_,_,rfl,HO.out⟩
end Go.Proofs.YtpdlkdoogojboaaGreat
