/- Part 10 of the proof: Ry, Tb, Fr, Fs, Pl, Pm, Pn, Py, Ta, Rn, Awk, Lx -/
import Derived.Test.YtnefkkidfhmggaaGreatV09
import Derived.Test.YtnefkkidfhmggaaGreatV08
import Derived.Test.YtnefkkidfhmggaaGreatV07
set_option maxHeartbeats 16000000
set_option maxRecDepth 100000
namespace Go.Proofs.YtnefkkidfhmggaaGreat
open Go Go.RowKit
noncomputable section
section
attribute [local go_sem] run_storeF
def rgCol (b4 b5 b6 b9:Nat):Value:=.func (.func 56) #[] #[.pointer (some ⟨b4,0,none⟩), .pointer (some ⟨b5,0,none⟩), .pointer (some ⟨b6,0,none⟩), .pointer (some ⟨b9,0,none⟩)]
theorem Range_store (S:Nat) (c:Int) (low high:Vl) (w0 w:World) (fp0:List Nat) (R:List Asn) (hS:St w0 fp0 R w):
 Calls Tryz.prog 17 #[ptrV S, .int .i64 c,low.val,high.val] w λ e w'=> ∃cb b4 b5 b6 b7 b9,e=.returned (allF cb)/\St w0 fp0 (blkA cb 109 #[rgCol b4 b5 b6 b9]::(rgL b4 b9 b5 b6 b7 S++(rgX b5 b6 b7 c low high++R))) w':=by
 obtain ⟨lk,li,lt⟩:=low;obtain ⟨hk,hi,ht⟩:=high;unfold Vl.val;have HS0:Hid (St w0 fp0 (blkA (w.heap.size+1+1+1) 29 #[.int .i64 hk, .int .i64 hi, .string ht]::blkA (w.heap.size+1+1) 29 #[.int .i64 lk, .int .i64 li, .string lt]::blkA (w.heap.size+1) 3 #[.int .i64 c]::blkA w.heap.size 34 #[ptrV S]::R) ((((w.alloc (.cells #[ptrV S] 34)).alloc (.cells #[.int .i64 c] 3)).alloc (.cells #[.int .i64 lk, .int .i64 li, .string lt] 29)).alloc (.cells #[.int .i64 hk, .int .i64 hi, .string ht] 29))):=by have h1:=(((hS.newblk 34 #[ptrV S]).newblk 3 #[.int .i64 c]).newblk 29 #[.int .i64 lk, .int .i64 li, .string lt]).newblk 29 #[.int .i64 hk, .int .i64 hi, .string ht];simp only [World.size_alloc] at h1;exact h1
 clear hS;unfold ptrV at HS0 ⊢;go_enter Tryz.func17,Tryz.ntmps17;go_upto_region 1 with (fail)
 obtain ⟨W0,hW0⟩:∃W0,(((w.alloc (.cells #[.pointer (some ⟨S,0,none⟩)] 34)).alloc (.cells #[.int .i64 c] 3)).alloc (.cells #[.int .i64 lk, .int .i64 li, .string lt] 29)).alloc (.cells #[.int .i64 hk, .int .i64 hi, .string ht] 29)=W0:=⟨_,rfl⟩
 rw [hW0] at HS0 ⊢;clear hW0;obtain ⟨b4,hb4⟩:∃b4,w.heap.size=b4:=⟨_,rfl⟩
 rw [hb4] at HS0 ⊢;clear hb4;obtain ⟨b7,hb7⟩:∃b7,b4+1+1+1=b7:=⟨_,rfl⟩
 rw [hb7] at HS0 ⊢;obtain ⟨b6,hb6⟩:∃b6,b4+1+1=b6:=⟨_,rfl⟩
 rw [hb6] at HS0 ⊢;obtain ⟨b5,hb5⟩:∃b5,b4+1=b5:=⟨_,rfl⟩
 rw [hb5] at HS0 ⊢;clear hb5 hb6 hb7;obtain ⟨V0,V1,V2⟩:=VarIs.new W0 #[.nilFunc] 88;go_upto_region 2 with (fail)
 clear V0 V1 V2;have HS1:=Lib.hid (HS0.out.newblk 88 #[rgF b5 b6 b7]);obtain ⟨W1,hW1⟩:∃W1,W0.alloc (.cells #[rgF b5 b6 b7] 88)=W1:=⟨_,rfl⟩
 rw [hW1] at HS1;unfold rgF at hW1;rw [hW1];clear hW1 HS0;generalize W0.heap.size=b9 at *;have HE:=Lib.hid (each_calls (rgCol b4 b5 b6 b9) rfl ⟨_,_,rfl⟩ w0 W1 fp0 _ HS1.out);clear HS1;unfold rgCol at HE;go_wp2_with fail;(with_reducible refine HE.out.mono ?_);rintro e W5 ⟨cb,rfl,h5⟩;have H5:Hid (St w0 fp0 (blkA cb 109 #[rgCol b4 b5 b6 b9]::(rgL b4 b9 b5 b6 b7 S++(rgX b5 b6 b7 c ⟨lk,li,lt⟩ ⟨hk,hi,ht⟩++R))) W5):=h5.perm (by
  unfold rgL rgX rgCol
  classical refine List.perm_iff_count.2 λ a=> ?_;simp only [vlA,ptrV,List.cons_append,List.nil_append,List.count_cons];omega)
 clear h5 HE;unfold allF;go_wp2;go_ret;exact ⟨cb,b4,b5,b6,b7,b9,rfl,H5.out⟩
section
variable {S cols:Nat} {I:List (List Int)} {L:LL} {next:Int} {s:Sto}
theorem perm2 {A B C:List Asn}:(A++(B++C)).Perm (B++(A++C)):=by
 classical refine List.perm_iff_count.2 λ a=> ?_;simp only [List.count_append];omega
theorem lk_seq (hok:s.Ok cols I L next) (hc:cols<=1000000) (hlen:L.length+1 < 1099511627776) (b8 b3 b4 b7 b5 cb:Nat) (cv vv:Value) (nn:Bool) {cs:List Int} {vals:Rw} (hk:nn=false->LkOk cols cs vals) (hx:RowS vals) (hvl:vals.length<=100000) (n:Nat):
 SeqG n Tryz.prog 84 #[.pointer (some ⟨cb,0,none⟩)] 2 itG (λ W=> ∀x∈lkIts nn cs vals s,ValsAt W x.r x.v) (lkIts nn cs vals s) (blkA cb 109 #[lkCol b8 b3 b4 b7 b5]::(lkB b8 b3 b7 b4 b5 S nn++(stoL S s++lkX b4 b5 cv vv cs vals))):=
 have hes:s.es.length=L.length:=by rw [<-hok.rows,reL,List.length_map]
 each1_seq 46 _ cb _ _ (enters_own Tryz.func46 (by kernel_rfl) rfl) (by
  cases nn with
  | true=> show 0 < _;omega
  | false=> exact Nat.lt_of_le_of_lt (somL_len _ _) (by omega)) (by
  cases nn with
  | true=> intro x hx;cases hx
  | false=> exact somL_len2 hok hc) (λ w0 fp0 R w hs=> by
  have h1:St w0 fp0 (blkA b8 4 #[.bool nn]::blkA b3 34 #[ptrV S]::blkA b7 88 #[isV b4 b5]::(stoL S s++(lkX b4 b5 cv vv cs vals++(blkA cb 109 #[lkCol b8 b3 b4 b7 b5]::R)))) w:=hs.perm (by
   unfold lkB;show List.Perm (blkA cb 109 #[lkCol b8 b3 b4 b7 b5]::_) _
   classical refine List.perm_iff_count.2 λ a=> ?_;simp only [List.cons_append,List.nil_append,List.count_append,List.count_cons];omega)
  refine (lookup4_calls hok b8 b3 b4 b7 b5 cv vv nn hk hx hvl hlen w0 w fp0 _ h1).mono ?_;rintro e w' ⟨v,rfl,h2⟩;refine ⟨v,rfl,h2.perm ?_⟩;unfold lkB;show List.Perm _ (_::blkA cb 109 #[lkCol b8 b3 b4 b7 b5]::_)
  classical refine List.perm_iff_count.2 λ a=> ?_;simp only [List.cons_append,List.nil_append,List.count_append,List.count_cons];omega) n
theorem rg_seq (hok:s.Ok cols I L next) (hcm:cols<=1000000) (b4 b5 b6 b7 b9 cb c:Nat) (low high:Vl) (hc:c < cols) (hlv:okV low=true) (hli:I64 low.int) (hlen:L.length+1 < 1099511627776) (x:Ix) (hx:findIx s.ixs [(c:Int)]=some x)
 (ess:List Re) (hess:entM (ixK x.cs) ess=selM (some (.str (textOf (encL low)))) none x.km) (hem:∀e∈ess,e∈s.es) (hel:ess.length<=L.length) (n:Nat):
 SeqG n Tryz.prog 84 #[.pointer (some ⟨cb,0,none⟩)] 2 itG (λ W=> ∀x∈somL (rgP c low high) ess,ValsAt W x.r x.v) (somL (rgP c low high) ess) (blkA cb 109 #[rgCol b4 b5 b6 b9]::(rgL b4 b9 b5 b6 b7 S++(stoL S s++rgX b5 b6 b7 c low high))):=
 each1_seq 56 _ cb _ _ (enters_own Tryz.func56 (by kernel_rfl) rfl) (Nat.lt_of_le_of_lt (somL_len _ _) (by omega)) (λ y hy=> by
  obtain ⟨e,he, -,rfl⟩:=somL_row hy;have hm:(e.id,e.r)∈L:=by rw [<-hok.rows];exact List.mem_map.2 ⟨_,hem e he,rfl⟩
  have:e.r.length=cols:=(hok.row _ hm).2.2.1;show e.r.length < _;omega) (λ w0 fp0 R w hs=> by
  have h1:St w0 fp0 (rgL b4 b9 b5 b6 b7 S++(stoL S s++(rgX b5 b6 b7 c low high++(blkA cb 109 #[rgCol b4 b5 b6 b9]::R)))) w:=hs.perm (by
   show List.Perm (blkA cb 109 #[rgCol b4 b5 b6 b9]::_) _
   classical refine List.perm_iff_count.2 λ a=> ?_;simp only [List.count_append,List.count_cons];omega)
  refine (range2_calls hok b4 b5 b6 b7 b9 c low high hc hlv hli hlen x hx ess hess hem w0 w fp0 _ h1).mono ?_;rintro e w' ⟨v,rfl,h2⟩;refine ⟨v,rfl,h2.perm ?_⟩;show List.Perm _ (_::blkA cb 109 #[rgCol b4 b5 b6 b9]::_)
  classical refine List.perm_iff_count.2 λ a=> ?_;simp only [List.count_append,List.count_cons];omega) n
end
end
theorem number39_calls (n:Int) (w:World):Calls Tryz.prog 18 #[.int .i64 n] w λ e w'=> e=.returned (Vl.val ⟨1,n,⟨#[]⟩⟩)/\Below w.heap.size w w':=by
 have HB:=Lib.hid ((Below.refl _ w).alloc (Nat.le_refl _) (.cells #[.int .i64 1, .int .i64 n, .string ⟨#[]⟩] 29));obtain ⟨V0,V1,V2⟩:=VarIs.new w #[.int .i64 0, .int .i64 0, .string ⟨#[]⟩] 29;unfold Vl.val;go_enter Tryz.func18,Tryz.ntmps18;go_wp2;refine bodyPost_ret (v:=.agg #[.int .i64 1, .int .i64 n, .string ⟨#[]⟩]) (by simp [results,Tryz.results18,go_sem]) rfl ?_;exact ⟨rfl,HB.out⟩
theorem text39_calls (s:ByteArray) (w:World):Calls Tryz.prog 25 #[.string s] w λ e w'=> e=.returned (Vl.val ⟨2,0,s⟩)/\Below w.heap.size w w':=by
 have HB:=Lib.hid ((Below.refl _ w).alloc (Nat.le_refl _) (.cells #[.int .i64 2, .int .i64 0, .string s] 29));obtain ⟨V0,V1,V2⟩:=VarIs.new w #[.int .i64 0, .int .i64 0, .string ⟨#[]⟩] 29;unfold Vl.val;go_enter Tryz.func25,Tryz.ntmps25;go_wp2;refine bodyPost_ret (v:=.agg #[.int .i64 2, .int .i64 0, .string s]) (by simp [results,Tryz.results25,go_sem]) rfl ?_;exact ⟨rfl,HB.out⟩
theorem appCol:AppSrc Tryz.prog 70 70 131 6:=appSrc (z:=.agg #[.string ⟨#[]⟩, .int .i64 0, .int .i64 0, .int .i64 0, .int .i64 0, .bool false]) (bytes:=56) (by kernel_rfl) (by kernel_rfl) rfl (by decide) (by decide)
def col1:List Value:=[.string ⟨#[99]⟩, .int .i64 1, .int .i64 0, .int .i64 0, .int .i64 0, .bool false]
def colsV:Nat->List Value
 | 0=> []
 | k+1=> colsV k++col1
theorem table_calls (n:Nat) (ka fa:Option Addr) (kn kc fn fc:Nat) (hn:n<=1000) (w0 w:World) (fp0:List Nat) (R:List Asn) (hS:St w0 fp0 R w):
 Calls Tryz.prog 27 #[.int .i64 n, .slice ka kn kc, .slice fa fn fc] w λ e w'=> ∃ca cc kb fb,e=.returned (.agg #[.string ⟨#[116]⟩, .slice ca n cc, .slice (some ⟨kb,0,none⟩) 1 1, .slice (some ⟨fb,0,none⟩) 1 1, .slice none 0 0])/\
  St w0 fp0 (blkA kb 22 #[.slice ka kn kc]::blkA fb 129 #[.slice fa fn fc, .int .i64 0, .int .i64 0]::R) w':=by
 have HS:=Lib.hid hS;clear hS;go_enter Tryz.func27,Tryz.ntmps27;go_upto_region 3 with (fail)
 have HS1:Hid (St w0 fp0 (blkA (w.heap.size+1+1+1) 75 #[.string ⟨#[116]⟩, .slice none 0 0, .slice (some ⟨w.heap.size+1,0,none⟩) 1 1, .slice (some ⟨w.heap.size+1+1,0,none⟩) 1 1, .slice none 0 0]::rowA 131 6 (.slice none 0 0) 0 (colsV 0)::blkA w.heap.size 75 #[.string ⟨#[]⟩, .slice none 0 0, .slice none 0 0, .slice none 0 0, .slice none 0 0]::blkA (w.heap.size+1) 22 #[.slice ka kn kc]::blkA (w.heap.size+1+1) 129 #[.slice fa fn fc, .int .i64 0, .int .i64 0]::R)
  ((((w.alloc (.cells #[.string ⟨#[]⟩, .slice none 0 0, .slice none 0 0, .slice none 0 0, .slice none 0 0] 75)).alloc (.cells #[.slice ka kn kc] 22)).alloc (.cells #[.slice fa fn fc, .int .i64 0, .int .i64 0] 129)).alloc (.cells #[.string ⟨#[116]⟩, .slice none 0 0, .slice (some ⟨w.heap.size+1,0,none⟩) 1 1, .slice (some ⟨w.heap.size+1+1,0,none⟩) 1 1, .slice none 0 0] 75))):=by
  have h1:=((((HS.out.newblk 75 #[.string ⟨#[]⟩, .slice none 0 0, .slice none 0 0, .slice none 0 0, .slice none 0 0]).newblk 22 #[.slice ka kn kc]).newblk 129 #[.slice fa fn fc, .int .i64 0, .int .i64 0]).newblk 75 #[.string ⟨#[116]⟩, .slice none 0 0, .slice (some ⟨w.heap.size+1,0,none⟩) 1 1, .slice (some ⟨w.heap.size+1+1,0,none⟩) 1 1, .slice none 0 0]).nilR 131 6;simp only [World.size_alloc] at h1;refine h1.perm ?_
  classical refine List.perm_iff_count.2 λ a=> ?_;simp only [List.count_cons,colsV];omega
 generalize hWW:(((w.alloc _).alloc _).alloc _).alloc _=W0 at *;clear hWW HS;obtain ⟨b6,hb6⟩:∃b6,w.heap.size=b6:=⟨_,rfl⟩
 rw [hb6] at HS1 ⊢;clear hb6;generalize b6+1+1+1=b7 at *;generalize b6+1+1=fb at *;generalize b6+1=kb at *;go_loopg [15] n (λ g z wr=> ∃k:Nat,z=.int .i64 k/\g+k=n/\Hid (∃ca cc,St w0 fp0 (blkA b7 75 #[.string ⟨#[116]⟩, .slice ca k cc, .slice (some ⟨kb,0,none⟩) 1 1, .slice (some ⟨fb,0,none⟩) 1 1, .slice none 0 0]::rowA 131 6 (.slice ca k cc) k (colsV k)::blkA b6 75 #[.string ⟨#[]⟩, .slice none 0 0, .slice none 0 0, .slice none 0 0, .slice none 0 0]::blkA kb 22 #[.slice ka kn kc]::blkA fb 129 #[.slice fa fn fc, .int .i64 0, .int .i64 0]::R) wr))
 case atStart=> exact ⟨0,rfl,rfl,none,0,HS1.out⟩
 case round=>
  clear HS1;obtain ⟨k,rfl,hgk,Hr⟩:=hrel;obtain ⟨ca,cc,hs⟩:=Hr.out;obtain ⟨_,hb⟩:=hs.has 0 rfl;have t0:=(blk_get hb).1 0;have t1:=(blk_get hb).1 1;have t2:=(blk_get hb).1 2;have t3:=(blk_get hb).1 3;have t4:=(blk_get hb).1 4;have tf:=(blk_get hb).2.1;have tl:=(blk_get hb).2.2;simp only [List.getElem?_toArray,List.getElem?_cons_zero,List.getElem?_cons_succ] at t0 t1 t2 t3 t4;have Hs:=Lib.hid hs;have Hgk:=Lib.hid hgk;clear Hr hs hb hgk;by_cases hk:k < n
  · have hk':(k:Int) < n:=by omega
    go_upto_region 5 with (first
     | (at_builtin;refine wpList_appR rfl _ _ _ _ rfl rfl rfl appCol ((Hs.out.perm (List.Perm.swap _ _ _)).mono ((Below.refl _ _).alloc (Nat.le_refl _) _)) (src_litk (e':=131) (by kernel_rfl) _ 6 _ 1 1 _ _ #[.string ⟨#[99]⟩, .int .i64 1, .int .i64 0, .int .i64 0, .int .i64 0, .bool false] (heap_alloc_new _ _) rfl (by decide)) (by omega) ?_;intro v1 w1 h1
        obtain ⟨_,hb⟩:=h1.out.has 1 rfl;obtain ⟨_,hr1⟩:=h1.out.has 0 rfl;obtain ⟨va,vc,hv1, -⟩:=row_shape hr1;subst hv1;clear t0 t1 t2 t3 t4 tf tl;have t1:=(blk_get hb).1 1;have tf:=(blk_get hb).2.1 1;have tl:=(blk_get hb).2.2;simp only [List.getElem?_toArray,List.getElem?_cons_zero,List.getElem?_cons_succ] at t1;clear hb hr1))
    have HS2:Hid (∃ca cc,St w0 fp0 (blkA b7 75 #[.string ⟨#[116]⟩, .slice ca (k+1:Nat) cc, .slice (some ⟨kb,0,none⟩) 1 1, .slice (some ⟨fb,0,none⟩) 1 1, .slice none 0 0]::rowA 131 6 (.slice ca (k+1:Nat) cc) (k+1) (colsV (k+1))::blkA b6 75 #[.string ⟨#[]⟩, .slice none 0 0, .slice none 0 0, .slice none 0 0, .slice none 0 0]::blkA kb 22 #[.slice ka kn kc]::blkA fb 129 #[.slice fa fn fc, .int .i64 0, .int .i64 0]::R) (w1.setCell ⟨b7,1,none⟩ (.slice va (k+1) vc))):=
     ⟨va,vc,(h1.out.perm (List.Perm.swap _ _ _)).setB 1 (by simp) (.slice va (k+1) vc)⟩
    clear h1 Hs;go_wp2;go_roundg (gk - 1)
    case rel=> exact ⟨k+1,by go_num,by have:=Hgk.out;omega,HS2⟩
    case measure=> have:=Hgk.out;omega
  · obtain rfl:k=n:=by have:=Hgk.out;omega
    have hs6:St w0 fp0 (blkA b6 75 #[.string ⟨#[]⟩, .slice none 0 0, .slice none 0 0, .slice none 0 0, .slice none 0 0]::(blkA kb 22 #[.slice ka kn kc]::blkA fb 129 #[.slice fa fn fc, .int .i64 0, .int .i64 0]::R)) wr:=by refine St.dropAll (A:=[blkA b7 75 #[.string ⟨#[116]⟩, .slice ca k cc, .slice (some ⟨kb,0,none⟩) 1 1, .slice (some ⟨fb,0,none⟩) 1 1, .slice none 0 0],rowA 131 6 (.slice ca k cc) k (colsV k)]) Hs.out
    have HFIN:=Lib.hid (((((hs6.setB 0 (by simp) (.string ⟨#[116]⟩)).setB 1 (by simp) (.slice ca k cc)).setB 2 (by simp) (.slice (some ⟨kb,0,none⟩) 1 1)).setB 3 (by simp) (.slice (some ⟨fb,0,none⟩) 1 1)).setB 4 (by simp) (.slice none 0 0)).drop;obtain ⟨_,hb6⟩:=Hs.out.has 2 rfl;have s0:=(blk_get hb6).1 0;have s1:=(blk_get hb6).1 1;have s2:=(blk_get hb6).1 2;have s3:=(blk_get hb6).1 3;have s4:=(blk_get hb6).1 4;have sf:=(blk_get hb6).2.1;have sl:=(blk_get hb6).2.2;simp only [List.getElem?_toArray,List.getElem?_cons_zero,List.getElem?_cons_succ] at s0 s1 s2 s3 s4;clear hb6 hs6 Hgk;go_wp2;refine bodyPost_ret (v:=.agg #[.string ⟨#[116]⟩, .slice ca k cc, .slice (some ⟨kb,0,none⟩) 1 1, .slice (some ⟨fb,0,none⟩) 1 1, .slice none 0 0]) (by clear HFIN Hs;simp [results,Tryz.results27,go_sem, *]) rfl ?_;exact ⟨ca,cc,kb,fb,rfl,HFIN.out⟩
structure Opr where
 kd:Nat
 id:Int
 a:Option Addr
 n:Nat
 c:Nat
 r:Rw
def Opr.v (x:Opr):Value:=.slice x.a x.n x.c
def opV (l:List Opr):List Value:=l.flatMap λ x=> [.int .u8 x.kd, .int .i64 x.id,x.v]
theorem opV_at (l:List Opr) (k:Nat) (hk:k < l.length):(opV l)[k * 3]? =some (.int .u8 l[k].kd)/\(opV l)[k * 3+1]? =some (.int .i64 l[k].id)/\(opV l)[k * 3+2]? =some l[k].v:=by
 induction l generalizing k with
 | nil=> simp at hk
 | cons x l ih=>
  have e:opV (x::l)=.int .u8 x.kd::.int .i64 x.id::x.v::opV l:=rfl;cases k with
  | zero=> exact ⟨rfl,rfl,rfl⟩
  | succ k=>
   have:=ih k (by simpa using hk);rw [e,show (k+1) * 3=k * 3+1+1+1 by omega,show k * 3+1+1+1+1=(k * 3+1)+1+1+1 by omega,show k * 3+1+1+1+2=(k * 3+2)+1+1+1 by omega];simpa using this
structure OpsX (w:World) (l:List Opr) (v:Value):Prop where
 sl:SlX [] w 3 l.length (opV l) v
 row:∀x∈l,ValsAt w x.r x.v
theorem OpsX.mono {w w':World} {l:List Opr} {v:Value} (h:OpsX w l v) (hb:Below w.heap.size w w'):OpsX w' l v:=⟨h.sl.mono hb,λ x hx=> (h.row x hx).mono hb⟩
theorem op_cells {X:List Nat} {w:World} {l:List Opr} {v:Value} (h:SlX X w 3 l.length (opV l) v) (k:Nat) (hk:k < l.length):∃b o c,v=.slice (some ⟨b,o,none⟩) l.length c/\w.cell? ⟨b,o+k * 3,none⟩=some (.int .u8 l[k].kd)/\w.cell? ⟨b,o+k * 3+1,none⟩=some (.int .i64 l[k].id)/\w.cell? ⟨b,o+k * 3+2,none⟩=some l[k].v:=by
 obtain ⟨e1,e2,e3⟩:=opV_at l k hk;obtain ⟨b,o,c,h1,h2⟩:=h.some e1;obtain ⟨b',o',c',h3,h4⟩:=h.some e2;obtain ⟨b2,o2,c2,h5,h6⟩:=h.some e3;rw [h1] at h3 h5;obtain ⟨h3, -, -⟩:=Value.slice.inj h3;obtain ⟨h5, -, -⟩:=Value.slice.inj h5;injection h3 with h3;injection h3 with h3 h7;injection h5 with h5;injection h5 with h5 h8;subst h3 h7 h5 h8;exact ⟨b,o,c,h1,h2,by rw [Nat.add_assoc];exact h4,by rw [Nat.add_assoc];exact h6⟩
def shortR (r:Rw):Bool:=decide (r.length<=8) && r.all λ v=> decide (v.text.size<=40)
def fairB (kl fl:Nat) (l:List Opr) (most:Int):Bool:=decide ((l.length:Int)<=most) && (decide (kl<=6) && (decide (fl<=6) && l.all λ o=> shortR o.r))
theorem fair_ok {kl fl:Nat} {l:List Opr} {most:Int} (h:fairB kl fl l most=true):(l.length:Int)<=most/\kl<=6/\fl<=6/\∀o∈l,o.r.length<=8/\∀v∈o.r,v.text.size<=40:=by
 unfold fairB shortR at h;simp only [Bool.and_eq_true,decide_eq_true_eq,List.all_eq_true] at h;exact ⟨h.1,h.2.1,h.2.2.1,h.2.2.2⟩
theorem all_drop {α:Type} (p:α->Bool) (l:List α) (k:Nat) (hk:k < l.length):(l.drop k).all p=(p l[k] && (l.drop (k+1)).all p):=by
 rw [List.drop_eq_getElem_cons hk,List.all_cons]
theorem fair_calls (cols:Int) (ka fa:Option Addr) (kn kc fn fc:Nat) (l:List Opr) (v:Value) (most:Int) (w:World) (hk:kn<=maxLen) (hf:fn<=maxLen) (hl:OpsX w l v):
 Calls Tryz.prog 10 #[.agg #[.int .u8 cols, .slice ka kn kc, .slice fa fn fc],v, .int .i64 most] w λ e w'=> e=.returned (.bool (fairB kn fn l most))/\Below w.heap.size w w':=by
 obtain ⟨a,c,rfl⟩:=hl.sl.shape;obtain ⟨n,hn⟩:∃n,l.length=n:=⟨_,rfl⟩
 have hb1:n<=9223372036854775807:=by have:=hl.sl.1;unfold maxLen at this;omega
 unfold maxLen at hk hf;have hb0:Below w.heap.size w (w.alloc (.cells #[.int .u8 cols, .slice ka kn kc, .slice fa fn fc] 24)):=(Below.refl _ _).alloc (Nat.le_refl _) _;have HL:=Lib.hid (hl.mono hb0);have HN:=Lib.hid hn;have HB:=Lib.hid hb0;have V1:=World.cell?_alloc_new w #[.int .u8 cols, .slice ka kn kc, .slice fa fn fc] 24 1;have V2:=World.cell?_alloc_new w #[.int .u8 cols, .slice ka kn kc, .slice fa fn fc] 24 2;simp only [List.getElem?_toArray,List.getElem?_cons_zero,List.getElem?_cons_succ] at V1 V2;obtain ⟨q,hq⟩:∃q,fairB kn fn l most=q:=⟨_,rfl⟩
 have HQ:Hid ((decide ((n:Int)<=most) && (decide (kn<=6) && (decide (fn<=6) && l.all λ o=> shortR o.r)))=q):=by show _=_;rw [<-hq,<-hn];rfl
 rw [hq,hn];clear hl hn hb0 hq;by_cases h1:(n:Int)<=most
 · have z1:decide (most < (n:Int))=false:=by simp;omega
   by_cases h2:kn<=6
   · have z2:decide (6 < (kn:Int))=false:=by simp;omega
     by_cases h3:fn<=6
     · have z3:decide (6 < (fn:Int))=false:=by simp;omega
       have HA:Hid ((l.drop 0).all (λ o=> shortR o.r)=q):=by show _=_;rw [<-HQ.out,decide_eq_true h1,decide_eq_true h2,decide_eq_true h3];rfl
       clear h1 h2 h3 HQ;go_enter Tryz.func10,Tryz.ntmps10;go_upto_region 1 with (fail)
       generalize hW:w.alloc _=W at *;clear hW;have Vl:=World.block_lt_of_cell? W _ V1;go_wp2;clear V1 V2 Vl;go_loopg [29] n (λ g z wr=> ∃k:Nat,z=.int .i64 k/\g+k=n/\Hid ((l.drop k).all (λ o=> shortR o.r)=q)/\Hid (Below W.heap.size W wr))
       case atStart=> exact ⟨0,rfl,rfl,HA,Below.refl _ _⟩
       case round=>
        clear HA;obtain ⟨k,rfl,hgk,Ha,Hb⟩:=hrel;by_cases hkk:k < n
        · have hkl:k < l.length:=by rw [HN.out];exact hkk
          have hlw:=HL.out.mono Hb.out;obtain ⟨b,o,c',e1,p0,p1,p2⟩:=op_cells hlw.sl k hkl;obtain ⟨rfl, -, -⟩:=Value.slice.inj e1;have hpl:=World.block_lt_of_cell? wr _ p0;have hrow:=hlw.row _ (List.getElem_mem hkl);have Hst:=Lib.hid (all_drop (λ o:Opr=> shortR o.r) l k hkl);have hkn:(k:Int) < n:=by omega
          have Hgk:=Lib.hid hgk;clear hgk e1 hlw;generalize l[k]=x at *;clear hkl;obtain ⟨kd,id,xa,xn,xc,xr⟩:=x;unfold Opr.v at p2 hrow;simp only at p0 p1 p2 hrow Hst;have HROW:=Lib.hid hrow;have hxn:xn=xr.length/\xn<=maxLen:=by obtain ⟨a',n',c'',e,h,h'⟩:=hrow.shape;obtain ⟨-,rfl, -⟩:=Value.slice.inj e;exact ⟨h,h'⟩
          have HXN:=Lib.hid hxn;have hsh:shortR xr=(decide (xn<=8) && xr.all λ v=> decide (v.text.size<=40)):=by rw [hxn.1];rfl
          rw [hsh] at Hst;have hx63:xn<=9223372036854775807:=by have:=hxn.2;unfold maxLen at this;omega
          clear hrow hxn hsh;have HO:Hid (Below wr.heap.size wr (wr.alloc (.cells #[.int .u8 kd, .int .i64 id, .slice xa xn xc] 58))):=(Below.refl _ _).alloc (Nat.le_refl _) _;have v2:=World.cell?_alloc_new wr #[.int .u8 kd, .int .i64 id, .slice xa xn xc] 58 2;simp only [List.getElem?_toArray,List.getElem?_cons_zero,List.getElem?_cons_succ] at v2;by_cases h8:xn<=8
          · have z8:decide (8 < (xn:Int))=false:=by simp;omega
            go_upto_region 6 with (fail)
            generalize hW2:wr.alloc _=W2 at *;clear hW2;have vl:=World.block_lt_of_cell? W2 _ v2;go_upto_region 9 with (fail)
            have HI:Hid ((((xr.drop 0).all λ v=> decide (v.text.size<=40)) && (l.drop (k+1)).all (λ o=> shortR o.r))=q):=by show _=_;rw [<-Ha.out,Hst.out,decide_eq_true h8,List.drop_zero];rfl
            clear v2 vl h8 Ha Hst;obtain ⟨wr0,rfl⟩:∃x,x=wr:=⟨_,rfl⟩
            obtain ⟨gk0,rfl⟩:∃x,x=gk:=⟨_,rfl⟩
            go_loopg [40] xn (λ g z w3=> ∃j:Nat,z=.int .i64 j/\g+j=xn/\Hid ((((xr.drop j).all λ v=> decide (v.text.size<=40)) && (l.drop (k+1)).all (λ o=> shortR o.r))=q)/\Hid (Below W2.heap.size W2 w3))
            case atStart=> exact ⟨0,rfl,rfl,HI,Below.refl _ _⟩
            case round=>
             clear HI;obtain ⟨j,rfl,hgj,Hi,Hb3⟩:=hrel;have HBW:=Lib.hid (HO.out.trans (Hb3.out.mono HO.out.size));by_cases hjj:j < xn
             · have hjl:j < xr.length:=by rw [<-HXN.out.1];exact hjj
               have hrwr:=HROW.out.mono HBW.out;obtain ⟨bb,oo,rfl⟩:=hrwr.has j hjj;obtain ⟨p0,p1,p2⟩:=hrwr.cell j hjl;have pl:=World.block_lt_of_cell? wr _ p0;have Hst2:=Lib.hid (all_drop (λ v:Vl=> decide (v.text.size<=40)) xr j hjl);have hjn:(j:Int) < xn:=by omega
               have Hgj:=Lib.hid hgj;clear hgj hrwr;generalize xr[j]=y at *;clear hjl;obtain ⟨yk,yi,yt⟩:=y;simp only at p0 p1 p2 Hst2;have HO3:Hid (Below wr.heap.size wr (wr.alloc (.cells #[.int .i64 yk, .int .i64 yi, .string yt] 29))):=(Below.refl _ _).alloc (Nat.le_refl _) _;have v2:=World.cell?_alloc_new wr #[.int .i64 yk, .int .i64 yi, .string yt] 29 2;simp only [List.getElem?_toArray,List.getElem?_cons_zero,List.getElem?_cons_succ] at v2;by_cases h40:yt.size<=40
               · have z40:decide (40 < (yt.size:Int))=false:=by simp;omega
                 have HI2:Hid ((((xr.drop (j+1)).all λ v=> decide (v.text.size<=40)) && (l.drop (k+1)).all (λ o=> shortR o.r))=q):=by show _=_;rw [<-Hi.out,Hst2.out,decide_eq_true h40];rfl
                 clear h40 Hi Hst2;go_upto_region 11 with (fail)
                 generalize hW4:wr.alloc _=W4 at *;clear hW4;have vl:=World.block_lt_of_cell? W4 _ v2;go_wp2;go_roundg (gk - 1)
                 case rel=> exact ⟨j+1,by go_num,by have:=Hgj.out;omega,HI2,Hb3.out.trans (HO3.out.mono Hb3.out.size)⟩
                 case measure=> have:=Hgj.out;omega
               · have z40:decide (40 < (yt.size:Int))=true:=by simp;omega
                 have hqt:Hid (q=false):=by show _=_;rw [<-Hi.out,Hst2.out,decide_eq_false h40];rfl
                 obtain rfl:=hqt.out;clear h40 Hi Hst2;go_upto_region 11 with (fail)
                 generalize hW4:wr.alloc _=W4 at *;clear hW4;have vl:=World.block_lt_of_cell? W4 _ v2;go_wp2;go_ret;exact ⟨rfl,HB.out.trans ((Hb.out.trans ((HBW.out.trans (HO3.out.mono HBW.out.size)).mono Hb.out.size)).mono HB.out.size)⟩
             · obtain rfl:j=xn:=by omega
               have HA2:Hid ((l.drop (k+1)).all (λ o=> shortR o.r)=q):=by show _=_;rw [<-Hi.out,show xr.drop j=[] from List.drop_of_length_le (by rw [<-HXN.out.1];exact Nat.le_refl _)];rfl
               clear hgj Hi;go_wp2;go_roundg (gk0 - 1)
               case rel=> exact ⟨k+1,by go_num,by have:=Hgk.out;omega,HA2,Hb.out.trans (HBW.out.mono Hb.out.size)⟩
               case measure=> have:=Hgk.out;omega
          · have z8:decide (8 < (xn:Int))=true:=by simp;omega
            have hqt:Hid (q=false):=by show _=_;rw [<-Ha.out,Hst.out,decide_eq_false h8];rfl
            obtain rfl:=hqt.out;clear h8 Ha Hst;go_upto_region 6 with (fail)
            generalize hW2:wr.alloc _=W2 at *;clear hW2;have vl:=World.block_lt_of_cell? W2 _ v2;go_wp2;go_ret;exact ⟨rfl,HB.out.trans ((Hb.out.trans (HO.out.mono Hb.out.size)).mono HB.out.size)⟩
        · obtain rfl:k=n:=by omega
          have hqt:Hid (q=true):=by show _=_;rw [<-Ha.out,List.drop_of_length_le (by rw [HN.out];exact Nat.le_refl _)];rfl
          obtain rfl:=hqt.out;clear hgk;go_wp2;go_ret;exact ⟨rfl,HB.out.trans (Hb.out.mono HB.out.size)⟩
     · have z3:decide (6 < (fn:Int))=true:=by simp;omega
       have hqt:Hid (q=false):=by show _=_;rw [<-HQ.out,decide_eq_true h1,decide_eq_true h2,decide_eq_false h3];rfl
       obtain rfl:=hqt.out;clear h1 h2 h3 HQ;go_enter Tryz.func10,Tryz.ntmps10;go_upto_region 1 with (fail)
       generalize hW:w.alloc _=W at *;clear hW;have Vl:=World.block_lt_of_cell? W _ V1;go_wp2;go_ret;exact ⟨rfl,HB.out⟩
   · have z2:decide (6 < (kn:Int))=true:=by simp;omega
     have hqt:Hid (q=false):=by show _=_;rw [<-HQ.out,decide_eq_true h1,decide_eq_false h2];rfl
     obtain rfl:=hqt.out;clear h1 h2 HQ;go_enter Tryz.func10,Tryz.ntmps10;go_upto_region 1 with (fail)
     generalize hW:w.alloc _=W at *;clear hW;have Vl:=World.block_lt_of_cell? W _ V1;go_wp2;go_ret;exact ⟨rfl,HB.out⟩
 · have z1:decide (most < (n:Int))=true:=by simp;omega
   have hqt:Hid (q=false):=by show _=_;rw [<-HQ.out,decide_eq_false h1];rfl
   obtain rfl:=hqt.out;clear h1 HQ;go_enter Tryz.func10,Tryz.ntmps10;go_upto_region 1 with (fail)
   generalize hW:w.alloc _=W at *;clear hW;have Vl:=World.block_lt_of_cell? W _ V1;go_wp2;go_ret;exact ⟨rfl,HB.out⟩
def tabA (v:Value) (n:Nat) (kv fv:Value):Asn:=exA λ q:(Option Addr×Nat)×Nat×Nat=> starA [pureA (v=.agg #[.string ⟨#[116]⟩, .slice q.1.1 n q.1.2, .slice (some ⟨q.2.1,0,none⟩) 1 1, .slice (some ⟨q.2.2,0,none⟩) 1 1, .slice none 0 0]),blkA q.2.1 22 #[kv],blkA q.2.2 129 #[fv, .int .i64 0, .int .i64 0]]
theorem table_new (n:Nat) (hn:n<=1000) (ka fa:Option Addr) (kn kc fn fc:Nat) (w:World):Calls Tryz.prog 27 #[.int .i64 n, .slice ka kn kc, .slice fa fn fc] w λ e w'=> ∃v f,e=.returned v/\(tabA v n (.slice ka kn kc) (.slice fa fn fc)).p w' f/\Below w.heap.size w w'/\∀k∈f,w.heap.size<=k:=by
 refine (table_calls n ka fa kn kc fn fc hn w w [] [] (St.start (L:=[]) (fp:=[]) rfl)).mono ?_;rintro e w' ⟨ca,cc,kb,fb,rfl,h⟩;have h1:St w [] ([pureA (Value.agg #[.string ⟨#[116]⟩, .slice ca n cc, .slice (some ⟨kb,0,none⟩) 1 1, .slice (some ⟨fb,0,none⟩) 1 1, .slice none 0 0]=Value.agg #[.string ⟨#[116]⟩, .slice ca n cc, .slice (some ⟨kb,0,none⟩) 1 1, .slice (some ⟨fb,0,none⟩) 1 1, .slice none 0 0]),blkA kb 22 #[.slice ka kn kc],blkA fb 129 #[.slice fa fn fc, .int .i64 0, .int .i64 0]]++[]) w':=St.pure.2 ⟨rfl,h⟩;obtain ⟨f,h2,h3,h4⟩:=piece_of (h1.fold (B:=tabA _ n (.slice ka kn kc) (.slice fa fn fc)) λ f hf=> ⟨((ca,cc),kb,fb),hf⟩);exact ⟨_,f,rfl,h2,h3,h4⟩
theorem new_new (v:Value) (n:Nat) (ka fa:Option Addr) (kn kc fn fc:Nat) (K F:List Int) (hK:K.length<=1000) (hF:F.length<=1000) (w:World) (ht:∃f,(tabA v n (.slice ka kn kc) (.slice fa fn fc)).p w f) (h1:IntsX [] w K (.slice ka kn kc)) (h2:IntsX [] w F (.slice fa fn fc)):
 Calls Tryz.prog 26 #[v] w λ e w'=> ∃S f,e=.returned (ptrV S)/\(storeA S n (([K]++[F]).foldl (addI n) []) [] 1).p w' f/\Below w.heap.size w w'/\∀k∈f,w.heap.size<=k:=by
 obtain ⟨f,⟨⟨ca,cc⟩,kb,fb⟩,hf⟩:=ht;obtain ⟨_,⟨rfl, -⟩, -⟩:=Star.get 0 rfl (show Star w [pureA (v=.agg #[.string ⟨#[116]⟩, .slice ca n cc, .slice (some ⟨kb,0,none⟩) 1 1, .slice (some ⟨fb,0,none⟩) 1 1, .slice none 0 0]),blkA kb 22 #[.slice ka kn kc],blkA fb 129 #[.slice fa fn fc, .int .i64 0, .int .i64 0]] f from hf);obtain ⟨_,hb1, -⟩:=Star.get 1 rfl (show Star w [pureA _,blkA kb 22 #[.slice ka kn kc],blkA fb 129 #[.slice fa fn fc, .int .i64 0, .int .i64 0]] f from hf);obtain ⟨_,hb2, -⟩:=Star.get 2 rfl (show Star w [pureA _,blkA kb 22 #[.slice ka kn kc],blkA fb 129 #[.slice fa fn fc, .int .i64 0, .int .i64 0]] f from hf);have k1:KeysX w [.slice ka kn kc] [K] (.slice (some ⟨kb,0,none⟩) 1 1):=⟨SlX.of_blk (X:=[]) hb1.1 (by simp) (by show 1<=maxLen;unfold maxLen;omega) rfl,λ i hi=> by
  obtain rfl:i=0:=by simpa using hi
  exact ⟨_,rfl,h1⟩⟩
 have k2:ForsX w [.slice fa fn fc, .int .i64 0, .int .i64 0] [F] (.slice (some ⟨fb,0,none⟩) 1 1):=⟨SlX.of_blk (X:=[]) hb2.1 (by simp) (by show 1<=maxLen;unfold maxLen;omega) rfl,λ i hi=> by
  obtain rfl:i=0:=by simpa using hi
  exact ⟨_,0,0,rfl,rfl,rfl,h2⟩⟩
 have m:∀w' fp,Tr w w' [] fp->Below w.heap.size w w':=λ w' fp ht=> ht.below (Nat.le_refl _) λ k hk=> nomatch hk;refine (SNew_calls _ ca none n cc 0 0 _ _ [K] [F] [.slice ka kn kc] [.slice fa fn fc, .int .i64 0, .int .i64 0] (by simpa using hK) (by simpa using hF) (by simp) (by simp) w w [] [] (Rd.of_tr λ w' fp ht=> ?_) (Rd.of_tr λ w' fp ht=> ?_) (St.start (L:=[]) (fp:=[]) rfl)).mono ?_
 · exact ⟨k1.1.mono (m _ _ ht),λ i hi=> by obtain ⟨u,h3,h4⟩:=k1.2 i hi;exact ⟨u,h3,h4.mono (m _ _ ht)⟩⟩
 · exact ⟨k2.1.mono (m _ _ ht),λ i hi=> by obtain ⟨u,a,b,h3,h4,h5,h6⟩:=k2.2 i hi;exact ⟨u,a,b,h3,h4,h5,h6.mono (m _ _ ht)⟩⟩
 · rintro e w' ⟨S,rfl,h⟩
   obtain ⟨f,h3,h4,h5⟩:=piece_of h;exact ⟨S,f,rfl,h3,h4,h5⟩
theorem appIS:AppSrc Tryz.prog 22 22 3 1:=appSrc (z:=.int .i64 0) (bytes:=8) (by kernel_rfl) (by kernel_rfl) rfl (by decide) (by decide)
theorem emptyI (w:World):(slA 3 (.slice (some ⟨w.heap.size,0,none⟩) 0 0) []).p (w.alloc (.cells #[] 3)) [w.heap.size]:=row_empty (size:=1) ⟨heap_alloc_new w _,rfl⟩
theorem slOf {w:World} {v:Value} {l:List Int} {f:List Nat} (h:(rowA 3 1 v l.length (l.map intC)).p w f):(slA 3 v (l.map intC)).p w f:=by
 have h1:(rowA 3 1 v (l.map intC).length (l.map intC)).p w f:=by rw [List.length_map];exact h
 exact h1
def gPl2 (b2 n kn kc fn fc:Nat) (u:Int) (ka fa:Option Addr) (K F:List Int):=rgx Tryz.prog Tryz.f11 2 160 [28,29,30,31,32,33,34,35,36,37,38,39,40,9,8] [(7, .int .i64 n),(2,pV b2 0)] (Vq 0 28 [Kv (.int .i64 n)]++Vq 2 30 [Kp b2 1,Kv (.slice ka kn kc),Vf.slice]++Vq 6 34 [Kp b2 2,Kv (.slice fa fn fc),Vf.slice]++Vq 10 38 [Vf.ptr,Kv (.int .i64 n),Kv (.agg #[.int .i64 n, .slice none 0 0, .int .i64 1])]++Vq 13 9 [Vf.ptr]++Vq 14 8 [Fv [38] λ g=> .pointer (some ⟨pb (g 38),0,none⟩)]) [Bk b2 (24) [.int .u8 u, .slice ka kn kc, .slice fa fn fc], .gen [1,4] [29,32] λ L g=> match L 4 with | true=> slA 3 (g 32) (K.map intC) | false=> match L 1 with | true=> slA 3 (g 29) [] | false=> emp, .gen [5,8] [33,36] λ L g=> match L 8 with | true=> slA 3 (g 36) (F.map intC) | false=> match L 5 with | true=> slA 3 (g 33) [] | false=> emp, .new 9 [37,32,36] λ g=> tabA (g 37) n (.slice (sa (g 32)) (sn (g 32)) (sc (g 32))) (.slice (sa (g 36)) (sn (g 36)) (sc (g 36))), .new 10 [38] λ g=> storeA (pb (g 38)) n (([K]++[F]).foldl (addI n) []) [] 1, .gen [13,15] [9] λ L g=> match L 15 with | true=> atA 37 (g 9) #[.int .i64 n, .slice none 0 0, .int .i64 1] | false=> match L 13 with | true=> atA 37 (g 9) #[.int .i64 0, .slice none 0 0, .int .i64 0] | false=> emp, .new 12 [40] λ _g=> emp]
theorem rPl2 (b2 n kn kc fn fc:Nat) (u:Int) (ka fa:Option Addr) (K F:List Int) (w0:World) (fp0:List Nat) (R:List Asn) (hn:n<=1000) (hK:K.length<=1000) (hF:F.length<=1000) (hkr:∀L w,St w0 fp0 (L++R) w->SlX [] w 1 K.length (K.map intC) (.slice ka kn kc)) (hfr:∀L w,St w0 fp0 (L++R) w->SlX [] w 1 F.length (F.map intC) (.slice fa fn fc)) {w:World} {c:Code} {a:Act} {Q:Exit->Act->World->Prop} (c1:isReg c=true) (c2:cops c=opsR Tryz.f11 2) (c3:a.tmps.size=160) (_c4:a.defers=a.defers) (i7:a.eval (.tmp 7)=.int .i64 n) (i2:a.eval (.tmp 2)=.pointer (some ⟨b2,0,none⟩))
 (hS:St w0 fp0 ([blkA b2 (24) #[.int .u8 u, .slice ka kn kc, .slice fa fn fc],emp,emp,emp,emp,emp,emp]++R) w)
 (hQ:∀(u8 u9 u29 u32 u33 u36 u37 u38:Value) (w1:World),(∃a n c,u32=.slice a n c)->(∃a n c,u36=.slice a n c)->(∃b,u38=.pointer (some ⟨b,0,none⟩))->(∃b,u9=.pointer (some ⟨b,0,none⟩))->u8=.pointer (some ⟨pb (u38),0,none⟩)->St w0 fp0 ([blkA b2 (24) #[.int .u8 u, .slice ka kn kc, .slice fa fn fc],slA 3 (u32) (K.map intC),slA 3 (u36) (F.map intC),tabA (u37) n (.slice (sa (u32)) (sn (u32)) (sc (u32))) (.slice (sa (u36)) (sn (u36)) (sc (u36))),storeA (pb (u38)) n (([K]++[F]).foldl (addI n) []) [] 1,atA 37 (u9) #[.int .i64 n, .slice none 0 0, .int .i64 1],emp]++R) w1->Q .normal (putL a [(28, .int .i64 n),(29,u29),(30, .pointer (some ⟨b2,1,none⟩)),(31, .slice ka kn kc),(32,u32),(33,u33),(34, .pointer (some ⟨b2,2,none⟩)),(35, .slice fa fn fc),(36,u36),(37,u37),(38,u38),(39, .int .i64 n),(40, .agg #[.int .i64 n, .slice none 0 0, .int .i64 1]),(9,u9),(8,u8)]) w1):c.wp Tryz.prog Q a w:=by
 have ok:(gPl2 b2 n kn kc fn fc u ka fa K F w0 fp0 R).Ok 16:=Rg.ok _ 16 [1,3,4,5,7,8,9,10,12,13,15] ⟨.run1 _ 1 1 (λ _=> emp) (λ _ v=> slA 3 v []) (λ L a w fp _ hp=> ⟨.slice (some ⟨w.heap.size,0,none⟩) 0 0,w.alloc (.cells #[] 3),[w.heap.size],kr (by kernel_rfl),rfl,emptyI w,trNew hp _⟩), .load _ 3 0 1, .run1 _ 4 1 (λ g=> slA 3 (g 29) []) (λ _ v=> slA 3 v (K.map intC)) (λ L a w fp hS hp=> (by obtain ⟨v,w2,f2,h1,h2,h3⟩:=appIS (opAt (opsR Tryz.f11 2) 4).type w (slots a 29) 0 [] fp (.slice ka kn kc) K.length (K.map intC) hp ((hkr _ w hS).src (tx:=22) (e':=3) (by kernel_rfl) (by decide) (one_int _)) (by omega);rw [Nat.zero_add,List.nil_append] at h2;have h4:(slA 3 v (K.map intC)).p w2 f2:=slOf h2;obtain ⟨va,vn,vc,rfl⟩:=sl_shape h4;exact ⟨_,w2,f2,exec_app rfl (kr (by kernel_rfl)) (kr (by kernel_rfl)) h1,kr (by kernel_rfl),h4,h3⟩)), .run1 _ 5 2 (λ _=> emp) (λ _ v=> slA 3 v []) (λ L a w fp _ hp=> ⟨.slice (some ⟨w.heap.size,0,none⟩) 0 0,w.alloc (.cells #[] 3),[w.heap.size],kr (by kernel_rfl),rfl,emptyI w,trNew hp _⟩), .load _ 7 0 2, .run1 _ 8 2 (λ g=> slA 3 (g 33) []) (λ _ v=> slA 3 v (F.map intC)) (λ L a w fp hS hp=> (by obtain ⟨v,w2,f2,h1,h2,h3⟩:=appIS (opAt (opsR Tryz.f11 2) 8).type w (slots a 33) 0 [] fp (.slice fa fn fc) F.length (F.map intC) hp ((hfr _ w hS).src (tx:=22) (e':=3) (by kernel_rfl) (by decide) (one_int _)) (by omega);rw [Nat.zero_add,List.nil_append] at h2;have h4:(slA 3 v (F.map intC)).p w2 f2:=slOf h2;obtain ⟨va,vn,vc,rfl⟩:=sl_shape h4;exact ⟨_,w2,f2,exec_app rfl (kr (by kernel_rfl)) (kr (by kernel_rfl)) h1,kr (by kernel_rfl),h4,h3⟩)), .callNew2 _ 9 3 (f:=27) (args:=λ g=> #[.int .i64 n, .slice (sa (g 32)) (sn (g 32)) (sc (g 32)), .slice (sa (g 36)) (sn (g 36)) (sc (g 36))]) (λ g v=> tabA v n (.slice (sa (g 32)) (sn (g 32)) (sc (g 32))) (.slice (sa (g 36)) (sn (g 36)) (sc (g 36)))) (λ L a w hS=> (table_new n hn (sa (slots a 32)) (sa (slots a 36)) (sn (slots a 32)) (sc (slots a 32)) (sn (slots a 36)) (sc (slots a 36)) w).mono λ e w2 h=> (by obtain ⟨v,f,e1,h2,h3,h4⟩:=h;exact ⟨v,f,e1,kr (by kernel_rfl),h2,h3,h4⟩)), .callNew2 _ 10 4 (f:=26) (args:=λ g=> #[g 37]) (λ g v=> storeA (pb v) n (([K]++[F]).foldl (addI n) []) [] 1) (λ L a w hS=> (by obtain ⟨_,t1⟩:=St.has (A:=slA 3 (slots a 32) (K.map intC)) hS 1 (kr (by kernel_rfl));obtain ⟨_,t2⟩:=St.has (A:=slA 3 (slots a 36) (F.map intC)) hS 2 (kr (by kernel_rfl));have t3:=St.has (A:=tabA (slots a 37) n (.slice (sa (slots a 32)) (sn (slots a 32)) (sc (slots a 32))) (.slice (sa (slots a 36)) (sn (slots a 36)) (sc (slots a 36)))) hS 3 (kr (by kernel_rfl));refine (new_new (slots a 37) n _ _ _ _ _ _ K F hK hF w t3 (intsX_of (slSelf t1)) (intsX_of (slSelf t2))).mono ?_;rintro e w2 ⟨S,f,e1,h2,h3,h4⟩;exact ⟨_,f,e1,kr (by kernel_rfl),h2,h3,h4⟩)), .callNew2 _ 12 6 (f:=31) (args:=λ _=> #[.int .i64 n]) (λ _ _=> emp) (λ L a w hS=> (RNew_calls n w).mono λ e w2 h=> ⟨_,[],h.1,kr (by kernel_rfl),rfl,h.2,by simp⟩), .run1 _ 13 5 (λ _=> emp) (λ _ v=> atA 37 v #[.int .i64 0, .slice none 0 0, .int .i64 0]) (λ L a w fp _ hp=> ⟨.pointer (some ⟨w.heap.size,0,none⟩),w.alloc (.cells #[.int .i64 0, .slice none 0 0, .int .i64 0] 37),[w.heap.size],kr (by kernel_rfl),kr (by kernel_rfl),⟨w.heap.size,rfl,heap_alloc_new w _,rfl⟩,trNew hp _⟩), .skip1 _ 15 5 (λ g=> atA 37 (g 9) #[.int .i64 0, .slice none 0 0, .int .i64 0]) (λ g=> atA 37 (g 9) #[.int .i64 n, .slice none 0 0, .int .i64 1]) (λ L a w fp hS hp=> (by obtain ⟨b,e,hb⟩:=hp;obtain ⟨w2,f2,h1,h2,h3⟩:=store3 (P:=Tryz.prog) (ty:=37) (v0:=.int .i64 n) (v1:=.slice none 0 0) (v2:=.int .i64 1) hb (kr (by kernel_rfl)) rfl rfl rfl;exact ⟨w2,f2,exec_store rfl (Eq.trans (b:=Value.pointer (some ⟨pb (slots a 9),0,none⟩)) (kr (by kernel_rfl)) (by rw [e];rfl)) (kr (by kernel_rfl)) h1,⟨b,e,h2⟩,h3⟩)),trivial⟩;refine wp_regD ok (by kernel_rfl) ⟨c1,c2⟩ ⟨c3,λ p hp=> ?_⟩ hS λ A1 w1 N1 H1=> ?_
 · simp only [gPl2,rgx,List.map_nil,List.append_nil,List.mem_cons,List.not_mem_nil,or_false] at hp
   rcases hp with rfl | rfl
   · exact i7
   · exact i2
 exact N1.fin [29,32,33,36,37,38,9,8] (hQ (slots A1 8) (slots A1 9) (slots A1 29) (slots A1 32) (slots A1 33) (slots A1 36) (slots A1 37) (slots A1 38) w1 ⟨_,_,_,(N1.val 3 rfl)⟩ ⟨_,_,_,(N1.val 6 rfl)⟩ ⟨_,(N1.val 7 rfl)⟩ ⟨_,(N1.val 10 rfl)⟩ (N1.val 11 rfl) H1) (by kernel_rfl)
def gPn (S b9 b5 cols n lc:Nat) (la:Option Addr) (next:Int) (A:Asn):=rgx Tryz.prog Tryz.f11 30 160 [145,146,147,148,149,150,151,152,153,154,155,156,157,158,159,4,6] [(8,pV S 0),(9,pV b9 0),(5,pV b5 0)] (Vq 0 145 [Kp S 0,Kv (.agg #[.int .i64 cols, .slice la n lc, .int .i64 next]),Kp S 0,Kv (.int .i64 n),Kp b9 1,Kv (.slice la n lc),Kv (.int .i64 n),Kv (.bool true),Kv (.bool true),Kp S 0,Kv (.int .i64 next),Kp b9 2,Kv (.int .i64 next),Kv (.bool true),Kv (.bool true)]++Vq 15 4 [Kp S 0]++Vq 17 6 [Kv (.bool true)]) [.all (A),Bk b9 (37) [.int .i64 cols, .slice la n lc, .int .i64 next], .gen [16] [] λ L _g=> match L 16 with | true=> blkA b5 37 #[.int .i64 cols, .slice la n lc, .int .i64 next] | false=> blkA b5 37 #[.int .i64 0, .slice none 0 0, .int .i64 0]]
theorem rPn (S b9 b5 cols n lc:Nat) (la:Option Addr) (next:Int) (A:Asn) (w0:World) (fp0:List Nat) (R:List Asn) (hLen:∀w f,A.p w f->Calls Tryz.prog 30 #[ptrV S] w λ e w'=> e=.returned (.int .i64 n)/\Below w.heap.size w w') (hNext:∀w f,A.p w f->Calls Tryz.prog 28 #[ptrV S] w λ e w'=> e=.returned (.int .i64 next)/\Below w.heap.size w w') {w:World} {c:Code} {a:Act} {Q:Exit->Act->World->Prop} (c1:isReg c=true) (c2:cops c=opsR Tryz.f11 30) (c3:a.tmps.size=160) (_c4:a.defers=a.defers) (i8:a.eval (.tmp 8)=.pointer (some ⟨S,0,none⟩)) (i9:a.eval (.tmp 9)=.pointer (some ⟨b9,0,none⟩)) (i5:a.eval (.tmp 5)=.pointer (some ⟨b5,0,none⟩))
 (hS:St w0 fp0 ([A,blkA b9 (37) #[.int .i64 cols, .slice la n lc, .int .i64 next],blkA b5 37 #[.int .i64 0, .slice none 0 0, .int .i64 0]]++R) w)
 (hQ:∀(w1:World),St w0 fp0 ([A,blkA b9 (37) #[.int .i64 cols, .slice la n lc, .int .i64 next],blkA b5 37 #[.int .i64 cols, .slice la n lc, .int .i64 next]]++R) w1->Q .normal (putL a [(145, .pointer (some ⟨S,0,none⟩)),(146, .agg #[.int .i64 cols, .slice la n lc, .int .i64 next]),(147, .pointer (some ⟨S,0,none⟩)),(148, .int .i64 n),(149, .pointer (some ⟨b9,1,none⟩)),(150, .slice la n lc),(151, .int .i64 n),(152, .bool true),(153, .bool true),(154, .pointer (some ⟨S,0,none⟩)),(155, .int .i64 next),(156, .pointer (some ⟨b9,2,none⟩)),(157, .int .i64 next),(158, .bool true),(159, .bool true),(4, .pointer (some ⟨S,0,none⟩)),(6, .bool true)]) w1):c.wp Tryz.prog Q a w:=by
 have ok:(gPn S b9 b5 cols n lc la next A w0 fp0 R).Ok 18:=Rg.ok _ 18 [1,3,5,7,10,12,13,16] ⟨.run1 _ 1 1 (λ _=> blkA b9 37 #[.int .i64 cols, .slice la n lc, .int .i64 next]) (λ _ _=> blkA b9 37 #[.int .i64 cols, .slice la n lc, .int .i64 next]) (λ L a w fp _ hp=> (by have c0:=(blk_get hp).1 0;have c1:=(blk_get hp).1 1;have c2:=(blk_get hp).1 2;exact ⟨.agg #[.int .i64 cols, .slice la n lc, .int .i64 next],w,fp,load3 rfl (kr (by kernel_rfl)) (kr (by kernel_rfl)) (kr (by kernel_rfl)) c0 c1 c2,kr (by kernel_rfl),hp,Tr.refl _ _⟩)), .ask1 _ 3 0 hLen, .load _ 5 1 1, .eqlS _ 7 .i64 n, .ask1 _ 10 0 hNext, .load _ 12 1 2, .eqlS _ 13 .i64 next, .skip1 _ 16 2 (λ _=> blkA b5 37 #[.int .i64 0, .slice none 0 0, .int .i64 0]) (λ _=> blkA b5 37 #[.int .i64 cols, .slice la n lc, .int .i64 next]) (λ L a w fp hS hp=> (by obtain ⟨w2,f2,h1,h2,h3⟩:=store3 (P:=Tryz.prog) (ty:=37) (v0:=.int .i64 cols) (v1:=.slice la n lc) (v2:=.int .i64 next) hp (kr (by kernel_rfl)) rfl rfl rfl;exact ⟨w2,f2,exec_store rfl (kr (by kernel_rfl)) (kr (by kernel_rfl)) h1,h2,h3⟩)),trivial⟩;refine wp_regD ok (by kernel_rfl) ⟨c1,c2⟩ ⟨c3,λ p hp=> ?_⟩ hS λ A1 w1 N1 H1=> ?_
 · simp only [gPn,rgx,List.map_nil,List.append_nil,List.mem_cons,List.not_mem_nil,or_false] at hp
   rcases hp with rfl | rfl | rfl
   · exact i8
   · exact i9
   · exact i5
 exact N1.fin [] (hQ w1 H1) (by kernel_rfl)
def colsN (u:Nat):Nat:=u % 4+1
def Of (l:List Opr) (x:Ri):Prop:=∃o∈l,o.r=x.r/\o.v=x.v
def stD (cols:Nat) (o:Opr) (p:LL×Int):LL×Int:=if o.kd % 4=0 then (putLL cols p.2 o.r p.1,putN cols p.2 o.r p.2) else if o.kd % 4=1 then (putLL cols o.id o.r p.1,putN cols o.id o.r p.2) else if o.kd % 4=2 then (delL o.id p.1,p.2) else p
def playD (cols:Nat) (l:List Opr) (k:Nat):LL×Int:=(l.take k).foldl (λ p o=> stD cols o p) ([],1)
theorem playD_succ (cols:Nat) (l:List Opr) (k:Nat) (hk:k < l.length):playD cols l (k+1)=stD cols l[k] (playD cols l k):=by
 unfold playD;rw [List.take_add_one,List.getElem?_eq_getElem hk,List.foldl_append];rfl
def PlInv (l:List Opr) (w0:World) (fp0:List Nat) (R:List Asn) (S cols:Nat) (I:List (List Int)) (b9 b5 k:Nat) (w:World):Prop:=∃(L:LL) (next:Int) (m:List Ri) (lv:Value),riL m=L/\m.length<=k/\(m.Pairwise λ a b=> a.id < b.id)/\(∀x∈m,Of l x)/\(L,next)=playD cols l k/\
 St w0 fp0 (storeA S cols I L next::riA lv m::blkA b9 37 #[.int .i64 cols,lv, .int .i64 next]::blkA b5 37 #[.int .i64 0, .slice none 0 0, .int .i64 0]::R) w
theorem cells3 {w0 w:World} {fp0:List Nat} {L:List Asn} {b:Nat} {t:TypeId} {c0 c1 c2:Value} (h:St w0 fp0 L w) (i:Nat) (hi:L[i]? =some (blkA b t #[c0,c1,c2])):
 w.cell? ⟨b,0,none⟩=some c0/\w.cell? ⟨b,1,none⟩=some c1/\w.cell? ⟨b,2,none⟩=some c2/\w.frozen? ⟨b,0,none⟩=false/\w.frozen? ⟨b,1,none⟩=false/\w.frozen? ⟨b,2,none⟩=false/\b < w.heap.size:=by
 obtain ⟨_,hb⟩:=h.has i hi;obtain ⟨h1,h2,h3⟩:=blk_get hb;exact ⟨h1 0,h1 1,h1 2,h2 0,h2 1,h2 2,h3⟩
def PlPostD (l:List Opr) (w0:World) (fp0:List Nat) (R:List Asn) (cols:Nat) (e:Ending) (w:World):Prop:=∃S I next lv m,e=.returned (.tuple #[ptrV S,rsV cols lv next, .bool true])/\m.length<=l.length/\(m.Pairwise λ a b=> a.id < b.id)/\(∀x∈m,Of l x)/\(riL m,next)=playD cols l l.length/\St w0 fp0 (storeA S cols I (riL m) next::riA lv m::R) w
theorem setB3 {w0 w:World} {fp0:List Nat} {R:List Asn} {b:Nat} {t:TypeId} {a0 a1 a2:Value} (h:St w0 fp0 (blkA b t #[a0,a1,a2]::R) w) (v0 v1 v2:Value):
 St w0 fp0 (blkA b t #[v0,v1,v2]::R) (((w.setCell ⟨b,0,none⟩ v0).setCell ⟨b,1,none⟩ v1).setCell ⟨b,2,none⟩ v2):=
 ((h.setB 0 (by simp) v0).setB 1 (by simp) v1).setB 2 (by simp) v2
theorem PutPost.fin {w0 w:World} {fp0:List Nat} {R:List Asn} {cols:Nat} {lv lv2:Value} {x:Ri} {l:List Ri} {P:Ri->Prop} (h:PutPost w0 fp0 R (putOk cols x.id x.r) lv lv2 x l w) (hasc:l.Pairwise λ a b=> a.id < b.id) (hl:∀y∈l,P y) (hx:P x):
 ∃m,riL m=putLL cols x.id x.r (riL l)/\m.length<=l.length+1/\(m.Pairwise λ a b=> a.id < b.id)/\(∀y∈m,P y)/\St w0 fp0 (riA lv2 m::R) w:=by
 rcases h with ⟨h1,h2⟩ | ⟨h1,rfl,h2⟩
 · have e:riL (putR x.id x l)=putLL cols x.id x.r (riL l):=by rw [riL_putR _ _ rfl,putLL,h1];rfl
   refine ⟨_,e,?_,asc_putR rfl hasc,λ y hy=> ?_,(St_re (L:=[_,_]) h2 [0,1] [] (by kernel_rfl)).perm (List.Perm.swap _ _ _) |>.drop⟩
   · rw [<-riL_len,riL_putR _ _ rfl,<-riL_len l]
     exact putL_len _ _ _
   · rcases List.mem_append.1 hy with h | h
     · exact hl y (List.mem_filter.1 h).1
     · rcases List.mem_cons.1 h with rfl | h
       · exact hx
       · exact hl y (List.mem_filter.1 h).1
 · refine ⟨l,?_,by omega,hasc,hl,h2⟩
   rw [putLL,h1];rfl
theorem playD_calls (u:Nat) (hu:u < 256) (ka fa:Option Addr) (kn kc fn fc:Nat) (K F:List Int) (hK:K.length<=6) (hF:F.length<=6) (l:List Opr) (v:Value) (w0 w:World) (fp0:List Nat) (R:List Asn)
 (hk:Rd w0 fp0 R λ w=> IntsX [] w K (.slice ka kn kc)) (hf:Rd w0 fp0 R λ w=> IntsX [] w F (.slice fa fn fc)) (hl:Rd w0 fp0 R λ w=> OpsX w l v) (hlen:l.length<=100000) (hops:∀o∈l,o.kd < 256/\I64 o.id/\o.r.length<=1000/\∀v∈o.r,I64 v.int) (hS:St w0 fp0 R w):
 Calls Tryz.prog 11 #[.agg #[.int .u8 u, .slice ka kn kc, .slice fa fn fc],v] w λ e w'=> PlPostD l w0 fp0 R (colsN u) e w':=by
 obtain ⟨va,vc,rfl⟩:=(hl.here hS).sl.shape;have HL:=Lib.hid hl;have HS0:Hid (St w0 fp0 (blkA (w.heap.size+1) 37 #[.int .i64 0, .slice none 0 0, .int .i64 0]::blkA w.heap.size 24 #[.int .u8 u, .slice ka kn kc, .slice fa fn fc]::R) ((w.alloc (.cells #[.int .u8 u, .slice ka kn kc, .slice fa fn fc] 24)).alloc (.cells #[.int .i64 0, .slice none 0 0, .int .i64 0] 37))):=by have h1:=(hS.newblk 24 #[.int .u8 u, .slice ka kn kc, .slice fa fn fc]).newblk 37 #[.int .i64 0, .slice none 0 0, .int .i64 0];simp only [World.size_alloc] at h1;exact h1
 go_enter Tryz.func11,Tryz.ntmps11;go_upto_region 2 with (fail)
 have hcn:((u:Int) % 4+1)=(colsN u:Int):=by unfold colsN;omega
 rw [hcn];obtain ⟨W0,hW0⟩:∃W0,(w.alloc (.cells #[.int .u8 u, .slice ka kn kc, .slice fa fn fc] 24)).alloc (.cells #[.int .i64 0, .slice none 0 0, .int .i64 0] 37)=W0:=⟨_,rfl⟩
 rw [hW0] at HS0 ⊢;clear hW0;obtain ⟨b2,hb2⟩:∃b2,w.heap.size=b2:=⟨_,rfl⟩
 rw [hb2] at HS0 ⊢;clear hb2;obtain ⟨b5,hb5⟩:∃b5,b2+1=b5:=⟨_,rfl⟩
 rw [hb5] at HS0 ⊢;clear hb5;refine rPl2 (w0:=w0) (fp0:=fp0) b2 (colsN u) kn kc fn fc u ka fa K F (blkA b5 37 #[.int .i64 0, .slice none 0 0, .int .i64 0]::R) (by unfold colsN;omega) (by omega) (by omega) (λ L w h=> (hk.cons _).at h) (λ L w h=> (hf.cons _).at h) rfl (by kernel_rfl) rfl rfl rfl rfl ?_ ?_
 · have h5:=St.emp.2 (St.emp.2 (St.emp.2 (St.emp.2 (St.emp.2 (St.emp.2 HS0.out)))))
   refine h5.perm ?_
   classical refine List.perm_iff_count.2 λ a=> ?_;simp only [List.cons_append,List.nil_append,List.count_cons];omega
 · intro u8 u9 u29 u32 u33 u36 u37 u38 W1 ⟨_,_,_,e32⟩ ⟨_,_,_,e36⟩ ⟨S,e38⟩ ⟨b9,e9⟩ e8 h1
   subst e32 e36 e38 e9 e8;obtain ⟨b,eb,h2⟩:=St.at_open (show St w0 fp0 (atA 37 (.pointer (some ⟨b9,0,none⟩)) #[.int .i64 (colsN u), .slice none 0 0, .int .i64 1]::(storeA S (colsN u) (([K]++[F]).foldl (addI (colsN u)) []) [] 1::blkA b5 37 #[.int .i64 0, .slice none 0 0, .int .i64 0]::R)) W1 from (St_re (L:=[_,_,_,_,_,_,_]) h1 [6,0,1,2,3,5,4] [] (by kernel_rfl)).drop.drop.drop.drop.drop);have hbb:b=b9:=by simpa using eb.symm
   subst hbb;have H2:=Lib.hid h2;clear h1 h2 eb HS0;simp only [putL,List.foldl,Act.put,List.setIfInBounds_toArray,List.set_cons_succ,List.set_cons_zero,pb];go_upto_region 6 with (fail)
   obtain ⟨N,hN⟩:∃N,l.length=N:=⟨_,rfl⟩
   rw [hN];have HI:Hid (PlInv l w0 fp0 R S (colsN u) (([K]++[F]).foldl (addI (colsN u)) []) b b5 0 W1):=⟨[],1,[], .slice none 0 0,rfl,Nat.le_refl _,List.Pairwise.nil,by simp,rfl,(St.nilR 56 2 H2.out).perm (by
    unfold riA
    classical refine List.perm_iff_count.2 λ a=> ?_;simp only [List.count_cons,riV,List.flatMap_nil,List.length_nil];omega)⟩
   clear H2;go_loopg [46] N (λ g z wr=> ∃k:Nat,z=.int .i64 k/\g+k=N/\Hid (PlInv l w0 fp0 R S (colsN u) (([K]++[F]).foldl (addI (colsN u)) []) b b5 k wr))
   case atStart=> exact ⟨0,rfl,rfl,HI⟩
   case round=>
    clear HI;obtain ⟨k,rfl,hgk,Hi⟩:=hrel;obtain ⟨L,next,m,lv,hL,hmk,hasc,hrows,hpd,hS1⟩:=Hi.out;have hlw:=hl.at (M:=[_,_,_,_]) hS1;by_cases hkk:k < N
    · have hkl:k < l.length:=by rw [hN];exact hkk
      obtain ⟨b',o,c',e1,p0,p1,p2⟩:=op_cells hlw.sl k hkl;obtain ⟨rfl, -, -⟩:=Value.slice.inj e1;have hpl:=World.block_lt_of_cell? wr _ p0;have hop:=hops _ (List.getElem_mem hkl);have hof:Of l ⟨l[k].id,l[k].a,l[k].n,l[k].c,l[k].r⟩:=⟨_,List.getElem_mem hkl,rfl,rfl⟩
      have hrow:Rd w0 fp0 R λ w=> ValsAt w l[k].r l[k].v:=hl.imp λ w h=> h.row _ (List.getElem_mem hkl);have hps:=playD_succ (colsN u) l k hkl;rw [<-hpd] at hps;have hkn:(k:Int) < N:=by omega
      have Hgk:=Lib.hid hgk;clear hgk e1 hlw Hi;generalize l[k]=x at *;clear hkl;obtain ⟨kd,id,xa,xn,xc,xr⟩:=x;unfold Opr.v at p2 hrow;simp only at p0 p1 p2 hrow hop;have HROW:=Lib.hid hrow;have HOF:Hid (∀i,Of l ⟨i,xa,xn,xc,xr⟩):=λ i=> hof;clear hof;have HOP:=Lib.hid hop;have HPS:=Lib.hid hps;clear hps hpd;have HM:=Lib.hid (And.intro hL (And.intro hmk (And.intro hasc hrows)));have HS2:=Lib.hid (hS1.newblk 58 #[.int .u8 kd, .int .i64 id, .slice xa xn xc]);clear hrow hop hL hmk hasc hrows hS1;go_upto_region 8 with (fail)
      have hsz:=World.size_alloc wr (.cells #[.int .u8 kd, .int .i64 id, .slice xa xn xc] 58);generalize hW2:wr.alloc _=W2 at *;clear hW2 p0 p1 p2 hpl;obtain ⟨ob,hob⟩:∃ob,wr.heap.size=ob:=⟨_,rfl⟩
      rw [hob] at HS2 hsz ⊢;have HE:=Lib.hid HS2.out.emptyV;obtain ⟨q0,q1,q2,r0,r1,r2,ql⟩:=cells3 HE.out 1 rfl;have HSRC:=Lib.hid ((HROW.out.at (M:=[_,_,_,_,_,_]) HE.out).1.src (P:=Tryz.prog) (tx:=27) (e':=29) (by kernel_rfl) (by decide) (one_flat _));clear hsz hob
      go_upto_region 9 with (first
       | (at_builtin;refine wpList_appR rfl _ _ _ _ rfl rfl rfl appVS HE.out HSRC.out (by have:=HOP.out.2.2.1;omega) ?_;intro v3 w3 h3))
      rw [Nat.zero_add,List.nil_append] at h3;have HTX:=Lib.hid (HROW.out.at (M:=[_,_,_,_,_,_]) h3.out).2;clear HE HSRC HS2 q0 q1 q2 r0 r1 r2 ql;obtain ⟨va3,n3,vc3,rfl⟩:∃a n c,v3=.slice a n c:=by obtain ⟨_,hr⟩:=h3.out.has 0 rfl;obtain ⟨a,c,e, -⟩:=row_shape hr;exact ⟨_,_,_,e⟩
      obtain ⟨q0,q1,q2,r0,r1,r2,ql⟩:=cells3 h3.out 1 rfl;obtain ⟨p0,p1,p2,s0,s1,s2,pl⟩:=cells3 h3.out 4 rfl;have HG:=Lib.hid (by obtain ⟨_,hr⟩:=h3.out.has 3 rfl;exact RGet_calls (colsN u) lv next id m w3 (riA_sl hr));have HGR:=Lib.hid (riGet_at (w0:=w0) (fp0:=fp0) (R:=R) id (m:=m) λ x hx=> by obtain ⟨o,ho,e1,e2⟩:=HM.out.2.2.2 x hx;rw [<-e1,<-e2];exact HL.out.imp λ w h=> h.row _ ho);have HGQ:=Lib.hid (findRi_get id m);rw [HM.out.1] at HGR HGQ;unfold rsV at HG;obtain ⟨gv,hgv⟩:∃gv,riGet (findRi m id)=gv:=⟨_,rfl⟩
      obtain ⟨gq,hgq⟩:∃gq,(findRi m id).isSome=gq:=⟨_,rfl⟩
      rw [hgv,hgq] at HG;rw [hgv] at HGR;have HQ:=Lib.hid ((congrArg Option.isSome HGQ.out).trans ((Option.isSome_map).trans hgq));clear hgv hgq HGQ;go_wp2_with fail;(with_reducible refine HG.out.mono ?_);rintro e w4 ⟨rfl,hb4⟩;have H4:=Lib.hid (h3.out.mono hb4);clear HG h3 hb4 q0 q1 q2 r0 r1 r2 ql p0 p1 p2 s0 s1 s2 pl;obtain ⟨q0,q1,q2,r0,r1,r2,ql⟩:=cells3 H4.out 1 rfl;go_upto_region 14 with (fail)
      have HLN:=Lib.hid (show m.length < 200000/\L.length < 200000 by
       have h1:=HM.out.2.1;have h2:L.length=m.length:=by rw [<-HM.out.1];exact riL_len m
       omega)
      rcases (by omega:kd % 4=0\/kd % 4=1\/kd % 4=2\/kd % 4=3) with e4 | e4 | e4 | e4
      · have e5:(kd:Int) % 4=0:=by omega
        have HP4:=Lib.hid (HPS.out.trans (show _=_ by unfold stD;simp only [e4];rfl));rw [e5];clear e4 e5;have HP:=Lib.hid (RInsert_calls (colsN u) lv ⟨next,xa,xn,xc,xr⟩ m HM.out.2.2.1 (by have:=HLN.out;omega) w0 w4 fp0 _ (HROW.out.app [_,_,_,_,_]) (St_re (L:=[_,_,_,_,_,_]) H4.out [3,4,0,1,2,5] [] (by kernel_rfl)));obtain ⟨p0,p1,p2,s0,s1,s2,pl⟩:=cells3 H4.out 4 rfl;clear H4;unfold rsV Ri.v at HP;obtain ⟨N2,hN2⟩:∃N2,putN (colsN u) next xr next=N2:=⟨_,rfl⟩
        obtain ⟨iv,hiv⟩:∃iv,insV (colsN u) xr next=iv:=⟨_,rfl⟩
        rw [hN2,hiv] at HP;have HN2:=Lib.hid (And.intro hN2 hiv);clear hN2 hiv;go_wp2_with fail;(with_reducible refine HP.out.mono ?_);rintro e w5 ⟨lv2,rfl,hpp⟩;obtain ⟨m2,h1,h2,h3,h4,h5⟩:=PutPost.fin (x:=⟨next,xa,xn,xc,xr⟩) (P:=Of l) hpp HM.out.2.2.1 HM.out.2.2.2 (HOF.out _);rw [HM.out.1] at h1;clear HP hpp q0 q1 q2 r0 r1 r2 ql p0 p1 p2 s0 s1 s2 pl;have HM2:=Lib.hid (And.intro h1 (And.intro h2 (And.intro h3 h4)));clear h1 h2 h3 h4;obtain ⟨ya,yn,yc,rfl⟩:∃a n c,lv2=.slice a n c:=by obtain ⟨_,hr⟩:=h5.has 0 rfl;obtain ⟨a,c,e⟩:=(riA_sl hr).shape;exact ⟨_,_,_,e⟩
        have H5:=Lib.hid h5;clear h5;go_upto_region 16 with (fail)
        have H6:=Lib.hid (H5.out.newblk 37 #[.int .i64 (colsN u), .slice ya yn yc, .int .i64 N2]);generalize hW6:w5.alloc _=W6 at *;clear hW6 H5;obtain ⟨q0,q1,q2,r0,r1,r2,ql⟩:=cells3 H6.out 0 rfl;obtain ⟨p0,p1,p2,s0,s1,s2,pl⟩:=cells3 H6.out 2 rfl;have H7:=Lib.hid (setB3 (St_re (L:=[_,_,_,_,_,_,_]) H6.out [2,0,1,3,4,5,6] [] (by kernel_rfl)) (.int .i64 (colsN u)) (.slice ya yn yc) (.int .i64 N2));clear H6;go_upto_region 17 with (fail)
        generalize hW7:World.setCell (World.setCell (World.setCell _ _ _) _ _) _ _=W7 at *;clear hW7 q0 q1 q2 r0 r1 r2 ql p0 p1 p2 s0 s1 s2 pl;have HI2:=Lib.hid (SInsert_calls S (colsN u) _ L next xr (.slice va3 n3 vc3) HOP.out.2.2.2 (by unfold colsN;omega) (by have:=HLN.out;omega) w0 W7 fp0 _ (Rd.of_piece 3 rfl λ w f h=> ⟨SlX.of_row (X:=[]) h (length_flat xr) (by simp),HTX.out⟩) (St_re (L:=[_,_,_,_,_,_,_]) H7.out [5,0,1,2,3,4,6] [] (by kernel_rfl)));clear H7;rw [HN2.out.1,HN2.out.2] at HI2;unfold ptrV at HI2;go_wp2_with fail;(with_reducible refine HI2.out.mono ?_);rintro e w8 ⟨rfl,h8⟩;have HI3:Hid (PlInv l w0 fp0 R S (colsN u) (([K]++[F]).foldl (addI (colsN u)) []) b b5 (k+1) w8):=⟨_,_,m2,_,HM2.out.1,by have h1:=HM2.out.2.1;have h2:=HM.out.2.1;omega,HM2.out.2.2.1,HM2.out.2.2.2,by rw [<-HN2.out.1];exact HP4.out.symm,(St_re (L:=[_,_,_,_,_,_,_]) h8 [2,4,5,0,3,1,6] [] (by kernel_rfl)).drop.drop.drop⟩
        clear HI2 h8;go_wp2;go_roundg (gk - 1)
        case rel=> exact ⟨k+1,by go_num,by have:=Hgk.out;omega,HI3⟩
        case measure=> have:=Hgk.out;omega
      · have e5:(kd:Int) % 4=1:=by omega
        have HP4:=Lib.hid (HPS.out.trans (show _=_ by unfold stD;simp only [e4];rfl));rw [e5];clear e4 e5;have HP:=Lib.hid (RPut_calls (colsN u) lv next ⟨id,xa,xn,xc,xr⟩ m HM.out.2.2.1 (by have:=HLN.out;omega) w0 w4 fp0 _ (HROW.out.app [_,_,_,_,_]) (St_re (L:=[_,_,_,_,_,_]) H4.out [3,4,0,1,2,5] [] (by kernel_rfl)));obtain ⟨p0,p1,p2,s0,s1,s2,pl⟩:=cells3 H4.out 4 rfl;clear H4;unfold rsV Ri.v errV at HP;obtain ⟨N2,hN2⟩:∃N2,putN (colsN u) id xr next=N2:=⟨_,rfl⟩
        obtain ⟨iv,hiv⟩:∃iv:Int,(if putOk (colsN u) id xr then (0:Int) else 1)=iv:=⟨_,rfl⟩
        rw [hN2,hiv] at HP;have HN2:=Lib.hid (And.intro hN2 hiv);clear hN2 hiv;go_wp2_with fail;(with_reducible refine HP.out.mono ?_);rintro e w5 ⟨lv2,rfl,hpp⟩;obtain ⟨m2,h1,h2,h3,h4,h5⟩:=PutPost.fin (x:=⟨id,xa,xn,xc,xr⟩) (P:=Of l) hpp HM.out.2.2.1 HM.out.2.2.2 (HOF.out _);rw [HM.out.1] at h1;simp only at h1;clear HP hpp q0 q1 q2 r0 r1 r2 ql p0 p1 p2 s0 s1 s2 pl;have HM2:=Lib.hid (And.intro h1 (And.intro h2 (And.intro h3 h4)));clear h1 h2 h3 h4;obtain ⟨ya,yn,yc,rfl⟩:∃a n c,lv2=.slice a n c:=by obtain ⟨_,hr⟩:=h5.has 0 rfl;obtain ⟨a,c,e⟩:=(riA_sl hr).shape;exact ⟨_,_,_,e⟩
        have H5:=Lib.hid h5;clear h5;go_upto_region 21 with (fail)
        have H6:=Lib.hid (H5.out.newblk 37 #[.int .i64 (colsN u), .slice ya yn yc, .int .i64 N2]);generalize hW6:w5.alloc _=W6 at *;clear hW6 H5;obtain ⟨q0,q1,q2,r0,r1,r2,ql⟩:=cells3 H6.out 0 rfl;obtain ⟨p0,p1,p2,s0,s1,s2,pl⟩:=cells3 H6.out 2 rfl;have H7:=Lib.hid (setB3 (St_re (L:=[_,_,_,_,_,_,_]) H6.out [2,0,1,3,4,5,6] [] (by kernel_rfl)) (.int .i64 (colsN u)) (.slice ya yn yc) (.int .i64 N2));clear H6;go_upto_region 22 with (fail)
        generalize hW7:World.setCell (World.setCell (World.setCell _ _ _) _ _) _ _=W7 at *;clear hW7 q0 q1 q2 r0 r1 r2 ql p0 p1 p2 s0 s1 s2 pl;obtain ⟨q0,q1,q2,r0,r1,r2,ql⟩:=cells3 H7.out 4 rfl;have HI2:=Lib.hid (SPut_calls S (colsN u) _ L next id xr (.slice va3 n3 vc3) HOP.out.2.1 HOP.out.2.2.2 (by unfold colsN;omega) (by have:=HLN.out;omega) w0 W7 fp0 _ (Rd.of_piece 3 rfl λ w f h=> ⟨SlX.of_row (X:=[]) h (length_flat xr) (by simp),HTX.out⟩) (St_re (L:=[_,_,_,_,_,_,_]) H7.out [5,0,1,2,3,4,6] [] (by kernel_rfl)));clear H7;unfold errV at HI2;rw [HN2.out.1,HN2.out.2] at HI2;unfold ptrV at HI2;go_wp2_with fail;(with_reducible refine HI2.out.mono ?_);rintro e w8 ⟨rfl,h8⟩;have HI3:Hid (PlInv l w0 fp0 R S (colsN u) (([K]++[F]).foldl (addI (colsN u)) []) b b5 (k+1) w8):=⟨_,_,m2,_,HM2.out.1,by have h1:=HM2.out.2.1;have h2:=HM.out.2.1;omega,HM2.out.2.2.1,HM2.out.2.2.2,by rw [<-HN2.out.1];exact HP4.out.symm,(St_re (L:=[_,_,_,_,_,_,_]) h8 [2,4,5,0,3,1,6] [] (by kernel_rfl)).drop.drop.drop⟩
        clear HI2 h8;go_wp2;go_roundg (gk - 1)
        case rel=> exact ⟨k+1,by go_num,by have:=Hgk.out;omega,HI3⟩
        case measure=> have:=Hgk.out;omega
      · have e5:(kd:Int) % 4=2:=by omega
        have HP4:=Lib.hid (HPS.out.trans (show _=_ by unfold stD;simp only [e4];rfl));rw [e5];clear e4 e5;have HP:=Lib.hid (SDelete_calls S (colsN u) _ L next id HOP.out.2.1 (by unfold colsN;omega) (by have:=HLN.out;omega) w0 w4 fp0 _ (St_re (L:=[_,_,_,_,_,_]) H4.out [2,3,4,1,5,0] [] (by kernel_rfl)));rw [HQ.out] at HP;unfold ptrV at HP;clear H4;go_wp2_with fail;(with_reducible refine HP.out.mono ?_);rintro e w5 ⟨dv,rfl,h5⟩;clear HP q0 q1 q2 r0 r1 r2 ql;have H5:=Lib.hid (St_re (L:=[_,_,_,_,_,_,_]) h5 [2,3,4,0,1,5,6] [] (by kernel_rfl));clear h5;have HD:=Lib.hid (RDelete_calls (colsN u) lv next id m (by have:=HLN.out;omega) w0 w5 fp0 _ H5.out);unfold rsV at HD;obtain ⟨q0,q1,q2,r0,r1,r2,ql⟩:=cells3 H5.out 2 rfl;obtain ⟨p0,p1,p2,s0,s1,s2,pl⟩:=cells3 H5.out 1 rfl;clear H5;go_wp2_with fail;(with_reducible refine HD.out.mono ?_);rintro e w6 ⟨lv2,rfl,h6⟩;clear HD q0 q1 q2 r0 r1 r2 ql p0 p1 p2 s0 s1 s2 pl;obtain ⟨ya,yn,yc,rfl⟩:∃a n c,lv2=.slice a n c:=by obtain ⟨_,hr⟩:=h6.has 0 rfl;obtain ⟨a,c,e⟩:=(riA_sl hr).shape;exact ⟨_,_,_,e⟩
        have H6:=Lib.hid (St_re (L:=[_,_,_,_,_,_,_,_]) h6 [1,2,0,3,4,5,6,7] [] (by kernel_rfl)).drop;clear h6;obtain ⟨p0,p1,p2,s0,s1,s2,pl⟩:=cells3 H6.out 0 rfl;have H7:=Lib.hid (setB3 H6.out (.int .i64 (colsN u)) (.slice ya yn yc) (.int .i64 next));clear H6;go_upto_region 27 with (fail)
        generalize hW7:World.setCell (World.setCell (World.setCell _ _ _) _ _) _ _=W7 at *;clear hW7 p0 p1 p2 s0 s1 s2 pl;have HS:=Lib.hid (by obtain ⟨_,hr⟩:=H7.out.has 3 rfl;exact rsame_calls ((getL L id).getD []) ((getL L id).getD []) dv gv W7 ⟨SlX.of_row (X:=[]) hr (length_flat _) (by simp),(HGR.out.at (M:=[_,_,_,_,_,_,_]) H7.out).2⟩ (HGR.out.at (M:=[_,_,_,_,_,_,_]) H7.out));rw [decide_eq_true rfl] at HS;go_wp2_with fail;(with_reducible refine HS.out.mono ?_);rintro e w8 ⟨rfl,hb8⟩;have HI3:Hid (PlInv l w0 fp0 R S (colsN u) (([K]++[F]).foldl (addI (colsN u)) []) b b5 (k+1) w8):=⟨delL id L,_,delR id m,_,by rw [riL_delR,HM.out.1],by have h1:=delR_len id m;have h2:=HM.out.2.1;omega,HM.out.2.2.1.sublist List.filter_sublist,λ y hy=> HM.out.2.2.2 y (List.mem_filter.1 hy).1,HP4.out.symm,(St_re (L:=[_,_,_,_,_,_,_]) (H7.out.mono hb8) [2,3,6,4,1,0,5] [] (by kernel_rfl)).drop.drop.drop⟩
        clear HS hb8 H7;go_wp2;go_roundg (gk - 1)
        case rel=> exact ⟨k+1,by go_num,by have:=Hgk.out;omega,HI3⟩
        case measure=> have:=Hgk.out;omega
      · have e5:(kd:Int) % 4=3:=by omega
        have HP4:=Lib.hid (HPS.out.trans (show _=_ by unfold stD;simp only [e4];rfl));rw [e5];clear e4 e5;have HP:=Lib.hid (SGet_calls S (colsN u) _ L next id w0 w4 fp0 _ (by unfold colsN;omega) (St_re (L:=[_,_,_,_,_,_]) H4.out [2,3,4,1,5,0] [] (by kernel_rfl)));rw [HQ.out] at HP;unfold ptrV at HP;clear H4;go_wp2_with fail;(with_reducible refine HP.out.mono ?_);rintro e w5 ⟨dv,rfl,h5⟩;clear HP q0 q1 q2 r0 r1 r2 ql;have HS:=Lib.hid (by obtain ⟨_,hr⟩:=h5.has 0 rfl;exact rsame_calls ((getL L id).getD []) ((getL L id).getD []) dv gv w5 ⟨SlX.of_row (X:=[]) hr (length_flat _) (by simp),(HGR.out.at (M:=[_,_,_,_,_,_,_]) h5).2⟩ (HGR.out.at (M:=[_,_,_,_,_,_,_]) h5));rw [decide_eq_true rfl] at HS;have H5:=Lib.hid h5;clear h5;go_wp2_with fail;(with_reducible refine HS.out.mono ?_);rintro e w8 ⟨rfl,hb8⟩;have HI3:Hid (PlInv l w0 fp0 R S (colsN u) (([K]++[F]).foldl (addI (colsN u)) []) b b5 (k+1) w8):=⟨L,_,m,_,HM.out.1,by have h2:=HM.out.2.1;omega,HM.out.2.2.1,HM.out.2.2.2,HP4.out.symm,(St_re (L:=[_,_,_,_,_,_,_]) (H5.out.mono hb8) [0,4,6,1,2,3,5] [] (by kernel_rfl)).drop.drop.drop⟩
        clear HS hb8 H5;go_wp2;go_roundg (gk - 1)
        case rel=> exact ⟨k+1,by go_num,by have:=Hgk.out;omega,HI3⟩
        case measure=> have:=Hgk.out;omega
    · obtain rfl:k=N:=by omega
      obtain ⟨la,lc,rfl⟩:∃a c,lv=.slice a m.length c:=by obtain ⟨_,hr⟩:=hS1.has 1 rfl;exact (riA_sl hr).shape
      have hLm:L.length=m.length:=by rw [<-hL];exact riL_len m
      have HPE:=Lib.hid hpd;have HM:=Lib.hid (And.intro hL (And.intro hLm (And.intro hmk (And.intro hasc hrows))));have HS1:=Lib.hid (St_re (L:=[_,_,_,_]) hS1 [0,2,3,1] [] (by kernel_rfl));clear hrows hasc hmk hL hS1 hlw Hi hgk hLm hpd;obtain ⟨n,hnn⟩:∃n,m.length=n:=⟨_,rfl⟩
      rw [hnn] at HM HS1;have HNN:=Lib.hid hnn;clear hnn;go_upto_region 30 with (fail)
      refine rPn (w0:=w0) (fp0:=fp0) S b b5 (colsN u) n lc la next (storeA S (colsN u) (([K]++[F]).foldl (addI (colsN u)) []) L next) (riA (.slice la n lc) m::R) (λ w f h=> (SLen_calls h).mono λ e w' ⟨h1,h2⟩=> ⟨by rw [h1,HM.out.2.1],h2 ▸ Below.refl _ _⟩) (λ w f h=> (Next_calls h).mono λ e w' ⟨h1,h2⟩=> ⟨h1,h2 ▸ Below.refl _ _⟩) rfl (by kernel_rfl) rfl rfl rfl rfl rfl HS1.out ?_
      intro w9 h9;have H9:=Lib.hid h9;obtain ⟨q0,q1,q2,r0,r1,r2,ql⟩:=cells3 h9 2 rfl;clear h9 HS1;simp only [putL,List.foldl,Act.put,List.setIfInBounds_toArray,List.set_cons_succ,List.set_cons_zero];go_wp2;refine bodyPost_ret (v:=.tuple #[.pointer (some ⟨S,0,none⟩), .agg #[.int .i64 (colsN u), .slice la n lc, .int .i64 next], .bool true]) (by simp [results,Tryz.results11,go_sem, *]) rfl ?_;exact ⟨S,_,next,_,m,rfl,by have h1:=HM.out.2.2.1;have h2:=HNN.out;omega,HM.out.2.2.2.1,HM.out.2.2.2.2,by rw [HM.out.1,hN];exact HPE.out,(St_re (L:=[_,_,_,_]) (by rw [HM.out.1];exact H9.out) [1,2,0,3] [] (by kernel_rfl)).drop.drop⟩
theorem SeqG.perm {α:Type} {n:Nat} {P:Program} {g:Nat} {lb:Array Value} {sz:Nat} {G:α->Array Value->Asn} {Qr:World->Prop} {xs:List α} {L0 L1:List Asn} (h:SeqG n P g lb sz G Qr xs L0) (hp:L0.Perm L1):SeqG n P g lb sz G Qr xs L1:=
 λ l R J Jx w0 fp0 W hs h1 h2 h3=> h l R J Jx w0 fp0 W (hs.perm (hp.symm.append_right R)) (λ Own W1 h4=> h1 Own W1 (h4.perm ((hp.append_right R).append_right Own))) h2 h3
def ItOf (v:Value) (X:List Asn) (S cols:Nat) (I:List (List Int)) (q:LL->LL):Prop:=∃gf lb,v=.func (.func gf) #[] lb/\(∀args w,(callFunc gf args).run Tryz.prog w=.ok (.enter gf args) w)/\
 ∀(s:Sto) (L:LL) (next:Int),s.Ok cols I L next->L.length+1 < 1099511627776->∃its,riL its=q L/\(∀x∈its,∃e∈s.es,x=toRi e)/\its.length<=L.length/\∀n,SeqG n Tryz.prog gf lb 2 itG (λ W=> ∀x∈its,ValsAt W x.r x.v) its (X++stoL S s)
def iterA (v:Value) (S cols:Nat) (I:List (List Int)) (q:LL->LL):Asn:=exA λ X:List Asn=> starA (pureA (ItOf v X S cols I q)::X)
theorem St.iter {w0 w:World} {fp0:List Nat} {R:List Asn} {v:Value} {S cols:Nat} {I:List (List Int)} {q:LL->LL}:St w0 fp0 (iterA v S cols I q::R) w↔∃X,ItOf v X S cols I q/\St w0 fp0 (X++R) w:=by
 constructor
 · intro h
   obtain ⟨X,h1⟩:=St.exE h;exact ⟨X,St.pure.1 (St.star.1 h1)⟩
 · rintro ⟨X,h1,h2⟩
   exact St.exI X (St.star.2 (St.pure.2 ⟨h1,h2⟩))
theorem riL_som (p:Re->Bool) (q:Int×Rw->Bool) (h:∀e:Re,p e=q (e.id,e.r)) (es:List Re):riL (somL p es)=(reL es).filter q:=by
 unfold riL somL reL;rw [List.map_map,List.filter_map];congr 1;exact List.filter_congr λ e _=> h e
theorem som_its {cols:Nat} {I:List (List Int)} {L:LL} {next:Int} {s:Sto} (hok:s.Ok cols I L next) (p:Re->Bool):(∀x∈somL p s.es,∃e∈s.es,x=toRi e)/\(somL p s.es).length<=L.length:=by
 refine ⟨λ x hx=> ?_,?_⟩
 · obtain ⟨e,he, -,rfl⟩:=somL_row hx
   exact ⟨e,he,rfl⟩
 · rw [<-hok.rows,reL,List.length_map]
   exact somL_len _ _
theorem All_it (S cols:Nat) (I:List (List Int)) (hc:cols<=1000000) (w0 w:World) (fp0:List Nat) (R:List Asn) (hS:St w0 fp0 R w):
 Calls Tryz.prog 16 #[ptrV S] w λ e w'=> ∃v,e=.returned v/\St w0 fp0 (iterA v S cols I (λ L=> L)::R) w':=by
 refine (All_store S w0 w fp0 R hS).mono ?_;rintro e w' ⟨cb,bS,rfl,h⟩;refine ⟨_,rfl,St.iter.2 ⟨[_,_],⟨84,_,rfl,enters_own Tryz.func84 (by kernel_rfl) rfl,λ s L next hok hl=> ⟨_,?_,(som_its hok λ _=> true).1,(som_its hok λ _=> true).2,λ n=> all_seq hok hc (by have:=hok.rows;rw [<-this,reL,List.length_map] at hl;exact hl) bS cb n⟩⟩,h⟩⟩;rw [riL_som (λ _=> true) (λ _=> true) (λ _=> rfl),hok.rows];exact List.filter_eq_self.2 λ _ _=> rfl
def lookL (cols:Nat) (cs:List Int) (vals:Rw) (L:LL):LL:=if noneB cols cs vals then [] else L.filter λ x=> decide (cs.map (colV x.2)=vals)
theorem Lookup_it (S cols:Nat) (I:List (List Int)) (L:LL) (next:Int) (hc:cols<=1000000) (cv vv:Value) {cs:List Int} {vals:Rw} (hvl:vals.length<=100000) (hcl:cs.length<=100000) (hx:RowS vals)
 (w0 w:World) (fp0:List Nat) (R:List Asn) (hrc:Rd w0 fp0 R λ w=> IntsX [] w cs cv) (hrv:Rd w0 fp0 R λ w=> ValsAt w vals vv) (hS:St w0 fp0 (storeA S cols I L next::R) w):
 Calls Tryz.prog 15 #[ptrV S,cv,vv] w λ e w'=> ∃v,e=.returned v/\St w0 fp0 (iterA v S cols I (lookL cols cs vals)::storeA S cols I L next::R) w':=by
 obtain ⟨s,hok,hs⟩:=hS.openS;have ec:=hok.ecols;refine (Lookup_store cv vv hvl hcl hx w0 w fp0 R hrc hrv hs).mono ?_;rintro e w' ⟨cb,b8,b3,b4,b7,b5,cv',vv',rfl,h⟩;rw [ec] at h;have h1:St w0 fp0 (stoL S s++((blkA cb 109 #[lkCol b8 b3 b4 b7 b5]::(lkB b8 b3 b7 b4 b5 S (noneB cols cs vals)++lkX b4 b5 cv' vv' cs vals))++R)) w':=h.perm (by classical refine List.perm_iff_count.2 λ a=> ?_;simp only [List.cons_append,List.count_append,List.count_cons];omega);have h2:=St.shutS hok h1;refine ⟨_,rfl,St.iter.2 ⟨_,⟨84,_,rfl,enters_own Tryz.func84 (by kernel_rfl) rfl,λ s L next hok hl=> ⟨lkIts (noneB cols cs vals) cs vals s,?_,?_,?_,λ n=> (lk_seq (S:=S) hok hc hl b8 b3 b4 b7 b5 cb cv' vv' (noneB cols cs vals) (λ h=> noneB_ok h) hx hvl n).perm ?_⟩⟩,h2.perm List.perm_middle.symm⟩⟩
 · unfold lkIts lookL
   cases noneB cols cs vals
   · rw [if_neg (by simp),if_neg (by simp),riL_som (lkP cs vals) (λ x=> decide (cs.map (colV x.2)=vals)) (λ _=> rfl),hok.rows]
   · rfl
 · unfold lkIts
   cases noneB cols cs vals
   · exact (som_its hok _).1
   · intro x hx;cases hx
 · unfold lkIts
   cases noneB cols cs vals
   · exact (som_its hok _).2
   · exact Nat.zero_le _
 · classical
   refine List.perm_iff_count.2 λ a=> ?_;simp only [List.cons_append,List.count_append,List.count_cons];omega
def resA (v:Value) (L:LL):Asn:=exA λ out:List Ri=> starA (pureA (riL out=L)::itsL v out)
theorem St.res {w0 w:World} {fp0:List Nat} {R:List Asn} {v:Value} {L:LL}:St w0 fp0 (resA v L::R) w↔∃out,riL out=L/\St w0 fp0 (itsL v out++R) w:=by
 constructor
 · intro h
   obtain ⟨X,h1⟩:=St.exE h;exact ⟨X,St.pure.1 (St.star.1 h1)⟩
 · rintro ⟨X,h1,h2⟩
   exact St.exI X (St.star.2 (St.pure.2 ⟨h1,h2⟩))
def takeL (most:Int) (L:LL):LL:=if most < 1 then [] else L.take most.toNat
theorem riL_take (most:Int) (l:List Ri):riL (takeR most l)=takeL most (riL l):=by
 unfold takeR takeL;split
 · rfl
 · exact List.map_take
theorem taken_it {v:Value} {S cols:Nat} {I:List (List Int)} {q:LL->LL} {L:LL} {next:Int} (hc:cols<=1000000) (hl:L.length+1 < 1099511627776) (most:Int) (w0 w:World) (fp0:List Nat) (R:List Asn) (hS:St w0 fp0 (iterA v S cols I q::storeA S cols I L next::R) w):
 Calls Tryz.prog 14 #[v, .int .i64 most] w λ e w'=> ∃u,e=.returned u/\St w0 fp0 (resA u (takeL most (q L))::iterA v S cols I q::storeA S cols I L next::R) w':=by
 obtain ⟨X,hI,h1⟩:=St.iter.1 hS;obtain ⟨s,hok,h2⟩:=(h1.perm List.perm_middle).openS;have h0:=hI;obtain ⟨gf,lb,rfl,heg,hq⟩:=hI;obtain ⟨its,e1,e2,e3,hseq⟩:=hq s L next hok hl
 have h3:St w0 fp0 ((X++stoL S s)++R) w:=h2.perm (by classical refine List.perm_iff_count.2 λ a=> ?_;simp only [List.count_append];omega);have hrd:∀x∈its,x.r.length < 1099511627776:=λ x hx=> by
  obtain ⟨e,he,rfl⟩:=e2 x hx;have hm:(e.id,e.r)∈L:=by rw [<-hok.rows];exact List.mem_map.2 ⟨_,he,rfl⟩
  have:e.r.length=cols:=(hok.row _ hm).2.2.1;show e.r.length < _;omega
 refine (taken_calls gf lb heg _ its _ (hseq 1) (by omega) hrd most w0 w fp0 R (λ Own W h x hx=> ?_) h3).mono ?_
 · obtain ⟨e,he,rfl⟩:=e2 x hx
   have h4:St w0 fp0 (stoL S s++(X++Own)) W:=h.perm (by classical refine List.perm_iff_count.2 λ a=> ?_;simp only [List.count_append];omega);obtain ⟨f,hf⟩:=h4.star_of;rw [toRi_v (h4.slOf e he)];exact re_at hok hf he
 · rintro e w' ⟨u,out,rfl,e4,h4⟩
   have h5:St w0 fp0 (stoL S s++(X++(itsL u out++R))) w':=h4.perm (by classical refine List.perm_iff_count.2 λ a=> ?_;simp only [List.count_append];omega);have h6:=St.shutS hok h5;refine ⟨u,rfl,St.res.2 ⟨out,by rw [e4,riL_take,e1],?_⟩⟩;refine (St.iter.2 ⟨X,h0,h6.perm List.perm_middle.symm⟩).perm ?_
   classical refine List.perm_iff_count.2 λ a=> ?_;simp only [List.count_append,List.count_cons];omega
theorem its_rix {w0 w:World} {fp0:List Nat} {R:List Asn} {v:Value} {out:List Ri} (h:St w0 fp0 (itsL v out++R) w) (hx:∀x∈out,∀y∈x.r,y.text.size<=maxLen):RiX w out v:=by
 refine ⟨?_,λ x hx'=> ?_⟩
 · obtain ⟨_,hp⟩:=h.has 0 rfl
   exact riA_sl hp
 · obtain ⟨f,hp⟩:=h.hasM (A:=rowP x) (List.mem_append.2 (.inl (List.mem_cons_of_mem _ (List.mem_map.2 ⟨x,hx',rfl⟩))))
   exact ⟨SlX.of_row hp (length_flat _) (by simp),hx x hx'⟩
theorem res_rix {w0 w:World} {fp0:List Nat} {R:List Asn} {v:Value} {L:LL} (h:St w0 fp0 (resA v L::R) w) (hx:∀x∈L,∀y∈x.2,y.text.size<=maxLen):∃out,riL out=L/\RiX w out v:=by
 obtain ⟨out,rfl,h1⟩:=St.res.1 h;exact ⟨out,rfl,its_rix h1 λ x hx'=> hx (x.id,x.r) (List.mem_map.2 ⟨x,hx',rfl⟩)⟩
def rngLt (c:Int) (a b:Int×Rw):Prop:=cmpV (colV a.2 c) (colV b.2 c) < 0\/(colV a.2 c=colV b.2 c/\a.1 < b.1)
theorem cmpV_self (v:Vl):cmpV v v=0:=cmpV_zero.2 rfl
theorem rngLt_irrefl (c:Int) (a:Int×Rw):¬ rngLt c a a:=by
 rintro (h | ⟨_,h⟩)
 · rw [cmpV_self] at h;omega
 · omega
theorem rngLt_asymm (c:Int) (a b:Int×Rw) (h:rngLt c a b) (h':rngLt c b a):False:=by
 have hs:=cmpV_swap (colV a.2 c) (colV b.2 c);rcases h with h | ⟨h,hi⟩ <;> rcases h' with h' | ⟨h',hi'⟩
 · omega
 · rw [h',cmpV_self] at h;omega
 · rw [h,cmpV_self] at h';omega
 · omega
theorem rngLt_tri (c:Int) (a b:Int×Rw):rngLt c a b\/rngLt c b a\/(colV a.2 c=colV b.2 c/\a.1=b.1):=by
 have hs:=cmpV_swap (colV a.2 c) (colV b.2 c);rcases Int.lt_trichotomy (cmpV (colV a.2 c) (colV b.2 c)) 0 with h | h | h
 · exact .inl (.inl h)
 · have e:=cmpV_zero.1 h
   rcases Int.lt_trichotomy a.1 b.1 with h1 | h1 | h1
   · exact .inl (.inr ⟨e,h1⟩)
   · exact .inr (.inr ⟨e,h1⟩)
   · exact .inr (.inl (.inr ⟨e.symm,h1⟩))
 · exact .inr (.inl (.inl (by omega)))
theorem sorted_ext {α:Type} {r:α->α->Prop} (irr:∀a,¬ r a a) (asy:∀a b,r a b->r b a->False):∀{A B:List α},A.Pairwise r->B.Pairwise r->(∀e,e∈A↔e∈B)->A=B
 | [],[],_,_,_=> rfl
 | [],b::B,_,_,h=> absurd ((h b).2 List.mem_cons_self) (by simp)
 | a::A,[],_,_,h=> absurd ((h a).1 List.mem_cons_self) (by simp)
 | a::A,b::B,hA,hB,h=> by
  obtain ⟨hA1,hA2⟩:=List.pairwise_cons.1 hA;obtain ⟨hB1,hB2⟩:=List.pairwise_cons.1 hB;have e:a=b:=by
   rcases List.mem_cons.1 ((h a).1 List.mem_cons_self) with e | h1
   · exact e
   · rcases List.mem_cons.1 ((h b).2 List.mem_cons_self) with e | h2
     · exact e.symm
     · exact (asy _ _ (hA1 b h2) (hB1 a h1)).elim
  subst e;rw [sorted_ext irr asy hA2 hB2 λ x=> ?_];have hx:=h x;rw [List.mem_cons,List.mem_cons] at hx;constructor
  · intro h1
    rcases hx.1 (.inr h1) with rfl | h2
    · exact (irr _ (hA1 _ h1)).elim
    · exact h2
  · intro h1
    rcases hx.2 (.inr h1) with rfl | h2
    · exact (irr _ (hB1 _ h1)).elim
    · exact h2
def insK (c:Int) (x:Int×Rw) (out:LL):LL:=(out.filter λ y=> !decide (cmpV (colV x.2 c) (colV y.2 c) < 0))++x::out.filter λ y=> decide (cmpV (colV x.2 c) (colV y.2 c) < 0)
def rngL (c:Int) (low high:Vl) (L:LL):LL:=(L.filter λ x=> rgV (colV x.2 c) low high).foldl (λ o x=> insK c x o) []
theorem insK_mem {c:Int} {x y:Int×Rw} {out:LL}:y∈insK c x out↔y=x\/y∈out:=by
 unfold insK;rw [List.mem_append,List.mem_cons,List.mem_filter,List.mem_filter];by_cases h:cmpV (colV x.2 c) (colV y.2 c) < 0 <;> simp [h] <;> exact or_comm
theorem insK_sorted {c:Int} {x:Int×Rw} {out:LL} (h:out.Pairwise (rngLt c)) (hx:∀y∈out,y.1 < x.1):(insK c x out).Pairwise (rngLt c):=by
 have lo:∀y∈out,(!decide (cmpV (colV x.2 c) (colV y.2 c) < 0))=true->rngLt c y x:=λ y hy hb=> by
  have hn:¬ cmpV (colV x.2 c) (colV y.2 c) < 0:=by simpa using hb
  have hs:=cmpV_swap (colV x.2 c) (colV y.2 c);by_cases h0:cmpV (colV x.2 c) (colV y.2 c)=0
  · exact .inr ⟨(cmpV_zero.1 h0).symm,hx y hy⟩
  · exact .inl (by omega)
 unfold insK;refine List.pairwise_append.2 ⟨h.sublist List.filter_sublist,List.pairwise_cons.2 ⟨λ b hb=> .inl (by simpa using (List.mem_filter.1 hb).2),h.sublist List.filter_sublist⟩,λ a ha b hb=> ?_⟩;obtain ⟨h1,h2⟩:=List.mem_filter.1 ha;have h3:=lo a h1 h2;rcases List.mem_cons.1 hb with rfl | hb
 · exact h3
 · have h4:cmpV (colV x.2 c) (colV b.2 c) < 0:=by simpa using (List.mem_filter.1 hb).2
   rcases h3 with h3 | ⟨h3, -⟩
   · exact .inl (cmpV_trans h3 h4)
   · exact .inl (by rw [h3];exact h4)
theorem foldK {c:Int}:∀(l out:LL),out.Pairwise (rngLt c)->(∀y∈out,∀x∈l,y.1 < x.1)->AscI l->(l.foldl (λ o x=> insK c x o) out).Pairwise (rngLt c)/\∀y,y∈l.foldl (λ o x=> insK c x o) out↔y∈l\/y∈out
 | [],out,h,_,_=> ⟨h,λ y=> by simp⟩
 | x::l,out,h,hl,ha=> by
  obtain ⟨h1,h2⟩:=List.pairwise_cons.1 ha;obtain ⟨h3,h4⟩:=foldK l (insK c x out) (insK_sorted h λ y hy=> hl y hy x List.mem_cons_self) (λ y hy z hz=> by
   rcases insK_mem.1 hy with rfl | hy
   · exact h1 z hz
   · exact hl y hy z (List.mem_cons_of_mem _ hz)) h2
  refine ⟨h3,λ y=> ?_⟩;rw [List.foldl_cons,h4,insK_mem,List.mem_cons];constructor
  · rintro (h | h | h)
    · exact .inl (.inr h)
    · exact .inl (.inl h)
    · exact .inr h
  · rintro ((h | h) | h)
    · exact .inr (.inl h)
    · exact .inl h
    · exact .inr (.inr h)
theorem rngL_ok {c:Int} {low high:Vl} {L:LL} (h:AscI L):(rngL c low high L).Pairwise (rngLt c)/\∀y,y∈rngL c low high L↔y∈L/\rgV (colV y.2 c) low high=true:=by
 obtain ⟨h1,h2⟩:=foldK (c:=c) (L.filter λ x=> rgV (colV x.2 c) low high) [] List.Pairwise.nil (by simp) (h.sublist List.filter_sublist);refine ⟨h1,λ y=> ?_⟩;unfold rngL;rw [h2,List.mem_filter];simp
theorem RowOk.col {cols:Nat} {r:Rw} (h:RowOk cols r) {c:Nat} (hc:c < cols):okV (colV r c)=true/\I64 (colV r c).int:=by
 have hl:c < r.length:=by rw [h.1];exact hc
 have e:colV r (c:Int)=r[c]:=by simp [colV,List.getD,hl]
 rw [e];exact h.2 _ (List.getElem_mem hl)
theorem key1 (e:Re) (c:Nat):bytes (ixKey e.id e.r [(c:Int)])=encL (colV e.r c)++numL e.id:=by
 rw [ixKey,bytes_textOf,keyL];simp
theorem rng_eq {cols:Nat} {I:List (List Int)} {L:LL} {next:Int} {s:Sto} (hok:s.Ok cols I L next) {c:Nat} (hc:c < cols) {low high:Vl} (hlv:okV low=true) (hli:I64 low.int) {ess:List Re}
 (h1:∀e,e∈ess↔e∈s.es/\inR (some (.str (textOf (encL low)))) none (ixK [(c:Int)] e,Va.int e.id)=true) (h2:ess.Pairwise (λ a b=> ltK (ixK [(c:Int)] a) (ixK [(c:Int)] b))):riL (somL (rgP c low high) ess)=rngL c low high L:=by
 have hm:∀e∈s.es,(e.id,e.r)∈L:=λ e he=> by rw [<-hok.rows];exact List.mem_map.2 ⟨_,he,rfl⟩
 have hi64:∀e∈s.es,I64 e.id:=λ e he=> hok.i64 _ (hm e he);have hcv:∀e∈s.es,okV (colV e.r c)=true/\I64 (colV e.r c).int:=λ e he=> (hok.row _ (hm e he)).2.2.col hc;obtain ⟨r1,r2⟩:=rngL_ok (c:=c) (low:=low) (high:=high) hok.asc;rw [riL_som (rgP c low high) (λ x=> rgV (colV x.2 c) low high) λ _=> rfl];refine sorted_ext (rngLt_irrefl c) (rngLt_asymm c) ?_ r1 λ y=> ?_
 · refine List.Pairwise.sublist List.filter_sublist ?_
   unfold reL;rw [List.pairwise_map];refine h2.imp_of_mem ?_;intro a b ha hb hlt;have ha':=((h1 a).1 ha).1;have hb':=((h1 b).1 hb).1;have h3:Lib.compareBytes (bytes (ixKey a.id a.r [(c:Int)])) (bytes (ixKey b.id b.r [(c:Int)])) < 0:=hlt;rw [key1,key1] at h3;rcases rngLt_tri c (a.id,a.r) (b.id,b.r) with h | h | ⟨e1,e2⟩
   · exact h
   · exfalso
     have hs:=cmpB_swap (encL (colV b.r c)++numL b.id) (encL (colV a.r c)++numL a.id);rcases h with h | ⟨h,hi⟩
     · have:=encL_lt (hcv b hb').1 (hcv a ha').1 (hcv b hb').2 (hcv a ha').2 h (numL b.id) (numL a.id)
       omega
     · have h':colV b.r c=colV a.r c:=h
       rw [h',cmpB_pre,cmpB_pre] at hs;rw [h',cmpB_pre] at h3;have h4:Lib.compareBytes (numL b.id++[]) (numL a.id++[]) < 0:=numL_lt (hi64 b hb') (hi64 a ha') hi [] [];rw [List.append_nil,List.append_nil] at h4;omega
   · exfalso
     have e1':colV a.r c=colV b.r c:=e1;have e2':a.id=b.id:=e2;rw [e1',e2',cmpB_zero.2 rfl] at h3;omega
 · rw [r2,List.mem_filter]
   constructor
   · rintro ⟨h3,h4⟩
     obtain ⟨e,he,rfl⟩:=List.mem_map.1 h3;exact ⟨hm e ((h1 e).1 he).1,h4⟩
   · rintro ⟨h3,h4⟩
     refine ⟨?_,h4⟩;rw [<-hok.rows] at h3;obtain ⟨e,he,rfl⟩:=List.mem_map.1 h3;refine List.mem_map.2 ⟨e,(h1 e).2 ⟨he,?_⟩,rfl⟩;have hn:¬ ltK (ixK [(c:Int)] e) (Ky.str (textOf (encL low))):=by
      show ¬ Lib.compareBytes (bytes (ixKey e.id e.r [(c:Int)])) (bytes (textOf (encL low))) < 0;rw [key1,bytes_textOf];have hge:cmpV low (colV e.r c)<=0:=by
       have hs:=cmpV_swap low (colV e.r c);have h5:rgV (colV e.r c) low high=true:=h4;unfold rgV at h5;simp only [Bool.and_eq_true,Bool.not_eq_true',decide_eq_false_iff_not,Bool.or_eq_true,decide_eq_true_eq] at h5;obtain ⟨h6,h7 | h7, -⟩:=h5
       · have hkd:low.kind < (colV e.r c).kind:=by
          rcases okV_cases (hcv e he).1 with ⟨h,_⟩ | ⟨h,_⟩ | ⟨h,_⟩ <;> omega
         have:cmpV low (colV e.r c) < 0:=by have h8:cmpS low.kind (colV e.r c).kind < 0:=cmpS_neg.2 hkd;unfold cmpV orS;rw [if_neg (by omega)];exact h8
         omega
       · omega
      by_cases h0:cmpV low (colV e.r c)=0
      · rw [<-cmpV_zero.1 h0]
        exact cmpB_le_app _ _
      · have h5:=encL_lt hlv (hcv e he).1 hli (hcv e he).2 (show cmpV low (colV e.r c) < 0 by omega) [] (numL e.id)
        rw [List.append_nil] at h5;have:=cmpB_swap (encL low) (encL (colV e.r c)++numL e.id);omega
     unfold inR;simp [hn]
theorem findIx_of {ixs:List Ix} {I:List (List Int)} {cs:List Int} (h:ixs.map (·.cs)=I) (hm:cs∈I):∃x,findIx ixs cs=some x/\x.cs=cs:=by
 rw [<-h] at hm;obtain ⟨y,hy,rfl⟩:=List.mem_map.1 hm;cases e:findIx ixs y.cs with
 | none=>
  have h1:=List.find?_eq_none.1 e y hy;simp at h1
 | some x=> exact ⟨x,rfl,by simpa using List.find?_some e⟩
theorem Range_it1 (S cols:Nat) (I:List (List Int)) (hcm:cols<=1000000) (c:Nat) (hc:c < cols) (hI:[(c:Int)]∈I) (low high:Vl) (hlv:okV low=true) (hli:I64 low.int) (w0 w:World) (fp0:List Nat) (R:List Asn) (hS:St w0 fp0 R w):
 Calls Tryz.prog 17 #[ptrV S, .int .i64 c,low.val,high.val] w λ e w'=> ∃v,e=.returned v/\St w0 fp0 (iterA v S cols I (rngL c low high)::R) w':=by
 refine (Range_store S c low high w0 w fp0 R hS).mono ?_;rintro e w' ⟨cb,b4,b5,b6,b7,b9,rfl,h⟩;have h1:St w0 fp0 ((blkA cb 109 #[rgCol b4 b5 b6 b9]::(rgL b4 b9 b5 b6 b7 S++rgX b5 b6 b7 c low high))++R) w':=h.perm (by classical refine List.perm_iff_count.2 λ a=> ?_;simp only [List.cons_append,List.count_append,List.count_cons];omega);refine ⟨_,rfl,St.iter.2 ⟨_,⟨84,_,rfl,enters_own Tryz.func84 (by kernel_rfl) rfl,λ s L next hok hl=> ?_⟩,h1⟩⟩;obtain ⟨x,hx,hxc⟩:=findIx_of hok.eixs hI;have hxm:x∈s.ixs:=List.mem_of_find?_eq_some hx;obtain ⟨ess,h2,h3,h4,h5⟩:=ix_sel hok hxm (some (.str (textOf (encL low)))) none;have hem:∀e∈ess,e∈s.es:=λ e he=> ((h3 e).1 he).1;refine ⟨somL (rgP c low high) ess,?_,λ y hy=> ?_,Nat.le_trans (somL_len _ _) h5,λ n=> (rg_seq (S:=S) hok hcm b4 b5 b6 b7 b9 cb c low high hc hlv hli hl x hx ess h2 hem h5 n).perm ?_⟩
 · rw [hxc] at h3 h4
   exact rng_eq hok hc hlv hli h3 h4
 · obtain ⟨e,he, -,rfl⟩:=somL_row hy
   exact ⟨e,hem e he,rfl⟩
 · classical
   refine List.perm_iff_count.2 λ a=> ?_;simp only [List.cons_append,List.count_append,List.count_cons];omega
theorem St.lay {w0 w w':World} {fp0:List Nat} {L:List Asn} {A:Asn} {f:List Nat} (h:St w0 fp0 L w) (ha:A.p w' f) (hb:Below w.heap.size w w') (hn:∀k∈f,w.heap.size<=k):St w0 fp0 (A::L) w':=
 (h.add hb ha hn).perm (by classical refine List.perm_iff_count.2 λ a=> ?_;simp only [List.count_append,List.count_cons,List.count_nil];omega)
theorem rowBlk {b c:Nat} {r:Rw} {w:World} {f:List Nat} (h:(blkA b 29 (flat r).toArray).p w f) (hl:r.length<=maxLen) (htx:∀v∈r,v.text.size<=maxLen):ValsAt w r (.slice (some ⟨b,0,none⟩) r.length c):=by
 have h1:=SlX.of_blk (X:=[]) (size:=3) (n:=r.length) (c:=c) h.1 (by simp) hl (by simpa using length_flat r);exact ⟨h1,htx⟩
def txA:ByteArray:=⟨#[97]⟩
def txB:ByteArray:=⟨#[98]⟩
def txC:ByteArray:=⟨#[99]⟩
def tx0:ByteArray:=⟨#[]⟩
def rwA:Rw:=[⟨1,1,tx0⟩,⟨2,0,txA⟩]
def rwB:Rw:=[⟨1,2,tx0⟩,⟨2,0,txB⟩]
def rwC:Rw:=[⟨1,2,tx0⟩,⟨2,0,txC⟩]
def ixsA:List (List Int):=[[0],[1]]
theorem ixsA_eq:([[(0:Int)]]++[[1]]).foldl (addI 2) []=ixsA:=by kernel_rfl
theorem awA:insV 2 rwA 1=1/\putLL 2 1 rwA []=[(1,rwA)]/\putN 2 1 rwA 1=2:=⟨by kernel_rfl,by kernel_rfl,by kernel_rfl⟩
theorem awB:insV 2 rwB 2=2/\putLL 2 2 rwB [(1,rwA)]=[(1,rwA),(2,rwB)]/\putN 2 2 rwB 2=3:=⟨by kernel_rfl,by kernel_rfl,by kernel_rfl⟩
theorem awD:getL [(1,rwA),(2,rwB)] 1=some rwA/\delL 1 [(1,rwA),(2,rwB)]=[(2,rwB)]:=⟨by kernel_rfl,by kernel_rfl⟩
theorem awC:putOk 2 7 rwC=true/\putLL 2 7 rwC [(2,rwB)]=[(2,rwB),(7,rwC)]/\putN 2 7 rwC 3=8:=⟨by kernel_rfl,by kernel_rfl,by kernel_rfl⟩
theorem awL:takeL 9 (lookL 2 [0] [⟨1,2,tx0⟩] [(2,rwB),(7,rwC)])=[(2,rwB),(7,rwC)]:=by kernel_rfl
theorem awR:takeL 9 (rngL (1:Nat) ⟨2,0,txB⟩ ⟨0,0,tx0⟩ [(2,rwB),(7,rwC)])=[(2,rwB),(7,rwC)]:=by kernel_rfl
theorem rwI (r:Rw) (h:(r.all λ v=> decide (-9223372036854775808<=v.int/\v.int < 9223372036854775808))=true):∀v∈r,I64 v.int:=λ v hv=> by simpa [I64] using List.all_eq_true.1 h v hv
theorem rwTx (r:Rw) (h:(r.all λ v=> decide (v.text.size<=1000))=true):∀v∈r,v.text.size<=maxLen:=λ v hv=> by
 have:=of_decide_eq_true (List.all_eq_true.1 h v hv);unfold maxLen;omega
theorem awake_calls (w:World):Calls Tryz.prog 9 #[] w λ e w'=> e=.returned (.bool true)/\Below w.heap.size w w':=by
 have H0:=Lib.hid (((St.start (w:=w) (L:=[]) (fp:=[]) rfl).newblk 3 #[.int .i64 0]).newblk 3 #[.int .i64 1]);go_enter Tryz.func9,Tryz.ntmps9;go_wp2_with fail;generalize hW:(w.alloc _).alloc _=W1 at *;simp only [World.size_alloc] at H0;clear hW;obtain ⟨b0,hb0⟩:∃b0,w.heap.size=b0:=⟨_,rfl⟩
 rw [hb0] at H0 ⊢;have HB:=Lib.hid hb0;clear hb0;refine (table_new 2 (by decide) (some ⟨b0,0,none⟩) (some ⟨b0+1,0,none⟩) 1 1 1 1 W1).mono ?_;rintro e w2 ⟨tv,tf,rfl,h1,h2,h3⟩;have HN:=Lib.hid (by obtain ⟨_,k0⟩:=(H0.out.mono h2).has 1 rfl;obtain ⟨_,k1⟩:=(H0.out.mono h2).has 0 rfl;exact new_new tv 2 (some ⟨b0,0,none⟩) (some ⟨b0+1,0,none⟩) 1 1 1 1 [0] [1] (by decide) (by decide) w2 ⟨_,h1⟩ (SlX.of_blk (X:=[]) k0.1 (by simp) (by decide) rfl) (SlX.of_blk (X:=[]) k1.1 (by simp) (by decide) rfl));have H2:=Lib.hid (H0.out.mono h2).drop.drop;clear h1 h2 h3 H0;go_wp2_with fail;(with_reducible refine HN.out.mono ?_);rintro e w3 ⟨S,sf,rfl,h1,h2,h3⟩;rw [ixsA_eq] at h1;have H3:=Lib.hid (H2.out.lay h1 h2 h3);unfold ptrV;clear h1 h2 h3 H2 HN;have HX:=Lib.hid (by obtain ⟨_,h⟩:=H3.out.has 0 rfl;exact Next_calls h);unfold ptrV at HX;go_wp2_with fail;(with_reducible refine HX.out.mono ?_);rintro e w4 ⟨rfl,rfl⟩;clear HX;go_wp2_with fail;(with_reducible refine (number39_calls 1 _).mono ?_);rintro e w4 ⟨rfl,hb⟩;replace H3:=Lib.hid (H3.out.mono hb);clear hb;unfold Vl.val;go_wp2_with fail;refine (text39_calls ⟨#[97]⟩ _).mono ?_;rintro e w5 ⟨rfl,hb⟩;replace H3:=Lib.hid ((H3.out.mono hb).newblk 29 #[.int .i64 1, .int .i64 1, .string ⟨#[]⟩, .int .i64 2, .int .i64 0, .string ⟨#[97]⟩]);clear hb;unfold Vl.val;go_wp2_with fail;generalize hW:w5.alloc _=w6 at *;clear hW;obtain ⟨bb,hbb⟩:∃bb,w5.heap.size=bb:=⟨_,rfl⟩
 rw [hbb] at H3 ⊢;clear hbb;have HI:=Lib.hid (SInsert_calls S 2 ixsA [] 1 rwA (.slice (some ⟨bb,0,none⟩) 2 2) (rwI rwA (by kernel_rfl)) (by decide) (by decide) w w6 [] _ (Rd.of_piece 0 rfl λ w f h=> rowBlk (b:=bb) (c:=2) (r:=rwA) h (by decide) (rwTx rwA (by kernel_rfl))) (H3.out.perm (List.Perm.swap _ _ _)));unfold ptrV at HI;rw [awA.1,awA.2.1,awA.2.2] at HI;(with_reducible refine HI.out.mono ?_);rintro e w7 ⟨rfl,h1⟩;replace H3:=Lib.hid (h1.perm (List.Perm.swap _ _ _)).drop;clear h1 HI;go_wp2_with fail;(with_reducible refine (number39_calls 2 _).mono ?_);rintro e w4 ⟨rfl,hb⟩;replace H3:=Lib.hid (H3.out.mono hb);clear hb;unfold Vl.val;go_wp2_with fail;refine (text39_calls ⟨#[98]⟩ _).mono ?_;rintro e w5 ⟨rfl,hb⟩;replace H3:=Lib.hid ((H3.out.mono hb).newblk 29 #[.int .i64 1, .int .i64 2, .string ⟨#[]⟩, .int .i64 2, .int .i64 0, .string ⟨#[98]⟩]);clear hb;unfold Vl.val;go_wp2_with fail;generalize hW:w5.alloc _=w6 at *;clear hW;obtain ⟨bb,hbb⟩:∃bb,w5.heap.size=bb:=⟨_,rfl⟩
 rw [hbb] at H3 ⊢;clear hbb;have HI:=Lib.hid (SInsert_calls S 2 ixsA [(1,rwA)] 2 rwB (.slice (some ⟨bb,0,none⟩) 2 2) (rwI rwB (by kernel_rfl)) (by decide) (by decide) w w6 [] _ (Rd.of_piece 0 rfl λ w f h=> rowBlk (b:=bb) (c:=2) (r:=rwB) h (by decide) (rwTx rwB (by kernel_rfl))) (H3.out.perm (List.Perm.swap _ _ _)));unfold ptrV at HI;rw [awB.1,awB.2.1,awB.2.2] at HI;(with_reducible refine HI.out.mono ?_);rintro e w7 ⟨rfl,h1⟩;replace H3:=Lib.hid (h1.perm (List.Perm.swap _ _ _)).drop;clear h1 HI;go_wp2_with fail;have HP:=Lib.hid (SDelete_calls S 2 ixsA [(1,rwA),(2,rwB)] 3 1 (by unfold I64;decide) (by decide) (by decide) w w7 [] [] H3.out);rw [awD.1,awD.2] at HP;unfold ptrV at HP;simp only [Option.isSome_some,Option.getD_some] at HP;(with_reducible refine HP.out.mono ?_);rintro e w7 ⟨dv,rfl,h1⟩;replace H3:=Lib.hid h1;clear h1 HP;go_wp2_with fail;have HX:=Lib.hid (by obtain ⟨_,h⟩:=H3.out.has 1 rfl;exact Next_calls h);unfold ptrV at HX;(with_reducible refine HX.out.mono ?_);rintro e w8 ⟨rfl,rfl⟩;clear HX;go_wp2_with fail;(with_reducible refine (number39_calls 2 _).mono ?_);rintro e w4 ⟨rfl,hb⟩;replace H3:=Lib.hid (H3.out.mono hb);clear hb;unfold Vl.val;go_wp2_with fail;refine (text39_calls ⟨#[99]⟩ _).mono ?_;rintro e w5 ⟨rfl,hb⟩;replace H3:=Lib.hid (H3.out.mono hb);clear hb;unfold Vl.val;go_wp2_with fail;replace H3:=Lib.hid (H3.out.newblk 29 #[.int .i64 1, .int .i64 2, .string ⟨#[]⟩, .int .i64 2, .int .i64 0, .string ⟨#[99]⟩]);generalize hW:w5.alloc _=w6 at *;clear hW;obtain ⟨bb,hbb⟩:∃bb,w5.heap.size=bb:=⟨_,rfl⟩
 rw [hbb] at H3 ⊢;clear hbb;have HI:=Lib.hid (SPut_calls S 2 ixsA [(2,rwB)] 3 7 rwC (.slice (some ⟨bb,0,none⟩) 2 2) (by unfold I64;decide) (rwI rwC (by kernel_rfl)) (by decide) (by decide) w w6 [] _ (Rd.of_piece 0 rfl λ w f h=> rowBlk (b:=bb) (c:=2) (r:=rwC) h (by decide) (rwTx rwC (by kernel_rfl))) (St_re (L:=[_,_,_]) H3.out [2,0,1] [] (by kernel_rfl)));unfold ptrV at HI;rw [awC.1,awC.2.1,awC.2.2] at HI;(with_reducible refine HI.out.mono ?_);rintro e w7 ⟨rfl,h1⟩;replace H3:=Lib.hid (St_re (L:=[_,_,_]) h1 [1,2,0] [] (by kernel_rfl)).drop;clear h1 HI;unfold errV;go_wp2_with fail;replace H3:=Lib.hid (H3.out.newblk 3 #[.int .i64 0]);generalize hW:w7.alloc _=w9 at *;clear hW;obtain ⟨bi,hbb⟩:∃bi,w7.heap.size=bi:=⟨_,rfl⟩
 rw [hbb] at H3 ⊢;clear hbb;(with_reducible refine (number39_calls 2 _).mono ?_);rintro e w4 ⟨rfl,hb⟩;replace H3:=Lib.hid (H3.out.mono hb);clear hb;unfold Vl.val;go_wp2_with fail;replace H3:=Lib.hid (H3.out.newblk 29 #[.int .i64 1, .int .i64 2, .string ⟨#[]⟩]);generalize hW:w4.alloc _=w10 at *;clear hW;obtain ⟨bw,hbb⟩:∃bw,w4.heap.size=bw:=⟨_,rfl⟩
 rw [hbb] at H3 ⊢;clear hbb;have HL:=Lib.hid (Lookup_it S 2 ixsA [(2,rwB),(7,rwC)] 8 (by decide) (.slice (some ⟨bi,0,none⟩) 1 1) (.slice (some ⟨bw,0,none⟩) 1 1) (cs:=[0]) (vals:=[⟨1,2,tx0⟩]) (by decide) (by decide) (λ v hv=> by obtain rfl:=List.mem_singleton.1 hv;exact ⟨by unfold I64;decide,by decide⟩) w w10 [] _
  (Rd.of_piece 1 (A:=blkA bi 3 #[.int .i64 0]) rfl λ w f h=> SlX.of_blk (X:=[]) h.1 (by simp) (by decide) rfl) (Rd.of_piece 0 rfl λ w f h=> rowBlk (b:=bw) (c:=1) (r:=[⟨1,2,tx0⟩]) h (by decide) (rwTx _ (by kernel_rfl))) (St_re (L:=[_,_,_,_]) H3.out [3,0,1,2] [] (by kernel_rfl)))
 unfold ptrV at HL;(with_reducible refine HL.out.mono ?_);rintro e w11 ⟨iv,rfl,h1⟩;have HT:=Lib.hid (taken_it (by decide) (by decide) 9 w w11 [] _ h1);rw [awL] at HT;clear HL h1 H3;go_wp2_with fail;(with_reducible refine HT.out.mono ?_);rintro e w12 ⟨lu,rfl,h1⟩;have H3:=Lib.hid (St_re (L:=[_,_,_,_,_,_]) h1 [1,3,4,0,2,5] [] (by kernel_rfl)).drop.drop.drop;clear h1 HT;go_wp2_with fail;refine (text39_calls ⟨#[98]⟩ _).mono ?_;rintro e w5 ⟨rfl,hb⟩;replace H3:=Lib.hid (H3.out.mono hb);clear hb;unfold Vl.val;go_wp2_with fail;have HL:=Lib.hid (Range_it1 S 2 ixsA (by decide) 1 (by decide) (by decide) ⟨2,0,txB⟩ ⟨0,0,tx0⟩ (by kernel_rfl) (by unfold I64;decide) w w5 [] _ H3.out);unfold ptrV Vl.val at HL;refine HL.out.mono ?_;rintro e w11 ⟨iv2,rfl,h1⟩;have HT:=Lib.hid (taken_it (next:=8) (by decide) (by decide) 9 w w11 [] _ (St_re (L:=[_,_,_,_]) h1 [0,2,1,3] [] (by kernel_rfl)));rw [awR] at HT;clear HL h1 H3;go_wp2_with fail;(with_reducible refine HT.out.mono ?_);rintro e w12 ⟨mu,rfl,h1⟩;have H3:=Lib.hid (St_re (L:=[_,_,_,_,_]) h1 [1,0,2,3,4] [] (by kernel_rfl)).drop;clear h1 HT;go_wp2_with fail;(with_reducible refine (number39_calls 1 _).mono ?_);rintro e w4 ⟨rfl,hb⟩;replace H3:=Lib.hid (H3.out.mono hb);clear hb;unfold Vl.val;go_wp2_with fail;refine (text39_calls ⟨#[97]⟩ _).mono ?_;rintro e w5 ⟨rfl,hb⟩;replace H3:=Lib.hid (H3.out.mono hb);clear hb;unfold Vl.val;go_wp2_with fail;replace H3:=Lib.hid (H3.out.newblk 29 #[.int .i64 1, .int .i64 1, .string ⟨#[]⟩, .int .i64 2, .int .i64 0, .string ⟨#[97]⟩]);generalize hW:w5.alloc _=w6 at *;clear hW;obtain ⟨bb,hbb⟩:∃bb,w5.heap.size=bb:=⟨_,rfl⟩
 rw [hbb] at H3 ⊢;clear hbb;have HS:=Lib.hid (by obtain ⟨_,h⟩:=H3.out.has 4 rfl;obtain ⟨_,k⟩:=H3.out.has 0 rfl;exact rsame_calls rwA rwA dv (.slice (some ⟨bb,0,none⟩) 2 2) w6 ⟨SlX.of_row (X:=[]) h (length_flat _) (by simp),rwTx rwA (by kernel_rfl)⟩ (rowBlk (b:=bb) (c:=2) (r:=rwA) k (by decide) (rwTx rwA (by kernel_rfl))));rw [decide_eq_true rfl] at HS;(with_reducible refine HS.out.mono ?_);rintro e w7 ⟨rfl,hb⟩;replace H3:=Lib.hid (H3.out.mono hb);clear hb HS;go_wp2_with fail;have HX:=Lib.hid (by obtain ⟨_,h⟩:=H3.out.has 2 rfl;exact Next_calls h);unfold ptrV at HX;(with_reducible refine HX.out.mono ?_);rintro e w8 ⟨rfl,rfl⟩;clear HX;go_wp2_with fail;have HX:=Lib.hid (by obtain ⟨_,h⟩:=H3.out.has 2 rfl;exact SLen_calls h);unfold ptrV at HX;have e2:(([(2,rwB),(7,rwC)]:LL).length:Int)=2:=rfl;rw [e2] at HX;(with_reducible refine HX.out.mono ?_);rintro e w8 ⟨rfl,rfl⟩;clear HX;have HR:=Lib.hid (res_rix (L:=[(2,rwB),(7,rwC)]) (St_re (L:=[_,_,_,_,_]) H3.out [3,0,1,2,4] [] (by kernel_rfl)) (λ x hx=> by
  simp only [List.mem_cons,List.not_mem_nil,or_false] at hx;rcases hx with rfl | rfl
  · exact rwTx rwB (by kernel_rfl)
  · exact rwTx rwC (by kernel_rfl)))
 have HR2:=Lib.hid (res_rix (L:=[(2,rwB),(7,rwC)]) (St_re (L:=[_,_,_,_,_]) H3.out [1,0,2,3,4] [] (by kernel_rfl)) (λ x hx=> by
  simp only [List.mem_cons,List.not_mem_nil,or_false] at hx;rcases hx with rfl | rfl
  · exact rwTx rwB (by kernel_rfl)
  · exact rwTx rwC (by kernel_rfl)))
 obtain ⟨out,ho,hr⟩:=HR.out;obtain ⟨out2,ho2,hr2⟩:=HR2.out;have HQ:=Lib.hid (RSameI_calls out out2 lu mu _ hr hr2);rw [ho,ho2,decide_eq_true rfl] at HQ;have hlen:out.length=2:=by rw [<-riL_len,ho];rfl
 obtain ⟨o1,o2,rfl⟩:∃x y,out=[x,y]:=by
  match out,hlen with
  | [x,y],_=> exact ⟨x,y,rfl⟩
 obtain ⟨⟨i1, -⟩,i2, -⟩:(o1.id=2/\o1.r=rwB)/\o2.id=7/\o2.r=rwC:=by simpa [riL] using ho
 obtain ⟨b3,o3,c3,rfl,p0, -⟩:=ri_cells hr.sl 0 (by simp);obtain ⟨b4,o4,c4,e4,q0, -⟩:=ri_cells hr.sl 1 (by simp);obtain ⟨e5, -, -⟩:=Value.slice.inj e4;obtain ⟨rfl,rfl, -⟩:b4=b3/\o4=o3/\True:=by simpa [eq_comm] using e5
 have p0':w7.cell? ⟨b4,o4,none⟩=some (.int .i64 2):=by rw [<-i1];simpa using p0
 have q0':w7.cell? ⟨b4,o4+2,none⟩=some (.int .i64 7):=by rw [<-i2];simpa using q0
 have pl:=World.block_lt_of_cell? _ _ p0';have HZ:=Lib.hid H3.out;clear H3 HR HR2 ho ho2 hr hr2 hlen i1 i2 e4 e5 p0 q0;simp only [List.length_cons,List.length_nil] at HQ ⊢;go_wp2_with fail;(with_reducible refine HQ.out.mono ?_);rintro e w9 ⟨rfl,hb⟩;obtain ⟨fp, -,ht⟩:=HZ.out.mono hb;have HF:=Lib.hid (ht.below (Nat.le_refl _) (λ k hk=> nomatch hk));clear ht HQ HZ hb;go_wp2;go_ret;exact ⟨rfl,HF.out⟩
end
end Go.Proofs.YtnefkkidfhmggaaGreat
