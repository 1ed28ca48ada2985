/- Part 11 of the proof: Tb, Fr, Fs, Pl, Pm, Pn, Py, Ta, Rn -/
import Derived.Test.YtnefkkidfhmggaaGreatZ10
import Derived.Test.YtnefkkidfhmggaaGreatZ08
import Derived.Test.YtnefkkidfhmggaaGreatZ09
/- number, text, table. -/
namespace Go.Proofs.YtnefkkidfhmggaaGreat
open Go Go.RowKit
theorem number39_calls (n : Int) (w : World) : Calls Tryz.prog 18 #[.int .i64 n] w fun e w' => e = .returned (Vl.val ⟨1, n, ⟨#[]⟩⟩) ∧ Below w.heap.size w w' := by
 have HB := Lib.hid ((Below.refl _ w).alloc (Nat.le_refl _) (.cells #[.int .i64 1, .int .i64 n, .string ⟨#[]⟩] 29))
 obtain ⟨V0, V1, V2⟩ := VarIs.new w #[.int .i64 0, .int .i64 0, .string ⟨#[]⟩] 29
 unfold Vl.val
 go_enter Tryz.func18, Tryz.ntmps18
 go_wp2
 refine bodyPost_ret (v := .agg #[.int .i64 1, .int .i64 n, .string ⟨#[]⟩]) (by simp [results, Tryz.results18, go_sem]) rfl ?_
 exact ⟨rfl, HB.out⟩
theorem text39_calls (s : ByteArray) (w : World) : Calls Tryz.prog 25 #[.string s] w fun e w' => e = .returned (Vl.val ⟨2, 0, s⟩) ∧ Below w.heap.size w w' := by
 have HB := Lib.hid ((Below.refl _ w).alloc (Nat.le_refl _) (.cells #[.int .i64 2, .int .i64 0, .string s] 29))
 obtain ⟨V0, V1, V2⟩ := VarIs.new w #[.int .i64 0, .int .i64 0, .string ⟨#[]⟩] 29
 unfold Vl.val
 go_enter Tryz.func25, Tryz.ntmps25
 go_wp2
 refine bodyPost_ret (v := .agg #[.int .i64 2, .int .i64 0, .string s]) (by simp [results, Tryz.results25, go_sem]) rfl ?_
 exact ⟨rfl, HB.out⟩
theorem appCol : AppSrc Tryz.prog 70 70 131 6 := appSrc (z := .agg #[.string ⟨#[]⟩, .int .i64 0, .int .i64 0, .int .i64 0, .int .i64 0, .bool false]) (bytes := 56) (by kernel_rfl) (by kernel_rfl) rfl (by decide) (by decide)
def col1 : List Value := [.string ⟨#[99]⟩, .int .i64 1, .int .i64 0, .int .i64 0, .int .i64 0, .bool false]
def colsV : Nat → List Value
 | 0 => []
 | k + 1 => colsV k ++ col1
set_option maxHeartbeats 4000000 in
set_option maxRecDepth 20000 in
theorem table_calls (n : Nat) (ka fa : Option Addr) (kn kc fn fc : Nat) (hn : n ≤ 1000) (w0 w : World) (fp0 : List Nat) (R : List Asn) (hS : St w0 fp0 R w) :
 Calls Tryz.prog 27 #[.int .i64 n, .slice ka kn kc, .slice fa fn fc] w fun e w' => ∃ ca cc kb fb, e = .returned (.agg #[.string ⟨#[116]⟩, .slice ca n cc, .slice (some ⟨kb, 0, none⟩) 1 1, .slice (some ⟨fb, 0, none⟩) 1 1, .slice none 0 0]) ∧
  St w0 fp0 (blkA kb 22 #[.slice ka kn kc] :: blkA fb 129 #[.slice fa fn fc, .int .i64 0, .int .i64 0] :: R) w' := by
 have HS := Lib.hid hS
 clear hS
 go_enter Tryz.func27, Tryz.ntmps27
 go_upto_region 3 with (fail)
 have HS1 : RowKit.Hid (St w0 fp0 (blkA (w.heap.size + 1 + 1 + 1) 75 #[.string ⟨#[116]⟩, .slice none 0 0, .slice (some ⟨w.heap.size + 1, 0, none⟩) 1 1, .slice (some ⟨w.heap.size + 1 + 1, 0, none⟩) 1 1, .slice none 0 0] :: rowA 131 6 (.slice none 0 0) 0 (colsV 0) :: blkA w.heap.size 75 #[.string ⟨#[]⟩, .slice none 0 0, .slice none 0 0, .slice none 0 0, .slice none 0 0] :: blkA (w.heap.size + 1) 22 #[.slice ka kn kc] :: blkA (w.heap.size + 1 + 1) 129 #[.slice fa fn fc, .int .i64 0, .int .i64 0] :: R)
  ((((w.alloc (.cells #[.string ⟨#[]⟩, .slice none 0 0, .slice none 0 0, .slice none 0 0, .slice none 0 0] 75)).alloc (.cells #[.slice ka kn kc] 22)).alloc (.cells #[.slice fa fn fc, .int .i64 0, .int .i64 0] 129)).alloc (.cells #[.string ⟨#[116]⟩, .slice none 0 0, .slice (some ⟨w.heap.size + 1, 0, none⟩) 1 1, .slice (some ⟨w.heap.size + 1 + 1, 0, none⟩) 1 1, .slice none 0 0] 75))) := by
  have h1 := ((((HS.out.newblk 75 #[.string ⟨#[]⟩, .slice none 0 0, .slice none 0 0, .slice none 0 0, .slice none 0 0]).newblk 22 #[.slice ka kn kc]).newblk 129 #[.slice fa fn fc, .int .i64 0, .int .i64 0]).newblk 75 #[.string ⟨#[116]⟩, .slice none 0 0, .slice (some ⟨w.heap.size + 1, 0, none⟩) 1 1, .slice (some ⟨w.heap.size + 1 + 1, 0, none⟩) 1 1, .slice none 0 0]).nilR 131 6
  simp only [World.size_alloc] at h1
  refine h1.perm ?_
  classical
  refine List.perm_iff_count.2 fun a => ?_
  simp only [List.count_cons, colsV]
  omega
 generalize hWW : (((w.alloc _).alloc _).alloc _).alloc _ = W0 at *
 clear hWW HS
 obtain ⟨b6, hb6⟩ : ∃ b6, w.heap.size = b6 := ⟨_, rfl⟩
 rw [hb6] at HS1 ⊢
 clear hb6
 generalize b6 + 1 + 1 + 1 = b7 at *
 generalize b6 + 1 + 1 = fb at *
 generalize b6 + 1 = kb at *
 go_loopg [15] n (fun g z wr => ∃ k : Nat, z = .int .i64 k ∧ g + k = n ∧ RowKit.Hid (∃ ca cc, St w0 fp0 (blkA b7 75 #[.string ⟨#[116]⟩, .slice ca k cc, .slice (some ⟨kb, 0, none⟩) 1 1, .slice (some ⟨fb, 0, none⟩) 1 1, .slice none 0 0] :: rowA 131 6 (.slice ca k cc) k (colsV k) :: blkA b6 75 #[.string ⟨#[]⟩, .slice none 0 0, .slice none 0 0, .slice none 0 0, .slice none 0 0] :: blkA kb 22 #[.slice ka kn kc] :: blkA fb 129 #[.slice fa fn fc, .int .i64 0, .int .i64 0] :: R) wr))
 case atStart => exact ⟨0, rfl, rfl, none, 0, HS1.out⟩
 case round =>
  clear HS1
  obtain ⟨k, rfl, hgk, Hr⟩ := hrel
  obtain ⟨ca, cc, hs⟩ := Hr.out
  obtain ⟨_, hb⟩ := hs.has 0 rfl
  have t0 := (blk_get hb).1 0
  have t1 := (blk_get hb).1 1
  have t2 := (blk_get hb).1 2
  have t3 := (blk_get hb).1 3
  have t4 := (blk_get hb).1 4
  have tf := (blk_get hb).2.1
  have tl := (blk_get hb).2.2
  simp only [List.getElem?_toArray, List.getElem?_cons_zero, List.getElem?_cons_succ] at t0 t1 t2 t3 t4
  have Hs := Lib.hid hs
  have Hgk := Lib.hid hgk
  clear Hr hs hb hgk
  by_cases hk : k < n
  · have hk' : (k : Int) < n := by omega
    go_upto_region 5 with (first
     | (at_builtin; refine wpList_appR rfl _ _ _ _ rfl rfl rfl appCol ((Hs.out.perm (List.Perm.swap _ _ _)).mono ((Below.refl _ _).alloc (Nat.le_refl _) _)) (src_litk (e' := 131) (by kernel_rfl) _ 6 _ 1 1 _ _ #[.string ⟨#[99]⟩, .int .i64 1, .int .i64 0, .int .i64 0, .int .i64 0, .bool false] (heap_alloc_new _ _) rfl (by decide)) (by omega) ?_; intro v1 w1 h1
        obtain ⟨_, hb⟩ := h1.out.has 1 rfl; obtain ⟨_, hr1⟩ := h1.out.has 0 rfl; obtain ⟨va, vc, hv1, -⟩ := row_shape hr1; subst hv1; clear t0 t1 t2 t3 t4 tf tl; have t1 := (blk_get hb).1 1; have tf := (blk_get hb).2.1 1; have tl := (blk_get hb).2.2; simp only [List.getElem?_toArray, List.getElem?_cons_zero, List.getElem?_cons_succ] at t1; clear hb hr1))
    have HS2 : RowKit.Hid (∃ ca cc, St w0 fp0 (blkA b7 75 #[.string ⟨#[116]⟩, .slice ca (k + 1 : Nat) cc, .slice (some ⟨kb, 0, none⟩) 1 1, .slice (some ⟨fb, 0, none⟩) 1 1, .slice none 0 0] :: rowA 131 6 (.slice ca (k + 1 : Nat) cc) (k + 1) (colsV (k + 1)) :: blkA b6 75 #[.string ⟨#[]⟩, .slice none 0 0, .slice none 0 0, .slice none 0 0, .slice none 0 0] :: blkA kb 22 #[.slice ka kn kc] :: blkA fb 129 #[.slice fa fn fc, .int .i64 0, .int .i64 0] :: R) (w1.setCell ⟨b7, 1, none⟩ (.slice va (k + 1) vc))) :=
     ⟨va, vc, (h1.out.perm (List.Perm.swap _ _ _)).setB 1 (by simp) (.slice va (k + 1) vc)⟩
    clear h1 Hs
    go_wp2
    go_roundg (gk - 1)
    case rel => exact ⟨k + 1, by go_num, by have := Hgk.out; omega, HS2⟩
    case measure => have := Hgk.out; omega
  · obtain rfl : k = n := by have := Hgk.out; omega
    have hs6 : St w0 fp0 (blkA b6 75 #[.string ⟨#[]⟩, .slice none 0 0, .slice none 0 0, .slice none 0 0, .slice none 0 0] :: (blkA kb 22 #[.slice ka kn kc] :: blkA fb 129 #[.slice fa fn fc, .int .i64 0, .int .i64 0] :: R)) wr := by
     refine St.dropAll (A := [blkA b7 75 #[.string ⟨#[116]⟩, .slice ca k cc, .slice (some ⟨kb, 0, none⟩) 1 1, .slice (some ⟨fb, 0, none⟩) 1 1, .slice none 0 0], rowA 131 6 (.slice ca k cc) k (colsV k)]) Hs.out
    have HFIN := Lib.hid (((((hs6.setB 0 (by simp) (.string ⟨#[116]⟩)).setB 1 (by simp) (.slice ca k cc)).setB 2 (by simp) (.slice (some ⟨kb, 0, none⟩) 1 1)).setB 3 (by simp) (.slice (some ⟨fb, 0, none⟩) 1 1)).setB 4 (by simp) (.slice none 0 0)).drop
    obtain ⟨_, hb6⟩ := Hs.out.has 2 rfl
    have s0 := (blk_get hb6).1 0
    have s1 := (blk_get hb6).1 1
    have s2 := (blk_get hb6).1 2
    have s3 := (blk_get hb6).1 3
    have s4 := (blk_get hb6).1 4
    have sf := (blk_get hb6).2.1
    have sl := (blk_get hb6).2.2
    simp only [List.getElem?_toArray, List.getElem?_cons_zero, List.getElem?_cons_succ] at s0 s1 s2 s3 s4
    clear hb6 hs6 Hgk
    go_wp2
    refine bodyPost_ret (v := .agg #[.string ⟨#[116]⟩, .slice ca k cc, .slice (some ⟨kb, 0, none⟩) 1 1, .slice (some ⟨fb, 0, none⟩) 1 1, .slice none 0 0]) (by clear HFIN Hs; simp [results, Tryz.results27, go_sem, *]) rfl ?_
    exact ⟨ca, cc, kb, fb, rfl, HFIN.out⟩
end Go.Proofs.YtnefkkidfhmggaaGreat
/- Operations in memory; fair. -/
namespace Go.Proofs.YtnefkkidfhmggaaGreat
open Go Go.RowKit
/-- An operation. -/
structure Opr where
 kd : Nat
 id : Int
 a : Option Addr
 n : Nat
 c : Nat
 r : Rw
def Opr.v (x : Opr) : Value := .slice x.a x.n x.c
def opV (l : List Opr) : List Value := l.flatMap fun x => [.int .u8 x.kd, .int .i64 x.id, x.v]
theorem opV_len (l : List Opr) : (opV l).length = l.length * 3 := by
 induction l with
 | nil => rfl
 | cons x l ih => simp only [opV, List.flatMap_cons, List.length_append, List.length_cons, List.length_nil] at ih ⊢; omega
theorem opV_at (l : List Opr) (k : Nat) (hk : k < l.length) : (opV l)[k * 3]? = some (.int .u8 l[k].kd) ∧ (opV l)[k * 3 + 1]? = some (.int .i64 l[k].id) ∧ (opV l)[k * 3 + 2]? = some l[k].v := by
 induction l generalizing k with
 | nil => simp at hk
 | cons x l ih =>
  have e : opV (x :: l) = .int .u8 x.kd :: .int .i64 x.id :: x.v :: opV l := rfl
  cases k with
  | zero => exact ⟨rfl, rfl, rfl⟩
  | succ k =>
   have := ih k (by simpa using hk)
   rw [e, show (k + 1) * 3 = k * 3 + 1 + 1 + 1 by omega, show k * 3 + 1 + 1 + 1 + 1 = (k * 3 + 1) + 1 + 1 + 1 by omega, show k * 3 + 1 + 1 + 1 + 2 = (k * 3 + 2) + 1 + 1 + 1 by omega]
   simpa using this
/-- A list of operations is read. -/
structure OpsX (w : World) (l : List Opr) (v : Value) : Prop where
 sl : SlX [] w 3 l.length (opV l) v
 row : ∀ x ∈ l, ValsAt w x.r x.v
theorem OpsX.mono {w w' : World} {l : List Opr} {v : Value} (h : OpsX w l v) (hb : Below w.heap.size w w') : OpsX w' l v := ⟨h.sl.mono hb, fun x hx => (h.row x hx).mono hb⟩
theorem op_cells {X : List Nat} {w : World} {l : List Opr} {v : Value} (h : SlX X w 3 l.length (opV l) v) (k : Nat) (hk : k < l.length) : ∃ b o c, v = .slice (some ⟨b, o, none⟩) l.length c ∧ w.cell? ⟨b, o + k * 3, none⟩ = some (.int .u8 l[k].kd) ∧ w.cell? ⟨b, o + k * 3 + 1, none⟩ = some (.int .i64 l[k].id) ∧ w.cell? ⟨b, o + k * 3 + 2, none⟩ = some l[k].v := by
 obtain ⟨e1, e2, e3⟩ := opV_at l k hk
 obtain ⟨b, o, c, h1, h2⟩ := h.some e1
 obtain ⟨b', o', c', h3, h4⟩ := h.some e2
 obtain ⟨b2, o2, c2, h5, h6⟩ := h.some e3
 rw [h1] at h3 h5
 obtain ⟨h3, -, -⟩ := Value.slice.inj h3
 obtain ⟨h5, -, -⟩ := Value.slice.inj h5
 injection h3 with h3
 injection h3 with h3 h7
 injection h5 with h5
 injection h5 with h5 h8
 subst h3 h7 h5 h8
 exact ⟨b, o, c, h1, h2, by rw [Nat.add_assoc]; exact h4, by rw [Nat.add_assoc]; exact h6⟩
def shortR (r : Rw) : Bool := decide (r.length ≤ 8) && r.all fun v => decide (v.text.size ≤ 40)
def fairB (kl fl : Nat) (l : List Opr) (most : Int) : Bool := decide ((l.length : Int) ≤ most) && (decide (kl ≤ 6) && (decide (fl ≤ 6) && l.all fun o => shortR o.r))
theorem fair_ok {kl fl : Nat} {l : List Opr} {most : Int} (h : fairB kl fl l most = true) : (l.length : Int) ≤ most ∧ kl ≤ 6 ∧ fl ≤ 6 ∧ ∀ o ∈ l, o.r.length ≤ 8 ∧ ∀ v ∈ o.r, v.text.size ≤ 40 := by
 unfold fairB shortR at h
 simp only [Bool.and_eq_true, decide_eq_true_eq, List.all_eq_true] at h
 exact ⟨h.1, h.2.1, h.2.2.1, h.2.2.2⟩
theorem all_drop {α : Type} (p : α → Bool) (l : List α) (k : Nat) (hk : k < l.length) : (l.drop k).all p = (p l[k] && (l.drop (k + 1)).all p) := by
 rw [List.drop_eq_getElem_cons hk, List.all_cons]
end Go.Proofs.YtnefkkidfhmggaaGreat
/- fair. -/
namespace Go.Proofs.YtnefkkidfhmggaaGreat
open Go Go.RowKit
set_option maxHeartbeats 4000000 in
set_option maxRecDepth 20000 in
theorem fair_calls (cols : Int) (ka fa : Option Addr) (kn kc fn fc : Nat) (l : List Opr) (v : Value) (most : Int) (w : World) (hk : kn ≤ maxLen) (hf : fn ≤ maxLen) (hl : OpsX w l v) :
 Calls Tryz.prog 10 #[.agg #[.int .u8 cols, .slice ka kn kc, .slice fa fn fc], v, .int .i64 most] w fun e w' => e = .returned (.bool (fairB kn fn l most)) ∧ Below w.heap.size w w' := by
 obtain ⟨a, c, rfl⟩ := hl.sl.shape
 obtain ⟨n, hn⟩ : ∃ n, l.length = n := ⟨_, rfl⟩
 have hb1 : n ≤ 9223372036854775807 := by have := hl.sl.1; unfold maxLen at this; omega
 unfold maxLen at hk hf
 have hb0 : Below w.heap.size w (w.alloc (.cells #[.int .u8 cols, .slice ka kn kc, .slice fa fn fc] 24)) := (Below.refl _ _).alloc (Nat.le_refl _) _
 have HL := Lib.hid (hl.mono hb0)
 have HN := Lib.hid hn
 have HB := Lib.hid hb0
 have V1 := World.cell?_alloc_new w #[.int .u8 cols, .slice ka kn kc, .slice fa fn fc] 24 1
 have V2 := World.cell?_alloc_new w #[.int .u8 cols, .slice ka kn kc, .slice fa fn fc] 24 2
 simp only [List.getElem?_toArray, List.getElem?_cons_zero, List.getElem?_cons_succ] at V1 V2
 obtain ⟨q, hq⟩ : ∃ q, fairB kn fn l most = q := ⟨_, rfl⟩
 have HQ : RowKit.Hid ((decide ((n : Int) ≤ most) && (decide (kn ≤ 6) && (decide (fn ≤ 6) && l.all fun o => shortR o.r))) = q) := by show _ = _; rw [← hq, ← hn]; rfl
 rw [hq, hn]
 clear hl hn hb0 hq
 by_cases h1 : (n : Int) ≤ most
 · have z1 : decide (most < (n : Int)) = false := by simp; omega
   by_cases h2 : kn ≤ 6
   · have z2 : decide (6 < (kn : Int)) = false := by simp; omega
     by_cases h3 : fn ≤ 6
     · have z3 : decide (6 < (fn : Int)) = false := by simp; omega
       have HA : RowKit.Hid ((l.drop 0).all (fun o => shortR o.r) = q) := by show _ = _; rw [← HQ.out, decide_eq_true h1, decide_eq_true h2, decide_eq_true h3]; rfl
       clear h1 h2 h3 HQ
       go_enter Tryz.func10, Tryz.ntmps10
       go_upto_region 1 with (fail)
       generalize hW : w.alloc _ = W at *
       clear hW
       have Vl := World.block_lt_of_cell? W _ V1
       go_wp2
       clear V1 V2 Vl
       go_loopg [29] n (fun g z wr => ∃ k : Nat, z = .int .i64 k ∧ g + k = n ∧ RowKit.Hid ((l.drop k).all (fun o => shortR o.r) = q) ∧ RowKit.Hid (Below W.heap.size W wr))
       case atStart => exact ⟨0, rfl, rfl, HA, Below.refl _ _⟩
       case round =>
        clear HA
        obtain ⟨k, rfl, hgk, Ha, Hb⟩ := hrel
        by_cases hkk : k < n
        · have hkl : k < l.length := by rw [HN.out]; exact hkk
          have hlw := HL.out.mono Hb.out
          obtain ⟨b, o, c', e1, p0, p1, p2⟩ := op_cells hlw.sl k hkl
          obtain ⟨rfl, -, -⟩ := Value.slice.inj e1
          have hpl := World.block_lt_of_cell? wr _ p0
          have hrow := hlw.row _ (List.getElem_mem hkl)
          have Hst := Lib.hid (all_drop (fun o : Opr => shortR o.r) l k hkl)
          have hkn : (k : Int) < n := by omega
          have Hgk := Lib.hid hgk
          clear hgk e1 hlw
          generalize l[k] = x at *
          clear hkl
          obtain ⟨kd, id, xa, xn, xc, xr⟩ := x
          unfold Opr.v at p2 hrow
          simp only at p0 p1 p2 hrow Hst
          have HROW := Lib.hid hrow
          have hxn : xn = xr.length ∧ xn ≤ maxLen := by
           obtain ⟨a', n', c'', e, h, h'⟩ := hrow.shape
           obtain ⟨-, rfl, -⟩ := Value.slice.inj e
           exact ⟨h, h'⟩
          have HXN := Lib.hid hxn
          have hsh : shortR xr = (decide (xn ≤ 8) && xr.all fun v => decide (v.text.size ≤ 40)) := by rw [hxn.1]; rfl
          rw [hsh] at Hst
          have hx63 : xn ≤ 9223372036854775807 := by have := hxn.2; unfold maxLen at this; omega
          clear hrow hxn hsh
          have HO : RowKit.Hid (Below wr.heap.size wr (wr.alloc (.cells #[.int .u8 kd, .int .i64 id, .slice xa xn xc] 58))) := (Below.refl _ _).alloc (Nat.le_refl _) _
          have v2 := World.cell?_alloc_new wr #[.int .u8 kd, .int .i64 id, .slice xa xn xc] 58 2
          simp only [List.getElem?_toArray, List.getElem?_cons_zero, List.getElem?_cons_succ] at v2
          by_cases h8 : xn ≤ 8
          · have z8 : decide (8 < (xn : Int)) = false := by simp; omega
            go_upto_region 6 with (fail)
            generalize hW2 : wr.alloc _ = W2 at *
            clear hW2
            have vl := World.block_lt_of_cell? W2 _ v2
            go_upto_region 9 with (fail)
            have HI : RowKit.Hid ((((xr.drop 0).all fun v => decide (v.text.size ≤ 40)) && (l.drop (k + 1)).all (fun o => shortR o.r)) = q) := by
             show _ = _
             rw [← Ha.out, Hst.out, decide_eq_true h8, List.drop_zero]
             rfl
            clear v2 vl h8 Ha Hst
            obtain ⟨wr0, rfl⟩ : ∃ x, x = wr := ⟨_, rfl⟩
            obtain ⟨gk0, rfl⟩ : ∃ x, x = gk := ⟨_, rfl⟩
            go_loopg [40] xn (fun g z w3 => ∃ j : Nat, z = .int .i64 j ∧ g + j = xn ∧ RowKit.Hid ((((xr.drop j).all fun v => decide (v.text.size ≤ 40)) && (l.drop (k + 1)).all (fun o => shortR o.r)) = q) ∧ RowKit.Hid (Below W2.heap.size W2 w3))
            case atStart => exact ⟨0, rfl, rfl, HI, Below.refl _ _⟩
            case round =>
             clear HI
             obtain ⟨j, rfl, hgj, Hi, Hb3⟩ := hrel
             have HBW := Lib.hid (HO.out.trans (Hb3.out.mono HO.out.size))
             by_cases hjj : j < xn
             · have hjl : j < xr.length := by rw [← HXN.out.1]; exact hjj
               have hrwr := HROW.out.mono HBW.out
               obtain ⟨bb, oo, rfl⟩ := hrwr.has j hjj
               obtain ⟨p0, p1, p2⟩ := hrwr.cell j hjl
               have pl := World.block_lt_of_cell? wr _ p0
               have Hst2 := Lib.hid (all_drop (fun v : Vl => decide (v.text.size ≤ 40)) xr j hjl)
               have hjn : (j : Int) < xn := by omega
               have Hgj := Lib.hid hgj
               clear hgj hrwr
               generalize xr[j] = y at *
               clear hjl
               obtain ⟨yk, yi, yt⟩ := y
               simp only at p0 p1 p2 Hst2
               have HO3 : RowKit.Hid (Below wr.heap.size wr (wr.alloc (.cells #[.int .i64 yk, .int .i64 yi, .string yt] 29))) := (Below.refl _ _).alloc (Nat.le_refl _) _
               have v2 := World.cell?_alloc_new wr #[.int .i64 yk, .int .i64 yi, .string yt] 29 2
               simp only [List.getElem?_toArray, List.getElem?_cons_zero, List.getElem?_cons_succ] at v2
               by_cases h40 : yt.size ≤ 40
               · have z40 : decide (40 < (yt.size : Int)) = false := by simp; omega
                 have HI2 : RowKit.Hid ((((xr.drop (j + 1)).all fun v => decide (v.text.size ≤ 40)) && (l.drop (k + 1)).all (fun o => shortR o.r)) = q) := by
                  show _ = _
                  rw [← Hi.out, Hst2.out, decide_eq_true h40]
                  rfl
                 clear h40 Hi Hst2
                 go_upto_region 11 with (fail)
                 generalize hW4 : wr.alloc _ = W4 at *
                 clear hW4
                 have vl := World.block_lt_of_cell? W4 _ v2
                 go_wp2
                 go_roundg (gk - 1)
                 case rel => exact ⟨j + 1, by go_num, by have := Hgj.out; omega, HI2, Hb3.out.trans (HO3.out.mono Hb3.out.size)⟩
                 case measure => have := Hgj.out; omega
               · have z40 : decide (40 < (yt.size : Int)) = true := by simp; omega
                 have hqt : RowKit.Hid (q = false) := by
                  show _ = _
                  rw [← Hi.out, Hst2.out, decide_eq_false h40]
                  rfl
                 obtain rfl := hqt.out
                 clear h40 Hi Hst2
                 go_upto_region 11 with (fail)
                 generalize hW4 : wr.alloc _ = W4 at *
                 clear hW4
                 have vl := World.block_lt_of_cell? W4 _ v2
                 go_wp2
                 go_ret
                 exact ⟨rfl, HB.out.trans ((Hb.out.trans ((HBW.out.trans (HO3.out.mono HBW.out.size)).mono Hb.out.size)).mono HB.out.size)⟩
             · obtain rfl : j = xn := by omega
               have HA2 : RowKit.Hid ((l.drop (k + 1)).all (fun o => shortR o.r) = q) := by
                show _ = _
                rw [← Hi.out, show xr.drop j = [] from List.drop_of_length_le (by rw [← HXN.out.1]; exact Nat.le_refl _)]
                rfl
               clear hgj Hi
               go_wp2
               go_roundg (gk0 - 1)
               case rel => exact ⟨k + 1, by go_num, by have := Hgk.out; omega, HA2, Hb.out.trans (HBW.out.mono Hb.out.size)⟩
               case measure => have := Hgk.out; omega
          · have z8 : decide (8 < (xn : Int)) = true := by simp; omega
            have hqt : RowKit.Hid (q = false) := by
             show _ = _
             rw [← Ha.out, Hst.out, decide_eq_false h8]
             rfl
            obtain rfl := hqt.out
            clear h8 Ha Hst
            go_upto_region 6 with (fail)
            generalize hW2 : wr.alloc _ = W2 at *
            clear hW2
            have vl := World.block_lt_of_cell? W2 _ v2
            go_wp2
            go_ret
            exact ⟨rfl, HB.out.trans ((Hb.out.trans (HO.out.mono Hb.out.size)).mono HB.out.size)⟩
        · obtain rfl : k = n := by omega
          have hqt : RowKit.Hid (q = true) := by
           show _ = _
           rw [← Ha.out, List.drop_of_length_le (by rw [HN.out]; exact Nat.le_refl _)]
           rfl
          obtain rfl := hqt.out
          clear hgk
          go_wp2
          go_ret
          exact ⟨rfl, HB.out.trans (Hb.out.mono HB.out.size)⟩
     · have z3 : decide (6 < (fn : Int)) = true := by simp; omega
       have hqt : RowKit.Hid (q = false) := by show _ = _; rw [← HQ.out, decide_eq_true h1, decide_eq_true h2, decide_eq_false h3]; rfl
       obtain rfl := hqt.out
       clear h1 h2 h3 HQ
       go_enter Tryz.func10, Tryz.ntmps10
       go_upto_region 1 with (fail)
       generalize hW : w.alloc _ = W at *
       clear hW
       have Vl := World.block_lt_of_cell? W _ V1
       go_wp2
       go_ret
       exact ⟨rfl, HB.out⟩
   · have z2 : decide (6 < (kn : Int)) = true := by simp; omega
     have hqt : RowKit.Hid (q = false) := by show _ = _; rw [← HQ.out, decide_eq_true h1, decide_eq_false h2]; rfl
     obtain rfl := hqt.out
     clear h1 h2 HQ
     go_enter Tryz.func10, Tryz.ntmps10
     go_upto_region 1 with (fail)
     generalize hW : w.alloc _ = W at *
     clear hW
     have Vl := World.block_lt_of_cell? W _ V1
     go_wp2
     go_ret
     exact ⟨rfl, HB.out⟩
 · have z1 : decide (most < (n : Int)) = true := by simp; omega
   have hqt : RowKit.Hid (q = false) := by show _ = _; rw [← HQ.out, decide_eq_false h1]; rfl
   obtain rfl := hqt.out
   clear h1 HQ
   go_enter Tryz.func10, Tryz.ntmps10
   go_upto_region 1 with (fail)
   generalize hW : w.alloc _ = W at *
   clear hW
   have Vl := World.block_lt_of_cell? W _ V1
   go_wp2
   go_ret
   exact ⟨rfl, HB.out⟩
end Go.Proofs.YtnefkkidfhmggaaGreat
/- play's drawn region. -/
namespace Go.Proofs.YtnefkkidfhmggaaGreat
open Go Go.RowKit
/-- A call that lays a piece; it may read the others. -/
theorem Rg.Ob.callNew2 (G : Rg) (i k : Nat) {ds : List Nat} {A : (Nat → Value) → Asn} (B : (Nat → Value) → Value → Asn) {f : Nat} {args : (Nat → Value) → Array Value}
 (hc : ∀ L a w, stP G (lk (closOf G.ops) i L) (slots a) w → Calls G.P f (args (slots a)) w fun e w2 => ∃ v f', e = .returned v ∧ G.shp i (slots a) v = v ∧ (B (slots a) v).p w2 f' ∧ Below w.heap.size w w2 ∧ ∀ k ∈ f', w.heap.size ≤ k)
 (hk : G.pcs[k]? = some (.new i ds A) := by rfl) (hA : ∀ g v, A (rv ds (sput g (dstOf G.ops i) v)) = B g v := by intro _ _; exact kr (by kernel_rfl)) (hr : ∀ a w, (execOp (G.env i a) (opAt G.ops i)).run G.P w = .ok (.enter f (args (slots a))) w := by intro _ _; exact kr (by kernel_rfl))
 (hself : ((closOf G.ops).getD i []).elem i = false := by exact kr (by kernel_rfl))
 (hq : G.quiet i k = true := by exact kr (by kernel_rfl)) (hw : ∀ a, wantE G.ops (opAt G.ops i) (G.env i a) = some true := by intro _; exact kr (by kernel_rfl)) : G.Ob i :=
 Rg.Ob.call G i k (args := fun a => args (slots a)) hr (fun L a w fp _ hS hp => by
  rw [new_before hself] at hp
  obtain rfl : fp = [] := hp
  refine (hc L a w hS).mono ?_
  rintro e w2 ⟨v, f', rfl, h1, h2, h3, h4⟩
  refine ⟨_, rfl, h1, f', ?_, ⟨h3.os, h3.tape, h3.output, h3.size, fun k hk _ => h3.block k hk, fun k hk => .inr (h4 k hk)⟩⟩
  rw [new_after, hA]
  exact h2) hk hq hw
/-- An operation that is carried out at once and turns one piece, whatever else was done. -/
theorem Rg.Ob.run1 (G : Rg) (i k : Nat) {p : Pc} (PB : (Nat → Value) → Asn) (PA : (Nat → Value) → Value → Asn)
 (h : ∀ L a w fp, stP G (lk (closOf G.ops) i L) (slots a) w → (PB (slots a)).p w fp → ∃ v w' f', (execOp (G.env i a) (opAt G.ops i)).run G.P w = .ok (.value v) w' ∧ G.shp i (slots a) v = v ∧ (PA (slots a) v).p w' f' ∧ Tr w w' fp f')
 (hk : G.pcs[k]? = some p := by rfl) (hB : ∀ L g, p.at (lk (closOf G.ops) i L) g = PB g := by intro _ _; exact kr (by kernel_rfl)) (hA : ∀ L g v, p.at (ln (closOf G.ops) i L) (sput g (dstOf G.ops i) v) = PA g v := by intro _ _ _; exact kr (by kernel_rfl))
 (hq : G.quiet i k = true := by exact kr (by kernel_rfl)) (hw : ∀ a, wantE G.ops (opAt G.ops i) (G.env i a) = some true := by intro _; exact kr (by kernel_rfl)) : G.Ob i :=
 Rg.Ob.eff G i k hk (fun L a w fp _ hS hp => by
  rw [hB] at hp
  obtain ⟨v, w', f', h1, h2, h3, h4⟩ := h L a w fp hS hp
  rw [h1]
  exact ⟨G.shp_of h2, f', by rw [hA]; exact h3, h4⟩) hq hw
/-- .. without a value. -/
theorem Rg.Ob.skip1 (G : Rg) (i k : Nat) {p : Pc} (PB PA : (Nat → Value) → Asn)
 (h : ∀ L a w fp, stP G (lk (closOf G.ops) i L) (slots a) w → (PB (slots a)).p w fp → ∃ w' f', (execOp (G.env i a) (opAt G.ops i)).run G.P w = .ok .skip w' ∧ (PA (slots a)).p w' f' ∧ Tr w w' fp f')
 (hk : G.pcs[k]? = some p := by rfl) (hB : ∀ L g, p.at (lk (closOf G.ops) i L) g = PB g := by intro _ _; exact kr (by kernel_rfl)) (hA : ∀ L g, p.at (ln (closOf G.ops) i L) g = PA g := by intro _ _; exact kr (by kernel_rfl))
 (hd : dstOf G.ops i = none := by exact kr (by kernel_rfl)) (hvo : (G.valOf i).isNone = true := by exact kr (by kernel_rfl)) (hq : G.quiet i k = true := by exact kr (by kernel_rfl)) (hw : ∀ a, wantE G.ops (opAt G.ops i) (G.env i a) = some true := by intro _; exact kr (by kernel_rfl)) : G.Ob i :=
 Rg.Ob.eff G i k hk (fun L a w fp _ hS hp => by
  have hvo' : G.valOf i = none := by simpa using hvo
  rw [hB] at hp
  obtain ⟨w', f', h1, h3, h4⟩ := h L a w fp hS hp
  rw [h1, hd, hvo']
  exact ⟨fun t h => (nomatch h), f', by rw [sput_none, hA]; exact h3, h4⟩) hq hw
/-- What table lays. -/
def tabA (v : Value) (n : Nat) (kv fv : Value) : Asn := exA fun q : (Option Addr × Nat) × Nat × Nat => starA [pureA (v = .agg #[.string ⟨#[116]⟩, .slice q.1.1 n q.1.2, .slice (some ⟨q.2.1, 0, none⟩) 1 1, .slice (some ⟨q.2.2, 0, none⟩) 1 1, .slice none 0 0]), blkA q.2.1 22 #[kv], blkA q.2.2 129 #[fv, .int .i64 0, .int .i64 0]]
theorem piece_of {w0 w : World} {_fp0 : List Nat} {A : Asn} (h : St w [] [A] w0) : ∃ f, A.p w0 f ∧ Below w.heap.size w w0 ∧ ∀ k ∈ f, w.heap.size ≤ k := by
 obtain ⟨fp, ⟨f, g, h3, hg, -, e⟩, ht⟩ := h
 obtain rfl : g = [] := hg
 rw [List.append_nil] at e
 subst e
 exact ⟨_, h3, ht.below (Nat.le_refl _) (fun k hk => nomatch hk), fun k hk => (ht.new k hk).resolve_left (by simp)⟩
theorem table_new (n : Nat) (hn : n ≤ 1000) (ka fa : Option Addr) (kn kc fn fc : Nat) (w : World) : Calls Tryz.prog 27 #[.int .i64 n, .slice ka kn kc, .slice fa fn fc] w fun e w' => ∃ v f, e = .returned v ∧ (tabA v n (.slice ka kn kc) (.slice fa fn fc)).p w' f ∧ Below w.heap.size w w' ∧ ∀ k ∈ f, w.heap.size ≤ k := by
 refine (table_calls n ka fa kn kc fn fc hn w w [] [] (St.start (L := []) (fp := []) rfl)).mono ?_
 rintro e w' ⟨ca, cc, kb, fb, rfl, h⟩
 have h1 : St w [] ([pureA (Value.agg #[.string ⟨#[116]⟩, .slice ca n cc, .slice (some ⟨kb, 0, none⟩) 1 1, .slice (some ⟨fb, 0, none⟩) 1 1, .slice none 0 0] = Value.agg #[.string ⟨#[116]⟩, .slice ca n cc, .slice (some ⟨kb, 0, none⟩) 1 1, .slice (some ⟨fb, 0, none⟩) 1 1, .slice none 0 0]), blkA kb 22 #[.slice ka kn kc], blkA fb 129 #[.slice fa fn fc, .int .i64 0, .int .i64 0]] ++ []) w' := St.pure.2 ⟨rfl, h⟩
 obtain ⟨f, h2, h3, h4⟩ := piece_of (_fp0 := []) (h1.fold (B := tabA _ n (.slice ka kn kc) (.slice fa fn fc)) fun f hf => ⟨((ca, cc), kb, fb), hf⟩)
 exact ⟨_, f, rfl, h2, h3, h4⟩
theorem new_new (v : Value) (n : Nat) (ka fa : Option Addr) (kn kc fn fc : Nat) (K F : List Int) (hK : K.length ≤ 1000) (hF : F.length ≤ 1000) (w : World) (ht : ∃ f, (tabA v n (.slice ka kn kc) (.slice fa fn fc)).p w f) (h1 : IntsX [] w K (.slice ka kn kc)) (h2 : IntsX [] w F (.slice fa fn fc)) :
 Calls Tryz.prog 26 #[v] w fun e w' => ∃ S f, e = .returned (ptrV S) ∧ (storeA S n (([K] ++ [F]).foldl (addI n) []) [] 1).p w' f ∧ Below w.heap.size w w' ∧ ∀ k ∈ f, w.heap.size ≤ k := by
 obtain ⟨f, ⟨⟨ca, cc⟩, kb, fb⟩, hf⟩ := ht
 obtain ⟨_, ⟨rfl, -⟩, -⟩ := Star.get 0 rfl (show Star w [pureA (v = .agg #[.string ⟨#[116]⟩, .slice ca n cc, .slice (some ⟨kb, 0, none⟩) 1 1, .slice (some ⟨fb, 0, none⟩) 1 1, .slice none 0 0]), blkA kb 22 #[.slice ka kn kc], blkA fb 129 #[.slice fa fn fc, .int .i64 0, .int .i64 0]] f from hf)
 obtain ⟨_, hb1, -⟩ := Star.get 1 rfl (show Star w [pureA _, blkA kb 22 #[.slice ka kn kc], blkA fb 129 #[.slice fa fn fc, .int .i64 0, .int .i64 0]] f from hf)
 obtain ⟨_, hb2, -⟩ := Star.get 2 rfl (show Star w [pureA _, blkA kb 22 #[.slice ka kn kc], blkA fb 129 #[.slice fa fn fc, .int .i64 0, .int .i64 0]] f from hf)
 have k1 : KeysX w [.slice ka kn kc] [K] (.slice (some ⟨kb, 0, none⟩) 1 1) := ⟨SlX.of_blk (X := []) hb1.1 (by simp) (by show 1 ≤ maxLen; unfold maxLen; omega) rfl, fun i hi => by
  obtain rfl : i = 0 := by simpa using hi
  exact ⟨_, rfl, h1⟩⟩
 have k2 : ForsX w [.slice fa fn fc, .int .i64 0, .int .i64 0] [F] (.slice (some ⟨fb, 0, none⟩) 1 1) := ⟨SlX.of_blk (X := []) hb2.1 (by simp) (by show 1 ≤ maxLen; unfold maxLen; omega) rfl, fun i hi => by
  obtain rfl : i = 0 := by simpa using hi
  exact ⟨_, 0, 0, rfl, rfl, rfl, h2⟩⟩
 have m : ∀ w' fp, Tr w w' [] fp → Below w.heap.size w w' := fun w' fp ht => ht.below (Nat.le_refl _) fun k hk => nomatch hk
 refine (SNew_calls _ ca none n cc 0 0 _ _ [K] [F] [.slice ka kn kc] [.slice fa fn fc, .int .i64 0, .int .i64 0] (by simpa using hK) (by simpa using hF) (by simp) (by simp) w w [] [] (Rd.of_tr fun w' fp ht => ?_) (Rd.of_tr fun w' fp ht => ?_) (St.start (L := []) (fp := []) rfl)).mono ?_
 · exact ⟨k1.1.mono (m _ _ ht), fun i hi => by
    obtain ⟨u, h3, h4⟩ := k1.2 i hi
    exact ⟨u, h3, h4.mono (m _ _ ht)⟩⟩
 · exact ⟨k2.1.mono (m _ _ ht), fun i hi => by
    obtain ⟨u, a, b, h3, h4, h5, h6⟩ := k2.2 i hi
    exact ⟨u, a, b, h3, h4, h5, h6.mono (m _ _ ht)⟩⟩
 · rintro e w' ⟨S, rfl, h⟩
   obtain ⟨f, h3, h4, h5⟩ := piece_of (_fp0 := []) h
   exact ⟨S, f, rfl, h3, h4, h5⟩
end Go.Proofs.YtnefkkidfhmggaaGreat
/- play's drawn region, by tables. -/
namespace Go.Proofs.YtnefkkidfhmggaaGreat
open Go Go.RowKit
set_option maxRecDepth 100000
theorem appIS : AppSrc Tryz.prog 22 22 3 1 := appSrc (z := .int .i64 0) (bytes := 8) (by kernel_rfl) (by kernel_rfl) rfl (by decide) (by decide)
theorem emptyI (w : World) : (slA 3 (.slice (some ⟨w.heap.size, 0, none⟩) 0 0) []).p (w.alloc (.cells #[] 3)) [w.heap.size] := row_empty (size := 1) ⟨heap_alloc_new w _, rfl⟩
theorem trNew {w : World} {fp : List Nat} (h : emp.p w fp) (o : Obj) : Tr w (w.alloc o) fp [w.heap.size] := by
 obtain rfl : fp = [] := h
 have hb : Below w.heap.size w (w.alloc o) := (Below.refl _ _).alloc (Nat.le_refl _) _
 exact ⟨hb.os, hb.tape, hb.output, hb.size, fun k hk _ => hb.block k hk, fun k hk => .inr (by rw [List.mem_singleton.1 hk]; exact Nat.le_refl _)⟩
theorem exec_app {P : Program} {o : Oper} {env : Operand → Value} {w w' : World} {s x : Operand} {t tx : TypeId} {v u r : Value} (hop : o.op = .call ⟨.builtin .append, #[s, x], #[t, tx]⟩) (hs : env s = v) (hx : env x = u) (h : (Builtin.append_ #[t, tx] o.type #[v, u]).run P w = .ok r w') : (execOp env o).run P w = .ok (.value r) w' := by
 unfold execOp
 simp only [hop, resolve, invoke, builtin, Sem.run_bind, Sem.run_pure, Result.andThen_ok, List.map_toArray, List.map_cons, List.map_nil, hs, hx, h]
theorem exec_store {P : Program} {o : Oper} {env : Operand → Value} {w w' : World} {ty : TypeId} {x y : Operand} {p u : Value} (hop : o.op = .store ty x y) (hx : env x = p) (hy : env y = u) (h : (Instr.storeAt ty p u).run P w = .ok () w') : (execOp env o).run P w = .ok .skip w' := by
 simp only [execOp, hop, hx, hy, Sem.run_bind, h, Result.andThen_ok, Sem.run_pure]
theorem store3 {P : Program} {w : World} {ty t : TypeId} {b : Nat} {o0 o1 o2 v0 v1 v2 : Value} {f : List Nat} (hb : (blkA b t #[o0, o1, o2]).p w f) (hz : (sizeOf ty).run P w = .ok 3 w) (h0 : v0.oneCell' = true) (h1 : v1.oneCell' = true) (h2 : v2.oneCell' = true) :
 ∃ w' f', (Instr.storeAt ty (.pointer (some ⟨b, 0, none⟩)) (.agg #[v0, v1, v2])).run P w = .ok () w' ∧ (blkA b t #[v0, v1, v2]).p w' f' ∧ Tr w w' f f' := by
 have c0 := (blk_get hb).1 0
 have f0 := (blk_get hb).2.1 0
 obtain ⟨hb1, t1⟩ := blk_set hb 0 v0
 have c1 := (blk_get hb1).1 1
 have f1 := (blk_get hb1).2.1 1
 obtain ⟨hb2, t2⟩ := blk_set hb1 1 v1
 have c2 := (blk_get hb2).1 2
 have f2 := (blk_get hb2).2.1 2
 obtain ⟨hb3, t3⟩ := blk_set hb2 2 v2
 have a0 : (⟨b, 0, none⟩ : Addr).add 0 = ⟨b, 0, none⟩ := by simp [Addr.add]
 have a1 : (⟨b, 0, none⟩ : Addr).add 1 = ⟨b, 1, none⟩ := by simp [Addr.add]
 have a2 : (⟨b, 0, none⟩ : Addr).add 2 = ⟨b, 2, none⟩ := by simp [Addr.add]
 have e : (Value.agg #[v0, v1, v2]).cells = #[v0, v1, v2] := rfl
 refine ⟨_, _, ?_, hb3, (t1.trans t2).trans t3⟩
 simp only [List.getElem?_toArray, List.getElem?_cons_zero, List.getElem?_cons_succ, List.setIfInBounds_toArray, List.set_cons_succ, List.set_cons_zero] at c0 c1 c2
 simp [Instr.storeAt, Instr.sureAddr, storeVar, hz, e, storeCells, a0, a1, a2, run_store P _ _ v0 .plain h0, run_store P _ _ v1 .plain h1, run_store P _ _ v2 .plain h2, c0, f0, c1, f1, c2, f2]
theorem slSelf {t : TypeId} {w : World} {v : Value} {xs : List Value} {f : List Nat} (h : (slA t v xs).p w f) : (slA t (.slice (sa v) (sn v) (sc v)) xs).p w f := by
 obtain ⟨a, n, c, rfl⟩ := sl_shape h
 exact h
theorem one_int (l : List Int) : ∀ u ∈ l.map intC, u.oneCell' = true := by
 intro u hu
 obtain ⟨z, -, rfl⟩ := List.mem_map.1 hu
 rfl
theorem slOf {w : World} {v : Value} {l : List Int} {f : List Nat} (h : (rowA 3 1 v l.length (l.map intC)).p w f) : (slA 3 v (l.map intC)).p w f := by
 have h1 : (rowA 3 1 v (l.map intC).length (l.map intC)).p w f := by rw [List.length_map]; exact h
 exact h1
noncomputable def gPl2 (b2 n kn kc fn fc : Nat) (u : Int) (ka fa : Option Addr) (K F : List Int) := rgx Tryz.prog Tryz.f11 2 160 [28, 29, 30, 31, 32, 33, 34, 35, 36, 37, 38, 39, 40, 9, 8] [(7, .int .i64 n), (2, pV b2 0)] (Vq 0 28 [Kv (.int .i64 n)] ++ Vq 2 30 [Kp b2 1, Kv (.slice ka kn kc), Vf.slice] ++ Vq 6 34 [Kp b2 2, Kv (.slice fa fn fc), Vf.slice] ++ Vq 10 38 [Vf.ptr, Kv (.int .i64 n), Kv (.agg #[.int .i64 n, .slice none 0 0, .int .i64 1])] ++ Vq 13 9 [Vf.ptr] ++ Vq 14 8 [Fv [38] fun g => .pointer (some ⟨pb (g 38), 0, none⟩)]) [Bk b2 (24) [.int .u8 u, .slice ka kn kc, .slice fa fn fc], .gen [1, 4] [29, 32] fun L g => match L 4 with | true => slA 3 (g 32) (K.map intC) | false => match L 1 with | true => slA 3 (g 29) [] | false => emp, .gen [5, 8] [33, 36] fun L g => match L 8 with | true => slA 3 (g 36) (F.map intC) | false => match L 5 with | true => slA 3 (g 33) [] | false => emp, .new 9 [37, 32, 36] fun g => tabA (g 37) n (.slice (sa (g 32)) (sn (g 32)) (sc (g 32))) (.slice (sa (g 36)) (sn (g 36)) (sc (g 36))), .new 10 [38] fun g => storeA (pb (g 38)) n (([K] ++ [F]).foldl (addI n) []) [] 1, .gen [13, 15] [9] fun L g => match L 15 with | true => atA 37 (g 9) #[.int .i64 n, .slice none 0 0, .int .i64 1] | false => match L 13 with | true => atA 37 (g 9) #[.int .i64 0, .slice none 0 0, .int .i64 0] | false => emp, .new 12 [40] fun _g => emp]
theorem rPl2 (b2 n kn kc fn fc : Nat) (u : Int) (ka fa : Option Addr) (K F : List Int) (w0 : World) (fp0 : List Nat) (R : List Asn) (hn : n ≤ 1000) (hK : K.length ≤ 1000) (hF : F.length ≤ 1000) (hkr : ∀ L w, St w0 fp0 (L ++ R) w → SlX [] w 1 K.length (K.map intC) (.slice ka kn kc)) (hfr : ∀ L w, St w0 fp0 (L ++ R) w → SlX [] w 1 F.length (F.map intC) (.slice fa fn fc)) {w : World} {c : Code} {a : Act} {Q : Exit → Act → World → Prop} (c1 : isReg c = true) (c2 : cops c = opsR Tryz.f11 2) (c3 : a.tmps.size = 160) (c4 : a.defers = []) (i7 : a.eval (.tmp 7) = .int .i64 n) (i2 : a.eval (.tmp 2) = .pointer (some ⟨b2, 0, none⟩))
 (hS : St w0 fp0 ([blkA b2 (24) #[.int .u8 u, .slice ka kn kc, .slice fa fn fc], emp, emp, emp, emp, emp, emp] ++ R) w)
 (hQ : ∀ (u8 u9 u29 u32 u33 u36 u37 u38 : Value) (w1 : World), (∃ a n c, u32 = .slice a n c) → (∃ a n c, u36 = .slice a n c) → (∃ b, u38 = .pointer (some ⟨b, 0, none⟩)) → (∃ b, u9 = .pointer (some ⟨b, 0, none⟩)) → u8 = .pointer (some ⟨pb (u38), 0, none⟩) → St w0 fp0 ([blkA b2 (24) #[.int .u8 u, .slice ka kn kc, .slice fa fn fc], slA 3 (u32) (K.map intC), slA 3 (u36) (F.map intC), tabA (u37) n (.slice (sa (u32)) (sn (u32)) (sc (u32))) (.slice (sa (u36)) (sn (u36)) (sc (u36))), storeA (pb (u38)) n (([K] ++ [F]).foldl (addI n) []) [] 1, atA 37 (u9) #[.int .i64 n, .slice none 0 0, .int .i64 1], emp] ++ R) w1 → Q .normal (putL a [(28, .int .i64 n), (29, u29), (30, .pointer (some ⟨b2, 1, none⟩)), (31, .slice ka kn kc), (32, u32), (33, u33), (34, .pointer (some ⟨b2, 2, none⟩)), (35, .slice fa fn fc), (36, u36), (37, u37), (38, u38), (39, .int .i64 n), (40, .agg #[.int .i64 n, .slice none 0 0, .int .i64 1]), (9, u9), (8, u8)]) w1) : c.wp Tryz.prog Q a w := by
 have ok : (gPl2 b2 n kn kc fn fc u ka fa K F w0 fp0 R).Ok 16 := Rg.ok _ 16 [1, 3, 4, 5, 7, 8, 9, 10, 12, 13, 15] ⟨.run1 _ 1 1 (fun _ => emp) (fun _ v => slA 3 v []) (fun L a w fp _ hp => ⟨.slice (some ⟨w.heap.size, 0, none⟩) 0 0, w.alloc (.cells #[] 3), [w.heap.size], kr (by kernel_rfl), rfl, emptyI w, trNew hp _⟩), .load _ 3 0 1, .run1 _ 4 1 (fun g => slA 3 (g 29) []) (fun _ v => slA 3 v (K.map intC)) (fun L a w fp hS hp => (by obtain ⟨v, w2, f2, h1, h2, h3⟩ := appIS (opAt (opsR Tryz.f11 2) 4).type w (slots a 29) 0 [] fp (.slice ka kn kc) K.length (K.map intC) hp ((hkr _ w hS).src (tx := 22) (e' := 3) (by kernel_rfl) (by decide) (one_int _)) (by omega); rw [Nat.zero_add, List.nil_append] at h2; have h4 : (slA 3 v (K.map intC)).p w2 f2 := slOf h2; obtain ⟨va, vn, vc, rfl⟩ := sl_shape h4; exact ⟨_, w2, f2, exec_app rfl (kr (by kernel_rfl)) (kr (by kernel_rfl)) h1, kr (by kernel_rfl), h4, h3⟩)), .run1 _ 5 2 (fun _ => emp) (fun _ v => slA 3 v []) (fun L a w fp _ hp => ⟨.slice (some ⟨w.heap.size, 0, none⟩) 0 0, w.alloc (.cells #[] 3), [w.heap.size], kr (by kernel_rfl), rfl, emptyI w, trNew hp _⟩), .load _ 7 0 2, .run1 _ 8 2 (fun g => slA 3 (g 33) []) (fun _ v => slA 3 v (F.map intC)) (fun L a w fp hS hp => (by obtain ⟨v, w2, f2, h1, h2, h3⟩ := appIS (opAt (opsR Tryz.f11 2) 8).type w (slots a 33) 0 [] fp (.slice fa fn fc) F.length (F.map intC) hp ((hfr _ w hS).src (tx := 22) (e' := 3) (by kernel_rfl) (by decide) (one_int _)) (by omega); rw [Nat.zero_add, List.nil_append] at h2; have h4 : (slA 3 v (F.map intC)).p w2 f2 := slOf h2; obtain ⟨va, vn, vc, rfl⟩ := sl_shape h4; exact ⟨_, w2, f2, exec_app rfl (kr (by kernel_rfl)) (kr (by kernel_rfl)) h1, kr (by kernel_rfl), h4, h3⟩)), .callNew2 _ 9 3 (f := 27) (args := fun g => #[.int .i64 n, .slice (sa (g 32)) (sn (g 32)) (sc (g 32)), .slice (sa (g 36)) (sn (g 36)) (sc (g 36))]) (fun g v => tabA v n (.slice (sa (g 32)) (sn (g 32)) (sc (g 32))) (.slice (sa (g 36)) (sn (g 36)) (sc (g 36)))) (fun L a w hS => (table_new n hn (sa (slots a 32)) (sa (slots a 36)) (sn (slots a 32)) (sc (slots a 32)) (sn (slots a 36)) (sc (slots a 36)) w).mono fun e w2 h => (by obtain ⟨v, f, e1, h2, h3, h4⟩ := h; exact ⟨v, f, e1, kr (by kernel_rfl), h2, h3, h4⟩)), .callNew2 _ 10 4 (f := 26) (args := fun g => #[g 37]) (fun g v => storeA (pb v) n (([K] ++ [F]).foldl (addI n) []) [] 1) (fun L a w hS => (by obtain ⟨_, t1⟩ := St.has (A := slA 3 (slots a 32) (K.map intC)) hS 1 (kr (by kernel_rfl)); obtain ⟨_, t2⟩ := St.has (A := slA 3 (slots a 36) (F.map intC)) hS 2 (kr (by kernel_rfl)); have t3 := St.has (A := tabA (slots a 37) n (.slice (sa (slots a 32)) (sn (slots a 32)) (sc (slots a 32))) (.slice (sa (slots a 36)) (sn (slots a 36)) (sc (slots a 36)))) hS 3 (kr (by kernel_rfl)); refine (new_new (slots a 37) n _ _ _ _ _ _ K F hK hF w t3 (intsX_of (slSelf t1)) (intsX_of (slSelf t2))).mono ?_; rintro e w2 ⟨S, f, e1, h2, h3, h4⟩; exact ⟨_, f, e1, kr (by kernel_rfl), h2, h3, h4⟩)), .callNew2 _ 12 6 (f := 31) (args := fun _ => #[.int .i64 n]) (fun _ _ => emp) (fun L a w hS => (RNew_calls n w).mono fun e w2 h => ⟨_, [], h.1, kr (by kernel_rfl), rfl, h.2, by simp⟩), .run1 _ 13 5 (fun _ => emp) (fun _ v => atA 37 v #[.int .i64 0, .slice none 0 0, .int .i64 0]) (fun L a w fp _ hp => ⟨.pointer (some ⟨w.heap.size, 0, none⟩), w.alloc (.cells #[.int .i64 0, .slice none 0 0, .int .i64 0] 37), [w.heap.size], kr (by kernel_rfl), kr (by kernel_rfl), ⟨w.heap.size, rfl, heap_alloc_new w _, rfl⟩, trNew hp _⟩), .skip1 _ 15 5 (fun g => atA 37 (g 9) #[.int .i64 0, .slice none 0 0, .int .i64 0]) (fun g => atA 37 (g 9) #[.int .i64 n, .slice none 0 0, .int .i64 1]) (fun L a w fp hS hp => (by obtain ⟨b, e, hb⟩ := hp; obtain ⟨w2, f2, h1, h2, h3⟩ := store3 (P := Tryz.prog) (ty := 37) (v0 := .int .i64 n) (v1 := .slice none 0 0) (v2 := .int .i64 1) hb (kr (by kernel_rfl)) rfl rfl rfl; exact ⟨w2, f2, exec_store rfl (Eq.trans (b := Value.pointer (some ⟨pb (slots a 9), 0, none⟩)) (kr (by kernel_rfl)) (by rw [e]; rfl)) (kr (by kernel_rfl)) h1, ⟨b, e, h2⟩, h3⟩)), trivial⟩
 refine wp_regT ok (by kernel_rfl) ⟨c1, c2⟩ ⟨c3, c4, fun p hp => ?_⟩ hS fun A1 w1 N1 H1 => ?_
 · simp only [gPl2, rgx, List.map_nil, List.append_nil, List.mem_cons, List.not_mem_nil, or_false] at hp
   rcases hp with rfl | rfl
   · exact i7
   · exact i2
 have e28 := N1.val 0 rfl
 have e30 := N1.val 1 rfl
 have e31 := N1.val 2 rfl
 have e32 := N1.val 3 rfl
 have e34 := N1.val 4 rfl
 have e35 := N1.val 5 rfl
 have e36 := N1.val 6 rfl
 have e38 := N1.val 7 rfl
 have e39 := N1.val 8 rfl
 have e40 := N1.val 9 rfl
 have e9 := N1.val 10 rfl
 have e8 := N1.val 11 rfl
 have h := hQ (slots A1 8) (slots A1 9) (slots A1 29) (slots A1 32) (slots A1 33) (slots A1 36) (slots A1 37) (slots A1 38) w1 ⟨_, _, _, e32⟩ ⟨_, _, _, e36⟩ ⟨_, e38⟩ ⟨_, e9⟩ e8 H1
 rw [frame_eq N1.frame (cons_eq e28 (cons_eq rfl (cons_eq e30 (cons_eq e31 (cons_eq rfl (cons_eq rfl (cons_eq e34 (cons_eq e35 (cons_eq rfl (cons_eq rfl (cons_eq rfl (cons_eq e39 (cons_eq e40 (cons_eq rfl (cons_eq rfl rfl)))))))))))))))]
 exact h
end Go.Proofs.YtnefkkidfhmggaaGreat
/- play's last region. -/
namespace Go.Proofs.YtnefkkidfhmggaaGreat
open Go Go.RowKit
set_option maxRecDepth 100000
theorem Rg.Ob.eqlS (G : Rg) (i : Nat) (k : IntKind) (p : Int) {ty r : TypeId} {x y : Operand} (hop : (opAt G.ops i).op = .binOp .eql ty x y r := by rfl) (hx : ∀ a, G.env i a x = .int k p := by intro _; exact kr (by kernel_rfl)) (hy : ∀ a, G.env i a y = .int k p := by intro _; exact kr (by kernel_rfl)) (hv : ∀ g, G.valD i g = .bool true := by intro _; exact kr (by kernel_rfl))
 (hq : (G.quiet i G.pcs.length && G.okV i) = true := by exact kr (by kernel_rfl)) (hw : ∀ a, wantE G.ops (opAt G.ops i) (G.env i a) = some true := by intro _; exact kr (by kernel_rfl)) : G.Ob i := Rg.Ob.read G i hq hw fun L a w _ _ => by
 simp [execOp, hop, hx, hy, go_sem, hv]
noncomputable def gPn (S b9 b5 cols n lc : Nat) (la : Option Addr) (next : Int) (A : Asn) := rgx Tryz.prog Tryz.f11 30 160 [145, 146, 147, 148, 149, 150, 151, 152, 153, 154, 155, 156, 157, 158, 159, 4, 6] [(8, pV S 0), (9, pV b9 0), (5, pV b5 0)] (Vq 0 145 [Kp S 0, Kv (.agg #[.int .i64 cols, .slice la n lc, .int .i64 next]), Kp S 0, Kv (.int .i64 n), Kp b9 1, Kv (.slice la n lc), Kv (.int .i64 n), Kv (.bool true), Kv (.bool true), Kp S 0, Kv (.int .i64 next), Kp b9 2, Kv (.int .i64 next), Kv (.bool true), Kv (.bool true)] ++ Vq 15 4 [Kp S 0] ++ Vq 17 6 [Kv (.bool true)]) [.all (A), Bk b9 (37) [.int .i64 cols, .slice la n lc, .int .i64 next], .gen [16] [] fun L _g => match L 16 with | true => blkA b5 37 #[.int .i64 cols, .slice la n lc, .int .i64 next] | false => blkA b5 37 #[.int .i64 0, .slice none 0 0, .int .i64 0]]
theorem rPn (S b9 b5 cols n lc : Nat) (la : Option Addr) (next : Int) (A : Asn) (w0 : World) (fp0 : List Nat) (R : List Asn) (hLen : ∀ w f, A.p w f → Calls Tryz.prog 30 #[ptrV S] w fun e w' => e = .returned (.int .i64 n) ∧ Below w.heap.size w w') (hNext : ∀ w f, A.p w f → Calls Tryz.prog 28 #[ptrV S] w fun e w' => e = .returned (.int .i64 next) ∧ Below w.heap.size w w') {w : World} {c : Code} {a : Act} {Q : Exit → Act → World → Prop} (c1 : isReg c = true) (c2 : cops c = opsR Tryz.f11 30) (c3 : a.tmps.size = 160) (c4 : a.defers = []) (i8 : a.eval (.tmp 8) = .pointer (some ⟨S, 0, none⟩)) (i9 : a.eval (.tmp 9) = .pointer (some ⟨b9, 0, none⟩)) (i5 : a.eval (.tmp 5) = .pointer (some ⟨b5, 0, none⟩))
 (hS : St w0 fp0 ([A, blkA b9 (37) #[.int .i64 cols, .slice la n lc, .int .i64 next], blkA b5 37 #[.int .i64 0, .slice none 0 0, .int .i64 0]] ++ R) w)
 (hQ : ∀ (w1 : World), St w0 fp0 ([A, blkA b9 (37) #[.int .i64 cols, .slice la n lc, .int .i64 next], blkA b5 37 #[.int .i64 cols, .slice la n lc, .int .i64 next]] ++ R) w1 → Q .normal (putL a [(145, .pointer (some ⟨S, 0, none⟩)), (146, .agg #[.int .i64 cols, .slice la n lc, .int .i64 next]), (147, .pointer (some ⟨S, 0, none⟩)), (148, .int .i64 n), (149, .pointer (some ⟨b9, 1, none⟩)), (150, .slice la n lc), (151, .int .i64 n), (152, .bool true), (153, .bool true), (154, .pointer (some ⟨S, 0, none⟩)), (155, .int .i64 next), (156, .pointer (some ⟨b9, 2, none⟩)), (157, .int .i64 next), (158, .bool true), (159, .bool true), (4, .pointer (some ⟨S, 0, none⟩)), (6, .bool true)]) w1) : c.wp Tryz.prog Q a w := by
 have ok : (gPn S b9 b5 cols n lc la next A w0 fp0 R).Ok 18 := Rg.ok _ 18 [1, 3, 5, 7, 10, 12, 13, 16] ⟨.run1 _ 1 1 (fun _ => blkA b9 37 #[.int .i64 cols, .slice la n lc, .int .i64 next]) (fun _ _ => blkA b9 37 #[.int .i64 cols, .slice la n lc, .int .i64 next]) (fun L a w fp _ hp => (by have c0 := (blk_get hp).1 0; have c1 := (blk_get hp).1 1; have c2 := (blk_get hp).1 2; exact ⟨.agg #[.int .i64 cols, .slice la n lc, .int .i64 next], w, fp, load3 rfl (kr (by kernel_rfl)) (kr (by kernel_rfl)) (kr (by kernel_rfl)) c0 c1 c2, kr (by kernel_rfl), hp, Tr.refl _ _⟩)), .ask1 _ 3 0 hLen, .load _ 5 1 1, .eqlS _ 7 .i64 n, .ask1 _ 10 0 hNext, .load _ 12 1 2, .eqlS _ 13 .i64 next, .skip1 _ 16 2 (fun _ => blkA b5 37 #[.int .i64 0, .slice none 0 0, .int .i64 0]) (fun _ => blkA b5 37 #[.int .i64 cols, .slice la n lc, .int .i64 next]) (fun L a w fp hS hp => (by obtain ⟨w2, f2, h1, h2, h3⟩ := store3 (P := Tryz.prog) (ty := 37) (v0 := .int .i64 cols) (v1 := .slice la n lc) (v2 := .int .i64 next) hp (kr (by kernel_rfl)) rfl rfl rfl; exact ⟨w2, f2, exec_store rfl (kr (by kernel_rfl)) (kr (by kernel_rfl)) h1, h2, h3⟩)), trivial⟩
 refine wp_regT ok (by kernel_rfl) ⟨c1, c2⟩ ⟨c3, c4, fun p hp => ?_⟩ hS fun A1 w1 N1 H1 => ?_
 · simp only [gPn, rgx, List.map_nil, List.append_nil, List.mem_cons, List.not_mem_nil, or_false] at hp
   rcases hp with rfl | rfl | rfl
   · exact i8
   · exact i9
   · exact i5
 have e145 := N1.val 0 rfl
 have e146 := N1.val 1 rfl
 have e147 := N1.val 2 rfl
 have e148 := N1.val 3 rfl
 have e149 := N1.val 4 rfl
 have e150 := N1.val 5 rfl
 have e151 := N1.val 6 rfl
 have e152 := N1.val 7 rfl
 have e153 := N1.val 8 rfl
 have e154 := N1.val 9 rfl
 have e155 := N1.val 10 rfl
 have e156 := N1.val 11 rfl
 have e157 := N1.val 12 rfl
 have e158 := N1.val 13 rfl
 have e159 := N1.val 14 rfl
 have e4 := N1.val 15 rfl
 have e6 := N1.val 16 rfl
 have h := hQ  w1  H1
 rw [frame_eq N1.frame (cons_eq e145 (cons_eq e146 (cons_eq e147 (cons_eq e148 (cons_eq e149 (cons_eq e150 (cons_eq e151 (cons_eq e152 (cons_eq e153 (cons_eq e154 (cons_eq e155 (cons_eq e156 (cons_eq e157 (cons_eq e158 (cons_eq e159 (cons_eq e4 (cons_eq e6 rfl)))))))))))))))))]
 exact h
end Go.Proofs.YtnefkkidfhmggaaGreat
/- play. -/
namespace Go.Proofs.YtnefkkidfhmggaaGreat
open Go Go.RowKit
/-- The number of columns of a shape. -/
def colsN (u : Nat) : Nat := u % 4 + 1
/-- The row of an item is one of the operations'. -/
def Of (l : List Opr) (x : Ri) : Prop := ∃ o ∈ l, o.r = x.r ∧ o.v = x.v
/-- What play knows after some operations. -/
def PlInv (l : List Opr) (w0 : World) (fp0 : List Nat) (R : List Asn) (S cols : Nat) (I : List (List Int)) (b9 b5 k : Nat) (w : World) : Prop := ∃ (L : LL) (next : Int) (m : List Ri) (lv : Value), riL m = L ∧ m.length ≤ k ∧ (m.Pairwise fun a b => a.id < b.id) ∧ (∀ x ∈ m, Of l x) ∧
 St w0 fp0 (storeA S cols I L next :: riA lv m :: blkA b9 37 #[.int .i64 cols, lv, .int .i64 next] :: blkA b5 37 #[.int .i64 0, .slice none 0 0, .int .i64 0] :: R) w
theorem cells3 {w0 w : World} {fp0 : List Nat} {L : List Asn} {b : Nat} {t : TypeId} {c0 c1 c2 : Value} (h : St w0 fp0 L w) (i : Nat) (hi : L[i]? = some (blkA b t #[c0, c1, c2])) :
 w.cell? ⟨b, 0, none⟩ = some c0 ∧ w.cell? ⟨b, 1, none⟩ = some c1 ∧ w.cell? ⟨b, 2, none⟩ = some c2 ∧ w.frozen? ⟨b, 0, none⟩ = false ∧ w.frozen? ⟨b, 1, none⟩ = false ∧ w.frozen? ⟨b, 2, none⟩ = false ∧ b < w.heap.size := by
 obtain ⟨_, hb⟩ := h.has i hi
 obtain ⟨h1, h2, h3⟩ := blk_get hb
 exact ⟨h1 0, h1 1, h1 2, h2 0, h2 1, h2 2, h3⟩
theorem findRi_get (k : Int) (m : List Ri) : getL (riL m) k = (findRi m k).map (·.r) := by
 unfold getL riL findRi
 rw [List.find?_map, Option.map_map]
 rfl
theorem riGet_at {w0 : World} {fp0 : List Nat} {R : List Asn} (k : Int) {m : List Ri} (h : ∀ x ∈ m, Rd w0 fp0 R fun w => ValsAt w x.r x.v) : Rd w0 fp0 R fun w => ValsAt w ((getL (riL m) k).getD []) (riGet (findRi m k)) := by
 rw [findRi_get]
 cases e : findRi m k with
 | none => exact fun _ w _ => ValsX.nil _ _ _ _
 | some x => exact h x (List.mem_of_find?_eq_some e)
/-- What play gives. -/
def PlPost (l : List Opr) (w0 : World) (fp0 : List Nat) (R : List Asn) (cols : Nat) (e : Ending) (w : World) : Prop := ∃ S I next lv m, e = .returned (.tuple #[ptrV S, rsV cols lv next, .bool true]) ∧ m.length ≤ l.length ∧ (m.Pairwise fun a b => a.id < b.id) ∧ (∀ x ∈ m, Of l x) ∧ St w0 fp0 (storeA S cols I (riL m) next :: riA lv m :: R) w
theorem setB3 {w0 w : World} {fp0 : List Nat} {R : List Asn} {b : Nat} {t : TypeId} {a0 a1 a2 : Value} (h : St w0 fp0 (blkA b t #[a0, a1, a2] :: R) w) (v0 v1 v2 : Value) :
 St w0 fp0 (blkA b t #[v0, v1, v2] :: R) (((w.setCell ⟨b, 0, none⟩ v0).setCell ⟨b, 1, none⟩ v1).setCell ⟨b, 2, none⟩ v2) :=
 ((h.setB 0 (by simp) v0).setB 1 (by simp) v1).setB 2 (by simp) v2
theorem asc_putR {k : Int} {x : Ri} (hx : x.id = k) {l : List Ri} (h : l.Pairwise fun a b => a.id < b.id) : (putR k x l).Pairwise fun a b => a.id < b.id := by
 unfold putR
 refine List.pairwise_append.2 ⟨h.sublist List.filter_sublist, List.pairwise_cons.2 ⟨fun b hb => by rw [hx]; simpa using (List.mem_filter.1 hb).2, h.sublist List.filter_sublist⟩, fun a ha b hb => ?_⟩
 have h1 : a.id < k := by simpa using (List.mem_filter.1 ha).2
 rcases List.mem_cons.1 hb with rfl | hb
 · omega
 · have : k < b.id := by simpa using (List.mem_filter.1 hb).2
   omega
theorem PutPost.fin {w0 w : World} {fp0 : List Nat} {R : List Asn} {cols : Nat} {lv lv2 : Value} {x : Ri} {l : List Ri} {P : Ri → Prop} (h : PutPost w0 fp0 R (putOk cols x.id x.r) lv lv2 x l w) (hasc : l.Pairwise fun a b => a.id < b.id) (hl : ∀ y ∈ l, P y) (hx : P x) :
 ∃ m, riL m = putLL cols x.id x.r (riL l) ∧ m.length ≤ l.length + 1 ∧ (m.Pairwise fun a b => a.id < b.id) ∧ (∀ y ∈ m, P y) ∧ St w0 fp0 (riA lv2 m :: R) w := by
 rcases h with ⟨h1, h2⟩ | ⟨h1, rfl, h2⟩
 · have e : riL (putR x.id x l) = putLL cols x.id x.r (riL l) := by rw [riL_putR _ _ rfl, putLL, h1]; rfl
   refine ⟨_, e, ?_, asc_putR rfl hasc, fun y hy => ?_, (St_re (L := [_, _]) h2 [0, 1] [] (by kernel_rfl)).perm (List.Perm.swap _ _ _) |>.drop⟩
   · rw [← riL_len, riL_putR _ _ rfl, ← riL_len l]
     exact putL_len _ _ _
   · rcases List.mem_append.1 hy with h | h
     · exact hl y (List.mem_filter.1 h).1
     · rcases List.mem_cons.1 h with rfl | h
       · exact hx
       · exact hl y (List.mem_filter.1 h).1
 · refine ⟨l, ?_, by omega, hasc, hl, h2⟩
   rw [putLL, h1]
   rfl
set_option maxHeartbeats 4000000 in
set_option maxRecDepth 20000 in
theorem play_calls (u : Nat) (hu : u < 256) (ka fa : Option Addr) (kn kc fn fc : Nat) (K F : List Int) (hK : K.length ≤ 6) (hF : F.length ≤ 6) (l : List Opr) (v : Value) (w0 w : World) (fp0 : List Nat) (R : List Asn)
 (hk : Rd w0 fp0 R fun w => IntsX [] w K (.slice ka kn kc)) (hf : Rd w0 fp0 R fun w => IntsX [] w F (.slice fa fn fc)) (hl : Rd w0 fp0 R fun w => OpsX w l v) (hlen : l.length ≤ 100000) (hops : ∀ o ∈ l, o.kd < 256 ∧ I64 o.id ∧ o.r.length ≤ 1000 ∧ ∀ v ∈ o.r, I64 v.int) (hS : St w0 fp0 R w) :
 Calls Tryz.prog 11 #[.agg #[.int .u8 u, .slice ka kn kc, .slice fa fn fc], v] w fun e w' => PlPost l w0 fp0 R (colsN u) e w' := by
 obtain ⟨va, vc, rfl⟩ := (hl.here hS).sl.shape
 have HL := Lib.hid hl
 have HS0 : RowKit.Hid (St w0 fp0 (blkA (w.heap.size + 1) 37 #[.int .i64 0, .slice none 0 0, .int .i64 0] :: blkA w.heap.size 24 #[.int .u8 u, .slice ka kn kc, .slice fa fn fc] :: R) ((w.alloc (.cells #[.int .u8 u, .slice ka kn kc, .slice fa fn fc] 24)).alloc (.cells #[.int .i64 0, .slice none 0 0, .int .i64 0] 37))) := by
  have h1 := (hS.newblk 24 #[.int .u8 u, .slice ka kn kc, .slice fa fn fc]).newblk 37 #[.int .i64 0, .slice none 0 0, .int .i64 0]
  simp only [World.size_alloc] at h1
  exact h1
 go_enter Tryz.func11, Tryz.ntmps11
 go_upto_region 2 with (fail)
 have hcn : ((u : Int) % 4 + 1) = (colsN u : Int) := by unfold colsN; omega
 rw [hcn]
 obtain ⟨W0, hW0⟩ : ∃ W0, (w.alloc (.cells #[.int .u8 u, .slice ka kn kc, .slice fa fn fc] 24)).alloc (.cells #[.int .i64 0, .slice none 0 0, .int .i64 0] 37) = W0 := ⟨_, rfl⟩
 rw [hW0] at HS0 ⊢
 clear hW0
 obtain ⟨b2, hb2⟩ : ∃ b2, w.heap.size = b2 := ⟨_, rfl⟩
 rw [hb2] at HS0 ⊢
 clear hb2
 obtain ⟨b5, hb5⟩ : ∃ b5, b2 + 1 = b5 := ⟨_, rfl⟩
 rw [hb5] at HS0 ⊢
 clear hb5
 refine rPl2 (w0 := w0) (fp0 := fp0) b2 (colsN u) kn kc fn fc u ka fa K F (blkA b5 37 #[.int .i64 0, .slice none 0 0, .int .i64 0] :: R) (by unfold colsN; omega) (by omega) (by omega) (fun L w h => (hk.cons _).at h) (fun L w h => (hf.cons _).at h) rfl (by kernel_rfl) rfl rfl rfl rfl ?_ ?_
 · have h5 := St.emp.2 (St.emp.2 (St.emp.2 (St.emp.2 (St.emp.2 (St.emp.2 HS0.out)))))
   refine h5.perm ?_
   classical
   refine List.perm_iff_count.2 fun a => ?_
   simp only [List.cons_append, List.nil_append, List.count_cons]
   omega
 · intro u8 u9 u29 u32 u33 u36 u37 u38 W1 ⟨_, _, _, e32⟩ ⟨_, _, _, e36⟩ ⟨S, e38⟩ ⟨b9, e9⟩ e8 h1
   subst e32 e36 e38 e9 e8
   obtain ⟨b, eb, h2⟩ := St.at_open (show St w0 fp0 (atA 37 (.pointer (some ⟨b9, 0, none⟩)) #[.int .i64 (colsN u), .slice none 0 0, .int .i64 1] :: (storeA S (colsN u) (([K] ++ [F]).foldl (addI (colsN u)) []) [] 1 :: blkA b5 37 #[.int .i64 0, .slice none 0 0, .int .i64 0] :: R)) W1 from (St_re (L := [_, _, _, _, _, _, _]) h1 [6, 0, 1, 2, 3, 5, 4] [] (by kernel_rfl)).drop.drop.drop.drop.drop)
   have hbb : b = b9 := by simpa using eb.symm
   subst hbb
   have H2 := Lib.hid h2
   clear h1 h2 eb HS0
   simp only [putL, List.foldl, Act.put, List.setIfInBounds_toArray, List.set_cons_succ, List.set_cons_zero, pb]
   go_upto_region 6 with (fail)
   obtain ⟨N, hN⟩ : ∃ N, l.length = N := ⟨_, rfl⟩
   rw [hN]
   have HI : RowKit.Hid (PlInv l w0 fp0 R S (colsN u) (([K] ++ [F]).foldl (addI (colsN u)) []) b b5 0 W1) := ⟨[], 1, [], .slice none 0 0, rfl, Nat.le_refl _, List.Pairwise.nil, by simp, (St.nilR 56 2 H2.out).perm (by
    unfold riA
    classical
    refine List.perm_iff_count.2 fun a => ?_
    simp only [List.count_cons, riV, List.flatMap_nil, List.length_nil]
    omega)⟩
   clear H2
   go_loopg [46] N (fun g z wr => ∃ k : Nat, z = .int .i64 k ∧ g + k = N ∧ RowKit.Hid (PlInv l w0 fp0 R S (colsN u) (([K] ++ [F]).foldl (addI (colsN u)) []) b b5 k wr))
   case atStart => exact ⟨0, rfl, rfl, HI⟩
   case round =>
    clear HI
    obtain ⟨k, rfl, hgk, Hi⟩ := hrel
    obtain ⟨L, next, m, lv, hL, hmk, hasc, hrows, hS1⟩ := Hi.out
    have hlw := hl.at (M := [_, _, _, _]) hS1
    by_cases hkk : k < N
    · have hkl : k < l.length := by rw [hN]; exact hkk
      obtain ⟨b', o, c', e1, p0, p1, p2⟩ := op_cells hlw.sl k hkl
      obtain ⟨rfl, -, -⟩ := Value.slice.inj e1
      have hpl := World.block_lt_of_cell? wr _ p0
      have hop := hops _ (List.getElem_mem hkl)
      have hof : Of l ⟨l[k].id, l[k].a, l[k].n, l[k].c, l[k].r⟩ := ⟨_, List.getElem_mem hkl, rfl, rfl⟩
      have hrow : Rd w0 fp0 R fun w => ValsAt w l[k].r l[k].v := hl.imp fun w h => h.row _ (List.getElem_mem hkl)
      have hkn : (k : Int) < N := by omega
      have Hgk := Lib.hid hgk
      clear hgk e1 hlw Hi
      generalize l[k] = x at *
      clear hkl
      obtain ⟨kd, id, xa, xn, xc, xr⟩ := x
      unfold Opr.v at p2 hrow
      simp only at p0 p1 p2 hrow hop
      have HROW := Lib.hid hrow
      have HOF : RowKit.Hid (∀ i, Of l ⟨i, xa, xn, xc, xr⟩) := fun i => hof
      clear hof
      have HOP := Lib.hid hop
      have HM := Lib.hid (And.intro hL (And.intro hmk (And.intro hasc hrows)))
      have HS2 := Lib.hid (hS1.newblk 58 #[.int .u8 kd, .int .i64 id, .slice xa xn xc])
      clear hrow hop hL hmk hasc hrows hS1
      go_upto_region 8 with (fail)
      have hsz := World.size_alloc wr (.cells #[.int .u8 kd, .int .i64 id, .slice xa xn xc] 58)
      generalize hW2 : wr.alloc _ = W2 at *
      clear hW2 p0 p1 p2 hpl
      obtain ⟨ob, hob⟩ : ∃ ob, wr.heap.size = ob := ⟨_, rfl⟩
      rw [hob] at HS2 hsz ⊢
      have HE := Lib.hid HS2.out.emptyV
      obtain ⟨q0, q1, q2, r0, r1, r2, ql⟩ := cells3 HE.out 1 rfl
      have HSRC := Lib.hid ((HROW.out.at (M := [_, _, _, _, _, _]) HE.out).1.src (P := Tryz.prog) (tx := 27) (e' := 29) (by kernel_rfl) (by decide) (one_flat _))
      clear hsz hob
      go_upto_region 9 with (first
       | (at_builtin; refine wpList_appR rfl _ _ _ _ rfl rfl rfl appVS HE.out HSRC.out (by have := HOP.out.2.2.1; omega) ?_; intro v3 w3 h3))
      rw [Nat.zero_add, List.nil_append] at h3
      have HTX := Lib.hid (HROW.out.at (M := [_, _, _, _, _, _]) h3.out).2
      clear HE HSRC HS2 q0 q1 q2 r0 r1 r2 ql
      obtain ⟨va3, n3, vc3, rfl⟩ : ∃ a n c, v3 = .slice a n c := by
       obtain ⟨_, hr⟩ := h3.out.has 0 rfl
       obtain ⟨a, c, e, -⟩ := row_shape hr
       exact ⟨_, _, _, e⟩
      obtain ⟨q0, q1, q2, r0, r1, r2, ql⟩ := cells3 h3.out 1 rfl
      obtain ⟨p0, p1, p2, s0, s1, s2, pl⟩ := cells3 h3.out 4 rfl
      have HG := Lib.hid (by
       obtain ⟨_, hr⟩ := h3.out.has 3 rfl
       exact RGet_calls (colsN u) lv next id m w3 (riA_sl hr))
      have HGR := Lib.hid (riGet_at (w0 := w0) (fp0 := fp0) (R := R) id (m := m) fun x hx => by
       obtain ⟨o, ho, e1, e2⟩ := HM.out.2.2.2 x hx
       rw [← e1, ← e2]
       exact HL.out.imp fun w h => h.row _ ho)
      have HGQ := Lib.hid (findRi_get id m)
      rw [HM.out.1] at HGR HGQ
      unfold rsV at HG
      obtain ⟨gv, hgv⟩ : ∃ gv, riGet (findRi m id) = gv := ⟨_, rfl⟩
      obtain ⟨gq, hgq⟩ : ∃ gq, (findRi m id).isSome = gq := ⟨_, rfl⟩
      rw [hgv, hgq] at HG
      rw [hgv] at HGR
      have HQ := Lib.hid ((congrArg Option.isSome HGQ.out).trans ((Option.isSome_map).trans hgq))
      clear hgv hgq HGQ
      go_wp2_with fail
      (with_reducible refine HG.out.mono ?_)
      rintro e w4 ⟨rfl, hb4⟩
      have H4 := Lib.hid (h3.out.mono hb4)
      clear HG h3 hb4 q0 q1 q2 r0 r1 r2 ql p0 p1 p2 s0 s1 s2 pl
      obtain ⟨q0, q1, q2, r0, r1, r2, ql⟩ := cells3 H4.out 1 rfl
      go_upto_region 14 with (fail)
      have HLN := Lib.hid (show m.length < 200000 ∧ L.length < 200000 by
       have h1 := HM.out.2.1
       have h2 : L.length = m.length := by rw [← HM.out.1]; exact riL_len m
       omega)
      rcases (by omega : kd % 4 = 0 ∨ kd % 4 = 1 ∨ kd % 4 = 2 ∨ kd % 4 = 3) with e4 | e4 | e4 | e4
      · have e5 : (kd : Int) % 4 = 0 := by omega
        rw [e5]
        clear e4 e5
        have HP := Lib.hid (RInsert_calls (colsN u) lv ⟨next, xa, xn, xc, xr⟩ m HM.out.2.2.1 (by have := HLN.out; omega) w0 w4 fp0 _ (HROW.out.app [_, _, _, _, _]) (St_re (L := [_, _, _, _, _, _]) H4.out [3, 4, 0, 1, 2, 5] [] (by kernel_rfl)))
        obtain ⟨p0, p1, p2, s0, s1, s2, pl⟩ := cells3 H4.out 4 rfl
        clear H4
        unfold rsV Ri.v at HP
        obtain ⟨N2, hN2⟩ : ∃ N2, putN (colsN u) next xr next = N2 := ⟨_, rfl⟩
        obtain ⟨iv, hiv⟩ : ∃ iv, insV (colsN u) xr next = iv := ⟨_, rfl⟩
        rw [hN2, hiv] at HP
        have HN2 := Lib.hid (And.intro hN2 hiv)
        clear hN2 hiv
        go_wp2_with fail
        (with_reducible refine HP.out.mono ?_)
        rintro e w5 ⟨lv2, rfl, hpp⟩
        obtain ⟨m2, h1, h2, h3, h4, h5⟩ := PutPost.fin (x := ⟨next, xa, xn, xc, xr⟩) (P := Of l) hpp HM.out.2.2.1 HM.out.2.2.2 (HOF.out _)
        rw [HM.out.1] at h1
        clear HP hpp q0 q1 q2 r0 r1 r2 ql p0 p1 p2 s0 s1 s2 pl
        have HM2 := Lib.hid (And.intro h1 (And.intro h2 (And.intro h3 h4)))
        clear h1 h2 h3 h4
        obtain ⟨ya, yn, yc, rfl⟩ : ∃ a n c, lv2 = .slice a n c := by
         obtain ⟨_, hr⟩ := h5.has 0 rfl
         obtain ⟨a, c, e⟩ := (riA_sl hr).shape
         exact ⟨_, _, _, e⟩
        have H5 := Lib.hid h5
        clear h5
        go_upto_region 16 with (fail)
        have H6 := Lib.hid (H5.out.newblk 37 #[.int .i64 (colsN u), .slice ya yn yc, .int .i64 N2])
        generalize hW6 : w5.alloc _ = W6 at *
        clear hW6 H5
        obtain ⟨q0, q1, q2, r0, r1, r2, ql⟩ := cells3 H6.out 0 rfl
        obtain ⟨p0, p1, p2, s0, s1, s2, pl⟩ := cells3 H6.out 2 rfl
        have H7 := Lib.hid (setB3 (St_re (L := [_, _, _, _, _, _, _]) H6.out [2, 0, 1, 3, 4, 5, 6] [] (by kernel_rfl)) (.int .i64 (colsN u)) (.slice ya yn yc) (.int .i64 N2))
        clear H6
        go_upto_region 17 with (fail)
        generalize hW7 : World.setCell (World.setCell (World.setCell _ _ _) _ _) _ _ = W7 at *
        clear hW7 q0 q1 q2 r0 r1 r2 ql p0 p1 p2 s0 s1 s2 pl
        have HI2 := Lib.hid (SInsert_calls S (colsN u) _ L next xr (.slice va3 n3 vc3) HOP.out.2.2.2 (by unfold colsN; omega) (by have := HLN.out; omega) w0 W7 fp0 _ (Rd.of_piece 3 rfl fun w f h => ⟨SlX.of_row (X := []) h (length_flat xr) (by simp), HTX.out⟩) (St_re (L := [_, _, _, _, _, _, _]) H7.out [5, 0, 1, 2, 3, 4, 6] [] (by kernel_rfl)))
        clear H7
        rw [HN2.out.1, HN2.out.2] at HI2
        unfold ptrV at HI2
        go_wp2_with fail
        (with_reducible refine HI2.out.mono ?_)
        rintro e w8 ⟨rfl, h8⟩
        have HI3 : RowKit.Hid (PlInv l w0 fp0 R S (colsN u) (([K] ++ [F]).foldl (addI (colsN u)) []) b b5 (k + 1) w8) := ⟨_, _, m2, _, HM2.out.1, by have h1 := HM2.out.2.1; have h2 := HM.out.2.1; omega, HM2.out.2.2.1, HM2.out.2.2.2, (St_re (L := [_, _, _, _, _, _, _]) h8 [2, 4, 5, 0, 3, 1, 6] [] (by kernel_rfl)).drop.drop.drop⟩
        clear HI2 h8
        go_wp2
        go_roundg (gk - 1)
        case rel => exact ⟨k + 1, by go_num, by have := Hgk.out; omega, HI3⟩
        case measure => have := Hgk.out; omega
      · have e5 : (kd : Int) % 4 = 1 := by omega
        rw [e5]
        clear e4 e5
        have HP := Lib.hid (RPut_calls (colsN u) lv next ⟨id, xa, xn, xc, xr⟩ m HM.out.2.2.1 (by have := HLN.out; omega) w0 w4 fp0 _ (HROW.out.app [_, _, _, _, _]) (St_re (L := [_, _, _, _, _, _]) H4.out [3, 4, 0, 1, 2, 5] [] (by kernel_rfl)))
        obtain ⟨p0, p1, p2, s0, s1, s2, pl⟩ := cells3 H4.out 4 rfl
        clear H4
        unfold rsV Ri.v errV at HP
        obtain ⟨N2, hN2⟩ : ∃ N2, putN (colsN u) id xr next = N2 := ⟨_, rfl⟩
        obtain ⟨iv, hiv⟩ : ∃ iv : Int, (if putOk (colsN u) id xr then (0 : Int) else 1) = iv := ⟨_, rfl⟩
        rw [hN2, hiv] at HP
        have HN2 := Lib.hid (And.intro hN2 hiv)
        clear hN2 hiv
        go_wp2_with fail
        (with_reducible refine HP.out.mono ?_)
        rintro e w5 ⟨lv2, rfl, hpp⟩
        obtain ⟨m2, h1, h2, h3, h4, h5⟩ := PutPost.fin (x := ⟨id, xa, xn, xc, xr⟩) (P := Of l) hpp HM.out.2.2.1 HM.out.2.2.2 (HOF.out _)
        rw [HM.out.1] at h1
        simp only at h1
        clear HP hpp q0 q1 q2 r0 r1 r2 ql p0 p1 p2 s0 s1 s2 pl
        have HM2 := Lib.hid (And.intro h1 (And.intro h2 (And.intro h3 h4)))
        clear h1 h2 h3 h4
        obtain ⟨ya, yn, yc, rfl⟩ : ∃ a n c, lv2 = .slice a n c := by
         obtain ⟨_, hr⟩ := h5.has 0 rfl
         obtain ⟨a, c, e⟩ := (riA_sl hr).shape
         exact ⟨_, _, _, e⟩
        have H5 := Lib.hid h5
        clear h5
        go_upto_region 21 with (fail)
        have H6 := Lib.hid (H5.out.newblk 37 #[.int .i64 (colsN u), .slice ya yn yc, .int .i64 N2])
        generalize hW6 : w5.alloc _ = W6 at *
        clear hW6 H5
        obtain ⟨q0, q1, q2, r0, r1, r2, ql⟩ := cells3 H6.out 0 rfl
        obtain ⟨p0, p1, p2, s0, s1, s2, pl⟩ := cells3 H6.out 2 rfl
        have H7 := Lib.hid (setB3 (St_re (L := [_, _, _, _, _, _, _]) H6.out [2, 0, 1, 3, 4, 5, 6] [] (by kernel_rfl)) (.int .i64 (colsN u)) (.slice ya yn yc) (.int .i64 N2))
        clear H6
        go_upto_region 22 with (fail)
        generalize hW7 : World.setCell (World.setCell (World.setCell _ _ _) _ _) _ _ = W7 at *
        clear hW7 q0 q1 q2 r0 r1 r2 ql p0 p1 p2 s0 s1 s2 pl
        obtain ⟨q0, q1, q2, r0, r1, r2, ql⟩ := cells3 H7.out 4 rfl
        have HI2 := Lib.hid (SPut_calls S (colsN u) _ L next id xr (.slice va3 n3 vc3) HOP.out.2.1 HOP.out.2.2.2 (by unfold colsN; omega) (by have := HLN.out; omega) w0 W7 fp0 _ (Rd.of_piece 3 rfl fun w f h => ⟨SlX.of_row (X := []) h (length_flat xr) (by simp), HTX.out⟩) (St_re (L := [_, _, _, _, _, _, _]) H7.out [5, 0, 1, 2, 3, 4, 6] [] (by kernel_rfl)))
        clear H7
        unfold errV at HI2
        rw [HN2.out.1, HN2.out.2] at HI2
        unfold ptrV at HI2
        go_wp2_with fail
        (with_reducible refine HI2.out.mono ?_)
        rintro e w8 ⟨rfl, h8⟩
        have HI3 : RowKit.Hid (PlInv l w0 fp0 R S (colsN u) (([K] ++ [F]).foldl (addI (colsN u)) []) b b5 (k + 1) w8) := ⟨_, _, m2, _, HM2.out.1, by have h1 := HM2.out.2.1; have h2 := HM.out.2.1; omega, HM2.out.2.2.1, HM2.out.2.2.2, (St_re (L := [_, _, _, _, _, _, _]) h8 [2, 4, 5, 0, 3, 1, 6] [] (by kernel_rfl)).drop.drop.drop⟩
        clear HI2 h8
        go_wp2
        go_roundg (gk - 1)
        case rel => exact ⟨k + 1, by go_num, by have := Hgk.out; omega, HI3⟩
        case measure => have := Hgk.out; omega
      · have e5 : (kd : Int) % 4 = 2 := by omega
        rw [e5]
        clear e4 e5
        have HP := Lib.hid (SDelete_calls S (colsN u) _ L next id HOP.out.2.1 (by unfold colsN; omega) (by have := HLN.out; omega) w0 w4 fp0 _ (St_re (L := [_, _, _, _, _, _]) H4.out [2, 3, 4, 1, 5, 0] [] (by kernel_rfl)))
        rw [HQ.out] at HP
        unfold ptrV at HP
        clear H4
        go_wp2_with fail
        (with_reducible refine HP.out.mono ?_)
        rintro e w5 ⟨dv, rfl, h5⟩
        clear HP q0 q1 q2 r0 r1 r2 ql
        have H5 := Lib.hid (St_re (L := [_, _, _, _, _, _, _]) h5 [2, 3, 4, 0, 1, 5, 6] [] (by kernel_rfl))
        clear h5
        have HD := Lib.hid (RDelete_calls (colsN u) lv next id m (by have := HLN.out; omega) w0 w5 fp0 _ H5.out)
        unfold rsV at HD
        obtain ⟨q0, q1, q2, r0, r1, r2, ql⟩ := cells3 H5.out 2 rfl
        obtain ⟨p0, p1, p2, s0, s1, s2, pl⟩ := cells3 H5.out 1 rfl
        clear H5
        go_wp2_with fail
        (with_reducible refine HD.out.mono ?_)
        rintro e w6 ⟨lv2, rfl, h6⟩
        clear HD q0 q1 q2 r0 r1 r2 ql p0 p1 p2 s0 s1 s2 pl
        obtain ⟨ya, yn, yc, rfl⟩ : ∃ a n c, lv2 = .slice a n c := by
         obtain ⟨_, hr⟩ := h6.has 0 rfl
         obtain ⟨a, c, e⟩ := (riA_sl hr).shape
         exact ⟨_, _, _, e⟩
        have H6 := Lib.hid (St_re (L := [_, _, _, _, _, _, _, _]) h6 [1, 2, 0, 3, 4, 5, 6, 7] [] (by kernel_rfl)).drop
        clear h6
        obtain ⟨p0, p1, p2, s0, s1, s2, pl⟩ := cells3 H6.out 0 rfl
        have H7 := Lib.hid (setB3 H6.out (.int .i64 (colsN u)) (.slice ya yn yc) (.int .i64 next))
        clear H6
        go_upto_region 27 with (fail)
        generalize hW7 : World.setCell (World.setCell (World.setCell _ _ _) _ _) _ _ = W7 at *
        clear hW7 p0 p1 p2 s0 s1 s2 pl
        have HS := Lib.hid (by
         obtain ⟨_, hr⟩ := H7.out.has 3 rfl
         exact rsame_calls ((getL L id).getD []) ((getL L id).getD []) dv gv W7 ⟨SlX.of_row (X := []) hr (length_flat _) (by simp), (HGR.out.at (M := [_, _, _, _, _, _, _]) H7.out).2⟩ (HGR.out.at (M := [_, _, _, _, _, _, _]) H7.out))
        rw [decide_eq_true rfl] at HS
        go_wp2_with fail
        (with_reducible refine HS.out.mono ?_)
        rintro e w8 ⟨rfl, hb8⟩
        have HI3 : RowKit.Hid (PlInv l w0 fp0 R S (colsN u) (([K] ++ [F]).foldl (addI (colsN u)) []) b b5 (k + 1) w8) := ⟨delL id L, _, delR id m, _, by rw [riL_delR, HM.out.1], by have h1 := delR_len id m; have h2 := HM.out.2.1; omega, HM.out.2.2.1.sublist List.filter_sublist, fun y hy => HM.out.2.2.2 y (List.mem_filter.1 hy).1, (St_re (L := [_, _, _, _, _, _, _]) (H7.out.mono hb8) [2, 3, 6, 4, 1, 0, 5] [] (by kernel_rfl)).drop.drop.drop⟩
        clear HS hb8 H7
        go_wp2
        go_roundg (gk - 1)
        case rel => exact ⟨k + 1, by go_num, by have := Hgk.out; omega, HI3⟩
        case measure => have := Hgk.out; omega
      · have e5 : (kd : Int) % 4 = 3 := by omega
        rw [e5]
        clear e4 e5
        have HP := Lib.hid (SGet_calls S (colsN u) _ L next id w0 w4 fp0 _ (by unfold colsN; omega) (St_re (L := [_, _, _, _, _, _]) H4.out [2, 3, 4, 1, 5, 0] [] (by kernel_rfl)))
        rw [HQ.out] at HP
        unfold ptrV at HP
        clear H4
        go_wp2_with fail
        (with_reducible refine HP.out.mono ?_)
        rintro e w5 ⟨dv, rfl, h5⟩
        clear HP q0 q1 q2 r0 r1 r2 ql
        have HS := Lib.hid (by
         obtain ⟨_, hr⟩ := h5.has 0 rfl
         exact rsame_calls ((getL L id).getD []) ((getL L id).getD []) dv gv w5 ⟨SlX.of_row (X := []) hr (length_flat _) (by simp), (HGR.out.at (M := [_, _, _, _, _, _, _]) h5).2⟩ (HGR.out.at (M := [_, _, _, _, _, _, _]) h5))
        rw [decide_eq_true rfl] at HS
        have H5 := Lib.hid h5
        clear h5
        go_wp2_with fail
        (with_reducible refine HS.out.mono ?_)
        rintro e w8 ⟨rfl, hb8⟩
        have HI3 : RowKit.Hid (PlInv l w0 fp0 R S (colsN u) (([K] ++ [F]).foldl (addI (colsN u)) []) b b5 (k + 1) w8) := ⟨L, _, m, _, HM.out.1, by have h2 := HM.out.2.1; omega, HM.out.2.2.1, HM.out.2.2.2, (St_re (L := [_, _, _, _, _, _, _]) (H5.out.mono hb8) [0, 4, 6, 1, 2, 3, 5] [] (by kernel_rfl)).drop.drop.drop⟩
        clear HS hb8 H5
        go_wp2
        go_roundg (gk - 1)
        case rel => exact ⟨k + 1, by go_num, by have := Hgk.out; omega, HI3⟩
        case measure => have := Hgk.out; omega
    · obtain rfl : k = N := by omega
      obtain ⟨la, lc, rfl⟩ : ∃ a c, lv = .slice a m.length c := by
       obtain ⟨_, hr⟩ := hS1.has 1 rfl
       exact (riA_sl hr).shape
      have hLm : L.length = m.length := by rw [← hL]; exact riL_len m
      have HM := Lib.hid (And.intro hL (And.intro hLm (And.intro hmk (And.intro hasc hrows))))
      have HS1 := Lib.hid (St_re (L := [_, _, _, _]) hS1 [0, 2, 3, 1] [] (by kernel_rfl))
      clear hrows hasc hmk hL hS1 hlw Hi hgk hLm
      obtain ⟨n, hnn⟩ : ∃ n, m.length = n := ⟨_, rfl⟩
      rw [hnn] at HM HS1
      have HNN := Lib.hid hnn
      clear hnn
      go_upto_region 30 with (fail)
      refine rPn (w0 := w0) (fp0 := fp0) S b b5 (colsN u) n lc la next (storeA S (colsN u) (([K] ++ [F]).foldl (addI (colsN u)) []) L next) (riA (.slice la n lc) m :: R) (fun w f h => (SLen_calls h).mono fun e w' ⟨h1, h2⟩ => ⟨by rw [h1, HM.out.2.1], h2 ▸ Below.refl _ _⟩) (fun w f h => (Next_calls h).mono fun e w' ⟨h1, h2⟩ => ⟨h1, h2 ▸ Below.refl _ _⟩) rfl (by kernel_rfl) rfl rfl rfl rfl rfl HS1.out ?_
      intro w9 h9
      have H9 := Lib.hid h9
      obtain ⟨q0, q1, q2, r0, r1, r2, ql⟩ := cells3 h9 2 rfl
      clear h9 HS1
      simp only [putL, List.foldl, Act.put, List.setIfInBounds_toArray, List.set_cons_succ, List.set_cons_zero]
      go_wp2
      refine bodyPost_ret (v := .tuple #[.pointer (some ⟨S, 0, none⟩), .agg #[.int .i64 (colsN u), .slice la n lc, .int .i64 next], .bool true]) (by simp [results, Tryz.results11, go_sem, *]) rfl ?_
      exact ⟨S, _, next, _, m, rfl, by have h1 := HM.out.2.2.1; have h2 := HNN.out; omega, HM.out.2.2.2.1, HM.out.2.2.2.2, (St_re (L := [_, _, _, _]) (by rw [HM.out.1]; exact H9.out) [1, 2, 0, 3] [] (by kernel_rfl)).drop.drop⟩
end Go.Proofs.YtnefkkidfhmggaaGreat
/- Iterators over a store, all alike; what is taken of them. -/
namespace Go.Proofs.YtnefkkidfhmggaaGreat
open Go Go.RowKit
theorem SeqG.perm {α : Type} {n : Nat} {P : Program} {g : Nat} {lb : Array Value} {sz : Nat} {G : α → Array Value → Asn} {Qr : World → Prop} {xs : List α} {L0 L1 : List Asn} (h : SeqG n P g lb sz G Qr xs L0) (hp : L0.Perm L1) : SeqG n P g lb sz G Qr xs L1 :=
 fun l R J Jx w0 fp0 W hs h1 h2 h3 => h l R J Jx w0 fp0 W (hs.perm (hp.symm.append_right R)) (fun Own W1 h4 => h1 Own W1 (h4.perm ((hp.append_right R).append_right Own))) h2 h3
/-- An iterator over the store S: what it yields of any of the store's states. -/
def ItOf (v : Value) (X : List Asn) (S cols : Nat) (I : List (List Int)) (q : LL → LL) : Prop := ∃ gf lb, v = .func (.func gf) #[] lb ∧ (∀ args w, (callFunc gf args).run Tryz.prog w = .ok (.enter gf args) w) ∧
 ∀ (s : Sto) (L : LL) (next : Int), s.Ok cols I L next → L.length + 1 < 1099511627776 → ∃ its, riL its = q L ∧ (∀ x ∈ its, ∃ e ∈ s.es, x = toRi e) ∧ its.length ≤ L.length ∧ ∀ n, SeqG n Tryz.prog gf lb 2 itG (fun W => ∀ x ∈ its, ValsAt W x.r x.v) its (X ++ stoL S s)
def iterA (v : Value) (S cols : Nat) (I : List (List Int)) (q : LL → LL) : Asn := exA fun X : List Asn => starA (pureA (ItOf v X S cols I q) :: X)
theorem St.iter {w0 w : World} {fp0 : List Nat} {R : List Asn} {v : Value} {S cols : Nat} {I : List (List Int)} {q : LL → LL} : St w0 fp0 (iterA v S cols I q :: R) w ↔ ∃ X, ItOf v X S cols I q ∧ St w0 fp0 (X ++ R) w := by
 constructor
 · intro h
   obtain ⟨X, h1⟩ := St.exE h
   exact ⟨X, St.pure.1 (St.star.1 h1)⟩
 · rintro ⟨X, h1, h2⟩
   exact St.exI X (St.star.2 (St.pure.2 ⟨h1, h2⟩))
theorem riL_som {_s : Sto} (p : Re → Bool) (q : Int × Rw → Bool) (h : ∀ e : Re, p e = q (e.id, e.r)) (es : List Re) : riL (somL p es) = (reL es).filter q := by
 unfold riL somL reL
 rw [List.map_map, List.filter_map]
 congr 1
 exact List.filter_congr fun e _ => h e
theorem som_its {cols : Nat} {I : List (List Int)} {L : LL} {next : Int} {s : Sto} (hok : s.Ok cols I L next) (p : Re → Bool) : (∀ x ∈ somL p s.es, ∃ e ∈ s.es, x = toRi e) ∧ (somL p s.es).length ≤ L.length := by
 refine ⟨fun x hx => ?_, ?_⟩
 · obtain ⟨e, he, -, rfl⟩ := somL_row hx
   exact ⟨e, he, rfl⟩
 · rw [← hok.rows, reL, List.length_map]
   exact somL_len _ _
theorem All_it (S cols : Nat) (I : List (List Int)) (hc : cols ≤ 1000000) (w0 w : World) (fp0 : List Nat) (R : List Asn) (hS : St w0 fp0 R w) :
 Calls Tryz.prog 16 #[ptrV S] w fun e w' => ∃ v, e = .returned v ∧ St w0 fp0 (iterA v S cols I (fun L => L) :: R) w' := by
 refine (All_store S w0 w fp0 R hS).mono ?_
 rintro e w' ⟨cb, bS, rfl, h⟩
 refine ⟨_, rfl, St.iter.2 ⟨[_, _], ⟨84, _, rfl, enters_own Tryz.func84 (by kernel_rfl) rfl, fun s L next hok hl => ⟨_, ?_, (som_its hok fun _ => true).1, (som_its hok fun _ => true).2, fun n => all_seq hok hc (by
  have := hok.rows
  rw [← this, reL, List.length_map] at hl
  exact hl) bS cb n⟩⟩, h⟩⟩
 rw [riL_som (_s := s) (fun _ => true) (fun _ => true) (fun _ => rfl), hok.rows]
 exact List.filter_eq_self.2 fun _ _ => rfl
def lookL (cols : Nat) (cs : List Int) (vals : Rw) (L : LL) : LL := if noneB cols cs vals then [] else L.filter fun x => decide (cs.map (colV x.2) = vals)
theorem Lookup_it (S cols : Nat) (I : List (List Int)) (L : LL) (next : Int) (hc : cols ≤ 1000000) (cv vv : Value) {cs : List Int} {vals : Rw} (hvl : vals.length ≤ 1048576) (hcl : cs.length ≤ 1048576) (hx : RowS vals)
 (w0 w : World) (fp0 : List Nat) (R : List Asn) (hrc : Rd w0 fp0 R fun w => IntsX [] w cs cv) (hrv : Rd w0 fp0 R fun w => ValsAt w vals vv) (hS : St w0 fp0 (storeA S cols I L next :: R) w) :
 Calls Tryz.prog 15 #[ptrV S, cv, vv] w fun e w' => ∃ v, e = .returned v ∧ St w0 fp0 (iterA v S cols I (lookL cols cs vals) :: storeA S cols I L next :: R) w' := by
 obtain ⟨s, hok, hs⟩ := hS.openS
 have ec := hok.ecols
 refine (Lookup_store cv vv hvl hcl hx w0 w fp0 R hrc hrv hs).mono ?_
 rintro e w' ⟨cb, b8, b3, b4, b7, b5, cv', vv', rfl, h⟩
 rw [ec] at h
 have h1 : St w0 fp0 (stoL S s ++ ((blkA cb 109 #[lkCol b8 b3 b4 b7 b5] :: (lkB b8 b3 b7 b4 b5 S (noneB cols cs vals) ++ lkX b4 b5 cv' vv' cs vals)) ++ R)) w' := h.perm (by
  classical
  refine List.perm_iff_count.2 fun a => ?_
  simp only [List.cons_append, List.count_append, List.count_cons]
  omega)
 have h2 := St.shutS hok h1
 refine ⟨_, rfl, St.iter.2 ⟨_, ⟨84, _, rfl, enters_own Tryz.func84 (by kernel_rfl) rfl, fun s L next hok hl => ⟨lkIts (noneB cols cs vals) cs vals s, ?_, ?_, ?_, fun n => (lk_seq (S := S) hok hc hl b8 b3 b4 b7 b5 cb cv' vv' (noneB cols cs vals) (fun h => noneB_ok h) hx hvl n).perm ?_⟩⟩, h2.perm List.perm_middle.symm⟩⟩
 · unfold lkIts lookL
   cases noneB cols cs vals
   · rw [if_neg (by simp), if_neg (by simp), riL_som (_s := s) (lkP cs vals) (fun x => decide (cs.map (colV x.2) = vals)) (fun _ => rfl), hok.rows]
   · rfl
 · unfold lkIts
   cases noneB cols cs vals
   · exact (som_its hok _).1
   · intro x hx; cases hx
 · unfold lkIts
   cases noneB cols cs vals
   · exact (som_its hok _).2
   · exact Nat.zero_le _
 · classical
   refine List.perm_iff_count.2 fun a => ?_
   simp only [List.cons_append, List.count_append, List.count_cons]
   omega
/-- Rows that are owned. -/
def resA (v : Value) (L : LL) : Asn := exA fun out : List Ri => starA (pureA (riL out = L) :: itsL v out)
theorem St.res {w0 w : World} {fp0 : List Nat} {R : List Asn} {v : Value} {L : LL} : St w0 fp0 (resA v L :: R) w ↔ ∃ out, riL out = L ∧ St w0 fp0 (itsL v out ++ R) w := by
 constructor
 · intro h
   obtain ⟨X, h1⟩ := St.exE h
   exact ⟨X, St.pure.1 (St.star.1 h1)⟩
 · rintro ⟨X, h1, h2⟩
   exact St.exI X (St.star.2 (St.pure.2 ⟨h1, h2⟩))
def takeL (most : Int) (L : LL) : LL := if most < 1 then [] else L.take most.toNat
theorem riL_take (most : Int) (l : List Ri) : riL (takeR most l) = takeL most (riL l) := by
 unfold takeR takeL
 split
 · rfl
 · exact List.map_take
theorem taken_it {v : Value} {S cols : Nat} {I : List (List Int)} {q : LL → LL} {L : LL} {next : Int} (hc : cols ≤ 1000000) (hl : L.length + 1 < 1099511627776) (most : Int) (w0 w : World) (fp0 : List Nat) (R : List Asn) (hS : St w0 fp0 (iterA v S cols I q :: storeA S cols I L next :: R) w) :
 Calls Tryz.prog 14 #[v, .int .i64 most] w fun e w' => ∃ u, e = .returned u ∧ St w0 fp0 (resA u (takeL most (q L)) :: iterA v S cols I q :: storeA S cols I L next :: R) w' := by
 obtain ⟨X, hI, h1⟩ := St.iter.1 hS
 obtain ⟨s, hok, h2⟩ := (h1.perm List.perm_middle).openS
 have h0 := hI
 obtain ⟨gf, lb, rfl, heg, hq⟩ := hI
 obtain ⟨its, e1, e2, e3, hseq⟩ := hq s L next hok hl
 have h3 : St w0 fp0 ((X ++ stoL S s) ++ R) w := h2.perm (by
  classical
  refine List.perm_iff_count.2 fun a => ?_
  simp only [List.count_append]
  omega)
 have hrd : ∀ x ∈ its, x.r.length < 1099511627776 := fun x hx => by
  obtain ⟨e, he, rfl⟩ := e2 x hx
  have hm : (e.id, e.r) ∈ L := by rw [← hok.rows]; exact List.mem_map.2 ⟨_, he, rfl⟩
  have : e.r.length = cols := (hok.row _ hm).2.2.1
  show e.r.length < _
  omega
 refine (taken_calls gf lb heg _ its _ (hseq 1) (by omega) hrd most w0 w fp0 R (fun Own W h x hx => ?_) h3).mono ?_
 · obtain ⟨e, he, rfl⟩ := e2 x hx
   have h4 : St w0 fp0 (stoL S s ++ (X ++ Own)) W := h.perm (by
    classical
    refine List.perm_iff_count.2 fun a => ?_
    simp only [List.count_append]
    omega)
   obtain ⟨f, hf⟩ := h4.star_of
   rw [toRi_v (h4.slOf e he)]
   exact re_at hok hf he
 · rintro e w' ⟨u, out, rfl, e4, h4⟩
   have h5 : St w0 fp0 (stoL S s ++ (X ++ (itsL u out ++ R))) w' := h4.perm (by
    classical
    refine List.perm_iff_count.2 fun a => ?_
    simp only [List.count_append]
    omega)
   have h6 := St.shutS hok h5
   refine ⟨u, rfl, St.res.2 ⟨out, by rw [e4, riL_take, e1], ?_⟩⟩
   refine (St.iter.2 ⟨X, h0, h6.perm List.perm_middle.symm⟩).perm ?_
   classical
   refine List.perm_iff_count.2 fun a => ?_
   simp only [List.count_append, List.count_cons]
   omega
theorem its_rix {w0 w : World} {fp0 : List Nat} {R : List Asn} {v : Value} {out : List Ri} (h : St w0 fp0 (itsL v out ++ R) w) (hx : ∀ x ∈ out, ∀ y ∈ x.r, y.text.size ≤ maxLen) : RiX w out v := by
 refine ⟨?_, fun x hx' => ?_⟩
 · obtain ⟨_, hp⟩ := h.has 0 rfl
   exact riA_sl hp
 · obtain ⟨f, hp⟩ := h.hasM (A := rowP x) (List.mem_append.2 (.inl (List.mem_cons_of_mem _ (List.mem_map.2 ⟨x, hx', rfl⟩))))
   exact ⟨SlX.of_row hp (length_flat _) (by simp), hx x hx'⟩
theorem res_rix {w0 w : World} {fp0 : List Nat} {R : List Asn} {v : Value} {L : LL} (h : St w0 fp0 (resA v L :: R) w) (hx : ∀ x ∈ L, ∀ y ∈ x.2, y.text.size ≤ maxLen) : ∃ out, riL out = L ∧ RiX w out v := by
 obtain ⟨out, rfl, h1⟩ := St.res.1 h
 exact ⟨out, rfl, its_rix h1 fun x hx' => hx (x.id, x.r) (List.mem_map.2 ⟨x, hx', rfl⟩)⟩
end Go.Proofs.YtnefkkidfhmggaaGreat
/- Range: what it yields, in the order of the values, then of the numbers; by an index. -/
namespace Go.Proofs.YtnefkkidfhmggaaGreat
open Go Go.RowKit
def rngLt (c : Int) (a b : Int × Rw) : Prop := cmpV (colV a.2 c) (colV b.2 c) < 0 ∨ (colV a.2 c = colV b.2 c ∧ a.1 < b.1)
theorem cmpV_self (v : Vl) : cmpV v v = 0 := cmpV_zero.2 rfl
theorem rngLt_irrefl (c : Int) (a : Int × Rw) : ¬ rngLt c a a := by
 rintro (h | ⟨_, h⟩)
 · rw [cmpV_self] at h; omega
 · omega
theorem rngLt_asymm (c : Int) (a b : Int × Rw) (h : rngLt c a b) (h' : rngLt c b a) : False := by
 have hs := cmpV_swap (colV a.2 c) (colV b.2 c)
 rcases h with h | ⟨h, hi⟩ <;> rcases h' with h' | ⟨h', hi'⟩
 · omega
 · rw [h', cmpV_self] at h; omega
 · rw [h, cmpV_self] at h'; omega
 · omega
theorem rngLt_tri (c : Int) (a b : Int × Rw) : rngLt c a b ∨ rngLt c b a ∨ (colV a.2 c = colV b.2 c ∧ a.1 = b.1) := by
 have hs := cmpV_swap (colV a.2 c) (colV b.2 c)
 rcases Int.lt_trichotomy (cmpV (colV a.2 c) (colV b.2 c)) 0 with h | h | h
 · exact .inl (.inl h)
 · have e := cmpV_zero.1 h
   rcases Int.lt_trichotomy a.1 b.1 with h1 | h1 | h1
   · exact .inl (.inr ⟨e, h1⟩)
   · exact .inr (.inr ⟨e, h1⟩)
   · exact .inr (.inl (.inr ⟨e.symm, h1⟩))
 · exact .inr (.inl (.inl (by omega)))
theorem sorted_ext {α : Type} {r : α → α → Prop} (irr : ∀ a, ¬ r a a) (asy : ∀ a b, r a b → r b a → False) : ∀ {A B : List α}, A.Pairwise r → B.Pairwise r → (∀ e, e ∈ A ↔ e ∈ B) → A = B
 | [], [], _, _, _ => rfl
 | [], b :: B, _, _, h => absurd ((h b).2 List.mem_cons_self) (by simp)
 | a :: A, [], _, _, h => absurd ((h a).1 List.mem_cons_self) (by simp)
 | a :: A, b :: B, hA, hB, h => by
  obtain ⟨hA1, hA2⟩ := List.pairwise_cons.1 hA
  obtain ⟨hB1, hB2⟩ := List.pairwise_cons.1 hB
  have e : a = b := by
   rcases List.mem_cons.1 ((h a).1 List.mem_cons_self) with e | h1
   · exact e
   · rcases List.mem_cons.1 ((h b).2 List.mem_cons_self) with e | h2
     · exact e.symm
     · exact (asy _ _ (hA1 b h2) (hB1 a h1)).elim
  subst e
  rw [sorted_ext irr asy hA2 hB2 fun x => ?_]
  have hx := h x
  rw [List.mem_cons, List.mem_cons] at hx
  constructor
  · intro h1
    rcases hx.1 (.inr h1) with rfl | h2
    · exact (irr _ (hA1 _ h1)).elim
    · exact h2
  · intro h1
    rcases hx.2 (.inr h1) with rfl | h2
    · exact (irr _ (hB1 _ h1)).elim
    · exact h2
def insK (c : Int) (x : Int × Rw) (out : LL) : LL := (out.filter fun y => !decide (cmpV (colV x.2 c) (colV y.2 c) < 0)) ++ x :: out.filter fun y => decide (cmpV (colV x.2 c) (colV y.2 c) < 0)
def rngL (c : Int) (low high : Vl) (L : LL) : LL := (L.filter fun x => rgV (colV x.2 c) low high).foldl (fun o x => insK c x o) []
theorem insK_mem {c : Int} {x y : Int × Rw} {out : LL} : y ∈ insK c x out ↔ y = x ∨ y ∈ out := by
 unfold insK
 rw [List.mem_append, List.mem_cons, List.mem_filter, List.mem_filter]
 by_cases h : cmpV (colV x.2 c) (colV y.2 c) < 0 <;> simp [h] <;> exact or_comm
theorem insK_sorted {c : Int} {x : Int × Rw} {out : LL} (h : out.Pairwise (rngLt c)) (hx : ∀ y ∈ out, y.1 < x.1) : (insK c x out).Pairwise (rngLt c) := by
 have lo : ∀ y ∈ out, (!decide (cmpV (colV x.2 c) (colV y.2 c) < 0)) = true → rngLt c y x := fun y hy hb => by
  have hn : ¬ cmpV (colV x.2 c) (colV y.2 c) < 0 := by simpa using hb
  have hs := cmpV_swap (colV x.2 c) (colV y.2 c)
  by_cases h0 : cmpV (colV x.2 c) (colV y.2 c) = 0
  · exact .inr ⟨(cmpV_zero.1 h0).symm, hx y hy⟩
  · exact .inl (by omega)
 unfold insK
 refine List.pairwise_append.2 ⟨h.sublist List.filter_sublist, List.pairwise_cons.2 ⟨fun b hb => .inl (by simpa using (List.mem_filter.1 hb).2), h.sublist List.filter_sublist⟩, fun a ha b hb => ?_⟩
 obtain ⟨h1, h2⟩ := List.mem_filter.1 ha
 have h3 := lo a h1 h2
 rcases List.mem_cons.1 hb with rfl | hb
 · exact h3
 · have h4 : cmpV (colV x.2 c) (colV b.2 c) < 0 := by simpa using (List.mem_filter.1 hb).2
   rcases h3 with h3 | ⟨h3, -⟩
   · exact .inl (cmpV_trans h3 h4)
   · exact .inl (by rw [h3]; exact h4)
theorem foldK {c : Int} : ∀ (l out : LL), out.Pairwise (rngLt c) → (∀ y ∈ out, ∀ x ∈ l, y.1 < x.1) → AscI l → (l.foldl (fun o x => insK c x o) out).Pairwise (rngLt c) ∧ ∀ y, y ∈ l.foldl (fun o x => insK c x o) out ↔ y ∈ l ∨ y ∈ out
 | [], out, h, _, _ => ⟨h, fun y => by simp⟩
 | x :: l, out, h, hl, ha => by
  obtain ⟨h1, h2⟩ := List.pairwise_cons.1 ha
  obtain ⟨h3, h4⟩ := foldK l (insK c x out) (insK_sorted h fun y hy => hl y hy x List.mem_cons_self) (fun y hy z hz => by
   rcases insK_mem.1 hy with rfl | hy
   · exact h1 z hz
   · exact hl y hy z (List.mem_cons_of_mem _ hz)) h2
  refine ⟨h3, fun y => ?_⟩
  rw [List.foldl_cons, h4, insK_mem, List.mem_cons]
  constructor
  · rintro (h | h | h)
    · exact .inl (.inr h)
    · exact .inl (.inl h)
    · exact .inr h
  · rintro ((h | h) | h)
    · exact .inr (.inl h)
    · exact .inl h
    · exact .inr (.inr h)
theorem rngL_ok {c : Int} {low high : Vl} {L : LL} (h : AscI L) : (rngL c low high L).Pairwise (rngLt c) ∧ ∀ y, y ∈ rngL c low high L ↔ y ∈ L ∧ rgV (colV y.2 c) low high = true := by
 obtain ⟨h1, h2⟩ := foldK (c := c) (L.filter fun x => rgV (colV x.2 c) low high) [] List.Pairwise.nil (by simp) (h.sublist List.filter_sublist)
 refine ⟨h1, fun y => ?_⟩
 unfold rngL
 rw [h2, List.mem_filter]
 simp
theorem RowOk.col {cols : Nat} {r : Rw} (h : RowOk cols r) {c : Nat} (hc : c < cols) : okV (colV r c) = true ∧ I64 (colV r c).int := by
 have hl : c < r.length := by rw [h.1]; exact hc
 have e : colV r (c : Int) = r[c] := by simp [colV, List.getD, hl]
 rw [e]
 exact h.2 _ (List.getElem_mem hl)
theorem key1 (e : Re) (c : Nat) : bytes (ixKey e.id e.r [(c : Int)]) = encL (colV e.r c) ++ numL e.id := by
 rw [ixKey, bytes_textOf, keyL]
 simp
theorem rng_eq {_S cols : Nat} {I : List (List Int)} {L : LL} {next : Int} {s : Sto} (hok : s.Ok cols I L next) {c : Nat} (hc : c < cols) {low high : Vl} (hlv : okV low = true) (hli : I64 low.int) {ess : List Re}
 (h1 : ∀ e, e ∈ ess ↔ e ∈ s.es ∧ inR (some (.str (textOf (encL low)))) none (ixK [(c : Int)] e, Va.int e.id) = true) (h2 : ess.Pairwise (fun a b => ltK (ixK [(c : Int)] a) (ixK [(c : Int)] b))) : riL (somL (rgP c low high) ess) = rngL c low high L := by
 have hm : ∀ e ∈ s.es, (e.id, e.r) ∈ L := fun e he => by rw [← hok.rows]; exact List.mem_map.2 ⟨_, he, rfl⟩
 have hi64 : ∀ e ∈ s.es, I64 e.id := fun e he => hok.i64 _ (hm e he)
 have hcv : ∀ e ∈ s.es, okV (colV e.r c) = true ∧ I64 (colV e.r c).int := fun e he => (hok.row _ (hm e he)).2.2.col hc
 obtain ⟨r1, r2⟩ := rngL_ok (c := c) (low := low) (high := high) hok.asc
 rw [riL_som (_s := s) (rgP c low high) (fun x => rgV (colV x.2 c) low high) fun _ => rfl]
 refine sorted_ext (rngLt_irrefl c) (rngLt_asymm c) ?_ r1 fun y => ?_
 · refine List.Pairwise.sublist List.filter_sublist ?_
   unfold reL
   rw [List.pairwise_map]
   refine h2.imp_of_mem ?_
   intro a b ha hb hlt
   have ha' := ((h1 a).1 ha).1
   have hb' := ((h1 b).1 hb).1
   have h3 : Lib.compareBytes (bytes (ixKey a.id a.r [(c : Int)])) (bytes (ixKey b.id b.r [(c : Int)])) < 0 := hlt
   rw [key1, key1] at h3
   rcases rngLt_tri c (a.id, a.r) (b.id, b.r) with h | h | ⟨e1, e2⟩
   · exact h
   · exfalso
     have hs := cmpB_swap (encL (colV b.r c) ++ numL b.id) (encL (colV a.r c) ++ numL a.id)
     rcases h with h | ⟨h, hi⟩
     · have := encL_lt (hcv b hb').1 (hcv a ha').1 (hcv b hb').2 (hcv a ha').2 h (numL b.id) (numL a.id)
       omega
     · have h' : colV b.r c = colV a.r c := h
       rw [h', cmpB_pre, cmpB_pre] at hs
       rw [h', cmpB_pre] at h3
       have h4 : Lib.compareBytes (numL b.id ++ []) (numL a.id ++ []) < 0 := numL_lt (hi64 b hb') (hi64 a ha') hi [] []
       rw [List.append_nil, List.append_nil] at h4
       omega
   · exfalso
     have e1' : colV a.r c = colV b.r c := e1
     have e2' : a.id = b.id := e2
     rw [e1', e2', cmpB_zero.2 rfl] at h3
     omega
 · rw [r2, List.mem_filter]
   constructor
   · rintro ⟨h3, h4⟩
     obtain ⟨e, he, rfl⟩ := List.mem_map.1 h3
     exact ⟨hm e ((h1 e).1 he).1, h4⟩
   · rintro ⟨h3, h4⟩
     refine ⟨?_, h4⟩
     rw [← hok.rows] at h3
     obtain ⟨e, he, rfl⟩ := List.mem_map.1 h3
     refine List.mem_map.2 ⟨e, (h1 e).2 ⟨he, ?_⟩, rfl⟩
     have hn : ¬ ltK (ixK [(c : Int)] e) (Ky.str (textOf (encL low))) := by
      show ¬ Lib.compareBytes (bytes (ixKey e.id e.r [(c : Int)])) (bytes (textOf (encL low))) < 0
      rw [key1, bytes_textOf]
      have hge : cmpV low (colV e.r c) ≤ 0 := by
       have hs := cmpV_swap low (colV e.r c)
       have h5 : rgV (colV e.r c) low high = true := h4
       unfold rgV at h5
       simp only [Bool.and_eq_true, Bool.not_eq_true', decide_eq_false_iff_not, Bool.or_eq_true, decide_eq_true_eq] at h5
       obtain ⟨h6, h7 | h7, -⟩ := h5
       · have hkd : low.kind < (colV e.r c).kind := by
          rcases okV_cases (hcv e he).1 with ⟨h, _⟩ | ⟨h, _⟩ | ⟨h, _⟩ <;> omega
         have : cmpV low (colV e.r c) < 0 := by
          have h8 : cmpS low.kind (colV e.r c).kind < 0 := cmpS_neg.2 hkd
          unfold cmpV orS
          rw [if_neg (by omega)]
          exact h8
         omega
       · omega
      by_cases h0 : cmpV low (colV e.r c) = 0
      · rw [← cmpV_zero.1 h0]
        exact cmpB_le_app _ _
      · have h5 := encL_lt hlv (hcv e he).1 hli (hcv e he).2 (show cmpV low (colV e.r c) < 0 by omega) [] (numL e.id)
        rw [List.append_nil] at h5
        have := cmpB_swap (encL low) (encL (colV e.r c) ++ numL e.id)
        omega
     unfold inR
     simp [hn]
theorem findIx_of {ixs : List Ix} {I : List (List Int)} {cs : List Int} (h : ixs.map (·.cs) = I) (hm : cs ∈ I) : ∃ x, findIx ixs cs = some x ∧ x.cs = cs := by
 rw [← h] at hm
 obtain ⟨y, hy, rfl⟩ := List.mem_map.1 hm
 cases e : findIx ixs y.cs with
 | none =>
  have h1 := List.find?_eq_none.1 e y hy
  simp at h1
 | some x => exact ⟨x, rfl, by simpa using List.find?_some e⟩
theorem Range_it1 (S cols : Nat) (I : List (List Int)) (hcm : cols ≤ 1000000) (c : Nat) (hc : c < cols) (hI : [(c : Int)] ∈ I) (low high : Vl) (hlv : okV low = true) (hli : I64 low.int) (w0 w : World) (fp0 : List Nat) (R : List Asn) (hS : St w0 fp0 R w) :
 Calls Tryz.prog 17 #[ptrV S, .int .i64 c, low.val, high.val] w fun e w' => ∃ v, e = .returned v ∧ St w0 fp0 (iterA v S cols I (rngL c low high) :: R) w' := by
 refine (Range_store S c low high w0 w fp0 R hS).mono ?_
 rintro e w' ⟨cb, b4, b5, b6, b7, b9, rfl, h⟩
 have h1 : St w0 fp0 ((blkA cb 109 #[rgCol b4 b5 b6 b9] :: (rgL b4 b9 b5 b6 b7 S ++ rgX b5 b6 b7 c low high)) ++ R) w' := h.perm (by
  classical
  refine List.perm_iff_count.2 fun a => ?_
  simp only [List.cons_append, List.count_append, List.count_cons]
  omega)
 refine ⟨_, rfl, St.iter.2 ⟨_, ⟨84, _, rfl, enters_own Tryz.func84 (by kernel_rfl) rfl, fun s L next hok hl => ?_⟩, h1⟩⟩
 obtain ⟨x, hx, hxc⟩ := findIx_of hok.eixs hI
 have hxm : x ∈ s.ixs := List.mem_of_find?_eq_some hx
 obtain ⟨ess, h2, h3, h4, h5⟩ := ix_sel (_S := S) hok hxm (some (.str (textOf (encL low)))) none
 have hem : ∀ e ∈ ess, e ∈ s.es := fun e he => ((h3 e).1 he).1
 refine ⟨somL (rgP c low high) ess, ?_, fun y hy => ?_, Nat.le_trans (somL_len _ _) h5, fun n => (rg_seq (S := S) hok hcm b4 b5 b6 b7 b9 cb c low high hc hlv hli hl x hx ess h2 hem h5 n).perm ?_⟩
 · rw [hxc] at h3 h4
   exact rng_eq (_S := S) hok hc hlv hli h3 h4
 · obtain ⟨e, he, -, rfl⟩ := somL_row hy
   exact ⟨e, hem e he, rfl⟩
 · classical
   refine List.perm_iff_count.2 fun a => ?_
   simp only [List.cons_append, List.count_append, List.count_cons]
   omega
end Go.Proofs.YtnefkkidfhmggaaGreat
