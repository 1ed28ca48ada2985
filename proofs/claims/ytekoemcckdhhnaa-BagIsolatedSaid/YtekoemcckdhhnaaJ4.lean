/- BagIsolated returns true. -/
import Derived.Test.YtekoemcckdhhnaaI0
namespace Go.Proofs.Ytekoemcckdhhnaa
open Go.RowKit

set_option maxHeartbeats 4000000 in
set_option maxRecDepth 20000 in
theorem lisol_calls (L : List Rw) (R : Rw) (s r : Value) (w : World) (hs : RowsAt w L s) (hr : ValsAt w R r) :
    Calls Try.prog 4 #[s, r] w fun e w' => e = .returned (.bool true) ∧ Below w.heap.size w w' := by
  obtain ⟨ar, nr, cr, rfl, -, -⟩ := hr.shape
  have Hs := Lib.hid hs
  have Hr := Lib.hid hr
  clear hs hr
  go_enter Try.func4, Try.ntmps4
  go_wp2_with fail
  (with_reducible refine (awake_calls w).mono ?_)
  rintro e w1 ⟨rfl, b1⟩
  have B1 := Lib.hid b1
  clear b1
  go_wp2_with fail
  (with_reducible refine (small_calls L _ w1 (Hs.out.mono B1.out)).mono ?_)
  rintro e w2 ⟨rfl, rfl⟩
  cases h1 : smallL L
  · go_wp2_with fail
    (with_reducible refine (awake_calls _).mono ?_)
    rintro e w2 ⟨rfl, b2⟩
    have B2 := Lib.hid (Below.step B1.out b2)
    clear b2
    go_wp2
    go_ret
    exact ⟨rfl, B2.out⟩
  · have HL := Lib.hid (smallL_len h1)
    have HR1 := Lib.hid (RowsAt.one (Hr.out.mono B1.out))
    have B2 := Lib.hid (B1.out.alloc B1.out.size (.cells #[.slice ar nr cr] 33))
    clear h1
    go_wp2_with fail
    (with_reducible refine (small_calls [R] _ _ HR1.out).mono ?_)
    rintro e w2 ⟨rfl, rfl⟩
    cases h2 : smallL [R]
    · go_wp2_with fail
      (with_reducible refine (awake_calls _).mono ?_)
      rintro e w3 ⟨rfl, b3⟩
      have B3 := Lib.hid (Below.step B2.out b3)
      clear b3
      go_wp2
      go_ret
      exact ⟨rfl, B3.out⟩
    · have HRl : RowKit.Hid (R.length ≤ 10) := (smallL_len h2).2 R (by simp)
      generalize w1.alloc (.cells #[.slice ar nr cr] 33) = w2 at *
      clear h2 HR1 B1
      have Zw := Lib.hid B2.out.size
      go_wp2_with fail
      (with_reducible refine (own_calls L _ w2 (Hs.out.mono B2.out) (by have := HL.out.1; omega) (fun r hr => by have := HL.out.2 r hr; omega)).mono ?_)
      rintro e w3 ⟨vg, rfl, hg, b3⟩
      have G := Lib.hid (hg)
      have B3 := Lib.hid (Below.step B2.out b3)
      clear hg b3 B2
      obtain ⟨xg, g1, g2⟩ := G.out
      obtain ⟨ag, cg, rfl⟩ := G.out.own.shape
      have G := Lib.hid (RowsNX.mk g1 g2)
      have GL : RowKit.Hid (∀ x ∈ xg, ∀ k, x.ownBlock = some k → k < w3.heap.size) := by
        intro x hx k hk
        obtain ⟨R', h⟩ := g2.mem x hx
        exact (h.lt k hk).2
      clear g1 g2
      go_wp2_with fail
      (with_reducible refine (of_calls0 L s w w3 B3.out (Hs.out.at0.mono B3.out) (by have := HL.out.1; omega)).mono ?_)
      rintro e w4 ⟨vw, rfl, hw, b4⟩
      have G := Lib.hid (G.out.mono b4)
      have Z34' := Lib.hid (b4.size)
      have P := Lib.hid (hw)
      have B4 := Lib.hid (Below.step B3.out b4)
      clear hw b4 B3
      obtain ⟨aw, cw, rfl⟩ := P.out.shape
      go_wp2_with fail
      (with_reducible refine (bnew_calls L _ w4 G.out.new.own.at (by have := HL.out.1; omega) (fun r hr => by have := HL.out.2 r hr; omega)).mono ?_)
      rintro e w5 ⟨pb, sb, rfl, hb, b5⟩
      have G := Lib.hid (G.out.mono b5)
      have P := Lib.hid (P.out.mono b5)
      have Z45 := Lib.hid (b5.size)
      have X := Lib.hid (hb)
      have B5 := Lib.hid (Below.step B4.out b5)
      clear hb b5 B4
      have Z34 : RowKit.Hid (w3.heap.size ≤ w4.heap.size) := Z34'.out
      have Hown0 := Lib.hid (World.ownsRow_lit (e := 38) (size := 3) w5 #[] 0 (Nat.le_refl _) (by simp) (by simp))
      have Hr5 := Lib.hid ((Hr.out.mono B5.out).alloc (.cells #[] 38))
      go_wp2_with (at_builtin; refine wpList_append33 rfl _ _ rfl w5.heap.size _ rfl Hown0.out R _ rfl Hr5.out (by have := HRl.out; omega) (by simp) ?_)
      intro v6 w6 ho6 hg6
      have One := Lib.hid ho6
      have B56 : RowKit.Hid (Below w5.heap.size w5 w6) := ((Below.refl _ _).alloc (Nat.le_refl _) _).grown hg6 (by simp) (fun k hk => (Hown0.out.lt k hk).1)
      have B6 := Lib.hid (Below.step B5.out B56.out)
      have G := Lib.hid (G.out.mono B56.out)
      obtain ⟨a6, n6, c6, rfl, -, -⟩ := ho6.vals.shape
      clear ho6 hg6 Hown0 Hr5
      go_wp2_with fail
      (with_reducible refine (bcopy_calls _ pb sb (newB L) w6 (X.out.mono B56.out) (by rw [lenB_newB]; have := HL.out.1; omega) (rows_len (fun r hr => by have := HL.out.2 r hr; omega))).mono ?_)
      rintro e w7 ⟨pc, sc, rfl, hc, b7⟩
      have C := Lib.hid hc
      have B67 := Lib.hid b7
      clear hc b7
      go_wp2_with fail
      (with_reducible refine (badd_calls _ pc sc (newB L) R _ w7 C.out (One.out.mono B67.out).vals (by have := HRl.out; omega) (by rw [lenB_newB]; have := HL.out.1; omega)).mono ?_)
      rintro e w8 ⟨rfl, hM⟩
      have B68 := Lib.hid (B67.out.trans (hM.below C.out))
      obtain ⟨sc', hC', -⟩ := hM
      have C := Lib.hid hC'
      clear hC' B67
      have G8 := Lib.hid (G.out.mono B68.out)
      have One8 := Lib.hid (One.out.mono B68.out)
      have H9 := Lib.hid (World.ownsRow_lit (e := 33) (size := 1) w8 #[.slice a6 n6 c6] 1 (Nat.le_refl _) (by decide) (by simp))
      have B89 : RowKit.Hid (Below w8.heap.size w8 (w8.alloc (.cells #[.slice a6 n6 c6] 33))) := (Below.refl _ _).alloc (Nat.le_refl _) _
      have G1 := Lib.hid (own_below G8.out.own B89.out)
      have G2 := Lib.hid (G8.out.rows.mono B89.out)
      have One9 := Lib.hid (One8.out.mono B89.out)
      clear G8 One8
      have HLs := Lib.hid (SmB.new HL.out)
      generalize hml : L.length = ml at *
      have Hml := Lib.hid hml
      clear hml
      go_wp2_with (at_builtin; go_loud (refine wpList_append22 rfl _ _ rfl w8.heap.size 1 _ _ rfl H9.out _ ml xg _ rfl G1.out G2.out.vals.one' (by have := HL.out.1; omega) B89.out.size ?_))
      intro v10 w10 ho10 hg10
      have B8a : RowKit.Hid (Below w8.heap.size w8 w10) := B89.out.grown hg10 (by simp) (fun k hk => (H9.out.lt k hk).1)
      have Gx := Lib.hid (G2.out.grown H9.out hg10)
      have Onex := Lib.hid (One9.out.grown H9.out hg10)
      have Own10 := Lib.hid ho10
      have hsh : ∃ a c, v10 = .slice a (1 + ml) c := by
        rcases ho10.2 with ⟨rfl, h0⟩ | ⟨g, cap, cur, rfl, _⟩
        · omega
        · exact ⟨_, _, rfl⟩
      obtain ⟨a10, c10, rfl⟩ := hsh
      clear ho10 hg10 G1 G2 One9 H9 B89
      have B610 := Lib.hid (B68.out.trans (B8a.out.mono B68.out.size))
      have X10 := Lib.hid (X.out.mono (B56.out.trans (B610.out.mono B56.out.size)))
      go_wp2_with fail
      (with_reducible refine (srows_calls (N := 60) (by omega) _ pb sb (newB L) w10 X10.out HLs.out).mono ?_)
      rintro e w11 ⟨vr, rfl, hr11, b11⟩
      have Gx := Lib.hid (Gx.out.mono b11)
      have Onex := Lib.hid (Onex.out.mono b11)
      have Own11 := Lib.hid (own_below Own10.out b11)
      have B8b := Lib.hid (B8a.out.trans (b11.mono B8a.out.size))
      obtain ⟨ar1, cr1, rfl⟩ := hr11.own.shape
      have hnr : (rowsB (newB L)).length = ml := by rw [(newB_all L).2, length_ofL, Hml.out]
      obtain ⟨xr, R1, R2⟩ := hr11
      have R1 := Lib.hid R1
      have R2 := Lib.hid R2
      rw [hnr] at R1
      simp only [hnr]
      have Zz : RowKit.Hid (w8.heap.size ≤ w10.heap.size) := B8a.out.size
      clear b11 hnr X10 Own10
      go_wp2_with (at_builtin; refine wpList_append22 rfl _ _ rfl w8.heap.size (1 + ml) _ _ rfl Own11.out _ ml xr _ rfl R1.out R2.out.vals.one' (by have := HL.out.1; have := Hml.out; omega) B8b.out.size ?_)
      intro v12 w12 ho12 hg12
      obtain ⟨xs, hxs⟩ : ∃ xs, [Value.slice a6 n6 c6] ++ xg ++ xr = xs := ⟨_, rfl⟩
      have HW : RowKit.Hid (Wr w w5 w8 w12 w3.heap.size w6.heap.size w8.heap.size (1 + ml + ml) v12 xs) := by
        have hb8 : Below w8.heap.size w8 w12 := B8b.out.grown hg12 B8b.out.size (fun k hk => (Own11.out.lt k hk).1)
        have s58 := B68.out.size
        have s56 := B56.out.size
        have s3 := Z34.out
        have s4 := Z45.out
        have s8 := Zz.out
        have hb6 : Below w6.heap.size w6 w12 := B68.out.trans (hb8.mono s58)
        have hb5 : Below w5.heap.size w5 w12 := B56.out.trans (hb6.mono s56)
        have hw6 := B6.out.size
        have hw5 := B5.out.size
        refine ⟨by rw [← hxs]; exact ho12, ?_, (Agree.refl _ _ _).of_below hb5 (Nat.le_refl _), (Agree.refl _ _ _).of_below hb8 (Nat.le_refl _), B6.out.trans (hb6.mono hw6)⟩
        intro x hx
        rw [← hxs] at hx
        rcases List.mem_append.1 hx with hx | hx
        · rcases List.mem_append.1 hx with hx | hx
          · simp only [List.mem_singleton] at hx
            subst hx
            refine ⟨⟨R, (Onex.out.grown Own11.out hg12).base hw5⟩, fun k hk => ?_⟩
            have := One.out.lt k hk
            exact ⟨.inr this.1, .inl this.2⟩
          · obtain ⟨R', h⟩ := (Gx.out.grown Own11.out hg12).mem x hx
            have h3 := GL.out x hx
            refine ⟨⟨R', h.base Zw.out⟩, fun k hk => ?_⟩
            have := h3 k hk
            exact ⟨.inl this, .inl (by omega)⟩
        · obtain ⟨R', h⟩ := (R2.out.grown Own11.out hg12).mem x hx
          refine ⟨⟨R', h.base (by omega)⟩, fun k hk => ?_⟩
          have := (h.lt k hk).1
          exact ⟨.inr (by omega), .inr (by omega)⟩
      have hsh : ∃ a c, v12 = .slice (some ⟨a, 0, none⟩) (1 + ml + ml) c := by
        rcases ho12.2 with ⟨rfl, h0⟩ | ⟨g, cap, cur, rfl, _⟩
        · omega
        · exact ⟨_, _, rfl⟩
      obtain ⟨g12, c12, rfl⟩ := hsh
      clear ho12 hg12 Onex Gx R2 R1 Own11 B8b B8a B610 Zz GL hxs
      obtain ⟨m, hm⟩ : ∃ m, 1 + ml + ml = m := ⟨_, rfl⟩
      rw [hm] at HW ⊢
      have hm200 : m ≤ 200 := by have := HL.out.1; omega
      clear hm
      have hidx : ∀ k, k < m → ((k : Int) < m) := fun k h => by omega
      clear hidx
      go_wp2
      go_loopw [53] (fun i wr => ∃ (k : Nat), k ≤ m ∧ i = .int .i64 k ∧ RowKit.Hid (Wr w w5 w8 wr w3.heap.size w6.heap.size w8.heap.size m (.slice (some ⟨g12, 0, none⟩) m c12) xs)) (fun i _ => m - (intOf i).toNat)
      case atStart => exact ⟨0, Nat.zero_le _, rfl, HW⟩
      case round =>
        clear HW
        obtain ⟨k, hk, rfl, HW⟩ := hrel
        by_cases hlt : k < m
        · have hxl : xs.length = m := by have := HW.out.own.1; omega
          obtain ⟨x, hx⟩ : ∃ x, xs[k]? = some x := ⟨_, List.getElem?_eq_getElem (by omega)⟩
          have hmem := List.mem_of_getElem? hx
          have hc := HW.out.own.cellAt k (by omega)
          rw [hx] at hc
          have hgl := (HW.out.own.lt g12 rfl).2
          obtain ⟨ax, nx, cx, rfl⟩ : ∃ ax nx cx, x = .slice ax nx cx := by
            obtain ⟨⟨R', h⟩, -⟩ := HW.out.rows x hmem
            obtain ⟨ax, nx, cx, h1, -, -⟩ := h.vals.shape
            exact ⟨ax, nx, cx, h1⟩
          have Hmem := Lib.hid hmem
          have i1 : (0 : Int) ≤ k := by omega
          have i2 : (k : Int) < m := by omega
          have hnx : nx ≤ maxLen := by
            obtain ⟨⟨R', h⟩, -⟩ := HW.out.rows _ hmem
            obtain ⟨_, _, _, h1, -, h3⟩ := h.vals.shape
            injection h1 with _ h1
            omega
          unfold maxLen at hnx
          clear hx hmem hxl
          go_wp2
          go_loopw [59] (fun j wr => ∃ (q : Nat), q ≤ nx ∧ j = .int .i64 q ∧ RowKit.Hid (Wr w w5 w8 wr w3.heap.size w6.heap.size w8.heap.size m (.slice (some ⟨g12, 0, none⟩) m c12) xs)) (fun j _ => nx - (intOf j).toNat)
          case atStart => exact ⟨0, Nat.zero_le _, rfl, HW⟩
          case round =>
            clear HW hc hgl
            obtain ⟨q, hq, rfl, HW⟩ := hrel
            by_cases hlq : q < nx
            · obtain ⟨⟨R', hR⟩, -⟩ := HW.out.rows _ Hmem.out
              obtain ⟨hRl, gx, rfl⟩ : R'.length = nx ∧ ∃ gx, ax = some ⟨gx, 0, none⟩ := by
                rcases hR.1.2 with ⟨h1, h2⟩ | ⟨g, cap, cur, h1, _⟩
                · injection h1 with _ h1; omega
                · injection h1 with h1 h2
                  exact ⟨h2.symm, g, h1⟩
              have ho := hR.1
              rw [hRl] at ho
              have d0 := ho.cellAt (q * 3 + 1) (by omega)
              rw [flat_get R' q (by omega) 1 (by omega)] at d0
              have d1 := ho.frozenAt (q * 3 + 1)
              have d2 := (ho.lt gx rfl).2
              have d0' : wr.cell? ⟨gx, q * 3 + 1, none⟩ = some (.int .i64 R'[q].int) := d0
              have Hset := Lib.hid (fun z => HW.out.set (g := gx) (j := q) Hmem.out rfl z)
              generalize R'[q].int = z at *
              have j1 : (0 : Int) ≤ q := by omega
              have j2 : (q : Int) < nx := by omega
              clear hR ho hRl d0
              go_wp2
              go_roundw
              case rel => exact ⟨q + 1, by omega, by go_num, Hset.out _⟩
              case measure => simp [intOf]; omega
            · obtain rfl : q = nx := by omega
              go_wp2
              go_roundw
              case rel => exact ⟨k + 1, by omega, by go_num, HW⟩
              case measure => simp [intOf]; omega
        · obtain rfl : k = m := by omega
          have Bz := Lib.hid HW.out.low
          have Xz := Lib.hid (X.out.agree HW.out.bb Z34.out)
          have Pz := Lib.hid (P.out.agree HW.out.bb (Nat.le_refl _))
          have Cz := Lib.hid (C.out.agree HW.out.cc (Nat.le_refl _))
          have Pz := Lib.hid (Pz.out.at Bz.out)
          have HSc := Lib.hid (HLs.out.put R HRl.out)
          clear HW X P C
          go_wp2_with fail
          (with_reducible refine (srows_calls (N := 60) (by omega) _ pb sb _ wr Xz.out HLs.out).mono ?_)
          rintro e w21 ⟨v21, rfl, h21, b21⟩
          have Pz := Lib.hid (Pz.out.mono b21)
          have Cz := Lib.hid (Cz.out.mono b21)
          have V := Lib.hid (h21.own.at)
          have B21 := Lib.hid (Below.step Bz.out b21)
          clear h21 b21 Bz Xz
          go_wp2_with fail
          (with_reducible refine (tsame_calls (newB_all L).2 _ _ w21 V.out Pz.out).mono ?_)
          rintro e w22 ⟨rfl, b22⟩
          have Pz := Lib.hid (Pz.out.mono b22)
          have Cz := Lib.hid (Cz.out.mono b22)
          have B22 := Lib.hid (Below.step B21.out b22)
          clear b22 B21 V
          go_wp2_with fail
          (with_reducible refine (srows_calls (N := 61) (by omega) _ pc sc' _ w22 Cz.out HSc.out).mono ?_)
          rintro e w23 ⟨v23, rfl, h23, b23⟩
          have Pz := Lib.hid (Pz.out.mono b23)
          have V := Lib.hid (h23.own.at)
          have B23 := Lib.hid (Below.step B22.out b23)
          clear h23 b23 B22 Cz
          go_wp2_with fail
          (with_reducible refine (put_calls (ofL L) R _ _ w23 Pz.out (Hr.out.mono B23.out) (by rw [length_ofL]; have := HL.out.1; have := Hml.out; omega)).mono ?_)
          rintro e w24 ⟨v24, rfl, h24, b24⟩
          have V := Lib.hid (V.out.mono b24)
          have U := Lib.hid (h24)
          have B24 := Lib.hid (Below.step B23.out b24)
          clear h24 b24 B23 Pz
          go_wp2_with fail
          (with_reducible refine (tsame_calls (by rw [rows_putB (newB_all L).1, (newB_all L).2]) _ _ w24 V.out U.out).mono ?_)
          rintro e w25 ⟨rfl, b25⟩
          have B25 := Lib.hid (Below.step B24.out b25)
          clear b25 B24 V U
          go_wp2
          go_ret
          exact ⟨rfl, B25.out⟩
end Go.Proofs.Ytekoemcckdhhnaa
