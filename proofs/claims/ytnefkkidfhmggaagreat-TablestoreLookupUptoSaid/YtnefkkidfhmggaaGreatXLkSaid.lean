/- TablestoreLookup returns true and leaves its arguments as they were, for every shape of a table, every list of operations and every search, where what it reads is of bulk at most 1048576. Conditions: none. -/
import Derived.Test.YtnefkkidfhmggaaGreatX11
import Derived.Test.YtnefkkidfhmggaaGreatX12
namespace Go.Proofs.YtnefkkidfhmggaaGreat.lk
open Go.ChangeShapes Go.WideShapes Go.ChangeAt Go.RowKit Go.WideMaps Go.WideElems
open Go.ChangeMaps (open_string shut_string)
set_option maxRecDepth 100000
theorem contract (H : Type) (enc : TypeId × Value → H) (W : World) (base : Nat) (args : Array Value) (ds gs : List (DataW H)) (before : List MemPlace)
 (hval : ∀ (j : Nat) t v, Tryz.f3.params[j]? = some t → args[j]? = some v → Value.okWide Tryz.prog W .any base t v)
 (hW : DataW.Whole enc Tryz.prog Tryz.f3.params.toList Rows.tablestoreLookupSpec.vars false W args.toList ds gs before) (hk : Rows.uptoSmall H (ds ++ gs) = true) :
 Calls Tryz.prog 3 args W fun e W' => ∃ v, e = .returned v ∧ Rows.tablestoreLookupSpec.post enc Tryz.prog Tryz.f3 false true false false W args v W' := by
 have hW' := hW
 obtain ⟨p, q, hA0, hV, rfl, hfz, hnd⟩ := hW
 have hA : DataW.TrodAll enc Tryz.prog W 0 (fun _ => true) true Tryz.f3.params.toList args.toList ds p := hA0
 rw [Tryz.params3] at hA hval
 obtain ⟨rfl, rfl⟩ := trodVars_none hV
 obtain ⟨v0, v1, v2, d0, d1, d2, p0, p1, p2, rfl, rfl, -, h0, h1, h2⟩ := trodAll_three hA
 obtain ⟨u0, ka0, kn0, kc0, fa0, fn0, fc0, K0, F0, rfl, hu0, hk0, hf0⟩ := open_shape (hval 0 24 _ rfl rfl) h0
 obtain ⟨l1, hl1, ho1, hc1⟩ := open_ops (hval 1 25 _ rfl rfl) h1
 obtain ⟨ca2, cn2, cc2, va2, vn2, vc2, q2, q3, q4, q5, q6, q7, q8, cs2, vs2, rfl, hi2, hv2, hb2⟩ := open_search (hval 2 31 _ rfl rfl) h2
 have hbd := of_decide_eq_true hk
 simp only [List.append_nil, Rows.uptoBulkAll] at hbd
 have walk := lookup_calls u0 hu0 ka0 fa0 kn0 kc0 fn0 fc0 K0 F0 l1 v1 W hk0 hf0 hl1 ho1 ca2 va2 cn2 cc2 vn2 vc2 q2 q3 q4 q6 q7 q5 q8 cs2 vs2 hi2 hv2 (fun y hy => ⟨(hb2 y hy).1, by have := (hb2 y hy).2; omega⟩)
 refine walk.mono fun e W' ⟨he, hb⟩ => ?_
 exact ⟨_, he, post_true laidOut (by rw [Tryz.params3]; intro t ht; revert t; decide +kernel) rfl Tryz.underlying4 rfl rfl hW' hb⟩
theorem reads (os : Os) {H : Type} (enc : TypeId × Value → H) : ∃ places, DataW.whole enc Tryz.prog ((World.holding Tryz.prog os ⟨#[], #[], []⟩).forCall (fun _ _ => 0) ⟨#[], #[.agg #[.int .u8 0, .slice none 0 0, .slice none 0 0], .slice none 0 0, .agg #[.slice none 0 0, .slice none 0 0, .int .i64 0, .int .i64 0, .int .i64 0, .string ⟨#[]⟩, .int .i64 0, .int .i64 0, .string ⟨#[]⟩]], []⟩).memory Tryz.f3.params.toList Rows.tablestoreLookupSpec.vars false ((#[.agg #[.int .u8 0, .slice none 0 0, .slice none 0 0], .slice none 0 0, .agg #[.slice none 0 0, .slice none 0 0, .int .i64 0, .int .i64 0, .int .i64 0, .string ⟨#[]⟩, .int .i64 0, .int .i64 0, .string ⟨#[]⟩]] : Array Value)).toList 8 = some ([.agg [.lit (.int .u8 0), .nil, .nil], .nil, .agg [.nil, .nil, .lit (.int .i64 0), .agg [.lit (.int .i64 0), .lit (.int .i64 0), .lit (.string [])], .agg [.lit (.int .i64 0), .lit (.int .i64 0), .lit (.string [])]]], [], places) :=
 ⟨[], by kernel_rfl⟩
set_option maxRecDepth 100000 in
theorem lifted (os : Os) (started : os.Started) (H : Type) (enc : TypeId × Value → H) (F : Stop.Interp) :
 ReturnsInHanded {} Tryz.checked os 3 .any ((Rows.OpenSpec.upto Rows.tablestoreLookupSpec).preRow enc Tryz.prog Tryz.f3 Rows.tablestoreLookupUptoRow.domain false Rows.tablestoreLookupUptoRow.laid) (((Rows.OpenSpec.upto Rows.tablestoreLookupSpec).at F).post enc Tryz.prog Tryz.f3 false true false false) := by
 obtain ⟨places, hx⟩ := reads os enc
 refine returnsInHanded_of_row (C := Tryz.checked) (s := (Rows.OpenSpec.upto Rows.tablestoreLookupSpec)) own started (by kernel_rfl) Tryz.func3
  (witness_row_at (enc := enc) (C := Tryz.checked) false (World.holding Tryz.prog os ⟨#[], #[], []⟩) #[.agg #[.int .u8 0, .slice none 0 0, .slice none 0 0], .slice none 0 0, .agg #[.slice none 0 0, .slice none 0 0, .int .i64 0, .int .i64 0, .int .i64 0, .string ⟨#[]⟩, .int .i64 0, .int .i64 0, .string ⟨#[]⟩]] rfl (by kernel_rfl) (by kernel_rfl) (by kernel_rfl)
   (OpenSpec.preRow_of_cond 8 hx (by kernel_rfl) (fun k hk => by cases hk; kernel_rfl) (by kernel_rfl) (laidMet_nil _ _))) ?_
 intro W base args ds gs before hval hW hcnd hcond hsized hL hsz hholds
 exact contract H enc W base args ds gs before hval hW (hcond _ rfl)
theorem said : Rows.TablestoreLookupUptoSaid :=
 OpenClaim.holds_of_cond 3 Tryz.f3 rfl rfl rfl rfl rfl rfl rfl ⟨rfl, rfl, rfl, rfl, rfl⟩ rfl rfl rfl rfl rfl (by kernel_rfl) Tryz.func3 (by kernel_rfl)
  (of_decide_eq_true (by kernel_rfl)) (by unfold Func.isWrapper; first | (rw [if_pos (by decide +kernel)]; kernel_rfl) | (rw [if_neg (by decide +kernel)]; exact ⟨rfl, rfl⟩))
  (fun os started H enc _ F => by rw [OpenClaim.pre_eq_preRow]; exact lifted os started H enc F)
#print axioms said
end Go.Proofs.YtnefkkidfhmggaaGreat.lk
