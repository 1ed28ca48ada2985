/- TablestoreSnapshot returns true and leaves its arguments as they were, for every shape of a table and every two lists of operations. Conditions: none. -/
import Derived.Test.YtnefkkidfhmggaaGreatV11
import Derived.Test.YtnefkkidfhmggaaGreatV13
namespace Go.Proofs.YtnefkkidfhmggaaGreat.sn
open Go.ChangeShapes Go.WideShapes Go.ChangeAt Go.RowKit Go.WideMaps Go.WideElems
open Go.ChangeMaps (open_string shut_string)
set_option maxRecDepth 100000
theorem contract (H:Type) (enc:TypeId×Value→H) (W:World) (base:Nat) (args:Array Value) (ds gs:List (DataW H)) (before:List MemPlace)
 (hval:∀(j:Nat) t v,Tryz.f7.params[j]? =some t→args[j]? =some v→Value.okWide Tryz.prog W .any base t v)
 (hW:DataW.Whole enc Tryz.prog Tryz.f7.params.toList Rows.tablestoreSnapshotSpec.vars false W args.toList ds gs before):
 Calls Tryz.prog 7 args W fun e W'=> ∃v,e=.returned v∧Rows.tablestoreSnapshotSpec.post enc Tryz.prog Tryz.f7 false true false false W args v W':=by
 have hW':=hW
 obtain ⟨p,q,hA0,hV,rfl,hfz,hnd⟩:=hW
 have hA:DataW.TrodAll enc Tryz.prog W 0 (fun _=> true) true Tryz.f7.params.toList args.toList ds p:=hA0
 rw [Tryz.params7] at hA hval
 obtain ⟨rfl,rfl⟩:=trodVars_none hV
 obtain ⟨v0,v1,v2,d0,d1,d2,p0,p1,p2,rfl,rfl, -,h0,h1,h2⟩:=trodAll_three hA
 obtain ⟨u0,ka0,kn0,kc0,fa0,fn0,fc0,K0,F0,rfl,hu0,hk0,hf0⟩:=open_shape (hval 0 24 _ rfl rfl) h0
 obtain ⟨l1,hl1,ho1,hc1⟩:=open_ops (hval 1 25 _ rfl rfl) h1
 obtain ⟨l2,hl2,ho2,hc2⟩:=open_ops (hval 2 25 _ rfl rfl) h2
 have walk:=snapshot_calls u0 hu0 ka0 fa0 kn0 kc0 fn0 fc0 K0 F0 l1 v1 l2 v2 W hk0 hf0 hl1 ho1 hl2 ho2
 refine walk.mono fun e W' ⟨he,hb⟩=> ?_
 exact ⟨_,he,post_true laidOut (by rw [Tryz.params7];intro t ht;revert t;decide+kernel) rfl Tryz.underlying4 rfl rfl hW' hb⟩
theorem reads (os:Os) {H:Type} (enc:TypeId×Value→H):∃places,DataW.whole enc Tryz.prog ((World.holding Tryz.prog os ⟨#[],#[],[]⟩).forCall (fun _ _=> 0) ⟨#[],#[.agg #[.int .u8 0, .slice none 0 0, .slice none 0 0], .slice none 0 0, .slice none 0 0],[]⟩).memory Tryz.f7.params.toList Rows.tablestoreSnapshotSpec.vars false ((#[.agg #[.int .u8 0, .slice none 0 0, .slice none 0 0], .slice none 0 0, .slice none 0 0]:Array Value)).toList 8=some ([.agg [.lit (.int .u8 0), .nil, .nil], .nil, .nil],[],places):=
 ⟨[],by kernel_rfl⟩
set_option maxRecDepth 100000 in
theorem lifted (os:Os) (started:os.Started) (H:Type) (enc:TypeId×Value→H) (F:Stop.Interp):
 ReturnsInHanded {} Tryz.checked os 7 .any ((OpenSpec.ofChange Rows.tablestoreSnapshotSpec).preRow enc Tryz.prog Tryz.f7 Rows.tablestoreSnapshotRow.domain false Rows.tablestoreSnapshotRow.laid) (((OpenSpec.ofChange Rows.tablestoreSnapshotSpec).at F).post enc Tryz.prog Tryz.f7 false true false false):=by
 obtain ⟨places,hx⟩:=reads os enc
 refine returnsInHanded_of_row (C:=Tryz.checked) (s:=(OpenSpec.ofChange Rows.tablestoreSnapshotSpec)) own started (by kernel_rfl) Tryz.func7
  (witness_row_at (enc:=enc) (C:=Tryz.checked) false (World.holding Tryz.prog os ⟨#[],#[],[]⟩) #[.agg #[.int .u8 0, .slice none 0 0, .slice none 0 0], .slice none 0 0, .slice none 0 0] rfl (by kernel_rfl) (by kernel_rfl) (by kernel_rfl)
   (OpenSpec.preRow_of_cond 8 hx (by kernel_rfl) (fun k hk=> by cases hk) (by kernel_rfl) (laidMet_nil _ _))) ?_
 intro W base args ds gs before hval hW hcnd hcond hsized hL hsz hholds
 exact contract H enc W base args ds gs before hval hW
theorem said:Rows.TablestoreSnapshotSaid:=
 OpenClaim.holds_of_cond 7 Tryz.f7 rfl rfl rfl rfl rfl rfl rfl ⟨rfl,rfl,rfl,rfl,rfl⟩ rfl rfl rfl rfl rfl (by kernel_rfl) Tryz.func7 (by kernel_rfl)
  (of_decide_eq_true (by kernel_rfl)) (by unfold Func.isWrapper;first | (rw [if_pos (by decide+kernel)];kernel_rfl) | (rw [if_neg (by decide+kernel)];exact ⟨rfl,rfl⟩))
  (fun os started H enc _ F=> by rw [OpenClaim.pre_eq_preRow];exact lifted os started H enc F)
#print axioms said
end Go.Proofs.YtnefkkidfhmggaaGreat.sn
