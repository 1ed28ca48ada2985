/- StoreTable returns true and leaves its arguments as they were, for every schema, every list of changes, every number and every row. Conditions: none. -/
import Derived.Test.YtpdlkdoogojboaaGreatY07
import Derived.Test.YtpdlkdoogojboaaGreatY10
namespace Go.Proofs.YtpdlkdoogojboaaGreat.st
open Go.ChangeShapes Go.WideShapes Go.ChangeAt Go.RowKit Go.WideMaps Go.WideElems
open Go.ChangeMaps (open_string shut_string)
set_option maxRecDepth 100000
theorem contract (H:Type) (enc:TypeId×Value→H) (W:World) (base:Nat) (args:Array Value) (ds gs:List (DataW H)) (before:List MemPlace)
 (hval:∀(j:Nat) t v,Tryz.f5.params[j]? =some t→args[j]? =some v→Value.okWide Tryz.prog W .any base t v)
 (hW:DataW.Whole enc Tryz.prog Tryz.f5.params.toList Rows.storeTableSpec.vars false W args.toList ds gs before)
 (hsz:(DataW.weightsEach Tryz.prog (Tryz.f5.params.toList++((OpenSpec.ofChange Rows.storeTableSpec)).bare.plain.varTypes Tryz.prog) (ds++gs)).all (· ≤reachBytes)=true):
 Calls Tryz.prog 5 args W fun e W'=> ∃v,e=.returned v∧Rows.storeTableSpec.post enc Tryz.prog Tryz.f5 false true false false W args v W':=by
 have hW':=hW
 obtain ⟨p,q,hA0,hV,rfl,hfz,hnd⟩:=hW
 have hA:DataW.TrodAll enc Tryz.prog W 0 (fun _=> true) true Tryz.f5.params.toList args.toList ds p:=hA0
 rw [Tryz.params5] at hA hval
 obtain ⟨rfl,rfl⟩:=trodVars_none hV
 obtain ⟨v0,v1,v2,v3,d0,d1,d2,d3,p0,p1,p2,p3,rfl,rfl, -,h0,h1,h2,h3⟩:=trodAll_four hA
 have hw0:=weights_first (weights_all hsz)
 have hw1:=weights_first hw0.2
 have hw2:=weights_first hw1.2
 have hw3:=weights_first hw2.2
 obtain ⟨td0,hs0⟩:=open_schema (hval 0 23 _ rfl rfl) h0
 obtain ⟨l1,hl1,ho1,hb1⟩:=open_changesB (hval 1 24 _ rfl rfl) h1 hw1.1
 obtain ⟨n2,rfl,hn2⟩:=open_int (hval 2 3 _ rfl rfl) h2
 obtain ⟨r3,hr3,hi3⟩:=open_row (hval 3 33 _ rfl rfl) h3
 have walk:=table_calls td0 v0 l1 v1 n2 r3 v3 W hs0 hl1 hr3 ho1 hn2 hi3 hb1
 refine walk.mono fun e W' ⟨he,hb⟩=> ?_
 exact ⟨_,he,post_true laidOut (by rw [Tryz.params5];intro t ht;revert t;decide+kernel) rfl Tryz.underlying4 rfl rfl hW' hb⟩
theorem reads (os:Os) {H:Type} (enc:TypeId×Value→H):∃places,DataW.whole enc Tryz.prog ((World.holding Tryz.prog os ⟨#[],#[],[]⟩).forCall (fun _ _=> 0) ⟨#[],#[.slice none 0 0, .slice none 0 0, .int .i64 0, .slice none 0 0],[]⟩).memory Tryz.f5.params.toList Rows.storeTableSpec.vars false ((#[.slice none 0 0, .slice none 0 0, .int .i64 0, .slice none 0 0]:Array Value)).toList 8=some ([.nil, .nil, .lit (.int .i64 0), .nil],[],places):=
 ⟨[],by kernel_rfl⟩
set_option maxRecDepth 100000 in
theorem lifted (os:Os) (started:os.Started) (H:Type) (enc:TypeId×Value→H) (F:Stop.Interp):
 ReturnsInHanded {} Tryz.checked os 5 .any ((OpenSpec.ofChange Rows.storeTableSpec).preRow enc Tryz.prog Tryz.f5 Rows.storeTableRow.domain false Rows.storeTableRow.laid) (((OpenSpec.ofChange Rows.storeTableSpec).at F).post enc Tryz.prog Tryz.f5 false true false false):=by
 obtain ⟨places,hx⟩:=reads os enc
 refine returnsInHanded_of_row (C:=Tryz.checked) (s:=(OpenSpec.ofChange Rows.storeTableSpec)) own started (by kernel_rfl) Tryz.func5
  (witness_row_at (enc:=enc) (C:=Tryz.checked) false (World.holding Tryz.prog os ⟨#[],#[],[]⟩) #[.slice none 0 0, .slice none 0 0, .int .i64 0, .slice none 0 0] rfl (by kernel_rfl) (by kernel_rfl) (by kernel_rfl)
   (OpenSpec.preRow_of_cond 8 hx (by kernel_rfl) (fun k hk=> by cases hk) (by kernel_rfl) (laidMet_nil _ _))) ?_
 intro W base args ds gs before hval hW hcnd hcond hsized hL hsz hholds
 exact contract H enc W base args ds gs before hval hW (by assumption)
theorem said:Rows.StoreTableSaid:=
 OpenClaim.holds_of_cond 5 Tryz.f5 rfl rfl rfl rfl rfl rfl rfl ⟨rfl,rfl,rfl,rfl,rfl⟩ rfl rfl rfl rfl rfl (by kernel_rfl) Tryz.func5 (by kernel_rfl)
  (of_decide_eq_true (by kernel_rfl)) (by unfold Func.isWrapper;first | (rw [if_pos (by decide+kernel)];kernel_rfl) | (rw [if_neg (by decide+kernel)];exact ⟨rfl,rfl⟩))
  (fun os started H enc _ F=> by rw [OpenClaim.pre_eq_preRow];exact lifted os started H enc F)
#print axioms said
end Go.Proofs.YtpdlkdoogojboaaGreat.st
