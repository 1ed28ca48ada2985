/- StoreEncode returns true and leaves its arguments as they were, for every schema and every list of changes. Conditions: none. -/
import Derived.Test.YtpdlkdoogojboaaGreatU07
import Derived.Test.YtpdlkdoogojboaaGreatU14
namespace Go.Proofs.YtpdlkdoogojboaaGreat.eo
open Go.ChangeShapes Go.WideShapes Go.ChangeAt Go.RowKit Go.WideMaps Go.WideElems
open Go.ChangeMaps (open_string shut_string)
set_option maxRecDepth 100000
theorem contract (H:Type) (enc:TypeId×Value→H) (W:World) (base:Nat) (args:Array Value) (ds gs:List (DataW H)) (before:List MemPlace)
 (hval:∀(j:Nat) t v,Tryz.f9.params[j]? =some t→args[j]? =some v→Value.okWide Tryz.prog W .any base t v)
 (hW:DataW.Whole enc Tryz.prog Tryz.f9.params.toList Rows.storeEncodeSpec.vars false W args.toList ds gs before):
 Calls Tryz.prog 9 args W fun e W'=> ∃v,e=.returned v∧Rows.storeEncodeSpec.post enc Tryz.prog Tryz.f9 false true false false W args v W':=by
 have hW':=hW
 obtain ⟨p,q,hA0,hV,rfl,hfz,hnd⟩:=hW
 have hA:DataW.TrodAll enc Tryz.prog W 0 (fun _=> true) true Tryz.f9.params.toList args.toList ds p:=hA0
 rw [Tryz.params9] at hA hval
 obtain ⟨rfl,rfl⟩:=trodVars_none hV
 obtain ⟨v0,v1,d0,d1,p0,p1,rfl,rfl, -,h0,h1⟩:=trodAll_two hA
 obtain ⟨td0,hs0⟩:=open_schema (hval 0 23 _ rfl rfl) h0
 obtain ⟨l1,hl1,ho1⟩:=open_changes (hval 1 24 _ rfl rfl) h1
 have walk:=sencode_calls td0 v0 l1 v1 W hs0 hl1 ho1
 refine walk.mono fun e W' ⟨he,hb⟩=> ?_
 exact ⟨_,he,post_true laidOut (by rw [Tryz.params9];intro t ht;revert t;decide+kernel) rfl Tryz.underlying4 rfl rfl hW' hb⟩
theorem reads (os:Os) {H:Type} (enc:TypeId×Value→H):∃places,DataW.whole enc Tryz.prog ((World.holding Tryz.prog os ⟨#[],#[],[]⟩).forCall (fun _ _=> 0) ⟨#[],#[.slice none 0 0, .slice none 0 0],[]⟩).memory Tryz.f9.params.toList Rows.storeEncodeSpec.vars false ((#[.slice none 0 0, .slice none 0 0]:Array Value)).toList 8=some ([.nil, .nil],[],places):=
 ⟨[],by kernel_rfl⟩
set_option maxRecDepth 100000 in
theorem lifted (os:Os) (started:os.Started) (H:Type) (enc:TypeId×Value→H) (F:Stop.Interp):
 ReturnsInHanded {} Tryz.checked os 9 .any ((OpenSpec.ofChange Rows.storeEncodeSpec).preRow enc Tryz.prog Tryz.f9 Rows.storeEncodeRow.domain false Rows.storeEncodeRow.laid) (((OpenSpec.ofChange Rows.storeEncodeSpec).at F).post enc Tryz.prog Tryz.f9 false true false false):=by
 obtain ⟨places,hx⟩:=reads os enc
 refine returnsInHanded_of_row (C:=Tryz.checked) (s:=(OpenSpec.ofChange Rows.storeEncodeSpec)) own started (by kernel_rfl) Tryz.func9
  (witness_row_at (enc:=enc) (C:=Tryz.checked) false (World.holding Tryz.prog os ⟨#[],#[],[]⟩) #[.slice none 0 0, .slice none 0 0] rfl (by kernel_rfl) (by kernel_rfl) (by kernel_rfl)
   (OpenSpec.preRow_of_cond 8 hx (by kernel_rfl) (fun k hk=> by cases hk) (by kernel_rfl) (laidMet_nil _ _))) ?_
 intro W base args ds gs before hval hW hcnd hcond hsized hL hsz hholds
 exact contract H enc W base args ds gs before hval hW
theorem said:Rows.StoreEncodeSaid:=
 OpenClaim.holds_of_cond 9 Tryz.f9 rfl rfl rfl rfl rfl rfl rfl ⟨rfl,rfl,rfl,rfl,rfl⟩ rfl rfl rfl rfl rfl (by kernel_rfl) Tryz.func9 (by kernel_rfl)
  (of_decide_eq_true (by kernel_rfl)) (by unfold Func.isWrapper;first | (rw [if_pos (by decide+kernel)];kernel_rfl) | (rw [if_neg (by decide+kernel)];exact ⟨rfl,rfl⟩))
  (fun os started H enc _ F=> by rw [OpenClaim.pre_eq_preRow];exact lifted os started H enc F)
#print axioms said
end Go.Proofs.YtpdlkdoogojboaaGreat.eo
