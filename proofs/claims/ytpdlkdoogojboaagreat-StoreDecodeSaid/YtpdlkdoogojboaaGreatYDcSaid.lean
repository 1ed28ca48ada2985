/- StoreDecode returns true and leaves its arguments as they were, for every schema and any bytes. Conditions: none. -/
import Derived.Test.YtpdlkdoogojboaaGreatY07
import Derived.Test.YtpdlkdoogojboaaGreatY14
namespace Go.Proofs.YtpdlkdoogojboaaGreat.dc
open Go.ChangeShapes Go.WideShapes Go.ChangeAt Go.RowKit Go.WideMaps Go.WideElems
open Go.ChangeMaps (open_string shut_string)
set_option maxRecDepth 100000
theorem contract (H:Type) (enc:TypeId×Value→H) (W:World) (base:Nat) (args:Array Value) (ds gs:List (DataW H)) (before:List MemPlace)
 (hval:∀(j:Nat) t v,Tryz.f10.params[j]? =some t→args[j]? =some v→Value.okWide Tryz.prog W .any base t v)
 (hW:DataW.Whole enc Tryz.prog Tryz.f10.params.toList Rows.storeDecodeSpec.vars false W args.toList ds gs before):
 Calls Tryz.prog 10 args W fun e W'=> ∃v,e=.returned v∧Rows.storeDecodeSpec.post enc Tryz.prog Tryz.f10 false true false false W args v W':=by
 have hW':=hW
 obtain ⟨p,q,hA0,hV,rfl,hfz,hnd⟩:=hW
 have hA:DataW.TrodAll enc Tryz.prog W 0 (fun _=> true) true Tryz.f10.params.toList args.toList ds p:=hA0
 rw [Tryz.params10] at hA hval
 obtain ⟨rfl,rfl⟩:=trodVars_none hV
 obtain ⟨v0,v1,d0,d1,p0,p1,rfl,rfl, -,h0,h1⟩:=trodAll_two hA
 obtain ⟨td0,hs0⟩:=open_schema (hval 0 23 _ rfl rfl) h0
 obtain ⟨b1,hb1,hc1⟩:=open_bytes (hval 1 52 _ rfl rfl) h1
 have walk:=sdecode_calls td0 v0 b1 v1 W hs0 hb1 hc1
 refine walk.mono fun e W' ⟨he,hb⟩=> ?_
 exact ⟨_,he,post_true laidOut (by rw [Tryz.params10];intro t ht;revert t;decide+kernel) rfl Tryz.underlying4 rfl rfl hW' hb⟩
theorem reads (os:Os) {H:Type} (enc:TypeId×Value→H):∃places,DataW.whole enc Tryz.prog ((World.holding Tryz.prog os ⟨#[],#[],[]⟩).forCall (fun _ _=> 0) ⟨#[],#[.slice none 0 0, .slice none 0 0],[]⟩).memory Tryz.f10.params.toList Rows.storeDecodeSpec.vars false ((#[.slice none 0 0, .slice none 0 0]:Array Value)).toList 8=some ([.nil, .nil],[],places):=
 ⟨[],by kernel_rfl⟩
set_option maxRecDepth 100000 in
theorem lifted (os:Os) (started:os.Started) (H:Type) (enc:TypeId×Value→H) (F:Stop.Interp):
 ReturnsInHanded {} Tryz.checked os 10 .any ((OpenSpec.ofChange Rows.storeDecodeSpec).preRow enc Tryz.prog Tryz.f10 Rows.storeDecodeRow.domain false Rows.storeDecodeRow.laid) (((OpenSpec.ofChange Rows.storeDecodeSpec).at F).post enc Tryz.prog Tryz.f10 false true false false):=by
 obtain ⟨places,hx⟩:=reads os enc
 refine returnsInHanded_of_row (C:=Tryz.checked) (s:=(OpenSpec.ofChange Rows.storeDecodeSpec)) own started (by kernel_rfl) Tryz.func10
  (witness_row_at (enc:=enc) (C:=Tryz.checked) false (World.holding Tryz.prog os ⟨#[],#[],[]⟩) #[.slice none 0 0, .slice none 0 0] rfl (by kernel_rfl) (by kernel_rfl) (by kernel_rfl)
   (OpenSpec.preRow_of_cond 8 hx (by kernel_rfl) (fun k hk=> by cases hk) (by kernel_rfl) (laidMet_nil _ _))) ?_
 intro W base args ds gs before hval hW hcnd hcond hsized hL hsz hholds
 exact contract H enc W base args ds gs before hval hW
theorem said:Rows.StoreDecodeSaid:=
 OpenClaim.holds_of_cond 10 Tryz.f10 rfl rfl rfl rfl rfl rfl rfl ⟨rfl,rfl,rfl,rfl,rfl⟩ rfl rfl rfl rfl rfl (by kernel_rfl) Tryz.func10 (by kernel_rfl)
  (of_decide_eq_true (by kernel_rfl)) (by unfold Func.isWrapper;first | (rw [if_pos (by decide+kernel)];kernel_rfl) | (rw [if_neg (by decide+kernel)];exact ⟨rfl,rfl⟩))
  (fun os started H enc _ F=> by rw [OpenClaim.pre_eq_preRow];exact lifted os started H enc F)
#print axioms said
end Go.Proofs.YtpdlkdoogojboaaGreat.dc
