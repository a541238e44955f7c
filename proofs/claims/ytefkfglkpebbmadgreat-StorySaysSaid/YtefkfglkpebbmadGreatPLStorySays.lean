/- The statement StorySays (its first form): the law returns true at every input, and leaves its arguments alone. No conditions. -/
import Derived.Test.YtefkfglkpebbmadGreatPXStorySays
set_option linter.unusedVariables false
set_option linter.unusedSimpArgs false
set_option maxRecDepth 100000
set_option maxHeartbeats 40000000
namespace Go.Proofs.YtefkfglkpebbmadGreat.storySays
open Go.RowKit Go.WideShapes Go.ChangeShapes Go.ChangeAt
theorem all{H:Type}(enc:TypeId×Value->H)(W:World)(base:Nat)(args:Array Value)(ds:List (DataW H))(p:List MemPlace)
  (hA:DataW.TrodAll enc Tryz.prog W 0 (fun _=>true) true Tryz.f3.params.toList args.toList ds p)
  (hval:∀(j:Nat) t v,Tryz.f3.params[j]?=some t->args[j]?=some v->Value.okWide Tryz.prog W .any base t v) (hb:∀x∈DataW.weightsEach Tryz.prog Tryz.f3.params.toList ds,x<=140737488351232):
  Calls Tryz.prog 3 args W (RetB W (.bool true)):=by
 rw[Tryz.params3]at hA hval hb;obtain⟨v1,vs1,d1,ds1,p1,q1,hargs,rfl,rfl,h1,r1⟩:=trodAll_cons hA;obtain⟨rfl,rfl,rfl⟩:=trodAll_nil r1;obtain rfl:args=#[v1]:=by cases args;simp_all
 simp only[DataW.weightsEach]at hb;obtain⟨x1,g1⟩:=argWor_of (hval 0 40 v1 rfl rfl) h1 ⟨tyFine,of_decide_eq_true (by kernel_rfl),fun x hx=>hb x (by simp[hx])⟩;exact StorySays_walk W v1 x1 g1
theorem spec_fn{H:Type}(ds:List (DataW H))(h:ds.length=Tryz.f3.params.size):Rows.storySaysSpec.fn H (ds++[])={results:=[.lit (.bool true)],args:=ds}:=by
 rw[Tryz.params3]at h
 match ds,h with
 |[d0],_=>rfl
theorem lifted(os:Os)(started:os.Started)(H:Type)(enc:TypeId×Value->H):
  ReturnsInHanded {} Tryz.checked os 3 .any (Rows.storySaysSpec.pre6 enc Tryz.prog Tryz.f3 Rows.storySaysRow.domain false) (Rows.storySaysSpec.post enc Tryz.prog Tryz.f3 false true false false):=by
 refine returnsInHanded_of_change_sized (C:=Tryz.checked) own started (by kernel_rfl) Tryz.func3
  (ChangeSpec.witness6 (enc:=enc) (C:=Tryz.checked) false ⟨#[],#[.agg (.slice none 0 0::.slice none 0 0::.slice none 0 0::.bool false::.int .i64 0::.int .i64 0::.bool false::.int .i64 0::.int .i64 0::.int .i64 0::.int .i64 0::.int .i64 0::.int .i64 0::.int .i64 0::.int .i64 0::.bool false::.int .i64 0::.int .i64 0::.bool false::.int .i64 0::.int .i64 0::.int .i64 0::.int .i64 0::.int .i64 0::.int .i64 0::.int .i64 0::.int .i64 0::.bool false::.int .i64 0::.slice none 0 0::.bool false::.int .i64 0::.int .i64 0::.int .i64 0::.int .i64 0::.int .i64 0::.slice none 0 0::.int .i64 0::.slice none 0 0::[]).toArray],[]⟩ 8 (by kernel_rfl) (by kernel_rfl) (by kernel_rfl) (by kernel_rfl)) ?_
 intro W base args ds gs before hval hW _ hk _;exact contract_of laidOut 3 Tryz.f3 Rows.storySaysSpec 4 Tryz.underlying4 (by kernel_rfl) (by kernel_rfl) (by kernel_rfl) spec_fn rfl (all enc) W base args ds gs before hval hW hk
theorem proved:Rows.StorySaysSaid:=
 OpenClaim.holds_of_wide 3 Tryz.f3 rfl rfl rfl rfl rfl rfl rfl ⟨rfl,rfl,rfl,rfl,rfl⟩ rfl rfl rfl rfl rfl (by kernel_rfl) Tryz.func3 (by kernel_rfl)
  (of_decide_eq_true (by kernel_rfl)) (by unfold Func.isWrapper;first|(rw[if_pos (by decide+kernel)];kernel_rfl)|(rw[if_neg (by decide+kernel)];exact⟨rfl,rfl⟩))
  (fun os started H enc _=>lifted os started H enc)
#print axioms proved
end Go.Proofs.YtefkfglkpebbmadGreat.storySays
