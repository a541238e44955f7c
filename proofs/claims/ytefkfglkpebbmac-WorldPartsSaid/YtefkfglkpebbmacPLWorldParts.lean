/- The statement WorldParts (its first form): the law returns true at every input, and leaves its arguments alone. No conditions. -/
import Derived.Test.YtefkfglkpebbmacPXWorldParts
set_option linter.unusedVariables false
set_option linter.unusedSimpArgs false
set_option maxRecDepth 100000
set_option maxHeartbeats 40000000
namespace Go.Proofs.Ytefkfglkpebbmac.worldParts
open Go.RowKit Go.WideShapes Go.ChangeShapes Go.ChangeAt
theorem all{H:Type}(enc:TypeId×Value->H)(W:World)(base:Nat)(args:Array Value)(ds:List (DataW H))(p:List MemPlace)
  (hA:DataW.TrodAll enc Try.prog W 0 (fun _=>true) true Try.f11.params.toList args.toList ds p)
  (hval:∀(j:Nat) t v,Try.f11.params[j]?=some t->args[j]?=some v->Value.okWide Try.prog W .any base t v) (hb:∀x∈DataW.weightsEach Try.prog Try.f11.params.toList ds,x<=140737488351232):
  Calls Try.prog 11 args W (RetB W (.bool true)):=by
 rw[Try.params11]at hA hval hb;obtain⟨v3,vs3,d3,ds3,p3,q3,hargs,rfl,rfl,h3,r3⟩:=trodAll_cons hA;obtain⟨v1,vs1,d1,ds1,p1,q1,rfl,rfl,rfl,h1,r1⟩:=trodAll_cons r3;obtain⟨v2,vs2,d2,ds2,p2,q2,rfl,rfl,rfl,h2,r2⟩:=trodAll_cons r1;obtain⟨rfl,rfl,rfl⟩:=trodAll_nil r2;obtain rfl:args=#[v3,v1,v2]:=by cases args;simp_all
 simp only[DataW.weightsEach]at hb;obtain⟨x3,g3⟩:=argWor_of (hval 0 88 v3 rfl rfl) h3 ⟨tyFine,of_decide_eq_true (by kernel_rfl),fun x hx=>hb x (by simp[hx])⟩;obtain⟨x1,g1⟩:=argHaps_of (hval 1 89 v1 rfl rfl) h1 ⟨tyFine,of_decide_eq_true (by kernel_rfl),fun x hx=>hb x (by simp[hx])⟩;obtain⟨x2,g2⟩:=argInt_of Try.underlying3 (hval 2 3 v2 rfl rfl) h2 ⟨tyFine,of_decide_eq_true (by kernel_rfl),fun x hx=>hb x (by simp[hx])⟩;exact WorldParts_walk W v3 v1 v2 x3 x1 x2 g3 g1 g2
theorem spec_fn{H:Type}(ds:List (DataW H))(h:ds.length=Try.f11.params.size):Rows.worldPartsSpec.fn H (ds++[])={results:=[.lit (.bool true)],args:=ds}:=by
 rw[Try.params11]at h
 match ds,h with
 |[d0,d1,d2],_=>rfl
theorem lifted(os:Os)(started:os.Started)(H:Type)(enc:TypeId×Value->H):
  ReturnsInHanded {} Try.checked os 11 .any (Rows.worldPartsSpec.pre6 enc Try.prog Try.f11 Rows.worldPartsRow.domain false) (Rows.worldPartsSpec.post enc Try.prog Try.f11 false true false false):=by
 refine returnsInHanded_of_change_sized (C:=Try.checked) own started (by kernel_rfl) Try.func11
  (ChangeSpec.witness6 (enc:=enc) (C:=Try.checked) false ⟨#[],#[.agg (.slice none 0 0::.slice none 0 0::.slice none 0 0::.bool false::.int .i64 0::.int .i64 0::.bool false::.int .i64 0::.int .i64 0::.int .i64 0::.int .i64 0::.int .i64 0::.int .i64 0::.int .i64 0::.int .i64 0::.bool false::.int .i64 0::.int .i64 0::.bool false::.int .i64 0::.int .i64 0::.int .i64 0::.int .i64 0::.int .i64 0::.int .i64 0::.int .i64 0::.int .i64 0::.bool false::.int .i64 0::.slice none 0 0::.bool false::.int .i64 0::.int .i64 0::.int .i64 0::.int .i64 0::.int .i64 0::.slice none 0 0::.int .i64 0::.slice none 0 0::[]).toArray,.slice none 0 0,.int .i64 0],[]⟩ 8 (by kernel_rfl) (by kernel_rfl) (by kernel_rfl) (by kernel_rfl)) ?_
 intro W base args ds gs before hval hW _ hk _;exact contract_of laidOut 11 Try.f11 Rows.worldPartsSpec 4 Try.underlying4 (by kernel_rfl) (by kernel_rfl) (by kernel_rfl) spec_fn rfl (all enc) W base args ds gs before hval hW hk
theorem proved:Rows.WorldPartsSaid:=
 OpenClaim.holds_of_wide 11 Try.f11 rfl rfl rfl rfl rfl rfl rfl ⟨rfl,rfl,rfl,rfl,rfl⟩ rfl rfl rfl rfl rfl (by kernel_rfl) Try.func11 (by kernel_rfl)
  (of_decide_eq_true (by kernel_rfl)) (by unfold Func.isWrapper;first|(rw[if_pos (by decide+kernel)];kernel_rfl)|(rw[if_neg (by decide+kernel)];exact⟨rfl,rfl⟩))
  (fun os started H enc _=>lifted os started H enc)
#print axioms proved
end Go.Proofs.Ytefkfglkpebbmac.worldParts
