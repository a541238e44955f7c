/- The statement DeviceSays (its first form): the law returns true at every input, and leaves its arguments alone. No conditions. -/
import Derived.Test.YtefkfglkpebbmacGreatPXDeviceSays
set_option linter.unusedVariables false
set_option linter.unusedSimpArgs false
set_option maxRecDepth 100000
set_option maxHeartbeats 40000000
namespace Go.Proofs.YtefkfglkpebbmacGreat.deviceSays
open Go.RowKit Go.WideShapes Go.ChangeShapes Go.ChangeAt
theorem all{H:Type}(enc:TypeId×Value->H)(W:World)(base:Nat)(args:Array Value)(ds:List (DataW H))(p:List MemPlace)
  (hA:DataW.TrodAll enc Tryz.prog W 0 (fun _=>true) true Tryz.f3.params.toList args.toList ds p)
  (hval:∀(j:Nat) t v,Tryz.f3.params[j]?=some t->args[j]?=some v->Value.okWide Tryz.prog W .any base t v) (hb:∀x∈DataW.weightsEach Tryz.prog Tryz.f3.params.toList ds,x<=140737488351232) (hml:ML W):
  Calls Tryz.prog 3 args W (RetB W (.bool true)):=by
 rw[Tryz.params3]at hA hval hb;obtain⟨v6,vs6,d6,ds6,p6,q6,hargs,rfl,rfl,h6,r6⟩:=trodAll_cons hA;obtain⟨v1,vs1,d1,ds1,p1,q1,rfl,rfl,rfl,h1,r1⟩:=trodAll_cons r6;obtain⟨v2,vs2,d2,ds2,p2,q2,rfl,rfl,rfl,h2,r2⟩:=trodAll_cons r1;obtain⟨v3,vs3,d3,ds3,p3,q3,rfl,rfl,rfl,h3,r3⟩:=trodAll_cons r2;obtain⟨v4,vs4,d4,ds4,p4,q4,rfl,rfl,rfl,h4,r4⟩:=trodAll_cons r3;obtain⟨v5,vs5,d5,ds5,p5,q5,rfl,rfl,rfl,h5,r5⟩:=trodAll_cons r4;obtain⟨rfl,rfl,rfl⟩:=trodAll_nil r5;obtain rfl:args=#[v6,v1,v2,v3,v4,v5]:=by cases args;simp_all
 simp only[DataW.weightsEach]at hb;obtain⟨x6,g6⟩:=argDev_of (hval 0 37 v6 rfl rfl) h6 ⟨tyFine,of_decide_eq_true (by kernel_rfl),fun x hx=>hb x (by simp[hx])⟩;obtain⟨x1,g1⟩:=argChunk_of (hval 1 39 v1 rfl rfl) h1 ⟨tyFine,of_decide_eq_true (by kernel_rfl),fun x hx=>hb x (by simp[hx])⟩;obtain⟨x2,g2⟩:=argInt_of Tryz.underlying3 (hval 2 3 v2 rfl rfl) h2 ⟨tyFine,of_decide_eq_true (by kernel_rfl),fun x hx=>hb x (by simp[hx])⟩;obtain⟨x3,g3⟩:=argInt_of Tryz.underlying3 (hval 3 3 v3 rfl rfl) h3 ⟨tyFine,of_decide_eq_true (by kernel_rfl),fun x hx=>hb x (by simp[hx])⟩;obtain⟨x4,g4⟩:=argBytes_of Tryz.underlying22 Tryz.underlying5 (by kernel_rfl) (hval 4 22 v4 rfl rfl) h4 ⟨tyFine,of_decide_eq_true (by kernel_rfl),fun x hx=>hb x (by simp[hx])⟩;obtain⟨x5,g5⟩:=argDev_of (hval 5 37 v5 rfl rfl) h5 ⟨tyFine,of_decide_eq_true (by kernel_rfl),fun x hx=>hb x (by simp[hx])⟩;exact DeviceSays_walk W v6 v1 v2 v3 v4 v5 x6 x1 x2 x3 x4 x5 g6 g1 g2 g3 g4 g5 hml
theorem spec_fn{H:Type}(ds:List (DataW H))(h:ds.length=Tryz.f3.params.size):Rows.deviceSaysSpec.fn H (ds++[])={results:=[.lit (.bool true)],args:=ds}:=by
 rw[Tryz.params3]at h
 match ds,h with
 |[d0,d1,d2,d3,d4,d5],_=>rfl
theorem lifted(os:Os)(started:os.Started)(H:Type)(enc:TypeId×Value->H):
  ReturnsInHanded {} Tryz.checked os 3 .any (Rows.deviceSaysSpec.pre6 enc Tryz.prog Tryz.f3 Rows.deviceSaysRow.domain false) (Rows.deviceSaysSpec.post enc Tryz.prog Tryz.f3 false true false false):=by
 refine returnsInHanded_of_change_shaped (C:=Tryz.checked) own started (by kernel_rfl) Tryz.func3
  (ChangeSpec.witness6 (enc:=enc) (C:=Tryz.checked) false ⟨#[],#[.agg (.slice none 0 0::.slice none 0 0::.bool false::.int .i64 0::.int .i64 0::.bool false::.int .i64 0::.int .i64 0::.int .i64 0::.int .i64 0::.int .i64 0::.int .i64 0::.int .i64 0::.int .i64 0::.bool false::.int .i64 0::.int .i64 0::.bool false::.int .i64 0::.int .i64 0::.int .i64 0::.int .i64 0::.int .i64 0::.int .i64 0::.int .i64 0::.int .i64 0::.bool false::.int .i64 0::.slice none 0 0::.bool false::.int .i64 0::.int .i64 0::.int .i64 0::.int .i64 0::.int .i64 0::.slice none 0 0::.int .i64 0::[]).toArray,.agg #[.int .i64 0,.int .i64 0,.int .i64 0,.int .i64 0,.slice none 0 0],.int .i64 0,.int .i64 0,.slice none 0 0,.agg (.slice none 0 0::.slice none 0 0::.bool false::.int .i64 0::.int .i64 0::.bool false::.int .i64 0::.int .i64 0::.int .i64 0::.int .i64 0::.int .i64 0::.int .i64 0::.int .i64 0::.int .i64 0::.bool false::.int .i64 0::.int .i64 0::.bool false::.int .i64 0::.int .i64 0::.int .i64 0::.int .i64 0::.int .i64 0::.int .i64 0::.int .i64 0::.int .i64 0::.bool false::.int .i64 0::.slice none 0 0::.bool false::.int .i64 0::.int .i64 0::.int .i64 0::.int .i64 0::.int .i64 0::.slice none 0 0::.int .i64 0::[]).toArray],[]⟩ 8 (by kernel_rfl) (by kernel_rfl) (by kernel_rfl) (by kernel_rfl)) ?_
 intro W base args ds gs before hval hW _ hk hsh _;exact contract_at laidOut 3 Tryz.f3 Rows.deviceSaysSpec 4 Tryz.underlying4 (by kernel_rfl) (by kernel_rfl) (by kernel_rfl) spec_fn rfl W base args ds gs before (fun p hA hb=>all enc W base args ds p hA hval hb (ml_of hsh)) hval hW hk
theorem proved:Rows.DeviceSaysSaid:=
 OpenClaim.holds_of_wide 3 Tryz.f3 rfl rfl rfl rfl rfl rfl rfl ⟨rfl,rfl,rfl,rfl,rfl⟩ rfl rfl rfl rfl rfl (by kernel_rfl) Tryz.func3 (by kernel_rfl)
  (of_decide_eq_true (by kernel_rfl)) (by unfold Func.isWrapper;first|(rw[if_pos (by decide+kernel)];kernel_rfl)|(rw[if_neg (by decide+kernel)];exact⟨rfl,rfl⟩))
  (fun os started H enc _=>lifted os started H enc)
#print axioms proved
end Go.Proofs.YtefkfglkpebbmacGreat.deviceSays
