/- The statement DeviceInstalls (its first form): the law returns true at every input, and leaves its arguments alone. No conditions. -/
import Derived.Test.YtefkfglkpebbmacPXDeviceInstalls
set_option linter.unusedVariables false
set_option linter.unusedSimpArgs false
set_option maxRecDepth 100000
set_option maxHeartbeats 40000000
namespace Go.Proofs.Ytefkfglkpebbmac.deviceInstalls
open Go.RowKit Go.WideShapes Go.ChangeShapes Go.ChangeAt
theorem all{H:Type}(enc:TypeId×Value->H)(W:World)(base:Nat)(args:Array Value)(ds:List (DataW H))(p:List MemPlace)
  (hA:DataW.TrodAll enc Try.prog W 0 (fun _=>true) true Try.f9.params.toList args.toList ds p)
  (hval:∀(j:Nat) t v,Try.f9.params[j]?=some t->args[j]?=some v->Value.okWide Try.prog W .any base t v) (hb:∀x∈DataW.weightsEach Try.prog Try.f9.params.toList ds,x<=140737488351232) (hml:ML W):
  Calls Try.prog 9 args W (RetB W (.bool true)):=by
 rw[Try.params9]at hA hval hb;obtain⟨v5,vs5,d5,ds5,p5,q5,hargs,rfl,rfl,h5,r5⟩:=trodAll_cons hA;obtain⟨v1,vs1,d1,ds1,p1,q1,rfl,rfl,rfl,h1,r1⟩:=trodAll_cons r5;obtain⟨v2,vs2,d2,ds2,p2,q2,rfl,rfl,rfl,h2,r2⟩:=trodAll_cons r1;obtain⟨v3,vs3,d3,ds3,p3,q3,rfl,rfl,rfl,h3,r3⟩:=trodAll_cons r2;obtain⟨v4,vs4,d4,ds4,p4,q4,rfl,rfl,rfl,h4,r4⟩:=trodAll_cons r3;obtain⟨rfl,rfl,rfl⟩:=trodAll_nil r4;obtain rfl:args=#[v5,v1,v2,v3,v4]:=by cases args;simp_all
 simp only[DataW.weightsEach]at hb;obtain⟨x5,g5⟩:=argBytes_of Try.underlying22 Try.underlying5 (by kernel_rfl) (hval 0 22 v5 rfl rfl) h5 ⟨tyFine,of_decide_eq_true (by kernel_rfl),fun x hx=>hb x (by simp[hx])⟩;obtain⟨x1,g1⟩:=argBytes_of Try.underlying22 Try.underlying5 (by kernel_rfl) (hval 1 22 v1 rfl rfl) h1 ⟨tyFine,of_decide_eq_true (by kernel_rfl),fun x hx=>hb x (by simp[hx])⟩;obtain⟨x2,g2⟩:=argInt_of Try.underlying3 (hval 2 3 v2 rfl rfl) h2 ⟨tyFine,of_decide_eq_true (by kernel_rfl),fun x hx=>hb x (by simp[hx])⟩;obtain⟨x3,g3⟩:=argInt_of Try.underlying3 (hval 3 3 v3 rfl rfl) h3 ⟨tyFine,of_decide_eq_true (by kernel_rfl),fun x hx=>hb x (by simp[hx])⟩;obtain⟨x4,g4⟩:=argInt_of Try.underlying3 (hval 4 3 v4 rfl rfl) h4 ⟨tyFine,of_decide_eq_true (by kernel_rfl),fun x hx=>hb x (by simp[hx])⟩;exact DeviceInstalls_walk W v5 v1 v2 v3 v4 x5 x1 x2 x3 x4 g5 g1 g2 g3 g4 hml
theorem spec_fn{H:Type}(ds:List (DataW H))(h:ds.length=Try.f9.params.size):Rows.deviceInstallsSpec.fn H (ds++[])={results:=[.lit (.bool true)],args:=ds}:=by
 rw[Try.params9]at h
 match ds,h with
 |[d0,d1,d2,d3,d4],_=>rfl
theorem lifted(os:Os)(started:os.Started)(H:Type)(enc:TypeId×Value->H):
  ReturnsInHanded {} Try.checked os 9 .any (Rows.deviceInstallsSpec.pre6 enc Try.prog Try.f9 Rows.deviceInstallsRow.domain false) (Rows.deviceInstallsSpec.post enc Try.prog Try.f9 false true false false):=by
 refine returnsInHanded_of_change_shaped (C:=Try.checked) own started (by kernel_rfl) Try.func9
  (ChangeSpec.witness6 (enc:=enc) (C:=Try.checked) false ⟨#[],#[.slice none 0 0,.slice none 0 0,.int .i64 0,.int .i64 0,.int .i64 0],[]⟩ 8 (by kernel_rfl) (by kernel_rfl) (by kernel_rfl) (by kernel_rfl)) ?_
 intro W base args ds gs before hval hW _ hk hsh _;exact contract_at laidOut 9 Try.f9 Rows.deviceInstallsSpec 4 Try.underlying4 (by kernel_rfl) (by kernel_rfl) (by kernel_rfl) spec_fn rfl W base args ds gs before (fun p hA hb=>all enc W base args ds p hA hval hb (ml_of hsh)) hval hW hk
theorem proved:Rows.DeviceInstallsSaid:=
 OpenClaim.holds_of_wide 9 Try.f9 rfl rfl rfl rfl rfl rfl rfl ⟨rfl,rfl,rfl,rfl,rfl⟩ rfl rfl rfl rfl rfl (by kernel_rfl) Try.func9 (by kernel_rfl)
  (of_decide_eq_true (by kernel_rfl)) (by unfold Func.isWrapper;first|(rw[if_pos (by decide+kernel)];kernel_rfl)|(rw[if_neg (by decide+kernel)];exact⟨rfl,rfl⟩))
  (fun os started H enc _=>lifted os started H enc)
#print axioms proved
end Go.Proofs.Ytefkfglkpebbmac.deviceInstalls
