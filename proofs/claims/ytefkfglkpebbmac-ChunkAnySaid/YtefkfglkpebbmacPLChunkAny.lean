/- The statement ChunkAny (its first form): the law returns true at every input, and leaves its arguments alone. No conditions. -/
import Derived.Test.YtefkfglkpebbmacPXChunkAny
set_option linter.unusedVariables false
set_option linter.unusedSimpArgs false
set_option maxRecDepth 100000
set_option maxHeartbeats 40000000
namespace Go.Proofs.Ytefkfglkpebbmac.chunkAny
open Go.RowKit Go.WideShapes Go.ChangeShapes Go.ChangeAt
theorem all{H:Type}(enc:TypeId×Value->H)(W:World)(base:Nat)(args:Array Value)(ds:List (DataW H))(p:List MemPlace)
  (hA:DataW.TrodAll enc Try.prog W 0 (fun _=>true) true Try.f5.params.toList args.toList ds p)
  (hval:∀(j:Nat) t v,Try.f5.params[j]?=some t->args[j]?=some v->Value.okWide Try.prog W .any base t v) (hb:∀x∈DataW.weightsEach Try.prog Try.f5.params.toList ds,x<=140737488351232) (hml:ML W):
  Calls Try.prog 5 args W (RetB W (.bool true)):=by
 rw[Try.params5]at hA hval hb;obtain⟨v2,vs2,d2,ds2,p2,q2,hargs,rfl,rfl,h2,r2⟩:=trodAll_cons hA;obtain⟨v1,vs1,d1,ds1,p1,q1,rfl,rfl,rfl,h1,r1⟩:=trodAll_cons r2;obtain⟨rfl,rfl,rfl⟩:=trodAll_nil r1;obtain rfl:args=#[v2,v1]:=by cases args;simp_all
 simp only[DataW.weightsEach]at hb;obtain⟨x2,g2⟩:=argPatch_of (hval 0 35 v2 rfl rfl) h2 ⟨tyFine,of_decide_eq_true (by kernel_rfl),fun x hx=>hb x (by simp[hx])⟩;obtain⟨x1,g1⟩:=argInts_of (hval 1 42 v1 rfl rfl) h1 ⟨tyFine,of_decide_eq_true (by kernel_rfl),fun x hx=>hb x (by simp[hx])⟩;exact ChunkAny_walk W v2 v1 x2 x1 g2 g1 hml
theorem spec_fn{H:Type}(ds:List (DataW H))(h:ds.length=Try.f5.params.size):Rows.chunkAnySpec.fn H (ds++[])={results:=[.lit (.bool true)],args:=ds}:=by
 rw[Try.params5]at h
 match ds,h with
 |[d0,d1],_=>rfl
theorem lifted(os:Os)(started:os.Started)(H:Type)(enc:TypeId×Value->H):
  ReturnsInHanded {} Try.checked os 5 .any (Rows.chunkAnySpec.pre6 enc Try.prog Try.f5 Rows.chunkAnyRow.domain false) (Rows.chunkAnySpec.post enc Try.prog Try.f5 false true false false):=by
 refine returnsInHanded_of_change_shaped (C:=Try.checked) own started (by kernel_rfl) Try.func5
  (ChangeSpec.witness6 (enc:=enc) (C:=Try.checked) false ⟨#[],#[.agg #[.int .i64 0,.int .i64 0,.int .i64 0,.int .i64 0,.int .i64 0,.slice none 0 0],.slice none 0 0],[]⟩ 8 (by kernel_rfl) (by kernel_rfl) (by kernel_rfl) (by kernel_rfl)) ?_
 intro W base args ds gs before hval hW _ hk hsh _;exact contract_at laidOut 5 Try.f5 Rows.chunkAnySpec 4 Try.underlying4 (by kernel_rfl) (by kernel_rfl) (by kernel_rfl) spec_fn rfl W base args ds gs before (fun p hA hb=>all enc W base args ds p hA hval hb (ml_of hsh)) hval hW hk
theorem proved:Rows.ChunkAnySaid:=
 OpenClaim.holds_of_wide 5 Try.f5 rfl rfl rfl rfl rfl rfl rfl ⟨rfl,rfl,rfl,rfl,rfl⟩ rfl rfl rfl rfl rfl (by kernel_rfl) Try.func5 (by kernel_rfl)
  (of_decide_eq_true (by kernel_rfl)) (by unfold Func.isWrapper;first|(rw[if_pos (by decide+kernel)];kernel_rfl)|(rw[if_neg (by decide+kernel)];exact⟨rfl,rfl⟩))
  (fun os started H enc _=>lifted os started H enc)
#print axioms proved
end Go.Proofs.Ytefkfglkpebbmac.chunkAny
