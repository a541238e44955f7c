/- The statement ChunkSays (its first form): the law returns true at every input, and leaves its arguments alone. No conditions. -/
import Derived.Test.YtefkfglkpebbmacPXChunkSays
set_option linter.unusedVariables false
set_option linter.unusedSimpArgs false
set_option maxRecDepth 100000
set_option maxHeartbeats 40000000
namespace Go.Proofs.Ytefkfglkpebbmac.chunkSays
open Go.RowKit Go.WideShapes Go.ChangeShapes Go.ChangeAt
theorem all{H:Type}(enc:TypeId×Value->H)(W:World)(base:Nat)(args:Array Value)(ds:List (DataW H))(p:List MemPlace)
  (hA:DataW.TrodAll enc Try.prog W 0 (fun _=>true) true Try.f7.params.toList args.toList ds p)
  (hval:∀(j:Nat) t v,Try.f7.params[j]?=some t->args[j]?=some v->Value.okWide Try.prog W .any base t v) (hb:∀x∈DataW.weightsEach Try.prog Try.f7.params.toList ds,x<=140737488351232) (hml:ML W):
  Calls Try.prog 7 args W (RetB W (.bool true)):=by
 rw[Try.params7]at hA hval hb;obtain⟨v4,vs4,d4,ds4,p4,q4,hargs,rfl,rfl,h4,r4⟩:=trodAll_cons hA;obtain⟨v1,vs1,d1,ds1,p1,q1,rfl,rfl,rfl,h1,r1⟩:=trodAll_cons r4;obtain⟨v2,vs2,d2,ds2,p2,q2,rfl,rfl,rfl,h2,r2⟩:=trodAll_cons r1;obtain⟨v3,vs3,d3,ds3,p3,q3,rfl,rfl,rfl,h3,r3⟩:=trodAll_cons r2;obtain⟨rfl,rfl,rfl⟩:=trodAll_nil r3;obtain rfl:args=#[v4,v1,v2,v3]:=by cases args;simp_all
 simp only[DataW.weightsEach]at hb;obtain⟨x4,g4⟩:=argChunks_of (hval 0 43 v4 rfl rfl) h4 ⟨tyFine,of_decide_eq_true (by kernel_rfl),fun x hx=>hb x (by simp[hx])⟩;obtain⟨x1,g1⟩:=argChunk_of (hval 1 49 v1 rfl rfl) h1 ⟨tyFine,of_decide_eq_true (by kernel_rfl),fun x hx=>hb x (by simp[hx])⟩;obtain⟨x2,g2⟩:=argPatch_of (hval 2 35 v2 rfl rfl) h2 ⟨tyFine,of_decide_eq_true (by kernel_rfl),fun x hx=>hb x (by simp[hx])⟩;obtain⟨x3,g3⟩:=argChunks_of (hval 3 43 v3 rfl rfl) h3 ⟨tyFine,of_decide_eq_true (by kernel_rfl),fun x hx=>hb x (by simp[hx])⟩;exact ChunkSays_walk W v4 v1 v2 v3 x4 x1 x2 x3 g4 g1 g2 g3 hml
theorem spec_fn{H:Type}(ds:List (DataW H))(h:ds.length=Try.f7.params.size):Rows.chunkSaysSpec.fn H (ds++[])={results:=[.lit (.bool true)],args:=ds}:=by
 rw[Try.params7]at h
 match ds,h with
 |[d0,d1,d2,d3],_=>rfl
theorem lifted(os:Os)(started:os.Started)(H:Type)(enc:TypeId×Value->H):
  ReturnsInHanded {} Try.checked os 7 .any (Rows.chunkSaysSpec.pre6 enc Try.prog Try.f7 Rows.chunkSaysRow.domain false) (Rows.chunkSaysSpec.post enc Try.prog Try.f7 false true false false):=by
 refine returnsInHanded_of_change_shaped (C:=Try.checked) own started (by kernel_rfl) Try.func7
  (ChangeSpec.witness6 (enc:=enc) (C:=Try.checked) false ⟨#[],#[.slice none 0 0,.agg #[.int .i64 0,.int .i64 0,.int .i64 0,.int .i64 0,.slice none 0 0],.agg #[.int .i64 0,.int .i64 0,.int .i64 0,.int .i64 0,.int .i64 0,.slice none 0 0],.slice none 0 0],[]⟩ 8 (by kernel_rfl) (by kernel_rfl) (by kernel_rfl) (by kernel_rfl)) ?_
 intro W base args ds gs before hval hW _ hk hsh _;exact contract_at laidOut 7 Try.f7 Rows.chunkSaysSpec 4 Try.underlying4 (by kernel_rfl) (by kernel_rfl) (by kernel_rfl) spec_fn rfl W base args ds gs before (fun p hA hb=>all enc W base args ds p hA hval hb (ml_of hsh)) hval hW hk
theorem proved:Rows.ChunkSaysSaid:=
 OpenClaim.holds_of_wide 7 Try.f7 rfl rfl rfl rfl rfl rfl rfl ⟨rfl,rfl,rfl,rfl,rfl⟩ rfl rfl rfl rfl rfl (by kernel_rfl) Try.func7 (by kernel_rfl)
  (of_decide_eq_true (by kernel_rfl)) (by unfold Func.isWrapper;first|(rw[if_pos (by decide+kernel)];kernel_rfl)|(rw[if_neg (by decide+kernel)];exact⟨rfl,rfl⟩))
  (fun os started H enc _=>lifted os started H enc)
#print axioms proved
end Go.Proofs.Ytefkfglkpebbmac.chunkSays
