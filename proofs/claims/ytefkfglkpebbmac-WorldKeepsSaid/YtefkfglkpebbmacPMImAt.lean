/- Walks of functions, and plain words. No conditions. -/
import Derived.Test.YtefkfglkpebbmacPE3
import Derived.Test.YtefkfglkpebbmacP1
set_option linter.unusedVariables false
set_option linter.unusedSimpArgs false
set_option maxRecDepth 100000
set_option maxHeartbeats 40000000
namespace Go.Proofs.Ytefkfglkpebbmac
open Go.RowKit
variable {Y:Prop}
theorem Ims.at_{w:World}{A:OA}{l:List (List UInt8)}(h:Ims w A l){n:Nat}(hn:n<l.length):∃b o B m,A=some ⟨b,o,none⟩∧b<w.heap.size∧w.cell? ⟨b,o+n,none⟩=some (.slice B l[n].length m)∧l[n].length<=m∧Bts w B l[n]:=by
 obtain⟨b,o,rfl,hb,cs,h1,h2,B,m,h3,h4,h5,h6⟩:=h n hn;subst h3;refine⟨b,o,B,m,rfl,hb,?_,h4,h6⟩;have:=h2 0 (by simp);simpa using this
end Go.Proofs.Ytefkfglkpebbmac
