/- A world whose memory is the call's own; what calls return that give one. Printed by gen_devacts.py. No conditions. -/
import Derived.Test.YtefkfglkpebbmacP2
import Derived.Test.YtefkfglkpebbmacPXWorRows
set_option linter.unusedVariables false
set_option linter.unusedSimpArgs false
set_option maxRecDepth 100000
set_option maxHeartbeats 40000000
namespace Go.Proofs.Ytefkfglkpebbmac
open Go.RowKit
variable {Y:Prop}
section
variable {base m:Nat} {w v:World} {P Q:World->Prop}
end
section
variable {w v:World} {base m top:Nat} {ds:List (Option Addr×Nat)} {x:Wor} {L:WLoc}
end
@[go_sem] theorem build_wor2(a:OA)(c:Nat)(l:List (List UInt8))(d:Dev)(K:DLoc)(w:World):runBuild Try.prog 88 #[(0,.slice a l.length c),(1,.agg (devA d K))] w=.ok (.agg (worA ⟨l,d,[]⟩ ⟨a,c,K,none,0⟩)) w:=by kernel_rfl
@[go_sem] theorem build_wor3(a:OA)(c:Nat)(l:List (List UInt8))(d:Dev)(K:DLoc)(b:OA)(e:Nat)(t:List Chk)(w:World):runBuild Try.prog 88 #[(0,.slice a l.length c),(1,.agg (devA d K)),(2,.slice b t.length e)] w=.ok (.agg (worA ⟨l,d,t⟩ ⟨a,c,K,b,e⟩)) w:=by kernel_rfl
end Go.Proofs.Ytefkfglkpebbmac
