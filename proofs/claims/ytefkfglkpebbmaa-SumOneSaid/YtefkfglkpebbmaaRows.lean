/-
  No cell of these rows narrows 'for every input' (looked for: loops, veiled, ifaces, maps, wideKeys, modest, calm, conditions, laid).
  DERIVED. THE GIVEN ROWS OF THIS SEAT. 11 by the template 'for every input the law returns true; each argument reads behind the call as it read before'; 0 by the template 'total and deterministic' (their statements: YtefkfglkpebbmaaTotals.lean).
  GIVEN WITH THE SEED: the statements are not yours to turn. If you find one false, say at which input.
  Laid BY PROGRAM, IN A SANDBOX (cutbox-rows.mjs): the forced cells as the released guide's own fill.sh prints them over the translation c76e5d3e473052f7… (all of the seat's roots in one cut). By AI agents, Wed Nov 11 2026. No macro, syntax, notation, axiom, sorry.
-/
import Derived.Test.YtefkfglkpebbmaaChecked
import GoSem.Claim
import GoSem.ClaimJoined
import GoSem.ClaimMapViews
import Derived.JoinedTies
import Derived.KernelRfl
namespace Go.Proofs.Ytefkfglkpebbmaa
/- THE CELL 'sum', in the pinned program and in every row, IS THE sha256 OF THE DUMP (.gsa) THAT YtefkfglkpebbmaaProg.lean LOADS. Nothing in Lean hashes anything: it is a label: what it is worth is what the hold of that sum in a sandbox is worth. -/
noncomputable def Try.pinned : Pinned := { name := "ytefkfglkpebbmaa", sum := "c76e5d3e473052f7e736b91eb543965f033ec3c46b845268d595caa4201a9fef", checked := Try.checked }
namespace Rows
def none {H : Type} : Left H := { results := [], args := [] }

/-- 'cobblerlaw.Names': WHATEVER THE INPUT: true; the input reads as it did. -/
def namesSpec : ChangeSpec := { name := "names", fn := fun _ => fun
  | [] => { results := [.lit (.bool true)], args := [] }
  | _ => none }
def namesRow : OpenClaim := { program := "ytefkfglkpebbmaa", sum := "c76e5d3e473052f7e736b91eb543965f033ec3c46b845268d595caa4201a9fef", func := "cobbler/cobblerlaw.Names", spec := "names", apart := false }
def NamesSaid : Prop := namesRow.holds Try.pinned (OpenSpec.ofChange namesSpec)

/-- ITS FALSE NEIGHBOUR: 'it returns false'. Refute it at one input. -/
def namesWrong : ChangeSpec := { name := "names", fn := fun _ => fun
  | [] => { results := [.lit (.bool false)], args := [] }
  | _ => none }
def NamesWrongFalsely : Prop := namesRow.holds Try.pinned (OpenSpec.ofChange namesWrong)

/-- 'cobblerlaw.SumSays': WHATEVER THE INPUT: true; the input reads as it did. -/
def sumSaysSpec : ChangeSpec := { name := "sumSays", fn := fun _ => fun
  | [d1, d2] => { results := [.lit (.bool true)], args := [d1, d2] }
  | _ => none }
def sumSaysRow : OpenClaim := { program := "ytefkfglkpebbmaa", sum := "c76e5d3e473052f7e736b91eb543965f033ec3c46b845268d595caa4201a9fef", func := "cobbler/cobblerlaw.SumSays", spec := "sumSays", apart := false }
def SumSaysSaid : Prop := sumSaysRow.holds Try.pinned (OpenSpec.ofChange sumSaysSpec)

/-- ITS FALSE NEIGHBOUR: 'it returns false'. Refute it at one input. -/
def sumSaysWrong : ChangeSpec := { name := "sumSays", fn := fun _ => fun
  | [d1, d2] => { results := [.lit (.bool false)], args := [d1, d2] }
  | _ => none }
def SumSaysWrongFalsely : Prop := sumSaysRow.holds Try.pinned (OpenSpec.ofChange sumSaysWrong)

/-- 'cobblerlaw.MatchWhole': WHATEVER THE INPUT: true; the input reads as it did. -/
def matchWholeSpec : ChangeSpec := { name := "matchWhole", fn := fun _ => fun
  | [d1, d2, d3, d4] => { results := [.lit (.bool true)], args := [d1, d2, d3, d4] }
  | _ => none }
def matchWholeRow : OpenClaim := { program := "ytefkfglkpebbmaa", sum := "c76e5d3e473052f7e736b91eb543965f033ec3c46b845268d595caa4201a9fef", func := "cobbler/cobblerlaw.MatchWhole", spec := "matchWhole", apart := false }
def MatchWholeSaid : Prop := matchWholeRow.holds Try.pinned (OpenSpec.ofChange matchWholeSpec)

/-- ITS FALSE NEIGHBOUR: 'it returns false'. Refute it at one input. -/
def matchWholeWrong : ChangeSpec := { name := "matchWhole", fn := fun _ => fun
  | [d1, d2, d3, d4] => { results := [.lit (.bool false)], args := [d1, d2, d3, d4] }
  | _ => none }
def MatchWholeWrongFalsely : Prop := matchWholeRow.holds Try.pinned (OpenSpec.ofChange matchWholeWrong)

/-- 'cobblerlaw.SumOne': WHATEVER THE INPUT: true; the input reads as it did. -/
def sumOneSpec : ChangeSpec := { name := "sumOne", fn := fun _ => fun
  | [d1, d2, d3, d4] => { results := [.lit (.bool true)], args := [d1, d2, d3, d4] }
  | _ => none }
def sumOneRow : OpenClaim := { program := "ytefkfglkpebbmaa", sum := "c76e5d3e473052f7e736b91eb543965f033ec3c46b845268d595caa4201a9fef", func := "cobbler/cobblerlaw.SumOne", spec := "sumOne", apart := false }
def SumOneSaid : Prop := sumOneRow.holds Try.pinned (OpenSpec.ofChange sumOneSpec)

/-- ITS FALSE NEIGHBOUR: 'it returns false'. Refute it at one input. -/
def sumOneWrong : ChangeSpec := { name := "sumOne", fn := fun _ => fun
  | [d1, d2, d3, d4] => { results := [.lit (.bool false)], args := [d1, d2, d3, d4] }
  | _ => none }
def SumOneWrongFalsely : Prop := sumOneRow.holds Try.pinned (OpenSpec.ofChange sumOneWrong)

/-- 'cobblerlaw.RecordSays': WHATEVER THE INPUT: true; the input reads as it did. -/
def recordSaysSpec : ChangeSpec := { name := "recordSays", fn := fun _ => fun
  | [d1, d2, d3] => { results := [.lit (.bool true)], args := [d1, d2, d3] }
  | _ => none }
def recordSaysRow : OpenClaim := { program := "ytefkfglkpebbmaa", sum := "c76e5d3e473052f7e736b91eb543965f033ec3c46b845268d595caa4201a9fef", func := "cobbler/cobblerlaw.RecordSays", spec := "recordSays", unfollowed := true, recurses := true, apart := false }
def RecordSaysSaid : Prop := recordSaysRow.holds Try.pinned (OpenSpec.ofChange recordSaysSpec)

/-- ITS FALSE NEIGHBOUR: 'it returns false'. Refute it at one input. -/
def recordSaysWrong : ChangeSpec := { name := "recordSays", fn := fun _ => fun
  | [d1, d2, d3] => { results := [.lit (.bool false)], args := [d1, d2, d3] }
  | _ => none }
def RecordSaysWrongFalsely : Prop := recordSaysRow.holds Try.pinned (OpenSpec.ofChange recordSaysWrong)

/-- 'cobblerlaw.RecordTorn': WHATEVER THE INPUT: true; the input reads as it did. -/
def recordTornSpec : ChangeSpec := { name := "recordTorn", fn := fun _ => fun
  | [d1, d2] => { results := [.lit (.bool true)], args := [d1, d2] }
  | _ => none }
def recordTornRow : OpenClaim := { program := "ytefkfglkpebbmaa", sum := "c76e5d3e473052f7e736b91eb543965f033ec3c46b845268d595caa4201a9fef", func := "cobbler/cobblerlaw.RecordTorn", spec := "recordTorn", apart := false }
def RecordTornSaid : Prop := recordTornRow.holds Try.pinned (OpenSpec.ofChange recordTornSpec)

/-- ITS FALSE NEIGHBOUR: 'it returns false'. Refute it at one input. -/
def recordTornWrong : ChangeSpec := { name := "recordTorn", fn := fun _ => fun
  | [d1, d2] => { results := [.lit (.bool false)], args := [d1, d2] }
  | _ => none }
def RecordTornWrongFalsely : Prop := recordTornRow.holds Try.pinned (OpenSpec.ofChange recordTornWrong)

/-- 'cobblerlaw.RecordStarts': WHATEVER THE INPUT: true; the input reads as it did. -/
def recordStartsSpec : ChangeSpec := { name := "recordStarts", fn := fun _ => fun
  | [d] => { results := [.lit (.bool true)], args := [d] }
  | _ => none }
def recordStartsRow : OpenClaim := { program := "ytefkfglkpebbmaa", sum := "c76e5d3e473052f7e736b91eb543965f033ec3c46b845268d595caa4201a9fef", func := "cobbler/cobblerlaw.RecordStarts", spec := "recordStarts", apart := false }
def RecordStartsSaid : Prop := recordStartsRow.holds Try.pinned (OpenSpec.ofChange recordStartsSpec)

/-- ITS FALSE NEIGHBOUR: 'it returns false'. Refute it at one input. -/
def recordStartsWrong : ChangeSpec := { name := "recordStarts", fn := fun _ => fun
  | [d] => { results := [.lit (.bool false)], args := [d] }
  | _ => none }
def RecordStartsWrongFalsely : Prop := recordStartsRow.holds Try.pinned (OpenSpec.ofChange recordStartsWrong)

/-- 'cobblerlaw.RouteSays': WHATEVER THE INPUT: true; the input reads as it did. -/
def routeSaysSpec : ChangeSpec := { name := "routeSays", fn := fun _ => fun
  | [d1, d2, d3] => { results := [.lit (.bool true)], args := [d1, d2, d3] }
  | _ => none }
def routeSaysRow : OpenClaim := { program := "ytefkfglkpebbmaa", sum := "c76e5d3e473052f7e736b91eb543965f033ec3c46b845268d595caa4201a9fef", func := "cobbler/cobblerlaw.RouteSays", spec := "routeSays", apart := false }
def RouteSaysSaid : Prop := routeSaysRow.holds Try.pinned (OpenSpec.ofChange routeSaysSpec)

/-- ITS FALSE NEIGHBOUR: 'it returns false'. Refute it at one input. -/
def routeSaysWrong : ChangeSpec := { name := "routeSays", fn := fun _ => fun
  | [d1, d2, d3] => { results := [.lit (.bool false)], args := [d1, d2, d3] }
  | _ => none }
def RouteSaysWrongFalsely : Prop := routeSaysRow.holds Try.pinned (OpenSpec.ofChange routeSaysWrong)

/-- 'cobblerlaw.RouteLeast': WHATEVER THE INPUT: true; the input reads as it did. -/
def routeLeastSpec : ChangeSpec := { name := "routeLeast", fn := fun _ => fun
  | [d1, d2, d3, d4] => { results := [.lit (.bool true)], args := [d1, d2, d3, d4] }
  | _ => none }
def routeLeastRow : OpenClaim := { program := "ytefkfglkpebbmaa", sum := "c76e5d3e473052f7e736b91eb543965f033ec3c46b845268d595caa4201a9fef", func := "cobbler/cobblerlaw.RouteLeast", spec := "routeLeast", apart := false }
def RouteLeastSaid : Prop := routeLeastRow.holds Try.pinned (OpenSpec.ofChange routeLeastSpec)

/-- ITS FALSE NEIGHBOUR: 'it returns false'. Refute it at one input. -/
def routeLeastWrong : ChangeSpec := { name := "routeLeast", fn := fun _ => fun
  | [d1, d2, d3, d4] => { results := [.lit (.bool false)], args := [d1, d2, d3, d4] }
  | _ => none }
def RouteLeastWrongFalsely : Prop := routeLeastRow.holds Try.pinned (OpenSpec.ofChange routeLeastWrong)

/-- 'cobblerlaw.RouteMore': WHATEVER THE INPUT: true; the input reads as it did. -/
def routeMoreSpec : ChangeSpec := { name := "routeMore", fn := fun _ => fun
  | [d1, d2, d3, d4] => { results := [.lit (.bool true)], args := [d1, d2, d3, d4] }
  | _ => none }
def routeMoreRow : OpenClaim := { program := "ytefkfglkpebbmaa", sum := "c76e5d3e473052f7e736b91eb543965f033ec3c46b845268d595caa4201a9fef", func := "cobbler/cobblerlaw.RouteMore", spec := "routeMore", apart := false }
def RouteMoreSaid : Prop := routeMoreRow.holds Try.pinned (OpenSpec.ofChange routeMoreSpec)

/-- ITS FALSE NEIGHBOUR: 'it returns false'. Refute it at one input. -/
def routeMoreWrong : ChangeSpec := { name := "routeMore", fn := fun _ => fun
  | [d1, d2, d3, d4] => { results := [.lit (.bool false)], args := [d1, d2, d3, d4] }
  | _ => none }
def RouteMoreWrongFalsely : Prop := routeMoreRow.holds Try.pinned (OpenSpec.ofChange routeMoreWrong)

/-- 'cobblerlaw.DeltaMakes': WHATEVER THE INPUT: true; the input reads as it did. -/
def deltaMakesSpec : ChangeSpec := { name := "deltaMakes", fn := fun _ => fun
  | [d1, d2] => { results := [.lit (.bool true)], args := [d1, d2] }
  | _ => none }
def deltaMakesRow : OpenClaim := { program := "ytefkfglkpebbmaa", sum := "c76e5d3e473052f7e736b91eb543965f033ec3c46b845268d595caa4201a9fef", func := "cobbler/cobblerlaw.DeltaMakes", spec := "deltaMakes", unfollowed := true, recurses := true, apart := false }
def DeltaMakesSaid : Prop := deltaMakesRow.holds Try.pinned (OpenSpec.ofChange deltaMakesSpec)

/-- ITS FALSE NEIGHBOUR: 'it returns false'. Refute it at one input. -/
def deltaMakesWrong : ChangeSpec := { name := "deltaMakes", fn := fun _ => fun
  | [d1, d2] => { results := [.lit (.bool false)], args := [d1, d2] }
  | _ => none }
def DeltaMakesWrongFalsely : Prop := deltaMakesRow.holds Try.pinned (OpenSpec.ofChange deltaMakesWrong)

/- THE SECOND FORM. 'bulk': how many values and letters a reading holds, each counted each time it is reached (what is shared counts as often as it is met; a slice's spare places count too). A statement '..UptoSaid' is the law's where the arguments, and the package variables that the reading takes, are together of bulk at most 1048576: NARROWER than '..Said'. Prove '..Said' where nothing that the law and all that it calls make is longer than what came in: it says more and counts as full. Else prove '..UptoSaid'. A law counts once. -/
mutual
def uptoBulk {H : Type} : DataW H → Nat
  | .lit (.string bytes) => bytes.length + 1
  | .lit _ => 1
  | .nil => 1
  | .ptr d => uptoBulk d + 1
  | .slice elems spare => uptoBulkAll elems + uptoBulkAll spare + 1
  | .agg parts => uptoBulkAll parts + 1
  | .iface _ d => uptoBulk d + 1
  | .map entries => uptoBulkEntries entries + 1
  | .held _ => 1
def uptoBulkAll {H : Type} : List (DataW H) → Nat
  | [] => 0
  | d :: r => uptoBulk d + uptoBulkAll r
def uptoBulkEntries {H : Type} : List (Lit × DataW H) → Nat
  | [] => 0
  | x :: r => uptoBulkEntry x + uptoBulkEntries r
def uptoBulkEntry {H : Type} : Lit × DataW H → Nat
  | (.string bytes, d) => bytes.length + uptoBulk d + 1
  | (_, d) => uptoBulk d + 1
 end
def uptoSmall : (H : Type) → List (DataW H) → Bool := fun _ ds => decide (uptoBulkAll ds ≤ 1048576)
def OpenSpec.upto (s : _root_.Go.ChangeSpec) : _root_.Go.OpenSpec := { _root_.Go.OpenSpec.ofChange s with cond := some uptoSmall }

/-- 'cobblerlaw.Names', WHERE WHAT IT READS IS OF BULK AT MOST 1048576: true; the input reads as it did. -/
def namesUptoRow : OpenClaim := { program := "ytefkfglkpebbmaa", sum := "c76e5d3e473052f7e736b91eb543965f033ec3c46b845268d595caa4201a9fef", func := "cobbler/cobblerlaw.Names", spec := "names", apart := false, narrowed := true }
def NamesUptoSaid : Prop := namesUptoRow.holds Try.pinned (OpenSpec.upto namesSpec)

/-- 'cobblerlaw.SumSays', WHERE WHAT IT READS IS OF BULK AT MOST 1048576: true; the input reads as it did. -/
def sumSaysUptoRow : OpenClaim := { program := "ytefkfglkpebbmaa", sum := "c76e5d3e473052f7e736b91eb543965f033ec3c46b845268d595caa4201a9fef", func := "cobbler/cobblerlaw.SumSays", spec := "sumSays", apart := false, narrowed := true }
def SumSaysUptoSaid : Prop := sumSaysUptoRow.holds Try.pinned (OpenSpec.upto sumSaysSpec)

/-- 'cobblerlaw.MatchWhole', WHERE WHAT IT READS IS OF BULK AT MOST 1048576: true; the input reads as it did. -/
def matchWholeUptoRow : OpenClaim := { program := "ytefkfglkpebbmaa", sum := "c76e5d3e473052f7e736b91eb543965f033ec3c46b845268d595caa4201a9fef", func := "cobbler/cobblerlaw.MatchWhole", spec := "matchWhole", apart := false, narrowed := true }
def MatchWholeUptoSaid : Prop := matchWholeUptoRow.holds Try.pinned (OpenSpec.upto matchWholeSpec)

/-- 'cobblerlaw.SumOne', WHERE WHAT IT READS IS OF BULK AT MOST 1048576: true; the input reads as it did. -/
def sumOneUptoRow : OpenClaim := { program := "ytefkfglkpebbmaa", sum := "c76e5d3e473052f7e736b91eb543965f033ec3c46b845268d595caa4201a9fef", func := "cobbler/cobblerlaw.SumOne", spec := "sumOne", apart := false, narrowed := true }
def SumOneUptoSaid : Prop := sumOneUptoRow.holds Try.pinned (OpenSpec.upto sumOneSpec)

/-- 'cobblerlaw.RecordSays', WHERE WHAT IT READS IS OF BULK AT MOST 1048576: true; the input reads as it did. -/
def recordSaysUptoRow : OpenClaim := { program := "ytefkfglkpebbmaa", sum := "c76e5d3e473052f7e736b91eb543965f033ec3c46b845268d595caa4201a9fef", func := "cobbler/cobblerlaw.RecordSays", spec := "recordSays", unfollowed := true, recurses := true, apart := false, narrowed := true }
def RecordSaysUptoSaid : Prop := recordSaysUptoRow.holds Try.pinned (OpenSpec.upto recordSaysSpec)

/-- 'cobblerlaw.RecordTorn', WHERE WHAT IT READS IS OF BULK AT MOST 1048576: true; the input reads as it did. -/
def recordTornUptoRow : OpenClaim := { program := "ytefkfglkpebbmaa", sum := "c76e5d3e473052f7e736b91eb543965f033ec3c46b845268d595caa4201a9fef", func := "cobbler/cobblerlaw.RecordTorn", spec := "recordTorn", apart := false, narrowed := true }
def RecordTornUptoSaid : Prop := recordTornUptoRow.holds Try.pinned (OpenSpec.upto recordTornSpec)

/-- 'cobblerlaw.RecordStarts', WHERE WHAT IT READS IS OF BULK AT MOST 1048576: true; the input reads as it did. -/
def recordStartsUptoRow : OpenClaim := { program := "ytefkfglkpebbmaa", sum := "c76e5d3e473052f7e736b91eb543965f033ec3c46b845268d595caa4201a9fef", func := "cobbler/cobblerlaw.RecordStarts", spec := "recordStarts", apart := false, narrowed := true }
def RecordStartsUptoSaid : Prop := recordStartsUptoRow.holds Try.pinned (OpenSpec.upto recordStartsSpec)

/-- 'cobblerlaw.RouteSays', WHERE WHAT IT READS IS OF BULK AT MOST 1048576: true; the input reads as it did. -/
def routeSaysUptoRow : OpenClaim := { program := "ytefkfglkpebbmaa", sum := "c76e5d3e473052f7e736b91eb543965f033ec3c46b845268d595caa4201a9fef", func := "cobbler/cobblerlaw.RouteSays", spec := "routeSays", apart := false, narrowed := true }
def RouteSaysUptoSaid : Prop := routeSaysUptoRow.holds Try.pinned (OpenSpec.upto routeSaysSpec)

/-- 'cobblerlaw.RouteLeast', WHERE WHAT IT READS IS OF BULK AT MOST 1048576: true; the input reads as it did. -/
def routeLeastUptoRow : OpenClaim := { program := "ytefkfglkpebbmaa", sum := "c76e5d3e473052f7e736b91eb543965f033ec3c46b845268d595caa4201a9fef", func := "cobbler/cobblerlaw.RouteLeast", spec := "routeLeast", apart := false, narrowed := true }
def RouteLeastUptoSaid : Prop := routeLeastUptoRow.holds Try.pinned (OpenSpec.upto routeLeastSpec)

/-- 'cobblerlaw.RouteMore', WHERE WHAT IT READS IS OF BULK AT MOST 1048576: true; the input reads as it did. -/
def routeMoreUptoRow : OpenClaim := { program := "ytefkfglkpebbmaa", sum := "c76e5d3e473052f7e736b91eb543965f033ec3c46b845268d595caa4201a9fef", func := "cobbler/cobblerlaw.RouteMore", spec := "routeMore", apart := false, narrowed := true }
def RouteMoreUptoSaid : Prop := routeMoreUptoRow.holds Try.pinned (OpenSpec.upto routeMoreSpec)

/-- 'cobblerlaw.DeltaMakes', WHERE WHAT IT READS IS OF BULK AT MOST 1048576: true; the input reads as it did. -/
def deltaMakesUptoRow : OpenClaim := { program := "ytefkfglkpebbmaa", sum := "c76e5d3e473052f7e736b91eb543965f033ec3c46b845268d595caa4201a9fef", func := "cobbler/cobblerlaw.DeltaMakes", spec := "deltaMakes", unfollowed := true, recurses := true, apart := false, narrowed := true }
def DeltaMakesUptoSaid : Prop := deltaMakesUptoRow.holds Try.pinned (OpenSpec.upto deltaMakesSpec)

end Rows
end Go.Proofs.Ytefkfglkpebbmaa
