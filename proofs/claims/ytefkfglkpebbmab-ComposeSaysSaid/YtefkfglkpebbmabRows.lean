/-
  No cell of these rows narrows 'for every input' (looked for: loops, veiled, ifaces, maps, wideKeys, modest, calm, conditions, laid).
  DERIVED. THE GIVEN ROWS OF THIS SEAT. 11 by the template 'for every input the law returns true; each argument reads behind the call as it read before'; 0 by the template 'total and deterministic' (their statements: YtefkfglkpebbmabTotals.lean).
  GIVEN WITH THE SEED: the statements are not yours to turn. If you find one false, say at which input.
  Laid BY PROGRAM, IN A SANDBOX (cutbox-rows.mjs): the forced cells as the released guide's own fill.sh prints them over the translation 794d6743390f6769… (all of the seat's roots in one cut). By AI agents, Wed Nov 11 2026. No macro, syntax, notation, axiom, sorry.
-/
import Derived.Test.YtefkfglkpebbmabChecked
import GoSem.Claim
import GoSem.ClaimJoined
import GoSem.ClaimMapViews
import Derived.JoinedTies
import Derived.KernelRfl
namespace Go.Proofs.Ytefkfglkpebbmab
/- THE CELL 'sum', in the pinned program and in every row, IS THE sha256 OF THE DUMP (.gsa) THAT YtefkfglkpebbmabProg.lean LOADS. Nothing in Lean hashes anything: it is a label: what it is worth is what the hold of that sum in a sandbox is worth. -/
noncomputable def Try.pinned : Pinned := { name := "ytefkfglkpebbmab", sum := "794d6743390f6769acd3408003a507a16fc3a1cfedf5d8f3058a1d8ada8bd85c", checked := Try.checked }
namespace Rows
def none {H : Type} : Left H := { results := [], args := [] }

/-- 'cobblerlaw.DeltaParts': WHATEVER THE INPUT: true; the input reads as it did. -/
def deltaPartsSpec : ChangeSpec := { name := "deltaParts", fn := fun _ => fun
  | [d1, d2, d3, d4] => { results := [.lit (.bool true)], args := [d1, d2, d3, d4] }
  | _ => none }
def deltaPartsRow : OpenClaim := { program := "ytefkfglkpebbmab", sum := "794d6743390f6769acd3408003a507a16fc3a1cfedf5d8f3058a1d8ada8bd85c", func := "cobbler/cobblerlaw.DeltaParts", spec := "deltaParts", unfollowed := true, recurses := true, apart := false }
def DeltaPartsSaid : Prop := deltaPartsRow.holds Try.pinned (OpenSpec.ofChange deltaPartsSpec)

/-- ITS FALSE NEIGHBOUR: 'it returns false'. Refute it at one input. -/
def deltaPartsWrong : ChangeSpec := { name := "deltaParts", fn := fun _ => fun
  | [d1, d2, d3, d4] => { results := [.lit (.bool false)], args := [d1, d2, d3, d4] }
  | _ => none }
def DeltaPartsWrongFalsely : Prop := deltaPartsRow.holds Try.pinned (OpenSpec.ofChange deltaPartsWrong)

/-- 'cobblerlaw.PackBack': WHATEVER THE INPUT: true; the input reads as it did. -/
def packBackSpec : ChangeSpec := { name := "packBack", fn := fun _ => fun
  | [d1, d2] => { results := [.lit (.bool true)], args := [d1, d2] }
  | _ => none }
def packBackRow : OpenClaim := { program := "ytefkfglkpebbmab", sum := "794d6743390f6769acd3408003a507a16fc3a1cfedf5d8f3058a1d8ada8bd85c", func := "cobbler/cobblerlaw.PackBack", spec := "packBack", unfollowed := true, recurses := true, apart := false }
def PackBackSaid : Prop := packBackRow.holds Try.pinned (OpenSpec.ofChange packBackSpec)

/-- ITS FALSE NEIGHBOUR: 'it returns false'. Refute it at one input. -/
def packBackWrong : ChangeSpec := { name := "packBack", fn := fun _ => fun
  | [d1, d2] => { results := [.lit (.bool false)], args := [d1, d2] }
  | _ => none }
def PackBackWrongFalsely : Prop := packBackRow.holds Try.pinned (OpenSpec.ofChange packBackWrong)

/-- 'cobblerlaw.ComposeSays': WHATEVER THE INPUT: true; the input reads as it did. -/
def composeSaysSpec : ChangeSpec := { name := "composeSays", fn := fun _ => fun
  | [d1, d2, d3, d4, d5] => { results := [.lit (.bool true)], args := [d1, d2, d3, d4, d5] }
  | _ => none }
def composeSaysRow : OpenClaim := { program := "ytefkfglkpebbmab", sum := "794d6743390f6769acd3408003a507a16fc3a1cfedf5d8f3058a1d8ada8bd85c", func := "cobbler/cobblerlaw.ComposeSays", spec := "composeSays", unfollowed := true, recurses := true, apart := false }
def ComposeSaysSaid : Prop := composeSaysRow.holds Try.pinned (OpenSpec.ofChange composeSaysSpec)

/-- ITS FALSE NEIGHBOUR: 'it returns false'. Refute it at one input. -/
def composeSaysWrong : ChangeSpec := { name := "composeSays", fn := fun _ => fun
  | [d1, d2, d3, d4, d5] => { results := [.lit (.bool false)], args := [d1, d2, d3, d4, d5] }
  | _ => none }
def ComposeSaysWrongFalsely : Prop := composeSaysRow.holds Try.pinned (OpenSpec.ofChange composeSaysWrong)

/-- 'cobblerlaw.ComposeMakes': WHATEVER THE INPUT: true; the input reads as it did. -/
def composeMakesSpec : ChangeSpec := { name := "composeMakes", fn := fun _ => fun
  | [d1, d2, d3, d4, d5] => { results := [.lit (.bool true)], args := [d1, d2, d3, d4, d5] }
  | _ => none }
def composeMakesRow : OpenClaim := { program := "ytefkfglkpebbmab", sum := "794d6743390f6769acd3408003a507a16fc3a1cfedf5d8f3058a1d8ada8bd85c", func := "cobbler/cobblerlaw.ComposeMakes", spec := "composeMakes", unfollowed := true, recurses := true, apart := false }
def ComposeMakesSaid : Prop := composeMakesRow.holds Try.pinned (OpenSpec.ofChange composeMakesSpec)

/-- ITS FALSE NEIGHBOUR: 'it returns false'. Refute it at one input. -/
def composeMakesWrong : ChangeSpec := { name := "composeMakes", fn := fun _ => fun
  | [d1, d2, d3, d4, d5] => { results := [.lit (.bool false)], args := [d1, d2, d3, d4, d5] }
  | _ => none }
def ComposeMakesWrongFalsely : Prop := composeMakesRow.holds Try.pinned (OpenSpec.ofChange composeMakesWrong)

/-- 'cobblerlaw.ComposeAlone': WHATEVER THE INPUT: true; the input reads as it did. -/
def composeAloneSpec : ChangeSpec := { name := "composeAlone", fn := fun _ => fun
  | [d1, d2, d3] => { results := [.lit (.bool true)], args := [d1, d2, d3] }
  | _ => none }
def composeAloneRow : OpenClaim := { program := "ytefkfglkpebbmab", sum := "794d6743390f6769acd3408003a507a16fc3a1cfedf5d8f3058a1d8ada8bd85c", func := "cobbler/cobblerlaw.ComposeAlone", spec := "composeAlone", unfollowed := true, recurses := true, apart := false }
def ComposeAloneSaid : Prop := composeAloneRow.holds Try.pinned (OpenSpec.ofChange composeAloneSpec)

/-- ITS FALSE NEIGHBOUR: 'it returns false'. Refute it at one input. -/
def composeAloneWrong : ChangeSpec := { name := "composeAlone", fn := fun _ => fun
  | [d1, d2, d3] => { results := [.lit (.bool false)], args := [d1, d2, d3] }
  | _ => none }
def ComposeAloneWrongFalsely : Prop := composeAloneRow.holds Try.pinned (OpenSpec.ofChange composeAloneWrong)

/-- 'cobblerlaw.PackSays': WHATEVER THE INPUT: true; the input reads as it did. -/
def packSaysSpec : ChangeSpec := { name := "packSays", fn := fun _ => fun
  | [d1, d2] => { results := [.lit (.bool true)], args := [d1, d2] }
  | _ => none }
def packSaysRow : OpenClaim := { program := "ytefkfglkpebbmab", sum := "794d6743390f6769acd3408003a507a16fc3a1cfedf5d8f3058a1d8ada8bd85c", func := "cobbler/cobblerlaw.PackSays", spec := "packSays", inPlace := ["internal/bytealg.MakeNoZero"], unfollowed := true, recurses := true, apart := false }
def PackSaysSaid : Prop := packSaysRow.holds Try.pinned (OpenSpec.ofChange packSaysSpec)

/-- ITS FALSE NEIGHBOUR: 'it returns false'. Refute it at one input. -/
def packSaysWrong : ChangeSpec := { name := "packSays", fn := fun _ => fun
  | [d1, d2] => { results := [.lit (.bool false)], args := [d1, d2] }
  | _ => none }
def PackSaysWrongFalsely : Prop := packSaysRow.holds Try.pinned (OpenSpec.ofChange packSaysWrong)

/-- 'cobblerlaw.MatchSays': WHATEVER THE INPUT: true; the input reads as it did. -/
def matchSaysSpec : ChangeSpec := { name := "matchSays", fn := fun _ => fun
  | [d1, d2, d3] => { results := [.lit (.bool true)], args := [d1, d2, d3] }
  | _ => none }
def matchSaysRow : OpenClaim := { program := "ytefkfglkpebbmab", sum := "794d6743390f6769acd3408003a507a16fc3a1cfedf5d8f3058a1d8ada8bd85c", func := "cobbler/cobblerlaw.MatchSays", spec := "matchSays", inPlace := ["internal/bytealg.IndexByte", "internal/bytealg.Index"], named := ["internal/bytealg.MaxLen"], apart := false }
def MatchSaysSaid : Prop := matchSaysRow.holds Try.pinned (OpenSpec.ofChange matchSaysSpec)

/-- ITS FALSE NEIGHBOUR: 'it returns false'. Refute it at one input. -/
def matchSaysWrong : ChangeSpec := { name := "matchSays", fn := fun _ => fun
  | [d1, d2, d3] => { results := [.lit (.bool false)], args := [d1, d2, d3] }
  | _ => none }
def MatchSaysWrongFalsely : Prop := matchSaysRow.holds Try.pinned (OpenSpec.ofChange matchSaysWrong)

/-- 'cobblerlaw.MatchMost': WHATEVER THE INPUT: true; the input reads as it did. -/
def matchMostSpec : ChangeSpec := { name := "matchMost", fn := fun _ => fun
  | [d1, d2, d3] => { results := [.lit (.bool true)], args := [d1, d2, d3] }
  | _ => none }
def matchMostRow : OpenClaim := { program := "ytefkfglkpebbmab", sum := "794d6743390f6769acd3408003a507a16fc3a1cfedf5d8f3058a1d8ada8bd85c", func := "cobbler/cobblerlaw.MatchMost", spec := "matchMost", inPlace := ["internal/bytealg.IndexByte", "internal/bytealg.Index"], named := ["internal/bytealg.MaxLen"], apart := false }
def MatchMostSaid : Prop := matchMostRow.holds Try.pinned (OpenSpec.ofChange matchMostSpec)

/-- ITS FALSE NEIGHBOUR: 'it returns false'. Refute it at one input. -/
def matchMostWrong : ChangeSpec := { name := "matchMost", fn := fun _ => fun
  | [d1, d2, d3] => { results := [.lit (.bool false)], args := [d1, d2, d3] }
  | _ => none }
def MatchMostWrongFalsely : Prop := matchMostRow.holds Try.pinned (OpenSpec.ofChange matchMostWrong)

/-- 'cobblerlaw.ComposeDiffs': WHATEVER THE INPUT: true; the input reads as it did. -/
def composeDiffsSpec : ChangeSpec := { name := "composeDiffs", fn := fun _ => fun
  | [d1, d2, d3] => { results := [.lit (.bool true)], args := [d1, d2, d3] }
  | _ => none }
def composeDiffsRow : OpenClaim := { program := "ytefkfglkpebbmab", sum := "794d6743390f6769acd3408003a507a16fc3a1cfedf5d8f3058a1d8ada8bd85c", func := "cobbler/cobblerlaw.ComposeDiffs", spec := "composeDiffs", unfollowed := true, recurses := true, apart := false }
def ComposeDiffsSaid : Prop := composeDiffsRow.holds Try.pinned (OpenSpec.ofChange composeDiffsSpec)

/-- ITS FALSE NEIGHBOUR: 'it returns false'. Refute it at one input. -/
def composeDiffsWrong : ChangeSpec := { name := "composeDiffs", fn := fun _ => fun
  | [d1, d2, d3] => { results := [.lit (.bool false)], args := [d1, d2, d3] }
  | _ => none }
def ComposeDiffsWrongFalsely : Prop := composeDiffsRow.holds Try.pinned (OpenSpec.ofChange composeDiffsWrong)

/-- 'cobblerlaw.PatchBytes': WHATEVER THE INPUT: true; the input reads as it did. -/
def patchBytesSpec : ChangeSpec := { name := "patchBytes", fn := fun _ => fun
  | [d1, d2] => { results := [.lit (.bool true)], args := [d1, d2] }
  | _ => none }
def patchBytesRow : OpenClaim := { program := "ytefkfglkpebbmab", sum := "794d6743390f6769acd3408003a507a16fc3a1cfedf5d8f3058a1d8ada8bd85c", func := "cobbler/cobblerlaw.PatchBytes", spec := "patchBytes", unfollowed := true, recurses := true, apart := false }
def PatchBytesSaid : Prop := patchBytesRow.holds Try.pinned (OpenSpec.ofChange patchBytesSpec)

/-- ITS FALSE NEIGHBOUR: 'it returns false'. Refute it at one input. -/
def patchBytesWrong : ChangeSpec := { name := "patchBytes", fn := fun _ => fun
  | [d1, d2] => { results := [.lit (.bool false)], args := [d1, d2] }
  | _ => none }
def PatchBytesWrongFalsely : Prop := patchBytesRow.holds Try.pinned (OpenSpec.ofChange patchBytesWrong)

/-- 'cobblerlaw.PatchBack': WHATEVER THE INPUT: true; the input reads as it did. -/
def patchBackSpec : ChangeSpec := { name := "patchBack", fn := fun _ => fun
  | [d1, d2, d3, d4] => { results := [.lit (.bool true)], args := [d1, d2, d3, d4] }
  | _ => none }
def patchBackRow : OpenClaim := { program := "ytefkfglkpebbmab", sum := "794d6743390f6769acd3408003a507a16fc3a1cfedf5d8f3058a1d8ada8bd85c", func := "cobbler/cobblerlaw.PatchBack", spec := "patchBack", unfollowed := true, recurses := true, apart := false }
def PatchBackSaid : Prop := patchBackRow.holds Try.pinned (OpenSpec.ofChange patchBackSpec)

/-- ITS FALSE NEIGHBOUR: 'it returns false'. Refute it at one input. -/
def patchBackWrong : ChangeSpec := { name := "patchBack", fn := fun _ => fun
  | [d1, d2, d3, d4] => { results := [.lit (.bool false)], args := [d1, d2, d3, d4] }
  | _ => none }
def PatchBackWrongFalsely : Prop := patchBackRow.holds Try.pinned (OpenSpec.ofChange patchBackWrong)

/- THE SECOND FORM. 'bulk': how many values and letters a reading holds, each counted each time it is reached (what is shared counts as often as it is met; a slice's spare places count too). A statement '..UptoSaid' is the law's where the arguments, and the package variables that the reading takes, are together of bulk at most 1048576: NARROWER than '..Said'. Prove '..Said' where nothing that the law and all that it calls make is longer than what came in: it says more and counts as full. Else prove '..UptoSaid'. A law counts once. -/
mutual
def uptoBulk {H : Type} : DataW H → Nat
  | .lit (.string bytes) => bytes.length + 1
  | .lit _ => 1
  | .nil => 1
  | .ptr d => uptoBulk d + 1
  | .slice elems spare => uptoBulkAll elems + uptoBulkAll spare + 1
  | .agg parts => uptoBulkAll parts + 1
  | .iface _ d => uptoBulk d + 1
  | .map entries => uptoBulkEntries entries + 1
  | .held _ => 1
def uptoBulkAll {H : Type} : List (DataW H) → Nat
  | [] => 0
  | d :: r => uptoBulk d + uptoBulkAll r
def uptoBulkEntries {H : Type} : List (Lit × DataW H) → Nat
  | [] => 0
  | x :: r => uptoBulkEntry x + uptoBulkEntries r
def uptoBulkEntry {H : Type} : Lit × DataW H → Nat
  | (.string bytes, d) => bytes.length + uptoBulk d + 1
  | (_, d) => uptoBulk d + 1
 end
def uptoSmall : (H : Type) → List (DataW H) → Bool := fun _ ds => decide (uptoBulkAll ds ≤ 1048576)
def OpenSpec.upto (s : _root_.Go.ChangeSpec) : _root_.Go.OpenSpec := { _root_.Go.OpenSpec.ofChange s with cond := some uptoSmall }

/-- 'cobblerlaw.DeltaParts', WHERE WHAT IT READS IS OF BULK AT MOST 1048576: true; the input reads as it did. -/
def deltaPartsUptoRow : OpenClaim := { program := "ytefkfglkpebbmab", sum := "794d6743390f6769acd3408003a507a16fc3a1cfedf5d8f3058a1d8ada8bd85c", func := "cobbler/cobblerlaw.DeltaParts", spec := "deltaParts", unfollowed := true, recurses := true, apart := false, narrowed := true }
def DeltaPartsUptoSaid : Prop := deltaPartsUptoRow.holds Try.pinned (OpenSpec.upto deltaPartsSpec)

/-- 'cobblerlaw.PackBack', WHERE WHAT IT READS IS OF BULK AT MOST 1048576: true; the input reads as it did. -/
def packBackUptoRow : OpenClaim := { program := "ytefkfglkpebbmab", sum := "794d6743390f6769acd3408003a507a16fc3a1cfedf5d8f3058a1d8ada8bd85c", func := "cobbler/cobblerlaw.PackBack", spec := "packBack", unfollowed := true, recurses := true, apart := false, narrowed := true }
def PackBackUptoSaid : Prop := packBackUptoRow.holds Try.pinned (OpenSpec.upto packBackSpec)

/-- 'cobblerlaw.ComposeSays', WHERE WHAT IT READS IS OF BULK AT MOST 1048576: true; the input reads as it did. -/
def composeSaysUptoRow : OpenClaim := { program := "ytefkfglkpebbmab", sum := "794d6743390f6769acd3408003a507a16fc3a1cfedf5d8f3058a1d8ada8bd85c", func := "cobbler/cobblerlaw.ComposeSays", spec := "composeSays", unfollowed := true, recurses := true, apart := false, narrowed := true }
def ComposeSaysUptoSaid : Prop := composeSaysUptoRow.holds Try.pinned (OpenSpec.upto composeSaysSpec)

/-- 'cobblerlaw.ComposeMakes', WHERE WHAT IT READS IS OF BULK AT MOST 1048576: true; the input reads as it did. -/
def composeMakesUptoRow : OpenClaim := { program := "ytefkfglkpebbmab", sum := "794d6743390f6769acd3408003a507a16fc3a1cfedf5d8f3058a1d8ada8bd85c", func := "cobbler/cobblerlaw.ComposeMakes", spec := "composeMakes", unfollowed := true, recurses := true, apart := false, narrowed := true }
def ComposeMakesUptoSaid : Prop := composeMakesUptoRow.holds Try.pinned (OpenSpec.upto composeMakesSpec)

/-- 'cobblerlaw.ComposeAlone', WHERE WHAT IT READS IS OF BULK AT MOST 1048576: true; the input reads as it did. -/
def composeAloneUptoRow : OpenClaim := { program := "ytefkfglkpebbmab", sum := "794d6743390f6769acd3408003a507a16fc3a1cfedf5d8f3058a1d8ada8bd85c", func := "cobbler/cobblerlaw.ComposeAlone", spec := "composeAlone", unfollowed := true, recurses := true, apart := false, narrowed := true }
def ComposeAloneUptoSaid : Prop := composeAloneUptoRow.holds Try.pinned (OpenSpec.upto composeAloneSpec)

/-- 'cobblerlaw.PackSays', WHERE WHAT IT READS IS OF BULK AT MOST 1048576: true; the input reads as it did. -/
def packSaysUptoRow : OpenClaim := { program := "ytefkfglkpebbmab", sum := "794d6743390f6769acd3408003a507a16fc3a1cfedf5d8f3058a1d8ada8bd85c", func := "cobbler/cobblerlaw.PackSays", spec := "packSays", inPlace := ["internal/bytealg.MakeNoZero"], unfollowed := true, recurses := true, apart := false, narrowed := true }
def PackSaysUptoSaid : Prop := packSaysUptoRow.holds Try.pinned (OpenSpec.upto packSaysSpec)

/-- 'cobblerlaw.MatchSays', WHERE WHAT IT READS IS OF BULK AT MOST 1048576: true; the input reads as it did. -/
def matchSaysUptoRow : OpenClaim := { program := "ytefkfglkpebbmab", sum := "794d6743390f6769acd3408003a507a16fc3a1cfedf5d8f3058a1d8ada8bd85c", func := "cobbler/cobblerlaw.MatchSays", spec := "matchSays", inPlace := ["internal/bytealg.IndexByte", "internal/bytealg.Index"], named := ["internal/bytealg.MaxLen"], apart := false, narrowed := true }
def MatchSaysUptoSaid : Prop := matchSaysUptoRow.holds Try.pinned (OpenSpec.upto matchSaysSpec)

/-- 'cobblerlaw.MatchMost', WHERE WHAT IT READS IS OF BULK AT MOST 1048576: true; the input reads as it did. -/
def matchMostUptoRow : OpenClaim := { program := "ytefkfglkpebbmab", sum := "794d6743390f6769acd3408003a507a16fc3a1cfedf5d8f3058a1d8ada8bd85c", func := "cobbler/cobblerlaw.MatchMost", spec := "matchMost", inPlace := ["internal/bytealg.IndexByte", "internal/bytealg.Index"], named := ["internal/bytealg.MaxLen"], apart := false, narrowed := true }
def MatchMostUptoSaid : Prop := matchMostUptoRow.holds Try.pinned (OpenSpec.upto matchMostSpec)

/-- 'cobblerlaw.ComposeDiffs', WHERE WHAT IT READS IS OF BULK AT MOST 1048576: true; the input reads as it did. -/
def composeDiffsUptoRow : OpenClaim := { program := "ytefkfglkpebbmab", sum := "794d6743390f6769acd3408003a507a16fc3a1cfedf5d8f3058a1d8ada8bd85c", func := "cobbler/cobblerlaw.ComposeDiffs", spec := "composeDiffs", unfollowed := true, recurses := true, apart := false, narrowed := true }
def ComposeDiffsUptoSaid : Prop := composeDiffsUptoRow.holds Try.pinned (OpenSpec.upto composeDiffsSpec)

/-- 'cobblerlaw.PatchBytes', WHERE WHAT IT READS IS OF BULK AT MOST 1048576: true; the input reads as it did. -/
def patchBytesUptoRow : OpenClaim := { program := "ytefkfglkpebbmab", sum := "794d6743390f6769acd3408003a507a16fc3a1cfedf5d8f3058a1d8ada8bd85c", func := "cobbler/cobblerlaw.PatchBytes", spec := "patchBytes", unfollowed := true, recurses := true, apart := false, narrowed := true }
def PatchBytesUptoSaid : Prop := patchBytesUptoRow.holds Try.pinned (OpenSpec.upto patchBytesSpec)

/-- 'cobblerlaw.PatchBack', WHERE WHAT IT READS IS OF BULK AT MOST 1048576: true; the input reads as it did. -/
def patchBackUptoRow : OpenClaim := { program := "ytefkfglkpebbmab", sum := "794d6743390f6769acd3408003a507a16fc3a1cfedf5d8f3058a1d8ada8bd85c", func := "cobbler/cobblerlaw.PatchBack", spec := "patchBack", unfollowed := true, recurses := true, apart := false, narrowed := true }
def PatchBackUptoSaid : Prop := patchBackUptoRow.holds Try.pinned (OpenSpec.upto patchBackSpec)

end Rows
end Go.Proofs.Ytefkfglkpebbmab
