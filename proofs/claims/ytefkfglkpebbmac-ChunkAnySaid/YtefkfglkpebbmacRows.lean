/-
  No cell of these rows narrows 'for every input' (looked for: loops, veiled, ifaces, maps, wideKeys, modest, calm, conditions, laid).
  DERIVED. THE GIVEN ROWS OF THIS SEAT. 11 by the template 'for every input the law returns true; each argument reads behind the call as it read before'; 0 by the template 'total and deterministic' (their statements: YtefkfglkpebbmacTotals.lean).
  GIVEN WITH THE SEED: the statements are not yours to turn. If you find one false, say at which input.
  Laid BY PROGRAM, IN A SANDBOX (cutbox-rows.mjs): the forced cells as the released guide's own fill.sh prints them over the translation ec24ef43a918f180… (all of the seat's roots in one cut). By AI agents, Wed Nov 11 2026. No macro, syntax, notation, axiom, sorry.
-/
import Derived.Test.YtefkfglkpebbmacChecked
import GoSem.Claim
import GoSem.ClaimJoined
import GoSem.ClaimMapViews
import Derived.JoinedTies
import Derived.KernelRfl
namespace Go.Proofs.Ytefkfglkpebbmac
/- THE CELL 'sum', in the pinned program and in every row, IS THE sha256 OF THE DUMP (.gsa) THAT YtefkfglkpebbmacProg.lean LOADS. Nothing in Lean hashes anything: it is a label: what it is worth is what the hold of that sum in a sandbox is worth. -/
noncomputable def Try.pinned : Pinned := { name := "ytefkfglkpebbmac", sum := "ec24ef43a918f18009feb3d640bb5b8f461b764575bf0ff3fe687e0b01b44e38", checked := Try.checked }
namespace Rows
def none {H : Type} : Left H := { results := [], args := [] }

/-- 'cobblerlaw.DeltaSays': WHATEVER THE INPUT: true; the input reads as it did. -/
def deltaSaysSpec : ChangeSpec := { name := "deltaSays", fn := fun _ => fun
  | [d1, d2, d3, d4, d5, d6] => { results := [.lit (.bool true)], args := [d1, d2, d3, d4, d5, d6] }
  | _ => none }
def deltaSaysRow : OpenClaim := { program := "ytefkfglkpebbmac", sum := "ec24ef43a918f18009feb3d640bb5b8f461b764575bf0ff3fe687e0b01b44e38", func := "cobbler/cobblerlaw.DeltaSays", spec := "deltaSays", inPlace := ["internal/bytealg.IndexByte", "internal/bytealg.Index"], unfollowed := true, recurses := true, named := ["internal/bytealg.MaxLen"], apart := false }
def DeltaSaysSaid : Prop := deltaSaysRow.holds Try.pinned (OpenSpec.ofChange deltaSaysSpec)

/-- ITS FALSE NEIGHBOUR: 'it returns false'. Refute it at one input. -/
def deltaSaysWrong : ChangeSpec := { name := "deltaSays", fn := fun _ => fun
  | [d1, d2, d3, d4, d5, d6] => { results := [.lit (.bool false)], args := [d1, d2, d3, d4, d5, d6] }
  | _ => none }
def DeltaSaysWrongFalsely : Prop := deltaSaysRow.holds Try.pinned (OpenSpec.ofChange deltaSaysWrong)

/-- 'cobblerlaw.PatchSays': WHATEVER THE INPUT: true; the input reads as it did. -/
def patchSaysSpec : ChangeSpec := { name := "patchSays", fn := fun _ => fun
  | [d1, d2, d3, d4, d5, d6] => { results := [.lit (.bool true)], args := [d1, d2, d3, d4, d5, d6] }
  | _ => none }
def patchSaysRow : OpenClaim := { program := "ytefkfglkpebbmac", sum := "ec24ef43a918f18009feb3d640bb5b8f461b764575bf0ff3fe687e0b01b44e38", func := "cobbler/cobblerlaw.PatchSays", spec := "patchSays", inPlace := ["internal/bytealg.IndexByte", "internal/bytealg.Index"], unfollowed := true, recurses := true, named := ["internal/bytealg.MaxLen"], apart := false }
def PatchSaysSaid : Prop := patchSaysRow.holds Try.pinned (OpenSpec.ofChange patchSaysSpec)

/-- ITS FALSE NEIGHBOUR: 'it returns false'. Refute it at one input. -/
def patchSaysWrong : ChangeSpec := { name := "patchSays", fn := fun _ => fun
  | [d1, d2, d3, d4, d5, d6] => { results := [.lit (.bool false)], args := [d1, d2, d3, d4, d5, d6] }
  | _ => none }
def PatchSaysWrongFalsely : Prop := patchSaysRow.holds Try.pinned (OpenSpec.ofChange patchSaysWrong)

/-- 'cobblerlaw.ChunkAny': WHATEVER THE INPUT: true; the input reads as it did. -/
def chunkAnySpec : ChangeSpec := { name := "chunkAny", fn := fun _ => fun
  | [d1, d2] => { results := [.lit (.bool true)], args := [d1, d2] }
  | _ => none }
def chunkAnyRow : OpenClaim := { program := "ytefkfglkpebbmac", sum := "ec24ef43a918f18009feb3d640bb5b8f461b764575bf0ff3fe687e0b01b44e38", func := "cobbler/cobblerlaw.ChunkAny", spec := "chunkAny", inPlace := ["internal/bytealg.IndexByte", "internal/bytealg.Index", "slices.overlaps[cobbler/api.Chunk]"], unfollowed := true, recurses := true, named := ["internal/bytealg.MaxLen"], apart := false }
def ChunkAnySaid : Prop := chunkAnyRow.holds Try.pinned (OpenSpec.ofChange chunkAnySpec)

/-- ITS FALSE NEIGHBOUR: 'it returns false'. Refute it at one input. -/
def chunkAnyWrong : ChangeSpec := { name := "chunkAny", fn := fun _ => fun
  | [d1, d2] => { results := [.lit (.bool false)], args := [d1, d2] }
  | _ => none }
def ChunkAnyWrongFalsely : Prop := chunkAnyRow.holds Try.pinned (OpenSpec.ofChange chunkAnyWrong)

/-- 'cobblerlaw.ChunkOther': WHATEVER THE INPUT: true; the input reads as it did. -/
def chunkOtherSpec : ChangeSpec := { name := "chunkOther", fn := fun _ => fun
  | [d1, d2] => { results := [.lit (.bool true)], args := [d1, d2] }
  | _ => none }
def chunkOtherRow : OpenClaim := { program := "ytefkfglkpebbmac", sum := "ec24ef43a918f18009feb3d640bb5b8f461b764575bf0ff3fe687e0b01b44e38", func := "cobbler/cobblerlaw.ChunkOther", spec := "chunkOther", inPlace := ["slices.overlaps[cobbler/api.Chunk]", "internal/bytealg.IndexByte", "internal/bytealg.Index"], unfollowed := true, recurses := true, named := ["internal/bytealg.MaxLen"], apart := false }
def ChunkOtherSaid : Prop := chunkOtherRow.holds Try.pinned (OpenSpec.ofChange chunkOtherSpec)

/-- ITS FALSE NEIGHBOUR: 'it returns false'. Refute it at one input. -/
def chunkOtherWrong : ChangeSpec := { name := "chunkOther", fn := fun _ => fun
  | [d1, d2] => { results := [.lit (.bool false)], args := [d1, d2] }
  | _ => none }
def ChunkOtherWrongFalsely : Prop := chunkOtherRow.holds Try.pinned (OpenSpec.ofChange chunkOtherWrong)

/-- 'cobblerlaw.ChunkSays': WHATEVER THE INPUT: true; the input reads as it did. -/
def chunkSaysSpec : ChangeSpec := { name := "chunkSays", fn := fun _ => fun
  | [d1, d2, d3, d4] => { results := [.lit (.bool true)], args := [d1, d2, d3, d4] }
  | _ => none }
def chunkSaysRow : OpenClaim := { program := "ytefkfglkpebbmac", sum := "ec24ef43a918f18009feb3d640bb5b8f461b764575bf0ff3fe687e0b01b44e38", func := "cobbler/cobblerlaw.ChunkSays", spec := "chunkSays", inPlace := ["slices.overlaps[cobbler/api.Chunk]", "internal/bytealg.MakeNoZero", "internal/bytealg.IndexByte", "internal/bytealg.Index"], unfollowed := true, recurses := true, named := ["internal/bytealg.MaxLen"], apart := false }
def ChunkSaysSaid : Prop := chunkSaysRow.holds Try.pinned (OpenSpec.ofChange chunkSaysSpec)

/-- ITS FALSE NEIGHBOUR: 'it returns false'. Refute it at one input. -/
def chunkSaysWrong : ChangeSpec := { name := "chunkSays", fn := fun _ => fun
  | [d1, d2, d3, d4] => { results := [.lit (.bool false)], args := [d1, d2, d3, d4] }
  | _ => none }
def ChunkSaysWrongFalsely : Prop := chunkSaysRow.holds Try.pinned (OpenSpec.ofChange chunkSaysWrong)

/-- 'cobblerlaw.DeviceHolds': WHATEVER THE INPUT: true; the input reads as it did. -/
def deviceHoldsSpec : ChangeSpec := { name := "deviceHolds", fn := fun _ => fun
  | [d1, d2, d3, d4] => { results := [.lit (.bool true)], args := [d1, d2, d3, d4] }
  | _ => none }
def deviceHoldsRow : OpenClaim := { program := "ytefkfglkpebbmac", sum := "ec24ef43a918f18009feb3d640bb5b8f461b764575bf0ff3fe687e0b01b44e38", func := "cobbler/cobblerlaw.DeviceHolds", spec := "deviceHolds", inPlace := ["internal/bytealg.IndexByte", "internal/bytealg.Index", "slices.overlaps[cobbler/api.Chunk]"], unfollowed := true, recurses := true, named := ["internal/bytealg.MaxLen"], apart := false }
def DeviceHoldsSaid : Prop := deviceHoldsRow.holds Try.pinned (OpenSpec.ofChange deviceHoldsSpec)

/-- ITS FALSE NEIGHBOUR: 'it returns false'. Refute it at one input. -/
def deviceHoldsWrong : ChangeSpec := { name := "deviceHolds", fn := fun _ => fun
  | [d1, d2, d3, d4] => { results := [.lit (.bool false)], args := [d1, d2, d3, d4] }
  | _ => none }
def DeviceHoldsWrongFalsely : Prop := deviceHoldsRow.holds Try.pinned (OpenSpec.ofChange deviceHoldsWrong)

/-- 'cobblerlaw.DeviceInstalls': WHATEVER THE INPUT: true; the input reads as it did. -/
def deviceInstallsSpec : ChangeSpec := { name := "deviceInstalls", fn := fun _ => fun
  | [d1, d2, d3, d4, d5] => { results := [.lit (.bool true)], args := [d1, d2, d3, d4, d5] }
  | _ => none }
def deviceInstallsRow : OpenClaim := { program := "ytefkfglkpebbmac", sum := "ec24ef43a918f18009feb3d640bb5b8f461b764575bf0ff3fe687e0b01b44e38", func := "cobbler/cobblerlaw.DeviceInstalls", spec := "deviceInstalls", inPlace := ["internal/bytealg.IndexByte", "internal/bytealg.Index", "slices.overlaps[cobbler/api.Chunk]"], unfollowed := true, recurses := true, named := ["internal/bytealg.MaxLen"], apart := false }
def DeviceInstallsSaid : Prop := deviceInstallsRow.holds Try.pinned (OpenSpec.ofChange deviceInstallsSpec)

/-- ITS FALSE NEIGHBOUR: 'it returns false'. Refute it at one input. -/
def deviceInstallsWrong : ChangeSpec := { name := "deviceInstalls", fn := fun _ => fun
  | [d1, d2, d3, d4, d5] => { results := [.lit (.bool false)], args := [d1, d2, d3, d4, d5] }
  | _ => none }
def DeviceInstallsWrongFalsely : Prop := deviceInstallsRow.holds Try.pinned (OpenSpec.ofChange deviceInstallsWrong)

/-- 'cobblerlaw.DeviceTries': WHATEVER THE INPUT: true; the input reads as it did. -/
def deviceTriesSpec : ChangeSpec := { name := "deviceTries", fn := fun _ => fun
  | [d1, d2] => { results := [.lit (.bool true)], args := [d1, d2] }
  | _ => none }
def deviceTriesRow : OpenClaim := { program := "ytefkfglkpebbmac", sum := "ec24ef43a918f18009feb3d640bb5b8f461b764575bf0ff3fe687e0b01b44e38", func := "cobbler/cobblerlaw.DeviceTries", spec := "deviceTries", inPlace := ["internal/bytealg.IndexByte", "internal/bytealg.Index", "slices.overlaps[cobbler/api.Chunk]"], unfollowed := true, recurses := true, named := ["internal/bytealg.MaxLen"], apart := false }
def DeviceTriesSaid : Prop := deviceTriesRow.holds Try.pinned (OpenSpec.ofChange deviceTriesSpec)

/-- ITS FALSE NEIGHBOUR: 'it returns false'. Refute it at one input. -/
def deviceTriesWrong : ChangeSpec := { name := "deviceTries", fn := fun _ => fun
  | [d1, d2] => { results := [.lit (.bool false)], args := [d1, d2] }
  | _ => none }
def DeviceTriesWrongFalsely : Prop := deviceTriesRow.holds Try.pinned (OpenSpec.ofChange deviceTriesWrong)

/-- 'cobblerlaw.WorldParts': WHATEVER THE INPUT: true; the input reads as it did. -/
def worldPartsSpec : ChangeSpec := { name := "worldParts", fn := fun _ => fun
  | [d1, d2, d3] => { results := [.lit (.bool true)], args := [d1, d2, d3] }
  | _ => none }
def worldPartsRow : OpenClaim := { program := "ytefkfglkpebbmac", sum := "ec24ef43a918f18009feb3d640bb5b8f461b764575bf0ff3fe687e0b01b44e38", func := "cobbler/cobblerlaw.WorldParts", spec := "worldParts", inPlace := ["slices.overlaps[cobbler/api.Chunk]"], unfollowed := true, recurses := true, apart := false }
def WorldPartsSaid : Prop := worldPartsRow.holds Try.pinned (OpenSpec.ofChange worldPartsSpec)

/-- ITS FALSE NEIGHBOUR: 'it returns false'. Refute it at one input. -/
def worldPartsWrong : ChangeSpec := { name := "worldParts", fn := fun _ => fun
  | [d1, d2, d3] => { results := [.lit (.bool false)], args := [d1, d2, d3] }
  | _ => none }
def WorldPartsWrongFalsely : Prop := worldPartsRow.holds Try.pinned (OpenSpec.ofChange worldPartsWrong)

/-- 'cobblerlaw.StoryAlways': WHATEVER THE INPUT: true; the input reads as it did. -/
def storyAlwaysSpec : ChangeSpec := { name := "storyAlways", fn := fun _ => fun
  | [d1, d2] => { results := [.lit (.bool true)], args := [d1, d2] }
  | _ => none }
def storyAlwaysRow : OpenClaim := { program := "ytefkfglkpebbmac", sum := "ec24ef43a918f18009feb3d640bb5b8f461b764575bf0ff3fe687e0b01b44e38", func := "cobbler/cobblerlaw.StoryAlways", spec := "storyAlways", inPlace := ["slices.overlaps[cobbler/api.Chunk]"], unfollowed := true, recurses := true, apart := false }
def StoryAlwaysSaid : Prop := storyAlwaysRow.holds Try.pinned (OpenSpec.ofChange storyAlwaysSpec)

/-- ITS FALSE NEIGHBOUR: 'it returns false'. Refute it at one input. -/
def storyAlwaysWrong : ChangeSpec := { name := "storyAlways", fn := fun _ => fun
  | [d1, d2] => { results := [.lit (.bool false)], args := [d1, d2] }
  | _ => none }
def StoryAlwaysWrongFalsely : Prop := storyAlwaysRow.holds Try.pinned (OpenSpec.ofChange storyAlwaysWrong)

/-- 'cobblerlaw.WorldKeeps': WHATEVER THE INPUT: true; the input reads as it did. -/
def worldKeepsSpec : ChangeSpec := { name := "worldKeeps", fn := fun _ => fun
  | [d1, d2] => { results := [.lit (.bool true)], args := [d1, d2] }
  | _ => none }
def worldKeepsRow : OpenClaim := { program := "ytefkfglkpebbmac", sum := "ec24ef43a918f18009feb3d640bb5b8f461b764575bf0ff3fe687e0b01b44e38", func := "cobbler/cobblerlaw.WorldKeeps", spec := "worldKeeps", inPlace := ["slices.overlaps[cobbler/api.Chunk]"], unfollowed := true, recurses := true, apart := false }
def WorldKeepsSaid : Prop := worldKeepsRow.holds Try.pinned (OpenSpec.ofChange worldKeepsSpec)

/-- ITS FALSE NEIGHBOUR: 'it returns false'. Refute it at one input. -/
def worldKeepsWrong : ChangeSpec := { name := "worldKeeps", fn := fun _ => fun
  | [d1, d2] => { results := [.lit (.bool false)], args := [d1, d2] }
  | _ => none }
def WorldKeepsWrongFalsely : Prop := worldKeepsRow.holds Try.pinned (OpenSpec.ofChange worldKeepsWrong)

/- THE SECOND FORM. 'bulk': how many values and letters a reading holds, each counted each time it is reached (what is shared counts as often as it is met; a slice's spare places count too). A statement '..UptoSaid' is the law's where the arguments, and the package variables that the reading takes, are together of bulk at most 1048576: NARROWER than '..Said'. Prove '..Said' where nothing that the law and all that it calls make is longer than what came in: it says more and counts as full. Else prove '..UptoSaid'. A law counts once. -/
mutual
def uptoBulk {H : Type} : DataW H → Nat
  | .lit (.string bytes) => bytes.length + 1
  | .lit _ => 1
  | .nil => 1
  | .ptr d => uptoBulk d + 1
  | .slice elems spare => uptoBulkAll elems + uptoBulkAll spare + 1
  | .agg parts => uptoBulkAll parts + 1
  | .iface _ d => uptoBulk d + 1
  | .map entries => uptoBulkEntries entries + 1
  | .held _ => 1
def uptoBulkAll {H : Type} : List (DataW H) → Nat
  | [] => 0
  | d :: r => uptoBulk d + uptoBulkAll r
def uptoBulkEntries {H : Type} : List (Lit × DataW H) → Nat
  | [] => 0
  | x :: r => uptoBulkEntry x + uptoBulkEntries r
def uptoBulkEntry {H : Type} : Lit × DataW H → Nat
  | (.string bytes, d) => bytes.length + uptoBulk d + 1
  | (_, d) => uptoBulk d + 1
 end
def uptoSmall : (H : Type) → List (DataW H) → Bool := fun _ ds => decide (uptoBulkAll ds ≤ 1048576)
def OpenSpec.upto (s : _root_.Go.ChangeSpec) : _root_.Go.OpenSpec := { _root_.Go.OpenSpec.ofChange s with cond := some uptoSmall }

/-- 'cobblerlaw.DeltaSays', WHERE WHAT IT READS IS OF BULK AT MOST 1048576: true; the input reads as it did. -/
def deltaSaysUptoRow : OpenClaim := { program := "ytefkfglkpebbmac", sum := "ec24ef43a918f18009feb3d640bb5b8f461b764575bf0ff3fe687e0b01b44e38", func := "cobbler/cobblerlaw.DeltaSays", spec := "deltaSays", inPlace := ["internal/bytealg.IndexByte", "internal/bytealg.Index"], unfollowed := true, recurses := true, named := ["internal/bytealg.MaxLen"], apart := false, narrowed := true }
def DeltaSaysUptoSaid : Prop := deltaSaysUptoRow.holds Try.pinned (OpenSpec.upto deltaSaysSpec)

/-- 'cobblerlaw.PatchSays', WHERE WHAT IT READS IS OF BULK AT MOST 1048576: true; the input reads as it did. -/
def patchSaysUptoRow : OpenClaim := { program := "ytefkfglkpebbmac", sum := "ec24ef43a918f18009feb3d640bb5b8f461b764575bf0ff3fe687e0b01b44e38", func := "cobbler/cobblerlaw.PatchSays", spec := "patchSays", inPlace := ["internal/bytealg.IndexByte", "internal/bytealg.Index"], unfollowed := true, recurses := true, named := ["internal/bytealg.MaxLen"], apart := false, narrowed := true }
def PatchSaysUptoSaid : Prop := patchSaysUptoRow.holds Try.pinned (OpenSpec.upto patchSaysSpec)

/-- 'cobblerlaw.ChunkAny', WHERE WHAT IT READS IS OF BULK AT MOST 1048576: true; the input reads as it did. -/
def chunkAnyUptoRow : OpenClaim := { program := "ytefkfglkpebbmac", sum := "ec24ef43a918f18009feb3d640bb5b8f461b764575bf0ff3fe687e0b01b44e38", func := "cobbler/cobblerlaw.ChunkAny", spec := "chunkAny", inPlace := ["internal/bytealg.IndexByte", "internal/bytealg.Index", "slices.overlaps[cobbler/api.Chunk]"], unfollowed := true, recurses := true, named := ["internal/bytealg.MaxLen"], apart := false, narrowed := true }
def ChunkAnyUptoSaid : Prop := chunkAnyUptoRow.holds Try.pinned (OpenSpec.upto chunkAnySpec)

/-- 'cobblerlaw.ChunkOther', WHERE WHAT IT READS IS OF BULK AT MOST 1048576: true; the input reads as it did. -/
def chunkOtherUptoRow : OpenClaim := { program := "ytefkfglkpebbmac", sum := "ec24ef43a918f18009feb3d640bb5b8f461b764575bf0ff3fe687e0b01b44e38", func := "cobbler/cobblerlaw.ChunkOther", spec := "chunkOther", inPlace := ["slices.overlaps[cobbler/api.Chunk]", "internal/bytealg.IndexByte", "internal/bytealg.Index"], unfollowed := true, recurses := true, named := ["internal/bytealg.MaxLen"], apart := false, narrowed := true }
def ChunkOtherUptoSaid : Prop := chunkOtherUptoRow.holds Try.pinned (OpenSpec.upto chunkOtherSpec)

/-- 'cobblerlaw.ChunkSays', WHERE WHAT IT READS IS OF BULK AT MOST 1048576: true; the input reads as it did. -/
def chunkSaysUptoRow : OpenClaim := { program := "ytefkfglkpebbmac", sum := "ec24ef43a918f18009feb3d640bb5b8f461b764575bf0ff3fe687e0b01b44e38", func := "cobbler/cobblerlaw.ChunkSays", spec := "chunkSays", inPlace := ["slices.overlaps[cobbler/api.Chunk]", "internal/bytealg.MakeNoZero", "internal/bytealg.IndexByte", "internal/bytealg.Index"], unfollowed := true, recurses := true, named := ["internal/bytealg.MaxLen"], apart := false, narrowed := true }
def ChunkSaysUptoSaid : Prop := chunkSaysUptoRow.holds Try.pinned (OpenSpec.upto chunkSaysSpec)

/-- 'cobblerlaw.DeviceHolds', WHERE WHAT IT READS IS OF BULK AT MOST 1048576: true; the input reads as it did. -/
def deviceHoldsUptoRow : OpenClaim := { program := "ytefkfglkpebbmac", sum := "ec24ef43a918f18009feb3d640bb5b8f461b764575bf0ff3fe687e0b01b44e38", func := "cobbler/cobblerlaw.DeviceHolds", spec := "deviceHolds", inPlace := ["internal/bytealg.IndexByte", "internal/bytealg.Index", "slices.overlaps[cobbler/api.Chunk]"], unfollowed := true, recurses := true, named := ["internal/bytealg.MaxLen"], apart := false, narrowed := true }
def DeviceHoldsUptoSaid : Prop := deviceHoldsUptoRow.holds Try.pinned (OpenSpec.upto deviceHoldsSpec)

/-- 'cobblerlaw.DeviceInstalls', WHERE WHAT IT READS IS OF BULK AT MOST 1048576: true; the input reads as it did. -/
def deviceInstallsUptoRow : OpenClaim := { program := "ytefkfglkpebbmac", sum := "ec24ef43a918f18009feb3d640bb5b8f461b764575bf0ff3fe687e0b01b44e38", func := "cobbler/cobblerlaw.DeviceInstalls", spec := "deviceInstalls", inPlace := ["internal/bytealg.IndexByte", "internal/bytealg.Index", "slices.overlaps[cobbler/api.Chunk]"], unfollowed := true, recurses := true, named := ["internal/bytealg.MaxLen"], apart := false, narrowed := true }
def DeviceInstallsUptoSaid : Prop := deviceInstallsUptoRow.holds Try.pinned (OpenSpec.upto deviceInstallsSpec)

/-- 'cobblerlaw.DeviceTries', WHERE WHAT IT READS IS OF BULK AT MOST 1048576: true; the input reads as it did. -/
def deviceTriesUptoRow : OpenClaim := { program := "ytefkfglkpebbmac", sum := "ec24ef43a918f18009feb3d640bb5b8f461b764575bf0ff3fe687e0b01b44e38", func := "cobbler/cobblerlaw.DeviceTries", spec := "deviceTries", inPlace := ["internal/bytealg.IndexByte", "internal/bytealg.Index", "slices.overlaps[cobbler/api.Chunk]"], unfollowed := true, recurses := true, named := ["internal/bytealg.MaxLen"], apart := false, narrowed := true }
def DeviceTriesUptoSaid : Prop := deviceTriesUptoRow.holds Try.pinned (OpenSpec.upto deviceTriesSpec)

/-- 'cobblerlaw.WorldParts', WHERE WHAT IT READS IS OF BULK AT MOST 1048576: true; the input reads as it did. -/
def worldPartsUptoRow : OpenClaim := { program := "ytefkfglkpebbmac", sum := "ec24ef43a918f18009feb3d640bb5b8f461b764575bf0ff3fe687e0b01b44e38", func := "cobbler/cobblerlaw.WorldParts", spec := "worldParts", inPlace := ["slices.overlaps[cobbler/api.Chunk]"], unfollowed := true, recurses := true, apart := false, narrowed := true }
def WorldPartsUptoSaid : Prop := worldPartsUptoRow.holds Try.pinned (OpenSpec.upto worldPartsSpec)

/-- 'cobblerlaw.StoryAlways', WHERE WHAT IT READS IS OF BULK AT MOST 1048576: true; the input reads as it did. -/
def storyAlwaysUptoRow : OpenClaim := { program := "ytefkfglkpebbmac", sum := "ec24ef43a918f18009feb3d640bb5b8f461b764575bf0ff3fe687e0b01b44e38", func := "cobbler/cobblerlaw.StoryAlways", spec := "storyAlways", inPlace := ["slices.overlaps[cobbler/api.Chunk]"], unfollowed := true, recurses := true, apart := false, narrowed := true }
def StoryAlwaysUptoSaid : Prop := storyAlwaysUptoRow.holds Try.pinned (OpenSpec.upto storyAlwaysSpec)

/-- 'cobblerlaw.WorldKeeps', WHERE WHAT IT READS IS OF BULK AT MOST 1048576: true; the input reads as it did. -/
def worldKeepsUptoRow : OpenClaim := { program := "ytefkfglkpebbmac", sum := "ec24ef43a918f18009feb3d640bb5b8f461b764575bf0ff3fe687e0b01b44e38", func := "cobbler/cobblerlaw.WorldKeeps", spec := "worldKeeps", inPlace := ["slices.overlaps[cobbler/api.Chunk]"], unfollowed := true, recurses := true, apart := false, narrowed := true }
def WorldKeepsUptoSaid : Prop := worldKeepsUptoRow.holds Try.pinned (OpenSpec.upto worldKeepsSpec)

end Rows
end Go.Proofs.Ytefkfglkpebbmac
