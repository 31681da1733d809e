/-
  No cell of these rows narrows 'for every input' (looked for: loops, veiled, ifaces, maps, wideKeys, modest, calm, conditions, laid).
  DERIVED. THE GIVEN ROWS OF THIS SEAT. 27 by the template 'for every input the law returns true; each argument reads behind the call as it read before'; 0 by the template 'total and deterministic' (their statements: YtogmbeifbjgphaaTotals.lean).
  GIVEN WITH THE SEED: the statements are not yours to turn. If you find one false, say at which input.
  Laid BY PROGRAM, IN A SANDBOX (cutbox-rows.mjs): the forced cells as the released guide's own fill.sh prints them over the translation 5103c1e32eff85ca… (all of the seat's roots in one cut). By AI agents, Wed Nov 11 2026. No macro, syntax, notation, axiom, sorry.
-/
import Derived.Test.YtogmbeifbjgphaaChecked
import GoSem.Claim
import GoSem.ClaimJoined
import GoSem.ClaimMapViews
import Derived.JoinedTies
import Derived.KernelRfl
namespace Go.Proofs.Ytogmbeifbjgphaa
/- THE CELL 'sum', in the pinned program and in every row, IS THE sha256 OF THE DUMP (.gsa) THAT YtogmbeifbjgphaaProg.lean LOADS. Nothing in Lean hashes anything: it is a label: what it is worth is what the hold of that sum in a sandbox is worth. -/
noncomputable def Try.pinned : Pinned := { name := "ytogmbeifbjgphaa", sum := "5103c1e32eff85ca4019a0df76557b64283699f79d0a9113d6052393fa88d2d0", checked := Try.checked }
namespace Rows
def none {H : Type} : Left H := { results := [], args := [] }

/-- 'laws.FnGraphFull': WHATEVER THE INPUT: true; the input reads as it did. -/
def fnGraphFullSpec : ChangeSpec := { name := "fnGraphFull", fn := fun _ => fun
  | [d] => { results := [.lit (.bool true)], args := [d] }
  | _ => none }
def fnGraphFullRow : OpenClaim := { program := "ytogmbeifbjgphaa", sum := "5103c1e32eff85ca4019a0df76557b64283699f79d0a9113d6052393fa88d2d0", func := "loop.example/hagioscope/laws.FnGraphFull", spec := "fnGraphFull", inPlace := ["slices.overlaps[loop.example/hagioscope/impl.Node]", "slices.overlaps[loop.example/hagioscope/impl.Edge]"], unfollowed := true, recurses := true, apart := false }
def FnGraphFullSaid : Prop := fnGraphFullRow.holds Try.pinned (OpenSpec.ofChange fnGraphFullSpec)

/-- ITS FALSE NEIGHBOUR: 'it returns false'. Refute it at one input. -/
def fnGraphFullWrong : ChangeSpec := { name := "fnGraphFull", fn := fun _ => fun
  | [d] => { results := [.lit (.bool false)], args := [d] }
  | _ => none }
def FnGraphFullWrongFalsely : Prop := fnGraphFullRow.holds Try.pinned (OpenSpec.ofChange fnGraphFullWrong)

/-- 'laws.FnGraphNone': WHATEVER THE INPUT: true; the input reads as it did. -/
def fnGraphNoneSpec : ChangeSpec := { name := "fnGraphNone", fn := fun _ => fun
  | [d] => { results := [.lit (.bool true)], args := [d] }
  | _ => none }
def fnGraphNoneRow : OpenClaim := { program := "ytogmbeifbjgphaa", sum := "5103c1e32eff85ca4019a0df76557b64283699f79d0a9113d6052393fa88d2d0", func := "loop.example/hagioscope/laws.FnGraphNone", spec := "fnGraphNone", inPlace := ["slices.overlaps[loop.example/hagioscope/impl.Node]", "slices.overlaps[loop.example/hagioscope/impl.Edge]"], unfollowed := true, recurses := true, apart := false }
def FnGraphNoneSaid : Prop := fnGraphNoneRow.holds Try.pinned (OpenSpec.ofChange fnGraphNoneSpec)

/-- ITS FALSE NEIGHBOUR: 'it returns false'. Refute it at one input. -/
def fnGraphNoneWrong : ChangeSpec := { name := "fnGraphNone", fn := fun _ => fun
  | [d] => { results := [.lit (.bool false)], args := [d] }
  | _ => none }
def FnGraphNoneWrongFalsely : Prop := fnGraphNoneRow.holds Try.pinned (OpenSpec.ofChange fnGraphNoneWrong)

/-- 'laws.FnGraphOrder': WHATEVER THE INPUT: true; the input reads as it did. -/
def fnGraphOrderSpec : ChangeSpec := { name := "fnGraphOrder", fn := fun _ => fun
  | [d] => { results := [.lit (.bool true)], args := [d] }
  | _ => none }
def fnGraphOrderRow : OpenClaim := { program := "ytogmbeifbjgphaa", sum := "5103c1e32eff85ca4019a0df76557b64283699f79d0a9113d6052393fa88d2d0", func := "loop.example/hagioscope/laws.FnGraphOrder", spec := "fnGraphOrder", inPlace := ["slices.overlaps[loop.example/hagioscope/impl.Node]", "slices.overlaps[loop.example/hagioscope/impl.Edge]"], unfollowed := true, recurses := true, apart := false }
def FnGraphOrderSaid : Prop := fnGraphOrderRow.holds Try.pinned (OpenSpec.ofChange fnGraphOrderSpec)

/-- ITS FALSE NEIGHBOUR: 'it returns false'. Refute it at one input. -/
def fnGraphOrderWrong : ChangeSpec := { name := "fnGraphOrder", fn := fun _ => fun
  | [d] => { results := [.lit (.bool false)], args := [d] }
  | _ => none }
def FnGraphOrderWrongFalsely : Prop := fnGraphOrderRow.holds Try.pinned (OpenSpec.ofChange fnGraphOrderWrong)

/-- 'laws.FnGraph': WHATEVER THE INPUT: true; the input reads as it did. -/
def fnGraphSpec : ChangeSpec := { name := "fnGraph", fn := fun _ => fun
  | [d] => { results := [.lit (.bool true)], args := [d] }
  | _ => none }
def fnGraphRow : OpenClaim := { program := "ytogmbeifbjgphaa", sum := "5103c1e32eff85ca4019a0df76557b64283699f79d0a9113d6052393fa88d2d0", func := "loop.example/hagioscope/laws.FnGraph", spec := "fnGraph", inPlace := ["slices.overlaps[loop.example/hagioscope/impl.Node]", "slices.overlaps[loop.example/hagioscope/impl.Edge]"], unfollowed := true, recurses := true, apart := false }
def FnGraphSaid : Prop := fnGraphRow.holds Try.pinned (OpenSpec.ofChange fnGraphSpec)

/-- ITS FALSE NEIGHBOUR: 'it returns false'. Refute it at one input. -/
def fnGraphWrong : ChangeSpec := { name := "fnGraph", fn := fun _ => fun
  | [d] => { results := [.lit (.bool false)], args := [d] }
  | _ => none }
def FnGraphWrongFalsely : Prop := fnGraphRow.holds Try.pinned (OpenSpec.ofChange fnGraphWrong)

/-- 'laws.FnGraphBack': WHATEVER THE INPUT: true; the input reads as it did. -/
def fnGraphBackSpec : ChangeSpec := { name := "fnGraphBack", fn := fun _ => fun
  | [d] => { results := [.lit (.bool true)], args := [d] }
  | _ => none }
def fnGraphBackRow : OpenClaim := { program := "ytogmbeifbjgphaa", sum := "5103c1e32eff85ca4019a0df76557b64283699f79d0a9113d6052393fa88d2d0", func := "loop.example/hagioscope/laws.FnGraphBack", spec := "fnGraphBack", inPlace := ["slices.overlaps[loop.example/hagioscope/impl.Node]", "slices.overlaps[loop.example/hagioscope/impl.Edge]"], unfollowed := true, recurses := true, apart := false }
def FnGraphBackSaid : Prop := fnGraphBackRow.holds Try.pinned (OpenSpec.ofChange fnGraphBackSpec)

/-- ITS FALSE NEIGHBOUR: 'it returns false'. Refute it at one input. -/
def fnGraphBackWrong : ChangeSpec := { name := "fnGraphBack", fn := fun _ => fun
  | [d] => { results := [.lit (.bool false)], args := [d] }
  | _ => none }
def FnGraphBackWrongFalsely : Prop := fnGraphBackRow.holds Try.pinned (OpenSpec.ofChange fnGraphBackWrong)

/-- 'laws.FnGraphSwap': WHATEVER THE INPUT: true; the input reads as it did. -/
def fnGraphSwapSpec : ChangeSpec := { name := "fnGraphSwap", fn := fun _ => fun
  | [d1, d2] => { results := [.lit (.bool true)], args := [d1, d2] }
  | _ => none }
def fnGraphSwapRow : OpenClaim := { program := "ytogmbeifbjgphaa", sum := "5103c1e32eff85ca4019a0df76557b64283699f79d0a9113d6052393fa88d2d0", func := "loop.example/hagioscope/laws.FnGraphSwap", spec := "fnGraphSwap", inPlace := ["slices.overlaps[loop.example/hagioscope/impl.Node]", "slices.overlaps[loop.example/hagioscope/impl.Edge]"], unfollowed := true, recurses := true, apart := false }
def FnGraphSwapSaid : Prop := fnGraphSwapRow.holds Try.pinned (OpenSpec.ofChange fnGraphSwapSpec)

/-- ITS FALSE NEIGHBOUR: 'it returns false'. Refute it at one input. -/
def fnGraphSwapWrong : ChangeSpec := { name := "fnGraphSwap", fn := fun _ => fun
  | [d1, d2] => { results := [.lit (.bool false)], args := [d1, d2] }
  | _ => none }
def FnGraphSwapWrongFalsely : Prop := fnGraphSwapRow.holds Try.pinned (OpenSpec.ofChange fnGraphSwapWrong)

/-- 'laws.FnGraphSeen': WHATEVER THE INPUT: true; the input reads as it did. -/
def fnGraphSeenSpec : ChangeSpec := { name := "fnGraphSeen", fn := fun _ => fun
  | [d1, d2] => { results := [.lit (.bool true)], args := [d1, d2] }
  | _ => none }
def fnGraphSeenRow : OpenClaim := { program := "ytogmbeifbjgphaa", sum := "5103c1e32eff85ca4019a0df76557b64283699f79d0a9113d6052393fa88d2d0", func := "loop.example/hagioscope/laws.FnGraphSeen", spec := "fnGraphSeen", inPlace := ["slices.overlaps[loop.example/hagioscope/impl.Node]", "slices.overlaps[loop.example/hagioscope/impl.Edge]"], unfollowed := true, recurses := true, apart := false }
def FnGraphSeenSaid : Prop := fnGraphSeenRow.holds Try.pinned (OpenSpec.ofChange fnGraphSeenSpec)

/-- ITS FALSE NEIGHBOUR: 'it returns false'. Refute it at one input. -/
def fnGraphSeenWrong : ChangeSpec := { name := "fnGraphSeen", fn := fun _ => fun
  | [d1, d2] => { results := [.lit (.bool false)], args := [d1, d2] }
  | _ => none }
def FnGraphSeenWrongFalsely : Prop := fnGraphSeenRow.holds Try.pinned (OpenSpec.ofChange fnGraphSeenWrong)

/-- 'laws.FnGraphNear': WHATEVER THE INPUT: true; the input reads as it did. -/
def fnGraphNearSpec : ChangeSpec := { name := "fnGraphNear", fn := fun _ => fun
  | [d1, d2] => { results := [.lit (.bool true)], args := [d1, d2] }
  | _ => none }
def fnGraphNearRow : OpenClaim := { program := "ytogmbeifbjgphaa", sum := "5103c1e32eff85ca4019a0df76557b64283699f79d0a9113d6052393fa88d2d0", func := "loop.example/hagioscope/laws.FnGraphNear", spec := "fnGraphNear", unfollowed := true, recurses := true, apart := false }
def FnGraphNearSaid : Prop := fnGraphNearRow.holds Try.pinned (OpenSpec.ofChange fnGraphNearSpec)

/-- ITS FALSE NEIGHBOUR: 'it returns false'. Refute it at one input. -/
def fnGraphNearWrong : ChangeSpec := { name := "fnGraphNear", fn := fun _ => fun
  | [d1, d2] => { results := [.lit (.bool false)], args := [d1, d2] }
  | _ => none }
def FnGraphNearWrongFalsely : Prop := fnGraphNearRow.holds Try.pinned (OpenSpec.ofChange fnGraphNearWrong)

/-- 'laws.FnExactSegOf': WHATEVER THE INPUT: true; the input reads as it did. -/
def fnExactSegOfSpec : ChangeSpec := { name := "fnExactSegOf", fn := fun _ => fun
  | [d1, d2] => { results := [.lit (.bool true)], args := [d1, d2] }
  | _ => none }
def fnExactSegOfRow : OpenClaim := { program := "ytogmbeifbjgphaa", sum := "5103c1e32eff85ca4019a0df76557b64283699f79d0a9113d6052393fa88d2d0", func := "loop.example/hagioscope/laws.FnExactSegOf", spec := "fnExactSegOf", unfollowed := true, recurses := true, apart := false }
def FnExactSegOfSaid : Prop := fnExactSegOfRow.holds Try.pinned (OpenSpec.ofChange fnExactSegOfSpec)

/-- ITS FALSE NEIGHBOUR: 'it returns false'. Refute it at one input. -/
def fnExactSegOfWrong : ChangeSpec := { name := "fnExactSegOf", fn := fun _ => fun
  | [d1, d2] => { results := [.lit (.bool false)], args := [d1, d2] }
  | _ => none }
def FnExactSegOfWrongFalsely : Prop := fnExactSegOfRow.holds Try.pinned (OpenSpec.ofChange fnExactSegOfWrong)

/-- 'laws.FnWalkThrees': WHATEVER THE INPUT: true; the input reads as it did. -/
def fnWalkThreesSpec : ChangeSpec := { name := "fnWalkThrees", fn := fun _ => fun
  | [d] => { results := [.lit (.bool true)], args := [d] }
  | _ => none }
def fnWalkThreesRow : OpenClaim := { program := "ytogmbeifbjgphaa", sum := "5103c1e32eff85ca4019a0df76557b64283699f79d0a9113d6052393fa88d2d0", func := "loop.example/hagioscope/laws.FnWalkThrees", spec := "fnWalkThrees", unfollowed := true, recurses := true, apart := false }
def FnWalkThreesSaid : Prop := fnWalkThreesRow.holds Try.pinned (OpenSpec.ofChange fnWalkThreesSpec)

/-- ITS FALSE NEIGHBOUR: 'it returns false'. Refute it at one input. -/
def fnWalkThreesWrong : ChangeSpec := { name := "fnWalkThrees", fn := fun _ => fun
  | [d] => { results := [.lit (.bool false)], args := [d] }
  | _ => none }
def FnWalkThreesWrongFalsely : Prop := fnWalkThreesRow.holds Try.pinned (OpenSpec.ofChange fnWalkThreesWrong)

/-- 'laws.FnWalkDist': WHATEVER THE INPUT: true; the input reads as it did. -/
def fnWalkDistSpec : ChangeSpec := { name := "fnWalkDist", fn := fun _ => fun
  | [d] => { results := [.lit (.bool true)], args := [d] }
  | _ => none }
def fnWalkDistRow : OpenClaim := { program := "ytogmbeifbjgphaa", sum := "5103c1e32eff85ca4019a0df76557b64283699f79d0a9113d6052393fa88d2d0", func := "loop.example/hagioscope/laws.FnWalkDist", spec := "fnWalkDist", unfollowed := true, recurses := true, apart := false }
def FnWalkDistSaid : Prop := fnWalkDistRow.holds Try.pinned (OpenSpec.ofChange fnWalkDistSpec)

/-- ITS FALSE NEIGHBOUR: 'it returns false'. Refute it at one input. -/
def fnWalkDistWrong : ChangeSpec := { name := "fnWalkDist", fn := fun _ => fun
  | [d] => { results := [.lit (.bool false)], args := [d] }
  | _ => none }
def FnWalkDistWrongFalsely : Prop := fnWalkDistRow.holds Try.pinned (OpenSpec.ofChange fnWalkDistWrong)

/-- 'laws.FnWalkTurn': WHATEVER THE INPUT: true; the input reads as it did. -/
def fnWalkTurnSpec : ChangeSpec := { name := "fnWalkTurn", fn := fun _ => fun
  | [d] => { results := [.lit (.bool true)], args := [d] }
  | _ => none }
def fnWalkTurnRow : OpenClaim := { program := "ytogmbeifbjgphaa", sum := "5103c1e32eff85ca4019a0df76557b64283699f79d0a9113d6052393fa88d2d0", func := "loop.example/hagioscope/laws.FnWalkTurn", spec := "fnWalkTurn", unfollowed := true, recurses := true, apart := false }
def FnWalkTurnSaid : Prop := fnWalkTurnRow.holds Try.pinned (OpenSpec.ofChange fnWalkTurnSpec)

/-- ITS FALSE NEIGHBOUR: 'it returns false'. Refute it at one input. -/
def fnWalkTurnWrong : ChangeSpec := { name := "fnWalkTurn", fn := fun _ => fun
  | [d] => { results := [.lit (.bool false)], args := [d] }
  | _ => none }
def FnWalkTurnWrongFalsely : Prop := fnWalkTurnRow.holds Try.pinned (OpenSpec.ofChange fnWalkTurnWrong)

/-- 'laws.FnWalkFar': WHATEVER THE INPUT: true; the input reads as it did. -/
def fnWalkFarSpec : ChangeSpec := { name := "fnWalkFar", fn := fun _ => fun
  | [d] => { results := [.lit (.bool true)], args := [d] }
  | _ => none }
def fnWalkFarRow : OpenClaim := { program := "ytogmbeifbjgphaa", sum := "5103c1e32eff85ca4019a0df76557b64283699f79d0a9113d6052393fa88d2d0", func := "loop.example/hagioscope/laws.FnWalkFar", spec := "fnWalkFar", unfollowed := true, recurses := true, apart := false }
def FnWalkFarSaid : Prop := fnWalkFarRow.holds Try.pinned (OpenSpec.ofChange fnWalkFarSpec)

/-- ITS FALSE NEIGHBOUR: 'it returns false'. Refute it at one input. -/
def fnWalkFarWrong : ChangeSpec := { name := "fnWalkFar", fn := fun _ => fun
  | [d] => { results := [.lit (.bool false)], args := [d] }
  | _ => none }
def FnWalkFarWrongFalsely : Prop := fnWalkFarRow.holds Try.pinned (OpenSpec.ofChange fnWalkFarWrong)

/-- 'laws.FnWalkSum': WHATEVER THE INPUT: true; the input reads as it did. -/
def fnWalkSumSpec : ChangeSpec := { name := "fnWalkSum", fn := fun _ => fun
  | [d] => { results := [.lit (.bool true)], args := [d] }
  | _ => none }
def fnWalkSumRow : OpenClaim := { program := "ytogmbeifbjgphaa", sum := "5103c1e32eff85ca4019a0df76557b64283699f79d0a9113d6052393fa88d2d0", func := "loop.example/hagioscope/laws.FnWalkSum", spec := "fnWalkSum", unfollowed := true, recurses := true, apart := false }
def FnWalkSumSaid : Prop := fnWalkSumRow.holds Try.pinned (OpenSpec.ofChange fnWalkSumSpec)

/-- ITS FALSE NEIGHBOUR: 'it returns false'. Refute it at one input. -/
def fnWalkSumWrong : ChangeSpec := { name := "fnWalkSum", fn := fun _ => fun
  | [d] => { results := [.lit (.bool false)], args := [d] }
  | _ => none }
def FnWalkSumWrongFalsely : Prop := fnWalkSumRow.holds Try.pinned (OpenSpec.ofChange fnWalkSumWrong)

/-- 'laws.FnWalkParts': WHATEVER THE INPUT: true; the input reads as it did. -/
def fnWalkPartsSpec : ChangeSpec := { name := "fnWalkParts", fn := fun _ => fun
  | [d] => { results := [.lit (.bool true)], args := [d] }
  | _ => none }
def fnWalkPartsRow : OpenClaim := { program := "ytogmbeifbjgphaa", sum := "5103c1e32eff85ca4019a0df76557b64283699f79d0a9113d6052393fa88d2d0", func := "loop.example/hagioscope/laws.FnWalkParts", spec := "fnWalkParts", unfollowed := true, recurses := true, apart := false }
def FnWalkPartsSaid : Prop := fnWalkPartsRow.holds Try.pinned (OpenSpec.ofChange fnWalkPartsSpec)

/-- ITS FALSE NEIGHBOUR: 'it returns false'. Refute it at one input. -/
def fnWalkPartsWrong : ChangeSpec := { name := "fnWalkParts", fn := fun _ => fun
  | [d] => { results := [.lit (.bool false)], args := [d] }
  | _ => none }
def FnWalkPartsWrongFalsely : Prop := fnWalkPartsRow.holds Try.pinned (OpenSpec.ofChange fnWalkPartsWrong)

/-- 'laws.FnWalkSelf': WHATEVER THE INPUT: true; the input reads as it did. -/
def fnWalkSelfSpec : ChangeSpec := { name := "fnWalkSelf", fn := fun _ => fun
  | [d] => { results := [.lit (.bool true)], args := [d] }
  | _ => none }
def fnWalkSelfRow : OpenClaim := { program := "ytogmbeifbjgphaa", sum := "5103c1e32eff85ca4019a0df76557b64283699f79d0a9113d6052393fa88d2d0", func := "loop.example/hagioscope/laws.FnWalkSelf", spec := "fnWalkSelf", unfollowed := true, recurses := true, apart := false }
def FnWalkSelfSaid : Prop := fnWalkSelfRow.holds Try.pinned (OpenSpec.ofChange fnWalkSelfSpec)

/-- ITS FALSE NEIGHBOUR: 'it returns false'. Refute it at one input. -/
def fnWalkSelfWrong : ChangeSpec := { name := "fnWalkSelf", fn := fun _ => fun
  | [d] => { results := [.lit (.bool false)], args := [d] }
  | _ => none }
def FnWalkSelfWrongFalsely : Prop := fnWalkSelfRow.holds Try.pinned (OpenSpec.ofChange fnWalkSelfWrong)

/-- 'laws.FnWalkThree': WHATEVER THE INPUT: true; the input reads as it did. -/
def fnWalkThreeSpec : ChangeSpec := { name := "fnWalkThree", fn := fun _ => fun
  | [d] => { results := [.lit (.bool true)], args := [d] }
  | _ => none }
def fnWalkThreeRow : OpenClaim := { program := "ytogmbeifbjgphaa", sum := "5103c1e32eff85ca4019a0df76557b64283699f79d0a9113d6052393fa88d2d0", func := "loop.example/hagioscope/laws.FnWalkThree", spec := "fnWalkThree", unfollowed := true, recurses := true, apart := false }
def FnWalkThreeSaid : Prop := fnWalkThreeRow.holds Try.pinned (OpenSpec.ofChange fnWalkThreeSpec)

/-- ITS FALSE NEIGHBOUR: 'it returns false'. Refute it at one input. -/
def fnWalkThreeWrong : ChangeSpec := { name := "fnWalkThree", fn := fun _ => fun
  | [d] => { results := [.lit (.bool false)], args := [d] }
  | _ => none }
def FnWalkThreeWrongFalsely : Prop := fnWalkThreeRow.holds Try.pinned (OpenSpec.ofChange fnWalkThreeWrong)

/-- 'laws.FnWalkPath': WHATEVER THE INPUT: true; the input reads as it did. -/
def fnWalkPathSpec : ChangeSpec := { name := "fnWalkPath", fn := fun _ => fun
  | [d] => { results := [.lit (.bool true)], args := [d] }
  | _ => none }
def fnWalkPathRow : OpenClaim := { program := "ytogmbeifbjgphaa", sum := "5103c1e32eff85ca4019a0df76557b64283699f79d0a9113d6052393fa88d2d0", func := "loop.example/hagioscope/laws.FnWalkPath", spec := "fnWalkPath", unfollowed := true, recurses := true, apart := false }
def FnWalkPathSaid : Prop := fnWalkPathRow.holds Try.pinned (OpenSpec.ofChange fnWalkPathSpec)

/-- ITS FALSE NEIGHBOUR: 'it returns false'. Refute it at one input. -/
def fnWalkPathWrong : ChangeSpec := { name := "fnWalkPath", fn := fun _ => fun
  | [d] => { results := [.lit (.bool false)], args := [d] }
  | _ => none }
def FnWalkPathWrongFalsely : Prop := fnWalkPathRow.holds Try.pinned (OpenSpec.ofChange fnWalkPathWrong)

/-- 'laws.FnWalkVia': WHATEVER THE INPUT: true; the input reads as it did. -/
def fnWalkViaSpec : ChangeSpec := { name := "fnWalkVia", fn := fun _ => fun
  | [d1, d2] => { results := [.lit (.bool true)], args := [d1, d2] }
  | _ => none }
def fnWalkViaRow : OpenClaim := { program := "ytogmbeifbjgphaa", sum := "5103c1e32eff85ca4019a0df76557b64283699f79d0a9113d6052393fa88d2d0", func := "loop.example/hagioscope/laws.FnWalkVia", spec := "fnWalkVia", unfollowed := true, recurses := true, apart := false }
def FnWalkViaSaid : Prop := fnWalkViaRow.holds Try.pinned (OpenSpec.ofChange fnWalkViaSpec)

/-- ITS FALSE NEIGHBOUR: 'it returns false'. Refute it at one input. -/
def fnWalkViaWrong : ChangeSpec := { name := "fnWalkVia", fn := fun _ => fun
  | [d1, d2] => { results := [.lit (.bool false)], args := [d1, d2] }
  | _ => none }
def FnWalkViaWrongFalsely : Prop := fnWalkViaRow.holds Try.pinned (OpenSpec.ofChange fnWalkViaWrong)

/-- 'laws.FnExactStoreOf': WHATEVER THE INPUT: true; the input reads as it did. -/
def fnExactStoreOfSpec : ChangeSpec := { name := "fnExactStoreOf", fn := fun _ => fun
  | [d] => { results := [.lit (.bool true)], args := [d] }
  | _ => none }
def fnExactStoreOfRow : OpenClaim := { program := "ytogmbeifbjgphaa", sum := "5103c1e32eff85ca4019a0df76557b64283699f79d0a9113d6052393fa88d2d0", func := "loop.example/hagioscope/laws.FnExactStoreOf", spec := "fnExactStoreOf", unfollowed := true, recurses := true, apart := false }
def FnExactStoreOfSaid : Prop := fnExactStoreOfRow.holds Try.pinned (OpenSpec.ofChange fnExactStoreOfSpec)

/-- ITS FALSE NEIGHBOUR: 'it returns false'. Refute it at one input. -/
def fnExactStoreOfWrong : ChangeSpec := { name := "fnExactStoreOf", fn := fun _ => fun
  | [d] => { results := [.lit (.bool false)], args := [d] }
  | _ => none }
def FnExactStoreOfWrongFalsely : Prop := fnExactStoreOfRow.holds Try.pinned (OpenSpec.ofChange fnExactStoreOfWrong)

/-- 'laws.FnStoreLabels': WHATEVER THE INPUT: true; the input reads as it did. -/
def fnStoreLabelsSpec : ChangeSpec := { name := "fnStoreLabels", fn := fun _ => fun
  | [d] => { results := [.lit (.bool true)], args := [d] }
  | _ => none }
def fnStoreLabelsRow : OpenClaim := { program := "ytogmbeifbjgphaa", sum := "5103c1e32eff85ca4019a0df76557b64283699f79d0a9113d6052393fa88d2d0", func := "loop.example/hagioscope/laws.FnStoreLabels", spec := "fnStoreLabels", unfollowed := true, recurses := true, apart := false }
def FnStoreLabelsSaid : Prop := fnStoreLabelsRow.holds Try.pinned (OpenSpec.ofChange fnStoreLabelsSpec)

/-- ITS FALSE NEIGHBOUR: 'it returns false'. Refute it at one input. -/
def fnStoreLabelsWrong : ChangeSpec := { name := "fnStoreLabels", fn := fun _ => fun
  | [d] => { results := [.lit (.bool false)], args := [d] }
  | _ => none }
def FnStoreLabelsWrongFalsely : Prop := fnStoreLabelsRow.holds Try.pinned (OpenSpec.ofChange fnStoreLabelsWrong)

/-- 'laws.FnWalkTree': WHATEVER THE INPUT: true; the input reads as it did. -/
def fnWalkTreeSpec : ChangeSpec := { name := "fnWalkTree", fn := fun _ => fun
  | [d] => { results := [.lit (.bool true)], args := [d] }
  | _ => none }
def fnWalkTreeRow : OpenClaim := { program := "ytogmbeifbjgphaa", sum := "5103c1e32eff85ca4019a0df76557b64283699f79d0a9113d6052393fa88d2d0", func := "loop.example/hagioscope/laws.FnWalkTree", spec := "fnWalkTree", unfollowed := true, recurses := true, apart := false }
def FnWalkTreeSaid : Prop := fnWalkTreeRow.holds Try.pinned (OpenSpec.ofChange fnWalkTreeSpec)

/-- ITS FALSE NEIGHBOUR: 'it returns false'. Refute it at one input. -/
def fnWalkTreeWrong : ChangeSpec := { name := "fnWalkTree", fn := fun _ => fun
  | [d] => { results := [.lit (.bool false)], args := [d] }
  | _ => none }
def FnWalkTreeWrongFalsely : Prop := fnWalkTreeRow.holds Try.pinned (OpenSpec.ofChange fnWalkTreeWrong)

/-- 'laws.FnWalkSeen': WHATEVER THE INPUT: true; the input reads as it did. -/
def fnWalkSeenSpec : ChangeSpec := { name := "fnWalkSeen", fn := fun _ => fun
  | [d1, d2] => { results := [.lit (.bool true)], args := [d1, d2] }
  | _ => none }
def fnWalkSeenRow : OpenClaim := { program := "ytogmbeifbjgphaa", sum := "5103c1e32eff85ca4019a0df76557b64283699f79d0a9113d6052393fa88d2d0", func := "loop.example/hagioscope/laws.FnWalkSeen", spec := "fnWalkSeen", unfollowed := true, recurses := true, apart := false }
def FnWalkSeenSaid : Prop := fnWalkSeenRow.holds Try.pinned (OpenSpec.ofChange fnWalkSeenSpec)

/-- ITS FALSE NEIGHBOUR: 'it returns false'. Refute it at one input. -/
def fnWalkSeenWrong : ChangeSpec := { name := "fnWalkSeen", fn := fun _ => fun
  | [d1, d2] => { results := [.lit (.bool false)], args := [d1, d2] }
  | _ => none }
def FnWalkSeenWrongFalsely : Prop := fnWalkSeenRow.holds Try.pinned (OpenSpec.ofChange fnWalkSeenWrong)

/-- 'laws.FnGraphGone': WHATEVER THE INPUT: true; the input reads as it did. -/
def fnGraphGoneSpec : ChangeSpec := { name := "fnGraphGone", fn := fun _ => fun
  | [d] => { results := [.lit (.bool true)], args := [d] }
  | _ => none }
def fnGraphGoneRow : OpenClaim := { program := "ytogmbeifbjgphaa", sum := "5103c1e32eff85ca4019a0df76557b64283699f79d0a9113d6052393fa88d2d0", func := "loop.example/hagioscope/laws.FnGraphGone", spec := "fnGraphGone", inPlace := ["slices.overlaps[loop.example/hagioscope/impl.Node]", "slices.overlaps[loop.example/hagioscope/impl.Edge]"], unfollowed := true, recurses := true, apart := false }
def FnGraphGoneSaid : Prop := fnGraphGoneRow.holds Try.pinned (OpenSpec.ofChange fnGraphGoneSpec)

/-- ITS FALSE NEIGHBOUR: 'it returns false'. Refute it at one input. -/
def fnGraphGoneWrong : ChangeSpec := { name := "fnGraphGone", fn := fun _ => fun
  | [d] => { results := [.lit (.bool false)], args := [d] }
  | _ => none }
def FnGraphGoneWrongFalsely : Prop := fnGraphGoneRow.holds Try.pinned (OpenSpec.ofChange fnGraphGoneWrong)

/-- 'laws.FnStoreView': WHATEVER THE INPUT: true; the input reads as it did. -/
def fnStoreViewSpec : ChangeSpec := { name := "fnStoreView", fn := fun _ => fun
  | [d1, d2] => { results := [.lit (.bool true)], args := [d1, d2] }
  | _ => none }
def fnStoreViewRow : OpenClaim := { program := "ytogmbeifbjgphaa", sum := "5103c1e32eff85ca4019a0df76557b64283699f79d0a9113d6052393fa88d2d0", func := "loop.example/hagioscope/laws.FnStoreView", spec := "fnStoreView", unfollowed := true, recurses := true, apart := false }
def FnStoreViewSaid : Prop := fnStoreViewRow.holds Try.pinned (OpenSpec.ofChange fnStoreViewSpec)

/-- ITS FALSE NEIGHBOUR: 'it returns false'. Refute it at one input. -/
def fnStoreViewWrong : ChangeSpec := { name := "fnStoreView", fn := fun _ => fun
  | [d1, d2] => { results := [.lit (.bool false)], args := [d1, d2] }
  | _ => none }
def FnStoreViewWrongFalsely : Prop := fnStoreViewRow.holds Try.pinned (OpenSpec.ofChange fnStoreViewWrong)

/-- 'laws.FnExactStoreRead': WHATEVER THE INPUT: true; the input reads as it did. -/
def fnExactStoreReadSpec : ChangeSpec := { name := "fnExactStoreRead", fn := fun _ => fun
  | [d] => { results := [.lit (.bool true)], args := [d] }
  | _ => none }
def fnExactStoreReadRow : OpenClaim := { program := "ytogmbeifbjgphaa", sum := "5103c1e32eff85ca4019a0df76557b64283699f79d0a9113d6052393fa88d2d0", func := "loop.example/hagioscope/laws.FnExactStoreRead", spec := "fnExactStoreRead", unfollowed := true, recurses := true, apart := false }
def FnExactStoreReadSaid : Prop := fnExactStoreReadRow.holds Try.pinned (OpenSpec.ofChange fnExactStoreReadSpec)

/-- ITS FALSE NEIGHBOUR: 'it returns false'. Refute it at one input. -/
def fnExactStoreReadWrong : ChangeSpec := { name := "fnExactStoreRead", fn := fun _ => fun
  | [d] => { results := [.lit (.bool false)], args := [d] }
  | _ => none }
def FnExactStoreReadWrongFalsely : Prop := fnExactStoreReadRow.holds Try.pinned (OpenSpec.ofChange fnExactStoreReadWrong)

/-- 'laws.FnStoreBent': WHATEVER THE INPUT: true; the input reads as it did. -/
def fnStoreBentSpec : ChangeSpec := { name := "fnStoreBent", fn := fun _ => fun
  | [d] => { results := [.lit (.bool true)], args := [d] }
  | _ => none }
def fnStoreBentRow : OpenClaim := { program := "ytogmbeifbjgphaa", sum := "5103c1e32eff85ca4019a0df76557b64283699f79d0a9113d6052393fa88d2d0", func := "loop.example/hagioscope/laws.FnStoreBent", spec := "fnStoreBent", unfollowed := true, recurses := true, apart := false }
def FnStoreBentSaid : Prop := fnStoreBentRow.holds Try.pinned (OpenSpec.ofChange fnStoreBentSpec)

/-- ITS FALSE NEIGHBOUR: 'it returns false'. Refute it at one input. -/
def fnStoreBentWrong : ChangeSpec := { name := "fnStoreBent", fn := fun _ => fun
  | [d] => { results := [.lit (.bool false)], args := [d] }
  | _ => none }
def FnStoreBentWrongFalsely : Prop := fnStoreBentRow.holds Try.pinned (OpenSpec.ofChange fnStoreBentWrong)

/- THE SECOND FORM. 'bulk': how many values and letters a reading holds, each counted each time it is reached (what is shared counts as often as it is met; a slice's spare places count too). A statement '..UptoSaid' is the law's where the arguments, and the package variables that the reading takes, are together of bulk at most 1048576: NARROWER than '..Said'. Prove '..Said' where nothing that the law and all that it calls make is longer than what came in: it says more and counts as full. Else prove '..UptoSaid'. A law counts once. -/
mutual
def uptoBulk {H : Type} : DataW H → Nat
  | .lit (.string bytes) => bytes.length + 1
  | .lit _ => 1
  | .nil => 1
  | .ptr d => uptoBulk d + 1
  | .slice elems spare => uptoBulkAll elems + uptoBulkAll spare + 1
  | .agg parts => uptoBulkAll parts + 1
  | .iface _ d => uptoBulk d + 1
  | .map entries => uptoBulkEntries entries + 1
  | .held _ => 1
def uptoBulkAll {H : Type} : List (DataW H) → Nat
  | [] => 0
  | d :: r => uptoBulk d + uptoBulkAll r
def uptoBulkEntries {H : Type} : List (Lit × DataW H) → Nat
  | [] => 0
  | x :: r => uptoBulkEntry x + uptoBulkEntries r
def uptoBulkEntry {H : Type} : Lit × DataW H → Nat
  | (.string bytes, d) => bytes.length + uptoBulk d + 1
  | (_, d) => uptoBulk d + 1
 end
def uptoSmall : (H : Type) → List (DataW H) → Bool := fun _ ds => decide (uptoBulkAll ds ≤ 1048576)
def OpenSpec.upto (s : _root_.Go.ChangeSpec) : _root_.Go.OpenSpec := { _root_.Go.OpenSpec.ofChange s with cond := some uptoSmall }

/-- 'laws.FnGraphFull', WHERE WHAT IT READS IS OF BULK AT MOST 1048576: true; the input reads as it did. -/
def fnGraphFullUptoRow : OpenClaim := { program := "ytogmbeifbjgphaa", sum := "5103c1e32eff85ca4019a0df76557b64283699f79d0a9113d6052393fa88d2d0", func := "loop.example/hagioscope/laws.FnGraphFull", spec := "fnGraphFull", inPlace := ["slices.overlaps[loop.example/hagioscope/impl.Node]", "slices.overlaps[loop.example/hagioscope/impl.Edge]"], unfollowed := true, recurses := true, apart := false, narrowed := true }
def FnGraphFullUptoSaid : Prop := fnGraphFullUptoRow.holds Try.pinned (OpenSpec.upto fnGraphFullSpec)

/-- 'laws.FnGraphNone', WHERE WHAT IT READS IS OF BULK AT MOST 1048576: true; the input reads as it did. -/
def fnGraphNoneUptoRow : OpenClaim := { program := "ytogmbeifbjgphaa", sum := "5103c1e32eff85ca4019a0df76557b64283699f79d0a9113d6052393fa88d2d0", func := "loop.example/hagioscope/laws.FnGraphNone", spec := "fnGraphNone", inPlace := ["slices.overlaps[loop.example/hagioscope/impl.Node]", "slices.overlaps[loop.example/hagioscope/impl.Edge]"], unfollowed := true, recurses := true, apart := false, narrowed := true }
def FnGraphNoneUptoSaid : Prop := fnGraphNoneUptoRow.holds Try.pinned (OpenSpec.upto fnGraphNoneSpec)

/-- 'laws.FnGraphOrder', WHERE WHAT IT READS IS OF BULK AT MOST 1048576: true; the input reads as it did. -/
def fnGraphOrderUptoRow : OpenClaim := { program := "ytogmbeifbjgphaa", sum := "5103c1e32eff85ca4019a0df76557b64283699f79d0a9113d6052393fa88d2d0", func := "loop.example/hagioscope/laws.FnGraphOrder", spec := "fnGraphOrder", inPlace := ["slices.overlaps[loop.example/hagioscope/impl.Node]", "slices.overlaps[loop.example/hagioscope/impl.Edge]"], unfollowed := true, recurses := true, apart := false, narrowed := true }
def FnGraphOrderUptoSaid : Prop := fnGraphOrderUptoRow.holds Try.pinned (OpenSpec.upto fnGraphOrderSpec)

/-- 'laws.FnGraph', WHERE WHAT IT READS IS OF BULK AT MOST 1048576: true; the input reads as it did. -/
def fnGraphUptoRow : OpenClaim := { program := "ytogmbeifbjgphaa", sum := "5103c1e32eff85ca4019a0df76557b64283699f79d0a9113d6052393fa88d2d0", func := "loop.example/hagioscope/laws.FnGraph", spec := "fnGraph", inPlace := ["slices.overlaps[loop.example/hagioscope/impl.Node]", "slices.overlaps[loop.example/hagioscope/impl.Edge]"], unfollowed := true, recurses := true, apart := false, narrowed := true }
def FnGraphUptoSaid : Prop := fnGraphUptoRow.holds Try.pinned (OpenSpec.upto fnGraphSpec)

/-- 'laws.FnGraphBack', WHERE WHAT IT READS IS OF BULK AT MOST 1048576: true; the input reads as it did. -/
def fnGraphBackUptoRow : OpenClaim := { program := "ytogmbeifbjgphaa", sum := "5103c1e32eff85ca4019a0df76557b64283699f79d0a9113d6052393fa88d2d0", func := "loop.example/hagioscope/laws.FnGraphBack", spec := "fnGraphBack", inPlace := ["slices.overlaps[loop.example/hagioscope/impl.Node]", "slices.overlaps[loop.example/hagioscope/impl.Edge]"], unfollowed := true, recurses := true, apart := false, narrowed := true }
def FnGraphBackUptoSaid : Prop := fnGraphBackUptoRow.holds Try.pinned (OpenSpec.upto fnGraphBackSpec)

/-- 'laws.FnGraphSwap', WHERE WHAT IT READS IS OF BULK AT MOST 1048576: true; the input reads as it did. -/
def fnGraphSwapUptoRow : OpenClaim := { program := "ytogmbeifbjgphaa", sum := "5103c1e32eff85ca4019a0df76557b64283699f79d0a9113d6052393fa88d2d0", func := "loop.example/hagioscope/laws.FnGraphSwap", spec := "fnGraphSwap", inPlace := ["slices.overlaps[loop.example/hagioscope/impl.Node]", "slices.overlaps[loop.example/hagioscope/impl.Edge]"], unfollowed := true, recurses := true, apart := false, narrowed := true }
def FnGraphSwapUptoSaid : Prop := fnGraphSwapUptoRow.holds Try.pinned (OpenSpec.upto fnGraphSwapSpec)

/-- 'laws.FnGraphSeen', WHERE WHAT IT READS IS OF BULK AT MOST 1048576: true; the input reads as it did. -/
def fnGraphSeenUptoRow : OpenClaim := { program := "ytogmbeifbjgphaa", sum := "5103c1e32eff85ca4019a0df76557b64283699f79d0a9113d6052393fa88d2d0", func := "loop.example/hagioscope/laws.FnGraphSeen", spec := "fnGraphSeen", inPlace := ["slices.overlaps[loop.example/hagioscope/impl.Node]", "slices.overlaps[loop.example/hagioscope/impl.Edge]"], unfollowed := true, recurses := true, apart := false, narrowed := true }
def FnGraphSeenUptoSaid : Prop := fnGraphSeenUptoRow.holds Try.pinned (OpenSpec.upto fnGraphSeenSpec)

/-- 'laws.FnGraphNear', WHERE WHAT IT READS IS OF BULK AT MOST 1048576: true; the input reads as it did. -/
def fnGraphNearUptoRow : OpenClaim := { program := "ytogmbeifbjgphaa", sum := "5103c1e32eff85ca4019a0df76557b64283699f79d0a9113d6052393fa88d2d0", func := "loop.example/hagioscope/laws.FnGraphNear", spec := "fnGraphNear", unfollowed := true, recurses := true, apart := false, narrowed := true }
def FnGraphNearUptoSaid : Prop := fnGraphNearUptoRow.holds Try.pinned (OpenSpec.upto fnGraphNearSpec)

/-- 'laws.FnExactSegOf', WHERE WHAT IT READS IS OF BULK AT MOST 1048576: true; the input reads as it did. -/
def fnExactSegOfUptoRow : OpenClaim := { program := "ytogmbeifbjgphaa", sum := "5103c1e32eff85ca4019a0df76557b64283699f79d0a9113d6052393fa88d2d0", func := "loop.example/hagioscope/laws.FnExactSegOf", spec := "fnExactSegOf", unfollowed := true, recurses := true, apart := false, narrowed := true }
def FnExactSegOfUptoSaid : Prop := fnExactSegOfUptoRow.holds Try.pinned (OpenSpec.upto fnExactSegOfSpec)

/-- 'laws.FnWalkThrees', WHERE WHAT IT READS IS OF BULK AT MOST 1048576: true; the input reads as it did. -/
def fnWalkThreesUptoRow : OpenClaim := { program := "ytogmbeifbjgphaa", sum := "5103c1e32eff85ca4019a0df76557b64283699f79d0a9113d6052393fa88d2d0", func := "loop.example/hagioscope/laws.FnWalkThrees", spec := "fnWalkThrees", unfollowed := true, recurses := true, apart := false, narrowed := true }
def FnWalkThreesUptoSaid : Prop := fnWalkThreesUptoRow.holds Try.pinned (OpenSpec.upto fnWalkThreesSpec)

/-- 'laws.FnWalkDist', WHERE WHAT IT READS IS OF BULK AT MOST 1048576: true; the input reads as it did. -/
def fnWalkDistUptoRow : OpenClaim := { program := "ytogmbeifbjgphaa", sum := "5103c1e32eff85ca4019a0df76557b64283699f79d0a9113d6052393fa88d2d0", func := "loop.example/hagioscope/laws.FnWalkDist", spec := "fnWalkDist", unfollowed := true, recurses := true, apart := false, narrowed := true }
def FnWalkDistUptoSaid : Prop := fnWalkDistUptoRow.holds Try.pinned (OpenSpec.upto fnWalkDistSpec)

/-- 'laws.FnWalkTurn', WHERE WHAT IT READS IS OF BULK AT MOST 1048576: true; the input reads as it did. -/
def fnWalkTurnUptoRow : OpenClaim := { program := "ytogmbeifbjgphaa", sum := "5103c1e32eff85ca4019a0df76557b64283699f79d0a9113d6052393fa88d2d0", func := "loop.example/hagioscope/laws.FnWalkTurn", spec := "fnWalkTurn", unfollowed := true, recurses := true, apart := false, narrowed := true }
def FnWalkTurnUptoSaid : Prop := fnWalkTurnUptoRow.holds Try.pinned (OpenSpec.upto fnWalkTurnSpec)

/-- 'laws.FnWalkFar', WHERE WHAT IT READS IS OF BULK AT MOST 1048576: true; the input reads as it did. -/
def fnWalkFarUptoRow : OpenClaim := { program := "ytogmbeifbjgphaa", sum := "5103c1e32eff85ca4019a0df76557b64283699f79d0a9113d6052393fa88d2d0", func := "loop.example/hagioscope/laws.FnWalkFar", spec := "fnWalkFar", unfollowed := true, recurses := true, apart := false, narrowed := true }
def FnWalkFarUptoSaid : Prop := fnWalkFarUptoRow.holds Try.pinned (OpenSpec.upto fnWalkFarSpec)

/-- 'laws.FnWalkSum', WHERE WHAT IT READS IS OF BULK AT MOST 1048576: true; the input reads as it did. -/
def fnWalkSumUptoRow : OpenClaim := { program := "ytogmbeifbjgphaa", sum := "5103c1e32eff85ca4019a0df76557b64283699f79d0a9113d6052393fa88d2d0", func := "loop.example/hagioscope/laws.FnWalkSum", spec := "fnWalkSum", unfollowed := true, recurses := true, apart := false, narrowed := true }
def FnWalkSumUptoSaid : Prop := fnWalkSumUptoRow.holds Try.pinned (OpenSpec.upto fnWalkSumSpec)

/-- 'laws.FnWalkParts', WHERE WHAT IT READS IS OF BULK AT MOST 1048576: true; the input reads as it did. -/
def fnWalkPartsUptoRow : OpenClaim := { program := "ytogmbeifbjgphaa", sum := "5103c1e32eff85ca4019a0df76557b64283699f79d0a9113d6052393fa88d2d0", func := "loop.example/hagioscope/laws.FnWalkParts", spec := "fnWalkParts", unfollowed := true, recurses := true, apart := false, narrowed := true }
def FnWalkPartsUptoSaid : Prop := fnWalkPartsUptoRow.holds Try.pinned (OpenSpec.upto fnWalkPartsSpec)

/-- 'laws.FnWalkSelf', WHERE WHAT IT READS IS OF BULK AT MOST 1048576: true; the input reads as it did. -/
def fnWalkSelfUptoRow : OpenClaim := { program := "ytogmbeifbjgphaa", sum := "5103c1e32eff85ca4019a0df76557b64283699f79d0a9113d6052393fa88d2d0", func := "loop.example/hagioscope/laws.FnWalkSelf", spec := "fnWalkSelf", unfollowed := true, recurses := true, apart := false, narrowed := true }
def FnWalkSelfUptoSaid : Prop := fnWalkSelfUptoRow.holds Try.pinned (OpenSpec.upto fnWalkSelfSpec)

/-- 'laws.FnWalkThree', WHERE WHAT IT READS IS OF BULK AT MOST 1048576: true; the input reads as it did. -/
def fnWalkThreeUptoRow : OpenClaim := { program := "ytogmbeifbjgphaa", sum := "5103c1e32eff85ca4019a0df76557b64283699f79d0a9113d6052393fa88d2d0", func := "loop.example/hagioscope/laws.FnWalkThree", spec := "fnWalkThree", unfollowed := true, recurses := true, apart := false, narrowed := true }
def FnWalkThreeUptoSaid : Prop := fnWalkThreeUptoRow.holds Try.pinned (OpenSpec.upto fnWalkThreeSpec)

/-- 'laws.FnWalkPath', WHERE WHAT IT READS IS OF BULK AT MOST 1048576: true; the input reads as it did. -/
def fnWalkPathUptoRow : OpenClaim := { program := "ytogmbeifbjgphaa", sum := "5103c1e32eff85ca4019a0df76557b64283699f79d0a9113d6052393fa88d2d0", func := "loop.example/hagioscope/laws.FnWalkPath", spec := "fnWalkPath", unfollowed := true, recurses := true, apart := false, narrowed := true }
def FnWalkPathUptoSaid : Prop := fnWalkPathUptoRow.holds Try.pinned (OpenSpec.upto fnWalkPathSpec)

/-- 'laws.FnWalkVia', WHERE WHAT IT READS IS OF BULK AT MOST 1048576: true; the input reads as it did. -/
def fnWalkViaUptoRow : OpenClaim := { program := "ytogmbeifbjgphaa", sum := "5103c1e32eff85ca4019a0df76557b64283699f79d0a9113d6052393fa88d2d0", func := "loop.example/hagioscope/laws.FnWalkVia", spec := "fnWalkVia", unfollowed := true, recurses := true, apart := false, narrowed := true }
def FnWalkViaUptoSaid : Prop := fnWalkViaUptoRow.holds Try.pinned (OpenSpec.upto fnWalkViaSpec)

/-- 'laws.FnExactStoreOf', WHERE WHAT IT READS IS OF BULK AT MOST 1048576: true; the input reads as it did. -/
def fnExactStoreOfUptoRow : OpenClaim := { program := "ytogmbeifbjgphaa", sum := "5103c1e32eff85ca4019a0df76557b64283699f79d0a9113d6052393fa88d2d0", func := "loop.example/hagioscope/laws.FnExactStoreOf", spec := "fnExactStoreOf", unfollowed := true, recurses := true, apart := false, narrowed := true }
def FnExactStoreOfUptoSaid : Prop := fnExactStoreOfUptoRow.holds Try.pinned (OpenSpec.upto fnExactStoreOfSpec)

/-- 'laws.FnStoreLabels', WHERE WHAT IT READS IS OF BULK AT MOST 1048576: true; the input reads as it did. -/
def fnStoreLabelsUptoRow : OpenClaim := { program := "ytogmbeifbjgphaa", sum := "5103c1e32eff85ca4019a0df76557b64283699f79d0a9113d6052393fa88d2d0", func := "loop.example/hagioscope/laws.FnStoreLabels", spec := "fnStoreLabels", unfollowed := true, recurses := true, apart := false, narrowed := true }
def FnStoreLabelsUptoSaid : Prop := fnStoreLabelsUptoRow.holds Try.pinned (OpenSpec.upto fnStoreLabelsSpec)

/-- 'laws.FnWalkTree', WHERE WHAT IT READS IS OF BULK AT MOST 1048576: true; the input reads as it did. -/
def fnWalkTreeUptoRow : OpenClaim := { program := "ytogmbeifbjgphaa", sum := "5103c1e32eff85ca4019a0df76557b64283699f79d0a9113d6052393fa88d2d0", func := "loop.example/hagioscope/laws.FnWalkTree", spec := "fnWalkTree", unfollowed := true, recurses := true, apart := false, narrowed := true }
def FnWalkTreeUptoSaid : Prop := fnWalkTreeUptoRow.holds Try.pinned (OpenSpec.upto fnWalkTreeSpec)

/-- 'laws.FnWalkSeen', WHERE WHAT IT READS IS OF BULK AT MOST 1048576: true; the input reads as it did. -/
def fnWalkSeenUptoRow : OpenClaim := { program := "ytogmbeifbjgphaa", sum := "5103c1e32eff85ca4019a0df76557b64283699f79d0a9113d6052393fa88d2d0", func := "loop.example/hagioscope/laws.FnWalkSeen", spec := "fnWalkSeen", unfollowed := true, recurses := true, apart := false, narrowed := true }
def FnWalkSeenUptoSaid : Prop := fnWalkSeenUptoRow.holds Try.pinned (OpenSpec.upto fnWalkSeenSpec)

/-- 'laws.FnGraphGone', WHERE WHAT IT READS IS OF BULK AT MOST 1048576: true; the input reads as it did. -/
def fnGraphGoneUptoRow : OpenClaim := { program := "ytogmbeifbjgphaa", sum := "5103c1e32eff85ca4019a0df76557b64283699f79d0a9113d6052393fa88d2d0", func := "loop.example/hagioscope/laws.FnGraphGone", spec := "fnGraphGone", inPlace := ["slices.overlaps[loop.example/hagioscope/impl.Node]", "slices.overlaps[loop.example/hagioscope/impl.Edge]"], unfollowed := true, recurses := true, apart := false, narrowed := true }
def FnGraphGoneUptoSaid : Prop := fnGraphGoneUptoRow.holds Try.pinned (OpenSpec.upto fnGraphGoneSpec)

/-- 'laws.FnStoreView', WHERE WHAT IT READS IS OF BULK AT MOST 1048576: true; the input reads as it did. -/
def fnStoreViewUptoRow : OpenClaim := { program := "ytogmbeifbjgphaa", sum := "5103c1e32eff85ca4019a0df76557b64283699f79d0a9113d6052393fa88d2d0", func := "loop.example/hagioscope/laws.FnStoreView", spec := "fnStoreView", unfollowed := true, recurses := true, apart := false, narrowed := true }
def FnStoreViewUptoSaid : Prop := fnStoreViewUptoRow.holds Try.pinned (OpenSpec.upto fnStoreViewSpec)

/-- 'laws.FnExactStoreRead', WHERE WHAT IT READS IS OF BULK AT MOST 1048576: true; the input reads as it did. -/
def fnExactStoreReadUptoRow : OpenClaim := { program := "ytogmbeifbjgphaa", sum := "5103c1e32eff85ca4019a0df76557b64283699f79d0a9113d6052393fa88d2d0", func := "loop.example/hagioscope/laws.FnExactStoreRead", spec := "fnExactStoreRead", unfollowed := true, recurses := true, apart := false, narrowed := true }
def FnExactStoreReadUptoSaid : Prop := fnExactStoreReadUptoRow.holds Try.pinned (OpenSpec.upto fnExactStoreReadSpec)

/-- 'laws.FnStoreBent', WHERE WHAT IT READS IS OF BULK AT MOST 1048576: true; the input reads as it did. -/
def fnStoreBentUptoRow : OpenClaim := { program := "ytogmbeifbjgphaa", sum := "5103c1e32eff85ca4019a0df76557b64283699f79d0a9113d6052393fa88d2d0", func := "loop.example/hagioscope/laws.FnStoreBent", spec := "fnStoreBent", unfollowed := true, recurses := true, apart := false, narrowed := true }
def FnStoreBentUptoSaid : Prop := fnStoreBentUptoRow.holds Try.pinned (OpenSpec.upto fnStoreBentSpec)

end Rows
end Go.Proofs.Ytogmbeifbjgphaa
