/-
  No cell of these rows narrows 'for every input' (looked for: loops, veiled, ifaces, maps, wideKeys, modest, calm, conditions, laid).
  DERIVED. THE GIVEN ROWS OF THIS SEAT. 6 by the template 'for every input the law returns true; each argument reads behind the call as it read before'; 0 by the template 'total and deterministic' (their statements: YtogmbeifbjgphaaGreatTotals.lean).
  GIVEN WITH THE SEED: the statements are not yours to turn. If you find one false, say at which input.
  Laid BY PROGRAM, IN A SANDBOX (cutbox-rows.mjs): the forced cells as the released guide's own fill.sh prints them over the translation 5f8d4906d0ec4f72… (all of the seat's roots in one cut). By AI agents, Wed Nov 11 2026. No macro, syntax, notation, axiom, sorry.
-/
import Derived.Test.YtogmbeifbjgphaaGreatChecked
import GoSem.Claim
import GoSem.ClaimJoined
import GoSem.ClaimMapViews
import Derived.JoinedTies
import Derived.KernelRfl
namespace Go.Proofs.YtogmbeifbjgphaaGreat
/- THE CELL 'sum', in the pinned program and in every row, IS THE sha256 OF THE DUMP (.gsa) THAT YtogmbeifbjgphaaGreatProg.lean LOADS. Nothing in Lean hashes anything: it is a label: what it is worth is what the hold of that sum in a sandbox is worth. -/
noncomputable def Tryz.pinned : Pinned := { name := "ytogmbeifbjgphaagreat", sum := "5f8d4906d0ec4f72f97619e86129a2bd9493c7c795646204c4cfe3ff0c82ee45", checked := Tryz.checked }
namespace Rows
def none {H : Type} : Left H := { results := [], args := [] }

/-- 'laws.FnWalkMore': WHATEVER THE INPUT: true; the input reads as it did. -/
def fnWalkMoreSpec : ChangeSpec := { name := "fnWalkMore", fn := fun _ => fun
  | [d] => { results := [.lit (.bool true)], args := [d] }
  | _ => none }
def fnWalkMoreRow : OpenClaim := { program := "ytogmbeifbjgphaagreat", sum := "5f8d4906d0ec4f72f97619e86129a2bd9493c7c795646204c4cfe3ff0c82ee45", func := "loop.example/hagioscope/laws.FnWalkMore", spec := "fnWalkMore", inPlace := ["slices.overlaps[loop.example/hagioscope/impl.Node]", "slices.overlaps[loop.example/hagioscope/impl.Edge]"], unfollowed := true, recurses := true, apart := false }
def FnWalkMoreSaid : Prop := fnWalkMoreRow.holds Tryz.pinned (OpenSpec.ofChange fnWalkMoreSpec)

/-- ITS FALSE NEIGHBOUR: 'it returns false'. Refute it at one input. -/
def fnWalkMoreWrong : ChangeSpec := { name := "fnWalkMore", fn := fun _ => fun
  | [d] => { results := [.lit (.bool false)], args := [d] }
  | _ => none }
def FnWalkMoreWrongFalsely : Prop := fnWalkMoreRow.holds Tryz.pinned (OpenSpec.ofChange fnWalkMoreWrong)

/-- 'laws.FnWalkCore': WHATEVER THE INPUT: true; the input reads as it did. -/
def fnWalkCoreSpec : ChangeSpec := { name := "fnWalkCore", fn := fun _ => fun
  | [d] => { results := [.lit (.bool true)], args := [d] }
  | _ => none }
def fnWalkCoreRow : OpenClaim := { program := "ytogmbeifbjgphaagreat", sum := "5f8d4906d0ec4f72f97619e86129a2bd9493c7c795646204c4cfe3ff0c82ee45", func := "loop.example/hagioscope/laws.FnWalkCore", spec := "fnWalkCore", inPlace := ["slices.overlaps[loop.example/hagioscope/impl.Node]", "slices.overlaps[loop.example/hagioscope/impl.Edge]"], unfollowed := true, recurses := true, apart := false }
def FnWalkCoreSaid : Prop := fnWalkCoreRow.holds Tryz.pinned (OpenSpec.ofChange fnWalkCoreSpec)

/-- ITS FALSE NEIGHBOUR: 'it returns false'. Refute it at one input. -/
def fnWalkCoreWrong : ChangeSpec := { name := "fnWalkCore", fn := fun _ => fun
  | [d] => { results := [.lit (.bool false)], args := [d] }
  | _ => none }
def FnWalkCoreWrongFalsely : Prop := fnWalkCoreRow.holds Tryz.pinned (OpenSpec.ofChange fnWalkCoreWrong)

/-- 'laws.FnStore': WHATEVER THE INPUT: true; the input reads as it did. -/
def fnStoreSpec : ChangeSpec := { name := "fnStore", fn := fun _ => fun
  | [d1, d2] => { results := [.lit (.bool true)], args := [d1, d2] }
  | _ => none }
def fnStoreRow : OpenClaim := { program := "ytogmbeifbjgphaagreat", sum := "5f8d4906d0ec4f72f97619e86129a2bd9493c7c795646204c4cfe3ff0c82ee45", func := "loop.example/hagioscope/laws.FnStore", spec := "fnStore", unfollowed := true, recurses := true, apart := false }
def FnStoreSaid : Prop := fnStoreRow.holds Tryz.pinned (OpenSpec.ofChange fnStoreSpec)

/-- ITS FALSE NEIGHBOUR: 'it returns false'. Refute it at one input. -/
def fnStoreWrong : ChangeSpec := { name := "fnStore", fn := fun _ => fun
  | [d1, d2] => { results := [.lit (.bool false)], args := [d1, d2] }
  | _ => none }
def FnStoreWrongFalsely : Prop := fnStoreRow.holds Tryz.pinned (OpenSpec.ofChange fnStoreWrong)

/-- 'laws.FnSegApart': WHATEVER THE INPUT: true; the input reads as it did. -/
def fnSegApartSpec : ChangeSpec := { name := "fnSegApart", fn := fun _ => fun
  | [d] => { results := [.lit (.bool true)], args := [d] }
  | _ => none }
def fnSegApartRow : OpenClaim := { program := "ytogmbeifbjgphaagreat", sum := "5f8d4906d0ec4f72f97619e86129a2bd9493c7c795646204c4cfe3ff0c82ee45", func := "loop.example/hagioscope/laws.FnSegApart", spec := "fnSegApart", inPlace := ["slices.overlaps[loop.example/hagioscope/impl.Node]", "slices.overlaps[loop.example/hagioscope/impl.Edge]"], unfollowed := true, recurses := true, apart := false }
def FnSegApartSaid : Prop := fnSegApartRow.holds Tryz.pinned (OpenSpec.ofChange fnSegApartSpec)

/-- ITS FALSE NEIGHBOUR: 'it returns false'. Refute it at one input. -/
def fnSegApartWrong : ChangeSpec := { name := "fnSegApart", fn := fun _ => fun
  | [d] => { results := [.lit (.bool false)], args := [d] }
  | _ => none }
def FnSegApartWrongFalsely : Prop := fnSegApartRow.holds Tryz.pinned (OpenSpec.ofChange fnSegApartWrong)

/-- 'laws.FnSegLong': WHATEVER THE INPUT: true; the input reads as it did. -/
def fnSegLongSpec : ChangeSpec := { name := "fnSegLong", fn := fun _ => fun
  | [d] => { results := [.lit (.bool true)], args := [d] }
  | _ => none }
def fnSegLongRow : OpenClaim := { program := "ytogmbeifbjgphaagreat", sum := "5f8d4906d0ec4f72f97619e86129a2bd9493c7c795646204c4cfe3ff0c82ee45", func := "loop.example/hagioscope/laws.FnSegLong", spec := "fnSegLong", inPlace := ["slices.overlaps[loop.example/hagioscope/impl.Node]", "slices.overlaps[loop.example/hagioscope/impl.Edge]"], unfollowed := true, recurses := true, apart := false }
def FnSegLongSaid : Prop := fnSegLongRow.holds Tryz.pinned (OpenSpec.ofChange fnSegLongSpec)

/-- ITS FALSE NEIGHBOUR: 'it returns false'. Refute it at one input. -/
def fnSegLongWrong : ChangeSpec := { name := "fnSegLong", fn := fun _ => fun
  | [d] => { results := [.lit (.bool false)], args := [d] }
  | _ => none }
def FnSegLongWrongFalsely : Prop := fnSegLongRow.holds Tryz.pinned (OpenSpec.ofChange fnSegLongWrong)

/-- 'laws.FnWalkLess': WHATEVER THE INPUT: true; the input reads as it did. -/
def fnWalkLessSpec : ChangeSpec := { name := "fnWalkLess", fn := fun _ => fun
  | [d] => { results := [.lit (.bool true)], args := [d] }
  | _ => none }
def fnWalkLessRow : OpenClaim := { program := "ytogmbeifbjgphaagreat", sum := "5f8d4906d0ec4f72f97619e86129a2bd9493c7c795646204c4cfe3ff0c82ee45", func := "loop.example/hagioscope/laws.FnWalkLess", spec := "fnWalkLess", inPlace := ["slices.overlaps[loop.example/hagioscope/impl.Node]", "slices.overlaps[loop.example/hagioscope/impl.Edge]"], unfollowed := true, recurses := true, apart := false }
def FnWalkLessSaid : Prop := fnWalkLessRow.holds Tryz.pinned (OpenSpec.ofChange fnWalkLessSpec)

/-- ITS FALSE NEIGHBOUR: 'it returns false'. Refute it at one input. -/
def fnWalkLessWrong : ChangeSpec := { name := "fnWalkLess", fn := fun _ => fun
  | [d] => { results := [.lit (.bool false)], args := [d] }
  | _ => none }
def FnWalkLessWrongFalsely : Prop := fnWalkLessRow.holds Tryz.pinned (OpenSpec.ofChange fnWalkLessWrong)

/- THE SECOND FORM. 'bulk': how many values and letters a reading holds, each counted each time it is reached (what is shared counts as often as it is met; a slice's spare places count too). A statement '..UptoSaid' is the law's where the arguments, and the package variables that the reading takes, are together of bulk at most 1048576: NARROWER than '..Said'. Prove '..Said' where nothing that the law and all that it calls make is longer than what came in: it says more and counts as full. Else prove '..UptoSaid'. A law counts once. -/
mutual
def uptoBulk {H : Type} : DataW H → Nat
  | .lit (.string bytes) => bytes.length + 1
  | .lit _ => 1
  | .nil => 1
  | .ptr d => uptoBulk d + 1
  | .slice elems spare => uptoBulkAll elems + uptoBulkAll spare + 1
  | .agg parts => uptoBulkAll parts + 1
  | .iface _ d => uptoBulk d + 1
  | .map entries => uptoBulkEntries entries + 1
  | .held _ => 1
def uptoBulkAll {H : Type} : List (DataW H) → Nat
  | [] => 0
  | d :: r => uptoBulk d + uptoBulkAll r
def uptoBulkEntries {H : Type} : List (Lit × DataW H) → Nat
  | [] => 0
  | x :: r => uptoBulkEntry x + uptoBulkEntries r
def uptoBulkEntry {H : Type} : Lit × DataW H → Nat
  | (.string bytes, d) => bytes.length + uptoBulk d + 1
  | (_, d) => uptoBulk d + 1
 end
def uptoSmall : (H : Type) → List (DataW H) → Bool := fun _ ds => decide (uptoBulkAll ds ≤ 1048576)
def OpenSpec.upto (s : _root_.Go.ChangeSpec) : _root_.Go.OpenSpec := { _root_.Go.OpenSpec.ofChange s with cond := some uptoSmall }

/-- 'laws.FnWalkMore', WHERE WHAT IT READS IS OF BULK AT MOST 1048576: true; the input reads as it did. -/
def fnWalkMoreUptoRow : OpenClaim := { program := "ytogmbeifbjgphaagreat", sum := "5f8d4906d0ec4f72f97619e86129a2bd9493c7c795646204c4cfe3ff0c82ee45", func := "loop.example/hagioscope/laws.FnWalkMore", spec := "fnWalkMore", inPlace := ["slices.overlaps[loop.example/hagioscope/impl.Node]", "slices.overlaps[loop.example/hagioscope/impl.Edge]"], unfollowed := true, recurses := true, apart := false, narrowed := true }
def FnWalkMoreUptoSaid : Prop := fnWalkMoreUptoRow.holds Tryz.pinned (OpenSpec.upto fnWalkMoreSpec)

/-- 'laws.FnWalkCore', WHERE WHAT IT READS IS OF BULK AT MOST 1048576: true; the input reads as it did. -/
def fnWalkCoreUptoRow : OpenClaim := { program := "ytogmbeifbjgphaagreat", sum := "5f8d4906d0ec4f72f97619e86129a2bd9493c7c795646204c4cfe3ff0c82ee45", func := "loop.example/hagioscope/laws.FnWalkCore", spec := "fnWalkCore", inPlace := ["slices.overlaps[loop.example/hagioscope/impl.Node]", "slices.overlaps[loop.example/hagioscope/impl.Edge]"], unfollowed := true, recurses := true, apart := false, narrowed := true }
def FnWalkCoreUptoSaid : Prop := fnWalkCoreUptoRow.holds Tryz.pinned (OpenSpec.upto fnWalkCoreSpec)

/-- 'laws.FnStore', WHERE WHAT IT READS IS OF BULK AT MOST 1048576: true; the input reads as it did. -/
def fnStoreUptoRow : OpenClaim := { program := "ytogmbeifbjgphaagreat", sum := "5f8d4906d0ec4f72f97619e86129a2bd9493c7c795646204c4cfe3ff0c82ee45", func := "loop.example/hagioscope/laws.FnStore", spec := "fnStore", unfollowed := true, recurses := true, apart := false, narrowed := true }
def FnStoreUptoSaid : Prop := fnStoreUptoRow.holds Tryz.pinned (OpenSpec.upto fnStoreSpec)

/-- 'laws.FnSegApart', WHERE WHAT IT READS IS OF BULK AT MOST 1048576: true; the input reads as it did. -/
def fnSegApartUptoRow : OpenClaim := { program := "ytogmbeifbjgphaagreat", sum := "5f8d4906d0ec4f72f97619e86129a2bd9493c7c795646204c4cfe3ff0c82ee45", func := "loop.example/hagioscope/laws.FnSegApart", spec := "fnSegApart", inPlace := ["slices.overlaps[loop.example/hagioscope/impl.Node]", "slices.overlaps[loop.example/hagioscope/impl.Edge]"], unfollowed := true, recurses := true, apart := false, narrowed := true }
def FnSegApartUptoSaid : Prop := fnSegApartUptoRow.holds Tryz.pinned (OpenSpec.upto fnSegApartSpec)

/-- 'laws.FnSegLong', WHERE WHAT IT READS IS OF BULK AT MOST 1048576: true; the input reads as it did. -/
def fnSegLongUptoRow : OpenClaim := { program := "ytogmbeifbjgphaagreat", sum := "5f8d4906d0ec4f72f97619e86129a2bd9493c7c795646204c4cfe3ff0c82ee45", func := "loop.example/hagioscope/laws.FnSegLong", spec := "fnSegLong", inPlace := ["slices.overlaps[loop.example/hagioscope/impl.Node]", "slices.overlaps[loop.example/hagioscope/impl.Edge]"], unfollowed := true, recurses := true, apart := false, narrowed := true }
def FnSegLongUptoSaid : Prop := fnSegLongUptoRow.holds Tryz.pinned (OpenSpec.upto fnSegLongSpec)

/-- 'laws.FnWalkLess', WHERE WHAT IT READS IS OF BULK AT MOST 1048576: true; the input reads as it did. -/
def fnWalkLessUptoRow : OpenClaim := { program := "ytogmbeifbjgphaagreat", sum := "5f8d4906d0ec4f72f97619e86129a2bd9493c7c795646204c4cfe3ff0c82ee45", func := "loop.example/hagioscope/laws.FnWalkLess", spec := "fnWalkLess", inPlace := ["slices.overlaps[loop.example/hagioscope/impl.Node]", "slices.overlaps[loop.example/hagioscope/impl.Edge]"], unfollowed := true, recurses := true, apart := false, narrowed := true }
def FnWalkLessUptoSaid : Prop := fnWalkLessUptoRow.holds Tryz.pinned (OpenSpec.upto fnWalkLessSpec)

end Rows
end Go.Proofs.YtogmbeifbjgphaaGreat
