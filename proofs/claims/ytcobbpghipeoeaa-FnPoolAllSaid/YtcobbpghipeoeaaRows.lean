/-
  No cell of these rows narrows 'for every input' (looked for: loops, veiled, ifaces, maps, wideKeys, modest, calm, conditions, laid).
  DERIVED. THE GIVEN ROWS OF THIS SEAT. 17 by the template 'for every input the law returns true; each argument reads behind the call as it read before'; 0 by the template 'total and deterministic' (their statements: YtcobbpghipeoeaaTotals.lean).
  GIVEN WITH THE SEED: the statements are not yours to turn. If you find one false, say at which input.
  Laid BY PROGRAM, IN A SANDBOX (cutbox-rows.mjs): the forced cells as the released guide's own fill.sh prints them over the translation 41fa2e221e9524a4… (all of the seat's roots in one cut). By AI agents, Wed Nov 11 2026. No macro, syntax, notation, axiom, sorry.
-/
import Derived.Test.YtcobbpghipeoeaaChecked
import GoSem.Claim
import GoSem.ClaimJoined
import GoSem.ClaimMapViews
import Derived.JoinedTies
import Derived.KernelRfl
namespace Go.Proofs.Ytcobbpghipeoeaa
/- THE CELL 'sum', in the pinned program and in every row, IS THE sha256 OF THE DUMP (.gsa) THAT YtcobbpghipeoeaaProg.lean LOADS. Nothing in Lean hashes anything: it is a label: what it is worth is what the hold of that sum in a sandbox is worth. -/
noncomputable def Try.pinned : Pinned := { name := "ytcobbpghipeoeaa", sum := "41fa2e221e9524a40e10fef6379dd97da4781b8e3ca0755904b327605cdb87c8", checked := Try.checked }
namespace Rows
def none {H : Type} : Left H := { results := [], args := [] }

/-- 'laws.FnExactPageOk': WHATEVER THE INPUT: true; the input reads as it did. -/
def fnExactPageOkSpec : ChangeSpec := { name := "fnExactPageOk", fn := fun _ => fun
  | [d] => { results := [.lit (.bool true)], args := [d] }
  | _ => none }
def fnExactPageOkRow : OpenClaim := { program := "ytcobbpghipeoeaa", sum := "41fa2e221e9524a40e10fef6379dd97da4781b8e3ca0755904b327605cdb87c8", func := "loop.example/hagioscope/laws.FnExactPageOk", spec := "fnExactPageOk", apart := false }
def FnExactPageOkSaid : Prop := fnExactPageOkRow.holds Try.pinned (OpenSpec.ofChange fnExactPageOkSpec)

/-- ITS FALSE NEIGHBOUR: 'it returns false'. Refute it at one input. -/
def fnExactPageOkWrong : ChangeSpec := { name := "fnExactPageOk", fn := fun _ => fun
  | [d] => { results := [.lit (.bool false)], args := [d] }
  | _ => none }
def FnExactPageOkWrongFalsely : Prop := fnExactPageOkRow.holds Try.pinned (OpenSpec.ofChange fnExactPageOkWrong)

/-- 'laws.FnExactPageSpan': WHATEVER THE INPUT: true; the input reads as it did. -/
def fnExactPageSpanSpec : ChangeSpec := { name := "fnExactPageSpan", fn := fun _ => fun
  | [d1, d2, d3] => { results := [.lit (.bool true)], args := [d1, d2, d3] }
  | _ => none }
def fnExactPageSpanRow : OpenClaim := { program := "ytcobbpghipeoeaa", sum := "41fa2e221e9524a40e10fef6379dd97da4781b8e3ca0755904b327605cdb87c8", func := "loop.example/hagioscope/laws.FnExactPageSpan", spec := "fnExactPageSpan", apart := false }
def FnExactPageSpanSaid : Prop := fnExactPageSpanRow.holds Try.pinned (OpenSpec.ofChange fnExactPageSpanSpec)

/-- ITS FALSE NEIGHBOUR: 'it returns false'. Refute it at one input. -/
def fnExactPageSpanWrong : ChangeSpec := { name := "fnExactPageSpan", fn := fun _ => fun
  | [d1, d2, d3] => { results := [.lit (.bool false)], args := [d1, d2, d3] }
  | _ => none }
def FnExactPageSpanWrongFalsely : Prop := fnExactPageSpanRow.holds Try.pinned (OpenSpec.ofChange fnExactPageSpanWrong)

/-- 'laws.FnPageApart': WHATEVER THE INPUT: true; the input reads as it did. -/
def fnPageApartSpec : ChangeSpec := { name := "fnPageApart", fn := fun _ => fun
  | [d1, d2] => { results := [.lit (.bool true)], args := [d1, d2] }
  | _ => none }
def fnPageApartRow : OpenClaim := { program := "ytcobbpghipeoeaa", sum := "41fa2e221e9524a40e10fef6379dd97da4781b8e3ca0755904b327605cdb87c8", func := "loop.example/hagioscope/laws.FnPageApart", spec := "fnPageApart", apart := false }
def FnPageApartSaid : Prop := fnPageApartRow.holds Try.pinned (OpenSpec.ofChange fnPageApartSpec)

/-- ITS FALSE NEIGHBOUR: 'it returns false'. Refute it at one input. -/
def fnPageApartWrong : ChangeSpec := { name := "fnPageApart", fn := fun _ => fun
  | [d1, d2] => { results := [.lit (.bool false)], args := [d1, d2] }
  | _ => none }
def FnPageApartWrongFalsely : Prop := fnPageApartRow.holds Try.pinned (OpenSpec.ofChange fnPageApartWrong)

/-- 'laws.FnPageSpan': WHATEVER THE INPUT: true; the input reads as it did. -/
def fnPageSpanSpec : ChangeSpec := { name := "fnPageSpan", fn := fun _ => fun
  | [d] => { results := [.lit (.bool true)], args := [d] }
  | _ => none }
def fnPageSpanRow : OpenClaim := { program := "ytcobbpghipeoeaa", sum := "41fa2e221e9524a40e10fef6379dd97da4781b8e3ca0755904b327605cdb87c8", func := "loop.example/hagioscope/laws.FnPageSpan", spec := "fnPageSpan", apart := false }
def FnPageSpanSaid : Prop := fnPageSpanRow.holds Try.pinned (OpenSpec.ofChange fnPageSpanSpec)

/-- ITS FALSE NEIGHBOUR: 'it returns false'. Refute it at one input. -/
def fnPageSpanWrong : ChangeSpec := { name := "fnPageSpan", fn := fun _ => fun
  | [d] => { results := [.lit (.bool false)], args := [d] }
  | _ => none }
def FnPageSpanWrongFalsely : Prop := fnPageSpanRow.holds Try.pinned (OpenSpec.ofChange fnPageSpanWrong)

/-- 'laws.FnExactPoolSame': WHATEVER THE INPUT: true; the input reads as it did. -/
def fnExactPoolSameSpec : ChangeSpec := { name := "fnExactPoolSame", fn := fun _ => fun
  | [d1, d2] => { results := [.lit (.bool true)], args := [d1, d2] }
  | _ => none }
def fnExactPoolSameRow : OpenClaim := { program := "ytcobbpghipeoeaa", sum := "41fa2e221e9524a40e10fef6379dd97da4781b8e3ca0755904b327605cdb87c8", func := "loop.example/hagioscope/laws.FnExactPoolSame", spec := "fnExactPoolSame", apart := false }
def FnExactPoolSameSaid : Prop := fnExactPoolSameRow.holds Try.pinned (OpenSpec.ofChange fnExactPoolSameSpec)

/-- ITS FALSE NEIGHBOUR: 'it returns false'. Refute it at one input. -/
def fnExactPoolSameWrong : ChangeSpec := { name := "fnExactPoolSame", fn := fun _ => fun
  | [d1, d2] => { results := [.lit (.bool false)], args := [d1, d2] }
  | _ => none }
def FnExactPoolSameWrongFalsely : Prop := fnExactPoolSameRow.holds Try.pinned (OpenSpec.ofChange fnExactPoolSameWrong)

/-- 'laws.FnExactPoolOk': WHATEVER THE INPUT: true; the input reads as it did. -/
def fnExactPoolOkSpec : ChangeSpec := { name := "fnExactPoolOk", fn := fun _ => fun
  | [d] => { results := [.lit (.bool true)], args := [d] }
  | _ => none }
def fnExactPoolOkRow : OpenClaim := { program := "ytcobbpghipeoeaa", sum := "41fa2e221e9524a40e10fef6379dd97da4781b8e3ca0755904b327605cdb87c8", func := "loop.example/hagioscope/laws.FnExactPoolOk", spec := "fnExactPoolOk", apart := false }
def FnExactPoolOkSaid : Prop := fnExactPoolOkRow.holds Try.pinned (OpenSpec.ofChange fnExactPoolOkSpec)

/-- ITS FALSE NEIGHBOUR: 'it returns false'. Refute it at one input. -/
def fnExactPoolOkWrong : ChangeSpec := { name := "fnExactPoolOk", fn := fun _ => fun
  | [d] => { results := [.lit (.bool false)], args := [d] }
  | _ => none }
def FnExactPoolOkWrongFalsely : Prop := fnExactPoolOkRow.holds Try.pinned (OpenSpec.ofChange fnExactPoolOkWrong)

/-- 'laws.FnPoolBent': WHATEVER THE INPUT: true; the input reads as it did. -/
def fnPoolBentSpec : ChangeSpec := { name := "fnPoolBent", fn := fun _ => fun
  | [d] => { results := [.lit (.bool true)], args := [d] }
  | _ => none }
def fnPoolBentRow : OpenClaim := { program := "ytcobbpghipeoeaa", sum := "41fa2e221e9524a40e10fef6379dd97da4781b8e3ca0755904b327605cdb87c8", func := "loop.example/hagioscope/laws.FnPoolBent", spec := "fnPoolBent", apart := false }
def FnPoolBentSaid : Prop := fnPoolBentRow.holds Try.pinned (OpenSpec.ofChange fnPoolBentSpec)

/-- ITS FALSE NEIGHBOUR: 'it returns false'. Refute it at one input. -/
def fnPoolBentWrong : ChangeSpec := { name := "fnPoolBent", fn := fun _ => fun
  | [d] => { results := [.lit (.bool false)], args := [d] }
  | _ => none }
def FnPoolBentWrongFalsely : Prop := fnPoolBentRow.holds Try.pinned (OpenSpec.ofChange fnPoolBentWrong)

/-- 'laws.FnPoolHit': WHATEVER THE INPUT: true; the input reads as it did. -/
def fnPoolHitSpec : ChangeSpec := { name := "fnPoolHit", fn := fun _ => fun
  | [d] => { results := [.lit (.bool true)], args := [d] }
  | _ => none }
def fnPoolHitRow : OpenClaim := { program := "ytcobbpghipeoeaa", sum := "41fa2e221e9524a40e10fef6379dd97da4781b8e3ca0755904b327605cdb87c8", func := "loop.example/hagioscope/laws.FnPoolHit", spec := "fnPoolHit", apart := false }
def FnPoolHitSaid : Prop := fnPoolHitRow.holds Try.pinned (OpenSpec.ofChange fnPoolHitSpec)

/-- ITS FALSE NEIGHBOUR: 'it returns false'. Refute it at one input. -/
def fnPoolHitWrong : ChangeSpec := { name := "fnPoolHit", fn := fun _ => fun
  | [d] => { results := [.lit (.bool false)], args := [d] }
  | _ => none }
def FnPoolHitWrongFalsely : Prop := fnPoolHitRow.holds Try.pinned (OpenSpec.ofChange fnPoolHitWrong)

/-- 'laws.FnPoolUse': WHATEVER THE INPUT: true; the input reads as it did. -/
def fnPoolUseSpec : ChangeSpec := { name := "fnPoolUse", fn := fun _ => fun
  | [d] => { results := [.lit (.bool true)], args := [d] }
  | _ => none }
def fnPoolUseRow : OpenClaim := { program := "ytcobbpghipeoeaa", sum := "41fa2e221e9524a40e10fef6379dd97da4781b8e3ca0755904b327605cdb87c8", func := "loop.example/hagioscope/laws.FnPoolUse", spec := "fnPoolUse", apart := false }
def FnPoolUseSaid : Prop := fnPoolUseRow.holds Try.pinned (OpenSpec.ofChange fnPoolUseSpec)

/-- ITS FALSE NEIGHBOUR: 'it returns false'. Refute it at one input. -/
def fnPoolUseWrong : ChangeSpec := { name := "fnPoolUse", fn := fun _ => fun
  | [d] => { results := [.lit (.bool false)], args := [d] }
  | _ => none }
def FnPoolUseWrongFalsely : Prop := fnPoolUseRow.holds Try.pinned (OpenSpec.ofChange fnPoolUseWrong)

/-- 'laws.FnPoolAll': WHATEVER THE INPUT: true; the input reads as it did. -/
def fnPoolAllSpec : ChangeSpec := { name := "fnPoolAll", fn := fun _ => fun
  | [d1, d2] => { results := [.lit (.bool true)], args := [d1, d2] }
  | _ => none }
def fnPoolAllRow : OpenClaim := { program := "ytcobbpghipeoeaa", sum := "41fa2e221e9524a40e10fef6379dd97da4781b8e3ca0755904b327605cdb87c8", func := "loop.example/hagioscope/laws.FnPoolAll", spec := "fnPoolAll", apart := false }
def FnPoolAllSaid : Prop := fnPoolAllRow.holds Try.pinned (OpenSpec.ofChange fnPoolAllSpec)

/-- ITS FALSE NEIGHBOUR: 'it returns false'. Refute it at one input. -/
def fnPoolAllWrong : ChangeSpec := { name := "fnPoolAll", fn := fun _ => fun
  | [d1, d2] => { results := [.lit (.bool false)], args := [d1, d2] }
  | _ => none }
def FnPoolAllWrongFalsely : Prop := fnPoolAllRow.holds Try.pinned (OpenSpec.ofChange fnPoolAllWrong)

/-- 'laws.FnPoolNone': WHATEVER THE INPUT: true; the input reads as it did. -/
def fnPoolNoneSpec : ChangeSpec := { name := "fnPoolNone", fn := fun _ => fun
  | [d] => { results := [.lit (.bool true)], args := [d] }
  | _ => none }
def fnPoolNoneRow : OpenClaim := { program := "ytcobbpghipeoeaa", sum := "41fa2e221e9524a40e10fef6379dd97da4781b8e3ca0755904b327605cdb87c8", func := "loop.example/hagioscope/laws.FnPoolNone", spec := "fnPoolNone", apart := false }
def FnPoolNoneSaid : Prop := fnPoolNoneRow.holds Try.pinned (OpenSpec.ofChange fnPoolNoneSpec)

/-- ITS FALSE NEIGHBOUR: 'it returns false'. Refute it at one input. -/
def fnPoolNoneWrong : ChangeSpec := { name := "fnPoolNone", fn := fun _ => fun
  | [d] => { results := [.lit (.bool false)], args := [d] }
  | _ => none }
def FnPoolNoneWrongFalsely : Prop := fnPoolNoneRow.holds Try.pinned (OpenSpec.ofChange fnPoolNoneWrong)

/-- 'laws.FnPoolOrder': WHATEVER THE INPUT: true; the input reads as it did. -/
def fnPoolOrderSpec : ChangeSpec := { name := "fnPoolOrder", fn := fun _ => fun
  | [d] => { results := [.lit (.bool true)], args := [d] }
  | _ => none }
def fnPoolOrderRow : OpenClaim := { program := "ytcobbpghipeoeaa", sum := "41fa2e221e9524a40e10fef6379dd97da4781b8e3ca0755904b327605cdb87c8", func := "loop.example/hagioscope/laws.FnPoolOrder", spec := "fnPoolOrder", apart := false }
def FnPoolOrderSaid : Prop := fnPoolOrderRow.holds Try.pinned (OpenSpec.ofChange fnPoolOrderSpec)

/-- ITS FALSE NEIGHBOUR: 'it returns false'. Refute it at one input. -/
def fnPoolOrderWrong : ChangeSpec := { name := "fnPoolOrder", fn := fun _ => fun
  | [d] => { results := [.lit (.bool false)], args := [d] }
  | _ => none }
def FnPoolOrderWrongFalsely : Prop := fnPoolOrderRow.holds Try.pinned (OpenSpec.ofChange fnPoolOrderWrong)

/-- 'laws.FnPoolTwice': WHATEVER THE INPUT: true; the input reads as it did. -/
def fnPoolTwiceSpec : ChangeSpec := { name := "fnPoolTwice", fn := fun _ => fun
  | [d] => { results := [.lit (.bool true)], args := [d] }
  | _ => none }
def fnPoolTwiceRow : OpenClaim := { program := "ytcobbpghipeoeaa", sum := "41fa2e221e9524a40e10fef6379dd97da4781b8e3ca0755904b327605cdb87c8", func := "loop.example/hagioscope/laws.FnPoolTwice", spec := "fnPoolTwice", apart := false }
def FnPoolTwiceSaid : Prop := fnPoolTwiceRow.holds Try.pinned (OpenSpec.ofChange fnPoolTwiceSpec)

/-- ITS FALSE NEIGHBOUR: 'it returns false'. Refute it at one input. -/
def fnPoolTwiceWrong : ChangeSpec := { name := "fnPoolTwice", fn := fun _ => fun
  | [d] => { results := [.lit (.bool false)], args := [d] }
  | _ => none }
def FnPoolTwiceWrongFalsely : Prop := fnPoolTwiceRow.holds Try.pinned (OpenSpec.ofChange fnPoolTwiceWrong)

/-- 'laws.FnExactPoolUse': WHATEVER THE INPUT: true; the input reads as it did. -/
def fnExactPoolUseSpec : ChangeSpec := { name := "fnExactPoolUse", fn := fun _ => fun
  | [d1, d2] => { results := [.lit (.bool true)], args := [d1, d2] }
  | _ => none }
def fnExactPoolUseRow : OpenClaim := { program := "ytcobbpghipeoeaa", sum := "41fa2e221e9524a40e10fef6379dd97da4781b8e3ca0755904b327605cdb87c8", func := "loop.example/hagioscope/laws.FnExactPoolUse", spec := "fnExactPoolUse", apart := false }
def FnExactPoolUseSaid : Prop := fnExactPoolUseRow.holds Try.pinned (OpenSpec.ofChange fnExactPoolUseSpec)

/-- ITS FALSE NEIGHBOUR: 'it returns false'. Refute it at one input. -/
def fnExactPoolUseWrong : ChangeSpec := { name := "fnExactPoolUse", fn := fun _ => fun
  | [d1, d2] => { results := [.lit (.bool false)], args := [d1, d2] }
  | _ => none }
def FnExactPoolUseWrongFalsely : Prop := fnExactPoolUseRow.holds Try.pinned (OpenSpec.ofChange fnExactPoolUseWrong)

/-- 'laws.FnPoolLast': WHATEVER THE INPUT: true; the input reads as it did. -/
def fnPoolLastSpec : ChangeSpec := { name := "fnPoolLast", fn := fun _ => fun
  | [d] => { results := [.lit (.bool true)], args := [d] }
  | _ => none }
def fnPoolLastRow : OpenClaim := { program := "ytcobbpghipeoeaa", sum := "41fa2e221e9524a40e10fef6379dd97da4781b8e3ca0755904b327605cdb87c8", func := "loop.example/hagioscope/laws.FnPoolLast", spec := "fnPoolLast", apart := false }
def FnPoolLastSaid : Prop := fnPoolLastRow.holds Try.pinned (OpenSpec.ofChange fnPoolLastSpec)

/-- ITS FALSE NEIGHBOUR: 'it returns false'. Refute it at one input. -/
def fnPoolLastWrong : ChangeSpec := { name := "fnPoolLast", fn := fun _ => fun
  | [d] => { results := [.lit (.bool false)], args := [d] }
  | _ => none }
def FnPoolLastWrongFalsely : Prop := fnPoolLastRow.holds Try.pinned (OpenSpec.ofChange fnPoolLastWrong)

/-- 'laws.FnPoolMore': WHATEVER THE INPUT: true; the input reads as it did. -/
def fnPoolMoreSpec : ChangeSpec := { name := "fnPoolMore", fn := fun _ => fun
  | [d1, d2] => { results := [.lit (.bool true)], args := [d1, d2] }
  | _ => none }
def fnPoolMoreRow : OpenClaim := { program := "ytcobbpghipeoeaa", sum := "41fa2e221e9524a40e10fef6379dd97da4781b8e3ca0755904b327605cdb87c8", func := "loop.example/hagioscope/laws.FnPoolMore", spec := "fnPoolMore", apart := false }
def FnPoolMoreSaid : Prop := fnPoolMoreRow.holds Try.pinned (OpenSpec.ofChange fnPoolMoreSpec)

/-- ITS FALSE NEIGHBOUR: 'it returns false'. Refute it at one input. -/
def fnPoolMoreWrong : ChangeSpec := { name := "fnPoolMore", fn := fun _ => fun
  | [d1, d2] => { results := [.lit (.bool false)], args := [d1, d2] }
  | _ => none }
def FnPoolMoreWrongFalsely : Prop := fnPoolMoreRow.holds Try.pinned (OpenSpec.ofChange fnPoolMoreWrong)

/-- 'laws.FnExactPoolAll': WHATEVER THE INPUT: true; the input reads as it did. -/
def fnExactPoolAllSpec : ChangeSpec := { name := "fnExactPoolAll", fn := fun _ => fun
  | [d1, d2] => { results := [.lit (.bool true)], args := [d1, d2] }
  | _ => none }
def fnExactPoolAllRow : OpenClaim := { program := "ytcobbpghipeoeaa", sum := "41fa2e221e9524a40e10fef6379dd97da4781b8e3ca0755904b327605cdb87c8", func := "loop.example/hagioscope/laws.FnExactPoolAll", spec := "fnExactPoolAll", apart := false }
def FnExactPoolAllSaid : Prop := fnExactPoolAllRow.holds Try.pinned (OpenSpec.ofChange fnExactPoolAllSpec)

/-- ITS FALSE NEIGHBOUR: 'it returns false'. Refute it at one input. -/
def fnExactPoolAllWrong : ChangeSpec := { name := "fnExactPoolAll", fn := fun _ => fun
  | [d1, d2] => { results := [.lit (.bool false)], args := [d1, d2] }
  | _ => none }
def FnExactPoolAllWrongFalsely : Prop := fnExactPoolAllRow.holds Try.pinned (OpenSpec.ofChange fnExactPoolAllWrong)

/- THE SECOND FORM. 'bulk': how many values and letters a reading holds, each counted each time it is reached (what is shared counts as often as it is met; a slice's spare places count too). A statement '..UptoSaid' is the law's where the arguments, and the package variables that the reading takes, are together of bulk at most 1048576: NARROWER than '..Said'. Prove '..Said' where nothing that the law and all that it calls make is longer than what came in: it says more and counts as full. Else prove '..UptoSaid'. A law counts once. -/
mutual
def uptoBulk {H : Type} : DataW H → Nat
  | .lit (.string bytes) => bytes.length + 1
  | .lit _ => 1
  | .nil => 1
  | .ptr d => uptoBulk d + 1
  | .slice elems spare => uptoBulkAll elems + uptoBulkAll spare + 1
  | .agg parts => uptoBulkAll parts + 1
  | .iface _ d => uptoBulk d + 1
  | .map entries => uptoBulkEntries entries + 1
  | .held _ => 1
def uptoBulkAll {H : Type} : List (DataW H) → Nat
  | [] => 0
  | d :: r => uptoBulk d + uptoBulkAll r
def uptoBulkEntries {H : Type} : List (Lit × DataW H) → Nat
  | [] => 0
  | x :: r => uptoBulkEntry x + uptoBulkEntries r
def uptoBulkEntry {H : Type} : Lit × DataW H → Nat
  | (.string bytes, d) => bytes.length + uptoBulk d + 1
  | (_, d) => uptoBulk d + 1
 end
def uptoSmall : (H : Type) → List (DataW H) → Bool := fun _ ds => decide (uptoBulkAll ds ≤ 1048576)
def OpenSpec.upto (s : _root_.Go.ChangeSpec) : _root_.Go.OpenSpec := { _root_.Go.OpenSpec.ofChange s with cond := some uptoSmall }

/-- 'laws.FnExactPageOk', WHERE WHAT IT READS IS OF BULK AT MOST 1048576: true; the input reads as it did. -/
def fnExactPageOkUptoRow : OpenClaim := { program := "ytcobbpghipeoeaa", sum := "41fa2e221e9524a40e10fef6379dd97da4781b8e3ca0755904b327605cdb87c8", func := "loop.example/hagioscope/laws.FnExactPageOk", spec := "fnExactPageOk", apart := false, narrowed := true }
def FnExactPageOkUptoSaid : Prop := fnExactPageOkUptoRow.holds Try.pinned (OpenSpec.upto fnExactPageOkSpec)

/-- 'laws.FnExactPageSpan', WHERE WHAT IT READS IS OF BULK AT MOST 1048576: true; the input reads as it did. -/
def fnExactPageSpanUptoRow : OpenClaim := { program := "ytcobbpghipeoeaa", sum := "41fa2e221e9524a40e10fef6379dd97da4781b8e3ca0755904b327605cdb87c8", func := "loop.example/hagioscope/laws.FnExactPageSpan", spec := "fnExactPageSpan", apart := false, narrowed := true }
def FnExactPageSpanUptoSaid : Prop := fnExactPageSpanUptoRow.holds Try.pinned (OpenSpec.upto fnExactPageSpanSpec)

/-- 'laws.FnPageApart', WHERE WHAT IT READS IS OF BULK AT MOST 1048576: true; the input reads as it did. -/
def fnPageApartUptoRow : OpenClaim := { program := "ytcobbpghipeoeaa", sum := "41fa2e221e9524a40e10fef6379dd97da4781b8e3ca0755904b327605cdb87c8", func := "loop.example/hagioscope/laws.FnPageApart", spec := "fnPageApart", apart := false, narrowed := true }
def FnPageApartUptoSaid : Prop := fnPageApartUptoRow.holds Try.pinned (OpenSpec.upto fnPageApartSpec)

/-- 'laws.FnPageSpan', WHERE WHAT IT READS IS OF BULK AT MOST 1048576: true; the input reads as it did. -/
def fnPageSpanUptoRow : OpenClaim := { program := "ytcobbpghipeoeaa", sum := "41fa2e221e9524a40e10fef6379dd97da4781b8e3ca0755904b327605cdb87c8", func := "loop.example/hagioscope/laws.FnPageSpan", spec := "fnPageSpan", apart := false, narrowed := true }
def FnPageSpanUptoSaid : Prop := fnPageSpanUptoRow.holds Try.pinned (OpenSpec.upto fnPageSpanSpec)

/-- 'laws.FnExactPoolSame', WHERE WHAT IT READS IS OF BULK AT MOST 1048576: true; the input reads as it did. -/
def fnExactPoolSameUptoRow : OpenClaim := { program := "ytcobbpghipeoeaa", sum := "41fa2e221e9524a40e10fef6379dd97da4781b8e3ca0755904b327605cdb87c8", func := "loop.example/hagioscope/laws.FnExactPoolSame", spec := "fnExactPoolSame", apart := false, narrowed := true }
def FnExactPoolSameUptoSaid : Prop := fnExactPoolSameUptoRow.holds Try.pinned (OpenSpec.upto fnExactPoolSameSpec)

/-- 'laws.FnExactPoolOk', WHERE WHAT IT READS IS OF BULK AT MOST 1048576: true; the input reads as it did. -/
def fnExactPoolOkUptoRow : OpenClaim := { program := "ytcobbpghipeoeaa", sum := "41fa2e221e9524a40e10fef6379dd97da4781b8e3ca0755904b327605cdb87c8", func := "loop.example/hagioscope/laws.FnExactPoolOk", spec := "fnExactPoolOk", apart := false, narrowed := true }
def FnExactPoolOkUptoSaid : Prop := fnExactPoolOkUptoRow.holds Try.pinned (OpenSpec.upto fnExactPoolOkSpec)

/-- 'laws.FnPoolBent', WHERE WHAT IT READS IS OF BULK AT MOST 1048576: true; the input reads as it did. -/
def fnPoolBentUptoRow : OpenClaim := { program := "ytcobbpghipeoeaa", sum := "41fa2e221e9524a40e10fef6379dd97da4781b8e3ca0755904b327605cdb87c8", func := "loop.example/hagioscope/laws.FnPoolBent", spec := "fnPoolBent", apart := false, narrowed := true }
def FnPoolBentUptoSaid : Prop := fnPoolBentUptoRow.holds Try.pinned (OpenSpec.upto fnPoolBentSpec)

/-- 'laws.FnPoolHit', WHERE WHAT IT READS IS OF BULK AT MOST 1048576: true; the input reads as it did. -/
def fnPoolHitUptoRow : OpenClaim := { program := "ytcobbpghipeoeaa", sum := "41fa2e221e9524a40e10fef6379dd97da4781b8e3ca0755904b327605cdb87c8", func := "loop.example/hagioscope/laws.FnPoolHit", spec := "fnPoolHit", apart := false, narrowed := true }
def FnPoolHitUptoSaid : Prop := fnPoolHitUptoRow.holds Try.pinned (OpenSpec.upto fnPoolHitSpec)

/-- 'laws.FnPoolUse', WHERE WHAT IT READS IS OF BULK AT MOST 1048576: true; the input reads as it did. -/
def fnPoolUseUptoRow : OpenClaim := { program := "ytcobbpghipeoeaa", sum := "41fa2e221e9524a40e10fef6379dd97da4781b8e3ca0755904b327605cdb87c8", func := "loop.example/hagioscope/laws.FnPoolUse", spec := "fnPoolUse", apart := false, narrowed := true }
def FnPoolUseUptoSaid : Prop := fnPoolUseUptoRow.holds Try.pinned (OpenSpec.upto fnPoolUseSpec)

/-- 'laws.FnPoolAll', WHERE WHAT IT READS IS OF BULK AT MOST 1048576: true; the input reads as it did. -/
def fnPoolAllUptoRow : OpenClaim := { program := "ytcobbpghipeoeaa", sum := "41fa2e221e9524a40e10fef6379dd97da4781b8e3ca0755904b327605cdb87c8", func := "loop.example/hagioscope/laws.FnPoolAll", spec := "fnPoolAll", apart := false, narrowed := true }
def FnPoolAllUptoSaid : Prop := fnPoolAllUptoRow.holds Try.pinned (OpenSpec.upto fnPoolAllSpec)

/-- 'laws.FnPoolNone', WHERE WHAT IT READS IS OF BULK AT MOST 1048576: true; the input reads as it did. -/
def fnPoolNoneUptoRow : OpenClaim := { program := "ytcobbpghipeoeaa", sum := "41fa2e221e9524a40e10fef6379dd97da4781b8e3ca0755904b327605cdb87c8", func := "loop.example/hagioscope/laws.FnPoolNone", spec := "fnPoolNone", apart := false, narrowed := true }
def FnPoolNoneUptoSaid : Prop := fnPoolNoneUptoRow.holds Try.pinned (OpenSpec.upto fnPoolNoneSpec)

/-- 'laws.FnPoolOrder', WHERE WHAT IT READS IS OF BULK AT MOST 1048576: true; the input reads as it did. -/
def fnPoolOrderUptoRow : OpenClaim := { program := "ytcobbpghipeoeaa", sum := "41fa2e221e9524a40e10fef6379dd97da4781b8e3ca0755904b327605cdb87c8", func := "loop.example/hagioscope/laws.FnPoolOrder", spec := "fnPoolOrder", apart := false, narrowed := true }
def FnPoolOrderUptoSaid : Prop := fnPoolOrderUptoRow.holds Try.pinned (OpenSpec.upto fnPoolOrderSpec)

/-- 'laws.FnPoolTwice', WHERE WHAT IT READS IS OF BULK AT MOST 1048576: true; the input reads as it did. -/
def fnPoolTwiceUptoRow : OpenClaim := { program := "ytcobbpghipeoeaa", sum := "41fa2e221e9524a40e10fef6379dd97da4781b8e3ca0755904b327605cdb87c8", func := "loop.example/hagioscope/laws.FnPoolTwice", spec := "fnPoolTwice", apart := false, narrowed := true }
def FnPoolTwiceUptoSaid : Prop := fnPoolTwiceUptoRow.holds Try.pinned (OpenSpec.upto fnPoolTwiceSpec)

/-- 'laws.FnExactPoolUse', WHERE WHAT IT READS IS OF BULK AT MOST 1048576: true; the input reads as it did. -/
def fnExactPoolUseUptoRow : OpenClaim := { program := "ytcobbpghipeoeaa", sum := "41fa2e221e9524a40e10fef6379dd97da4781b8e3ca0755904b327605cdb87c8", func := "loop.example/hagioscope/laws.FnExactPoolUse", spec := "fnExactPoolUse", apart := false, narrowed := true }
def FnExactPoolUseUptoSaid : Prop := fnExactPoolUseUptoRow.holds Try.pinned (OpenSpec.upto fnExactPoolUseSpec)

/-- 'laws.FnPoolLast', WHERE WHAT IT READS IS OF BULK AT MOST 1048576: true; the input reads as it did. -/
def fnPoolLastUptoRow : OpenClaim := { program := "ytcobbpghipeoeaa", sum := "41fa2e221e9524a40e10fef6379dd97da4781b8e3ca0755904b327605cdb87c8", func := "loop.example/hagioscope/laws.FnPoolLast", spec := "fnPoolLast", apart := false, narrowed := true }
def FnPoolLastUptoSaid : Prop := fnPoolLastUptoRow.holds Try.pinned (OpenSpec.upto fnPoolLastSpec)

/-- 'laws.FnPoolMore', WHERE WHAT IT READS IS OF BULK AT MOST 1048576: true; the input reads as it did. -/
def fnPoolMoreUptoRow : OpenClaim := { program := "ytcobbpghipeoeaa", sum := "41fa2e221e9524a40e10fef6379dd97da4781b8e3ca0755904b327605cdb87c8", func := "loop.example/hagioscope/laws.FnPoolMore", spec := "fnPoolMore", apart := false, narrowed := true }
def FnPoolMoreUptoSaid : Prop := fnPoolMoreUptoRow.holds Try.pinned (OpenSpec.upto fnPoolMoreSpec)

/-- 'laws.FnExactPoolAll', WHERE WHAT IT READS IS OF BULK AT MOST 1048576: true; the input reads as it did. -/
def fnExactPoolAllUptoRow : OpenClaim := { program := "ytcobbpghipeoeaa", sum := "41fa2e221e9524a40e10fef6379dd97da4781b8e3ca0755904b327605cdb87c8", func := "loop.example/hagioscope/laws.FnExactPoolAll", spec := "fnExactPoolAll", apart := false, narrowed := true }
def FnExactPoolAllUptoSaid : Prop := fnExactPoolAllUptoRow.holds Try.pinned (OpenSpec.upto fnExactPoolAllSpec)

end Rows
end Go.Proofs.Ytcobbpghipeoeaa
