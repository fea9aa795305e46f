/-
  No cell of these rows narrows 'for every input' (looked for: loops, veiled, ifaces, maps, wideKeys, modest, calm, conditions, laid).
  DERIVED. THE GIVEN ROWS OF THIS SEAT. 12 by the template 'for every input the law returns true; each argument reads behind the call as it read before'; 0 by the template 'total and deterministic' (their statements: YtfckpcppeiboiaaTotals.lean).
  GIVEN WITH THE SEED: the statements are not yours to turn. If you find one false, say at which input.
  Laid BY PROGRAM, IN A SANDBOX (cutbox-rows.mjs): the forced cells as the released guide's own fill.sh prints them over the translation c177b07c00af19c1… (all of the seat's roots in one cut). By AI agents, Wed Nov 11 2026. No macro, syntax, notation, axiom, sorry.
-/
import Derived.Test.YtfckpcppeiboiaaChecked
import GoSem.Claim
import GoSem.ClaimJoined
import GoSem.ClaimMapViews
import Derived.JoinedTies
import Derived.KernelRfl
namespace Go.Proofs.Ytfckpcppeiboiaa
/- THE CELL 'sum', in the pinned program and in every row, IS THE sha256 OF THE DUMP (.gsa) THAT YtfckpcppeiboiaaProg.lean LOADS. Nothing in Lean hashes anything: it is a label: what it is worth is what the hold of that sum in a sandbox is worth. -/
noncomputable def Try.pinned : Pinned := { name := "ytfckpcppeiboiaa", sum := "c177b07c00af19c1460a290428986a00903ae7db68d4253697a11f749199a219", checked := Try.checked }
namespace Rows
def none {H : Type} : Left H := { results := [], args := [] }

/-- 'laws.FnExactTurnBetween': WHATEVER THE INPUT: true; the input reads as it did. -/
def fnExactTurnBetweenSpec : ChangeSpec := { name := "fnExactTurnBetween", fn := fun _ => fun
  | [d1, d2] => { results := [.lit (.bool true)], args := [d1, d2] }
  | _ => none }
def fnExactTurnBetweenRow : OpenClaim := { program := "ytfckpcppeiboiaa", sum := "c177b07c00af19c1460a290428986a00903ae7db68d4253697a11f749199a219", func := "loop.example/g00948/laws.FnExactTurnBetween", spec := "fnExactTurnBetween", apart := false }
def FnExactTurnBetweenSaid : Prop := fnExactTurnBetweenRow.holds Try.pinned (OpenSpec.ofChange fnExactTurnBetweenSpec)

/-- ITS FALSE NEIGHBOUR: 'it returns false'. Refute it at one input. -/
def fnExactTurnBetweenWrong : ChangeSpec := { name := "fnExactTurnBetween", fn := fun _ => fun
  | [d1, d2] => { results := [.lit (.bool false)], args := [d1, d2] }
  | _ => none }
def FnExactTurnBetweenWrongFalsely : Prop := fnExactTurnBetweenRow.holds Try.pinned (OpenSpec.ofChange fnExactTurnBetweenWrong)

/-- 'laws.FnExactRootOf': WHATEVER THE INPUT: true; the input reads as it did. -/
def fnExactRootOfSpec : ChangeSpec := { name := "fnExactRootOf", fn := fun _ => fun
  | [d] => { results := [.lit (.bool true)], args := [d] }
  | _ => none }
def fnExactRootOfRow : OpenClaim := { program := "ytfckpcppeiboiaa", sum := "c177b07c00af19c1460a290428986a00903ae7db68d4253697a11f749199a219", func := "loop.example/g00948/laws.FnExactRootOf", spec := "fnExactRootOf", apart := false }
def FnExactRootOfSaid : Prop := fnExactRootOfRow.holds Try.pinned (OpenSpec.ofChange fnExactRootOfSpec)

/-- ITS FALSE NEIGHBOUR: 'it returns false'. Refute it at one input. -/
def fnExactRootOfWrong : ChangeSpec := { name := "fnExactRootOf", fn := fun _ => fun
  | [d] => { results := [.lit (.bool false)], args := [d] }
  | _ => none }
def FnExactRootOfWrongFalsely : Prop := fnExactRootOfRow.holds Try.pinned (OpenSpec.ofChange fnExactRootOfWrong)

/-- 'laws.FnExactDaysInMonth': WHATEVER THE INPUT: true; the input reads as it did. -/
def fnExactDaysInMonthSpec : ChangeSpec := { name := "fnExactDaysInMonth", fn := fun _ => fun
  | [d1, d2] => { results := [.lit (.bool true)], args := [d1, d2] }
  | _ => none }
def fnExactDaysInMonthRow : OpenClaim := { program := "ytfckpcppeiboiaa", sum := "c177b07c00af19c1460a290428986a00903ae7db68d4253697a11f749199a219", func := "loop.example/g00948/laws.FnExactDaysInMonth", spec := "fnExactDaysInMonth", apart := false }
def FnExactDaysInMonthSaid : Prop := fnExactDaysInMonthRow.holds Try.pinned (OpenSpec.ofChange fnExactDaysInMonthSpec)

/-- ITS FALSE NEIGHBOUR: 'it returns false'. Refute it at one input. -/
def fnExactDaysInMonthWrong : ChangeSpec := { name := "fnExactDaysInMonth", fn := fun _ => fun
  | [d1, d2] => { results := [.lit (.bool false)], args := [d1, d2] }
  | _ => none }
def FnExactDaysInMonthWrongFalsely : Prop := fnExactDaysInMonthRow.holds Try.pinned (OpenSpec.ofChange fnExactDaysInMonthWrong)

/-- 'laws.FnExactIsDate': WHATEVER THE INPUT: true; the input reads as it did. -/
def fnExactIsDateSpec : ChangeSpec := { name := "fnExactIsDate", fn := fun _ => fun
  | [d] => { results := [.lit (.bool true)], args := [d] }
  | _ => none }
def fnExactIsDateRow : OpenClaim := { program := "ytfckpcppeiboiaa", sum := "c177b07c00af19c1460a290428986a00903ae7db68d4253697a11f749199a219", func := "loop.example/g00948/laws.FnExactIsDate", spec := "fnExactIsDate", apart := false }
def FnExactIsDateSaid : Prop := fnExactIsDateRow.holds Try.pinned (OpenSpec.ofChange fnExactIsDateSpec)

/-- ITS FALSE NEIGHBOUR: 'it returns false'. Refute it at one input. -/
def fnExactIsDateWrong : ChangeSpec := { name := "fnExactIsDate", fn := fun _ => fun
  | [d] => { results := [.lit (.bool false)], args := [d] }
  | _ => none }
def FnExactIsDateWrongFalsely : Prop := fnExactIsDateRow.holds Try.pinned (OpenSpec.ofChange fnExactIsDateWrong)

/-- 'laws.FnExactMixOf': WHATEVER THE INPUT: true; the input reads as it did. -/
def fnExactMixOfSpec : ChangeSpec := { name := "fnExactMixOf", fn := fun _ => fun
  | [d1, d2, d3, d4] => { results := [.lit (.bool true)], args := [d1, d2, d3, d4] }
  | _ => none }
def fnExactMixOfRow : OpenClaim := { program := "ytfckpcppeiboiaa", sum := "c177b07c00af19c1460a290428986a00903ae7db68d4253697a11f749199a219", func := "loop.example/g00948/laws.FnExactMixOf", spec := "fnExactMixOf", apart := false }
def FnExactMixOfSaid : Prop := fnExactMixOfRow.holds Try.pinned (OpenSpec.ofChange fnExactMixOfSpec)

/-- ITS FALSE NEIGHBOUR: 'it returns false'. Refute it at one input. -/
def fnExactMixOfWrong : ChangeSpec := { name := "fnExactMixOf", fn := fun _ => fun
  | [d1, d2, d3, d4] => { results := [.lit (.bool false)], args := [d1, d2, d3, d4] }
  | _ => none }
def FnExactMixOfWrongFalsely : Prop := fnExactMixOfRow.holds Try.pinned (OpenSpec.ofChange fnExactMixOfWrong)

/-- 'laws.FnExactMeanAngle': WHATEVER THE INPUT: true; the input reads as it did. -/
def fnExactMeanAngleSpec : ChangeSpec := { name := "fnExactMeanAngle", fn := fun _ => fun
  | [d1, d2] => { results := [.lit (.bool true)], args := [d1, d2] }
  | _ => none }
def fnExactMeanAngleRow : OpenClaim := { program := "ytfckpcppeiboiaa", sum := "c177b07c00af19c1460a290428986a00903ae7db68d4253697a11f749199a219", func := "loop.example/g00948/laws.FnExactMeanAngle", spec := "fnExactMeanAngle", apart := false }
def FnExactMeanAngleSaid : Prop := fnExactMeanAngleRow.holds Try.pinned (OpenSpec.ofChange fnExactMeanAngleSpec)

/-- ITS FALSE NEIGHBOUR: 'it returns false'. Refute it at one input. -/
def fnExactMeanAngleWrong : ChangeSpec := { name := "fnExactMeanAngle", fn := fun _ => fun
  | [d1, d2] => { results := [.lit (.bool false)], args := [d1, d2] }
  | _ => none }
def FnExactMeanAngleWrongFalsely : Prop := fnExactMeanAngleRow.holds Try.pinned (OpenSpec.ofChange fnExactMeanAngleWrong)

/-- 'laws.FnExactMeetIntervals': WHATEVER THE INPUT: true; the input reads as it did. -/
def fnExactMeetIntervalsSpec : ChangeSpec := { name := "fnExactMeetIntervals", fn := fun _ => fun
  | [d1, d2] => { results := [.lit (.bool true)], args := [d1, d2] }
  | _ => none }
def fnExactMeetIntervalsRow : OpenClaim := { program := "ytfckpcppeiboiaa", sum := "c177b07c00af19c1460a290428986a00903ae7db68d4253697a11f749199a219", func := "loop.example/g00948/laws.FnExactMeetIntervals", spec := "fnExactMeetIntervals", apart := false }
def FnExactMeetIntervalsSaid : Prop := fnExactMeetIntervalsRow.holds Try.pinned (OpenSpec.ofChange fnExactMeetIntervalsSpec)

/-- ITS FALSE NEIGHBOUR: 'it returns false'. Refute it at one input. -/
def fnExactMeetIntervalsWrong : ChangeSpec := { name := "fnExactMeetIntervals", fn := fun _ => fun
  | [d1, d2] => { results := [.lit (.bool false)], args := [d1, d2] }
  | _ => none }
def FnExactMeetIntervalsWrongFalsely : Prop := fnExactMeetIntervalsRow.holds Try.pinned (OpenSpec.ofChange fnExactMeetIntervalsWrong)

/-- 'laws.FnExactAddIntervals': WHATEVER THE INPUT: true; the input reads as it did. -/
def fnExactAddIntervalsSpec : ChangeSpec := { name := "fnExactAddIntervals", fn := fun _ => fun
  | [d1, d2] => { results := [.lit (.bool true)], args := [d1, d2] }
  | _ => none }
def fnExactAddIntervalsRow : OpenClaim := { program := "ytfckpcppeiboiaa", sum := "c177b07c00af19c1460a290428986a00903ae7db68d4253697a11f749199a219", func := "loop.example/g00948/laws.FnExactAddIntervals", spec := "fnExactAddIntervals", apart := false }
def FnExactAddIntervalsSaid : Prop := fnExactAddIntervalsRow.holds Try.pinned (OpenSpec.ofChange fnExactAddIntervalsSpec)

/-- ITS FALSE NEIGHBOUR: 'it returns false'. Refute it at one input. -/
def fnExactAddIntervalsWrong : ChangeSpec := { name := "fnExactAddIntervals", fn := fun _ => fun
  | [d1, d2] => { results := [.lit (.bool false)], args := [d1, d2] }
  | _ => none }
def FnExactAddIntervalsWrongFalsely : Prop := fnExactAddIntervalsRow.holds Try.pinned (OpenSpec.ofChange fnExactAddIntervalsWrong)

/-- 'laws.FnExactSubtractIntervals': WHATEVER THE INPUT: true; the input reads as it did. -/
def fnExactSubtractIntervalsSpec : ChangeSpec := { name := "fnExactSubtractIntervals", fn := fun _ => fun
  | [d1, d2] => { results := [.lit (.bool true)], args := [d1, d2] }
  | _ => none }
def fnExactSubtractIntervalsRow : OpenClaim := { program := "ytfckpcppeiboiaa", sum := "c177b07c00af19c1460a290428986a00903ae7db68d4253697a11f749199a219", func := "loop.example/g00948/laws.FnExactSubtractIntervals", spec := "fnExactSubtractIntervals", apart := false }
def FnExactSubtractIntervalsSaid : Prop := fnExactSubtractIntervalsRow.holds Try.pinned (OpenSpec.ofChange fnExactSubtractIntervalsSpec)

/-- ITS FALSE NEIGHBOUR: 'it returns false'. Refute it at one input. -/
def fnExactSubtractIntervalsWrong : ChangeSpec := { name := "fnExactSubtractIntervals", fn := fun _ => fun
  | [d1, d2] => { results := [.lit (.bool false)], args := [d1, d2] }
  | _ => none }
def FnExactSubtractIntervalsWrongFalsely : Prop := fnExactSubtractIntervalsRow.holds Try.pinned (OpenSpec.ofChange fnExactSubtractIntervalsWrong)

/-- 'laws.FnExactWidenInterval': WHATEVER THE INPUT: true; the input reads as it did. -/
def fnExactWidenIntervalSpec : ChangeSpec := { name := "fnExactWidenInterval", fn := fun _ => fun
  | [d1, d2] => { results := [.lit (.bool true)], args := [d1, d2] }
  | _ => none }
def fnExactWidenIntervalRow : OpenClaim := { program := "ytfckpcppeiboiaa", sum := "c177b07c00af19c1460a290428986a00903ae7db68d4253697a11f749199a219", func := "loop.example/g00948/laws.FnExactWidenInterval", spec := "fnExactWidenInterval", apart := false }
def FnExactWidenIntervalSaid : Prop := fnExactWidenIntervalRow.holds Try.pinned (OpenSpec.ofChange fnExactWidenIntervalSpec)

/-- ITS FALSE NEIGHBOUR: 'it returns false'. Refute it at one input. -/
def fnExactWidenIntervalWrong : ChangeSpec := { name := "fnExactWidenInterval", fn := fun _ => fun
  | [d1, d2] => { results := [.lit (.bool false)], args := [d1, d2] }
  | _ => none }
def FnExactWidenIntervalWrongFalsely : Prop := fnExactWidenIntervalRow.holds Try.pinned (OpenSpec.ofChange fnExactWidenIntervalWrong)

/-- 'laws.FnExactFloorOf': WHATEVER THE INPUT: true; the input reads as it did. -/
def fnExactFloorOfSpec : ChangeSpec := { name := "fnExactFloorOf", fn := fun _ => fun
  | [d1, d2] => { results := [.lit (.bool true)], args := [d1, d2] }
  | _ => none }
def fnExactFloorOfRow : OpenClaim := { program := "ytfckpcppeiboiaa", sum := "c177b07c00af19c1460a290428986a00903ae7db68d4253697a11f749199a219", func := "loop.example/g00948/laws.FnExactFloorOf", spec := "fnExactFloorOf", apart := false }
def FnExactFloorOfSaid : Prop := fnExactFloorOfRow.holds Try.pinned (OpenSpec.ofChange fnExactFloorOfSpec)

/-- ITS FALSE NEIGHBOUR: 'it returns false'. Refute it at one input. -/
def fnExactFloorOfWrong : ChangeSpec := { name := "fnExactFloorOf", fn := fun _ => fun
  | [d1, d2] => { results := [.lit (.bool false)], args := [d1, d2] }
  | _ => none }
def FnExactFloorOfWrongFalsely : Prop := fnExactFloorOfRow.holds Try.pinned (OpenSpec.ofChange fnExactFloorOfWrong)

/-- 'laws.FnExactCeilOf': WHATEVER THE INPUT: true; the input reads as it did. -/
def fnExactCeilOfSpec : ChangeSpec := { name := "fnExactCeilOf", fn := fun _ => fun
  | [d1, d2] => { results := [.lit (.bool true)], args := [d1, d2] }
  | _ => none }
def fnExactCeilOfRow : OpenClaim := { program := "ytfckpcppeiboiaa", sum := "c177b07c00af19c1460a290428986a00903ae7db68d4253697a11f749199a219", func := "loop.example/g00948/laws.FnExactCeilOf", spec := "fnExactCeilOf", apart := false }
def FnExactCeilOfSaid : Prop := fnExactCeilOfRow.holds Try.pinned (OpenSpec.ofChange fnExactCeilOfSpec)

/-- ITS FALSE NEIGHBOUR: 'it returns false'. Refute it at one input. -/
def fnExactCeilOfWrong : ChangeSpec := { name := "fnExactCeilOf", fn := fun _ => fun
  | [d1, d2] => { results := [.lit (.bool false)], args := [d1, d2] }
  | _ => none }
def FnExactCeilOfWrongFalsely : Prop := fnExactCeilOfRow.holds Try.pinned (OpenSpec.ofChange fnExactCeilOfWrong)

/- THE SECOND FORM. 'bulk': how many values and letters a reading holds, each counted each time it is reached (what is shared counts as often as it is met; a slice's spare places count too). A statement '..UptoSaid' is the law's where the arguments, and the package variables that the reading takes, are together of bulk at most 1048576: NARROWER than '..Said'. Prove '..Said' where nothing that the law and all that it calls make is longer than what came in: it says more and counts as full. Else prove '..UptoSaid'. A law counts once. -/
mutual
def uptoBulk {H : Type} : DataW H → Nat
  | .lit (.string bytes) => bytes.length + 1
  | .lit _ => 1
  | .nil => 1
  | .ptr d => uptoBulk d + 1
  | .slice elems spare => uptoBulkAll elems + uptoBulkAll spare + 1
  | .agg parts => uptoBulkAll parts + 1
  | .iface _ d => uptoBulk d + 1
  | .map entries => uptoBulkEntries entries + 1
  | .held _ => 1
def uptoBulkAll {H : Type} : List (DataW H) → Nat
  | [] => 0
  | d :: r => uptoBulk d + uptoBulkAll r
def uptoBulkEntries {H : Type} : List (Lit × DataW H) → Nat
  | [] => 0
  | x :: r => uptoBulkEntry x + uptoBulkEntries r
def uptoBulkEntry {H : Type} : Lit × DataW H → Nat
  | (.string bytes, d) => bytes.length + uptoBulk d + 1
  | (_, d) => uptoBulk d + 1
 end
def uptoSmall : (H : Type) → List (DataW H) → Bool := fun _ ds => decide (uptoBulkAll ds ≤ 1048576)
def OpenSpec.upto (s : _root_.Go.ChangeSpec) : _root_.Go.OpenSpec := { _root_.Go.OpenSpec.ofChange s with cond := some uptoSmall }

/-- 'laws.FnExactTurnBetween', WHERE WHAT IT READS IS OF BULK AT MOST 1048576: true; the input reads as it did. -/
def fnExactTurnBetweenUptoRow : OpenClaim := { program := "ytfckpcppeiboiaa", sum := "c177b07c00af19c1460a290428986a00903ae7db68d4253697a11f749199a219", func := "loop.example/g00948/laws.FnExactTurnBetween", spec := "fnExactTurnBetween", apart := false, narrowed := true }
def FnExactTurnBetweenUptoSaid : Prop := fnExactTurnBetweenUptoRow.holds Try.pinned (OpenSpec.upto fnExactTurnBetweenSpec)

/-- 'laws.FnExactRootOf', WHERE WHAT IT READS IS OF BULK AT MOST 1048576: true; the input reads as it did. -/
def fnExactRootOfUptoRow : OpenClaim := { program := "ytfckpcppeiboiaa", sum := "c177b07c00af19c1460a290428986a00903ae7db68d4253697a11f749199a219", func := "loop.example/g00948/laws.FnExactRootOf", spec := "fnExactRootOf", apart := false, narrowed := true }
def FnExactRootOfUptoSaid : Prop := fnExactRootOfUptoRow.holds Try.pinned (OpenSpec.upto fnExactRootOfSpec)

/-- 'laws.FnExactDaysInMonth', WHERE WHAT IT READS IS OF BULK AT MOST 1048576: true; the input reads as it did. -/
def fnExactDaysInMonthUptoRow : OpenClaim := { program := "ytfckpcppeiboiaa", sum := "c177b07c00af19c1460a290428986a00903ae7db68d4253697a11f749199a219", func := "loop.example/g00948/laws.FnExactDaysInMonth", spec := "fnExactDaysInMonth", apart := false, narrowed := true }
def FnExactDaysInMonthUptoSaid : Prop := fnExactDaysInMonthUptoRow.holds Try.pinned (OpenSpec.upto fnExactDaysInMonthSpec)

/-- 'laws.FnExactIsDate', WHERE WHAT IT READS IS OF BULK AT MOST 1048576: true; the input reads as it did. -/
def fnExactIsDateUptoRow : OpenClaim := { program := "ytfckpcppeiboiaa", sum := "c177b07c00af19c1460a290428986a00903ae7db68d4253697a11f749199a219", func := "loop.example/g00948/laws.FnExactIsDate", spec := "fnExactIsDate", apart := false, narrowed := true }
def FnExactIsDateUptoSaid : Prop := fnExactIsDateUptoRow.holds Try.pinned (OpenSpec.upto fnExactIsDateSpec)

/-- 'laws.FnExactMixOf', WHERE WHAT IT READS IS OF BULK AT MOST 1048576: true; the input reads as it did. -/
def fnExactMixOfUptoRow : OpenClaim := { program := "ytfckpcppeiboiaa", sum := "c177b07c00af19c1460a290428986a00903ae7db68d4253697a11f749199a219", func := "loop.example/g00948/laws.FnExactMixOf", spec := "fnExactMixOf", apart := false, narrowed := true }
def FnExactMixOfUptoSaid : Prop := fnExactMixOfUptoRow.holds Try.pinned (OpenSpec.upto fnExactMixOfSpec)

/-- 'laws.FnExactMeanAngle', WHERE WHAT IT READS IS OF BULK AT MOST 1048576: true; the input reads as it did. -/
def fnExactMeanAngleUptoRow : OpenClaim := { program := "ytfckpcppeiboiaa", sum := "c177b07c00af19c1460a290428986a00903ae7db68d4253697a11f749199a219", func := "loop.example/g00948/laws.FnExactMeanAngle", spec := "fnExactMeanAngle", apart := false, narrowed := true }
def FnExactMeanAngleUptoSaid : Prop := fnExactMeanAngleUptoRow.holds Try.pinned (OpenSpec.upto fnExactMeanAngleSpec)

/-- 'laws.FnExactMeetIntervals', WHERE WHAT IT READS IS OF BULK AT MOST 1048576: true; the input reads as it did. -/
def fnExactMeetIntervalsUptoRow : OpenClaim := { program := "ytfckpcppeiboiaa", sum := "c177b07c00af19c1460a290428986a00903ae7db68d4253697a11f749199a219", func := "loop.example/g00948/laws.FnExactMeetIntervals", spec := "fnExactMeetIntervals", apart := false, narrowed := true }
def FnExactMeetIntervalsUptoSaid : Prop := fnExactMeetIntervalsUptoRow.holds Try.pinned (OpenSpec.upto fnExactMeetIntervalsSpec)

/-- 'laws.FnExactAddIntervals', WHERE WHAT IT READS IS OF BULK AT MOST 1048576: true; the input reads as it did. -/
def fnExactAddIntervalsUptoRow : OpenClaim := { program := "ytfckpcppeiboiaa", sum := "c177b07c00af19c1460a290428986a00903ae7db68d4253697a11f749199a219", func := "loop.example/g00948/laws.FnExactAddIntervals", spec := "fnExactAddIntervals", apart := false, narrowed := true }
def FnExactAddIntervalsUptoSaid : Prop := fnExactAddIntervalsUptoRow.holds Try.pinned (OpenSpec.upto fnExactAddIntervalsSpec)

/-- 'laws.FnExactSubtractIntervals', WHERE WHAT IT READS IS OF BULK AT MOST 1048576: true; the input reads as it did. -/
def fnExactSubtractIntervalsUptoRow : OpenClaim := { program := "ytfckpcppeiboiaa", sum := "c177b07c00af19c1460a290428986a00903ae7db68d4253697a11f749199a219", func := "loop.example/g00948/laws.FnExactSubtractIntervals", spec := "fnExactSubtractIntervals", apart := false, narrowed := true }
def FnExactSubtractIntervalsUptoSaid : Prop := fnExactSubtractIntervalsUptoRow.holds Try.pinned (OpenSpec.upto fnExactSubtractIntervalsSpec)

/-- 'laws.FnExactWidenInterval', WHERE WHAT IT READS IS OF BULK AT MOST 1048576: true; the input reads as it did. -/
def fnExactWidenIntervalUptoRow : OpenClaim := { program := "ytfckpcppeiboiaa", sum := "c177b07c00af19c1460a290428986a00903ae7db68d4253697a11f749199a219", func := "loop.example/g00948/laws.FnExactWidenInterval", spec := "fnExactWidenInterval", apart := false, narrowed := true }
def FnExactWidenIntervalUptoSaid : Prop := fnExactWidenIntervalUptoRow.holds Try.pinned (OpenSpec.upto fnExactWidenIntervalSpec)

/-- 'laws.FnExactFloorOf', WHERE WHAT IT READS IS OF BULK AT MOST 1048576: true; the input reads as it did. -/
def fnExactFloorOfUptoRow : OpenClaim := { program := "ytfckpcppeiboiaa", sum := "c177b07c00af19c1460a290428986a00903ae7db68d4253697a11f749199a219", func := "loop.example/g00948/laws.FnExactFloorOf", spec := "fnExactFloorOf", apart := false, narrowed := true }
def FnExactFloorOfUptoSaid : Prop := fnExactFloorOfUptoRow.holds Try.pinned (OpenSpec.upto fnExactFloorOfSpec)

/-- 'laws.FnExactCeilOf', WHERE WHAT IT READS IS OF BULK AT MOST 1048576: true; the input reads as it did. -/
def fnExactCeilOfUptoRow : OpenClaim := { program := "ytfckpcppeiboiaa", sum := "c177b07c00af19c1460a290428986a00903ae7db68d4253697a11f749199a219", func := "loop.example/g00948/laws.FnExactCeilOf", spec := "fnExactCeilOf", apart := false, narrowed := true }
def FnExactCeilOfUptoSaid : Prop := fnExactCeilOfUptoRow.holds Try.pinned (OpenSpec.upto fnExactCeilOfSpec)

end Rows
end Go.Proofs.Ytfckpcppeiboiaa
