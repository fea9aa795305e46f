/-
  No cell of these rows narrows 'for every input' (looked for: loops, veiled, ifaces, maps, wideKeys, modest, calm, conditions, laid).
  DERIVED. THE GIVEN ROWS OF THIS SEAT. 12 by the template 'for every input the law returns true; each argument reads behind the call as it read before'; 0 by the template 'total and deterministic' (their statements: YtboccnkleaiclaaTotals.lean).
  GIVEN WITH THE SEED: the statements are not yours to turn. If you find one false, say at which input.
  Laid BY PROGRAM, IN A SANDBOX (cutbox-rows.mjs): the forced cells as the released guide's own fill.sh prints them over the translation b59b069a5898cb35… (all of the seat's roots in one cut). By AI agents, Wed Nov 11 2026. No macro, syntax, notation, axiom, sorry.
-/
import Derived.Test.YtboccnkleaiclaaChecked
import GoSem.Claim
import GoSem.ClaimJoined
import GoSem.ClaimMapViews
import Derived.JoinedTies
import Derived.KernelRfl
namespace Go.Proofs.Ytboccnkleaiclaa
/- THE CELL 'sum', in the pinned program and in every row, IS THE sha256 OF THE DUMP (.gsa) THAT YtboccnkleaiclaaProg.lean LOADS. Nothing in Lean hashes anything: it is a label: what it is worth is what the hold of that sum in a sandbox is worth. -/
noncomputable def Try.pinned : Pinned := { name := "ytboccnkleaiclaa", sum := "b59b069a5898cb3569a9770268f3db7181568d277678ba7e81a8ab221d50a977", checked := Try.checked }
namespace Rows
def none {H : Type} : Left H := { results := [], args := [] }

/-- 'laws.FnExactNearestOf': WHATEVER THE INPUT: true; the input reads as it did. -/
def fnExactNearestOfSpec : ChangeSpec := { name := "fnExactNearestOf", fn := fun _ => fun
  | [d1, d2] => { results := [.lit (.bool true)], args := [d1, d2] }
  | _ => none }
def fnExactNearestOfRow : OpenClaim := { program := "ytboccnkleaiclaa", sum := "b59b069a5898cb3569a9770268f3db7181568d277678ba7e81a8ab221d50a977", func := "loop.example/g00948/laws.FnExactNearestOf", spec := "fnExactNearestOf", apart := false }
def FnExactNearestOfSaid : Prop := fnExactNearestOfRow.holds Try.pinned (OpenSpec.ofChange fnExactNearestOfSpec)

/-- ITS FALSE NEIGHBOUR: 'it returns false'. Refute it at one input. -/
def fnExactNearestOfWrong : ChangeSpec := { name := "fnExactNearestOf", fn := fun _ => fun
  | [d1, d2] => { results := [.lit (.bool false)], args := [d1, d2] }
  | _ => none }
def FnExactNearestOfWrongFalsely : Prop := fnExactNearestOfRow.holds Try.pinned (OpenSpec.ofChange fnExactNearestOfWrong)

/-- 'laws.FnExactMeanLongitude': WHATEVER THE INPUT: true; the input reads as it did. -/
def fnExactMeanLongitudeSpec : ChangeSpec := { name := "fnExactMeanLongitude", fn := fun _ => fun
  | [d] => { results := [.lit (.bool true)], args := [d] }
  | _ => none }
def fnExactMeanLongitudeRow : OpenClaim := { program := "ytboccnkleaiclaa", sum := "b59b069a5898cb3569a9770268f3db7181568d277678ba7e81a8ab221d50a977", func := "loop.example/g00948/laws.FnExactMeanLongitude", spec := "fnExactMeanLongitude", apart := false }
def FnExactMeanLongitudeSaid : Prop := fnExactMeanLongitudeRow.holds Try.pinned (OpenSpec.ofChange fnExactMeanLongitudeSpec)

/-- ITS FALSE NEIGHBOUR: 'it returns false'. Refute it at one input. -/
def fnExactMeanLongitudeWrong : ChangeSpec := { name := "fnExactMeanLongitude", fn := fun _ => fun
  | [d] => { results := [.lit (.bool false)], args := [d] }
  | _ => none }
def FnExactMeanLongitudeWrongFalsely : Prop := fnExactMeanLongitudeRow.holds Try.pinned (OpenSpec.ofChange fnExactMeanLongitudeWrong)

/-- 'laws.FnExactAddVectors': WHATEVER THE INPUT: true; the input reads as it did. -/
def fnExactAddVectorsSpec : ChangeSpec := { name := "fnExactAddVectors", fn := fun _ => fun
  | [d1, d2] => { results := [.lit (.bool true)], args := [d1, d2] }
  | _ => none }
def fnExactAddVectorsRow : OpenClaim := { program := "ytboccnkleaiclaa", sum := "b59b069a5898cb3569a9770268f3db7181568d277678ba7e81a8ab221d50a977", func := "loop.example/g00948/laws.FnExactAddVectors", spec := "fnExactAddVectors", apart := false }
def FnExactAddVectorsSaid : Prop := fnExactAddVectorsRow.holds Try.pinned (OpenSpec.ofChange fnExactAddVectorsSpec)

/-- ITS FALSE NEIGHBOUR: 'it returns false'. Refute it at one input. -/
def fnExactAddVectorsWrong : ChangeSpec := { name := "fnExactAddVectors", fn := fun _ => fun
  | [d1, d2] => { results := [.lit (.bool false)], args := [d1, d2] }
  | _ => none }
def FnExactAddVectorsWrongFalsely : Prop := fnExactAddVectorsRow.holds Try.pinned (OpenSpec.ofChange fnExactAddVectorsWrong)

/-- 'laws.FnExactDotProduct': WHATEVER THE INPUT: true; the input reads as it did. -/
def fnExactDotProductSpec : ChangeSpec := { name := "fnExactDotProduct", fn := fun _ => fun
  | [d1, d2] => { results := [.lit (.bool true)], args := [d1, d2] }
  | _ => none }
def fnExactDotProductRow : OpenClaim := { program := "ytboccnkleaiclaa", sum := "b59b069a5898cb3569a9770268f3db7181568d277678ba7e81a8ab221d50a977", func := "loop.example/g00948/laws.FnExactDotProduct", spec := "fnExactDotProduct", apart := false }
def FnExactDotProductSaid : Prop := fnExactDotProductRow.holds Try.pinned (OpenSpec.ofChange fnExactDotProductSpec)

/-- ITS FALSE NEIGHBOUR: 'it returns false'. Refute it at one input. -/
def fnExactDotProductWrong : ChangeSpec := { name := "fnExactDotProduct", fn := fun _ => fun
  | [d1, d2] => { results := [.lit (.bool false)], args := [d1, d2] }
  | _ => none }
def FnExactDotProductWrongFalsely : Prop := fnExactDotProductRow.holds Try.pinned (OpenSpec.ofChange fnExactDotProductWrong)

/-- 'laws.FnExactDayNumber': WHATEVER THE INPUT: true; the input reads as it did. -/
def fnExactDayNumberSpec : ChangeSpec := { name := "fnExactDayNumber", fn := fun _ => fun
  | [d] => { results := [.lit (.bool true)], args := [d] }
  | _ => none }
def fnExactDayNumberRow : OpenClaim := { program := "ytboccnkleaiclaa", sum := "b59b069a5898cb3569a9770268f3db7181568d277678ba7e81a8ab221d50a977", func := "loop.example/g00948/laws.FnExactDayNumber", spec := "fnExactDayNumber", apart := false }
def FnExactDayNumberSaid : Prop := fnExactDayNumberRow.holds Try.pinned (OpenSpec.ofChange fnExactDayNumberSpec)

/-- ITS FALSE NEIGHBOUR: 'it returns false'. Refute it at one input. -/
def fnExactDayNumberWrong : ChangeSpec := { name := "fnExactDayNumber", fn := fun _ => fun
  | [d] => { results := [.lit (.bool false)], args := [d] }
  | _ => none }
def FnExactDayNumberWrongFalsely : Prop := fnExactDayNumberRow.holds Try.pinned (OpenSpec.ofChange fnExactDayNumberWrong)

/-- 'laws.FnExactDayOfYear': WHATEVER THE INPUT: true; the input reads as it did. -/
def fnExactDayOfYearSpec : ChangeSpec := { name := "fnExactDayOfYear", fn := fun _ => fun
  | [d] => { results := [.lit (.bool true)], args := [d] }
  | _ => none }
def fnExactDayOfYearRow : OpenClaim := { program := "ytboccnkleaiclaa", sum := "b59b069a5898cb3569a9770268f3db7181568d277678ba7e81a8ab221d50a977", func := "loop.example/g00948/laws.FnExactDayOfYear", spec := "fnExactDayOfYear", apart := false }
def FnExactDayOfYearSaid : Prop := fnExactDayOfYearRow.holds Try.pinned (OpenSpec.ofChange fnExactDayOfYearSpec)

/-- ITS FALSE NEIGHBOUR: 'it returns false'. Refute it at one input. -/
def fnExactDayOfYearWrong : ChangeSpec := { name := "fnExactDayOfYear", fn := fun _ => fun
  | [d] => { results := [.lit (.bool false)], args := [d] }
  | _ => none }
def FnExactDayOfYearWrongFalsely : Prop := fnExactDayOfYearRow.holds Try.pinned (OpenSpec.ofChange fnExactDayOfYearWrong)

/-- 'laws.FnExactHullOf': WHATEVER THE INPUT: true; the input reads as it did. -/
def fnExactHullOfSpec : ChangeSpec := { name := "fnExactHullOf", fn := fun _ => fun
  | [d] => { results := [.lit (.bool true)], args := [d] }
  | _ => none }
def fnExactHullOfRow : OpenClaim := { program := "ytboccnkleaiclaa", sum := "b59b069a5898cb3569a9770268f3db7181568d277678ba7e81a8ab221d50a977", func := "loop.example/g00948/laws.FnExactHullOf", spec := "fnExactHullOf", apart := false }
def FnExactHullOfSaid : Prop := fnExactHullOfRow.holds Try.pinned (OpenSpec.ofChange fnExactHullOfSpec)

/-- ITS FALSE NEIGHBOUR: 'it returns false'. Refute it at one input. -/
def fnExactHullOfWrong : ChangeSpec := { name := "fnExactHullOf", fn := fun _ => fun
  | [d] => { results := [.lit (.bool false)], args := [d] }
  | _ => none }
def FnExactHullOfWrongFalsely : Prop := fnExactHullOfRow.holds Try.pinned (OpenSpec.ofChange fnExactHullOfWrong)

/-- 'laws.FnExactMultiplyIntervals': WHATEVER THE INPUT: true; the input reads as it did. -/
def fnExactMultiplyIntervalsSpec : ChangeSpec := { name := "fnExactMultiplyIntervals", fn := fun _ => fun
  | [d1, d2] => { results := [.lit (.bool true)], args := [d1, d2] }
  | _ => none }
def fnExactMultiplyIntervalsRow : OpenClaim := { program := "ytboccnkleaiclaa", sum := "b59b069a5898cb3569a9770268f3db7181568d277678ba7e81a8ab221d50a977", func := "loop.example/g00948/laws.FnExactMultiplyIntervals", spec := "fnExactMultiplyIntervals", apart := false }
def FnExactMultiplyIntervalsSaid : Prop := fnExactMultiplyIntervalsRow.holds Try.pinned (OpenSpec.ofChange fnExactMultiplyIntervalsSpec)

/-- ITS FALSE NEIGHBOUR: 'it returns false'. Refute it at one input. -/
def fnExactMultiplyIntervalsWrong : ChangeSpec := { name := "fnExactMultiplyIntervals", fn := fun _ => fun
  | [d1, d2] => { results := [.lit (.bool false)], args := [d1, d2] }
  | _ => none }
def FnExactMultiplyIntervalsWrongFalsely : Prop := fnExactMultiplyIntervalsRow.holds Try.pinned (OpenSpec.ofChange fnExactMultiplyIntervalsWrong)

/-- 'laws.FnExactWeekdayOf': WHATEVER THE INPUT: true; the input reads as it did. -/
def fnExactWeekdayOfSpec : ChangeSpec := { name := "fnExactWeekdayOf", fn := fun _ => fun
  | [d] => { results := [.lit (.bool true)], args := [d] }
  | _ => none }
def fnExactWeekdayOfRow : OpenClaim := { program := "ytboccnkleaiclaa", sum := "b59b069a5898cb3569a9770268f3db7181568d277678ba7e81a8ab221d50a977", func := "loop.example/g00948/laws.FnExactWeekdayOf", spec := "fnExactWeekdayOf", apart := false }
def FnExactWeekdayOfSaid : Prop := fnExactWeekdayOfRow.holds Try.pinned (OpenSpec.ofChange fnExactWeekdayOfSpec)

/-- ITS FALSE NEIGHBOUR: 'it returns false'. Refute it at one input. -/
def fnExactWeekdayOfWrong : ChangeSpec := { name := "fnExactWeekdayOf", fn := fun _ => fun
  | [d] => { results := [.lit (.bool false)], args := [d] }
  | _ => none }
def FnExactWeekdayOfWrongFalsely : Prop := fnExactWeekdayOfRow.holds Try.pinned (OpenSpec.ofChange fnExactWeekdayOfWrong)

/-- 'laws.FnExactNanoSine': WHATEVER THE INPUT: true; the input reads as it did. -/
def fnExactNanoSineSpec : ChangeSpec := { name := "fnExactNanoSine", fn := fun _ => fun
  | [d] => { results := [.lit (.bool true)], args := [d] }
  | _ => none }
def fnExactNanoSineRow : OpenClaim := { program := "ytboccnkleaiclaa", sum := "b59b069a5898cb3569a9770268f3db7181568d277678ba7e81a8ab221d50a977", func := "loop.example/g00948/laws.FnExactNanoSine", spec := "fnExactNanoSine", apart := false }
def FnExactNanoSineSaid : Prop := fnExactNanoSineRow.holds Try.pinned (OpenSpec.ofChange fnExactNanoSineSpec)

/-- ITS FALSE NEIGHBOUR: 'it returns false'. Refute it at one input. -/
def fnExactNanoSineWrong : ChangeSpec := { name := "fnExactNanoSine", fn := fun _ => fun
  | [d] => { results := [.lit (.bool false)], args := [d] }
  | _ => none }
def FnExactNanoSineWrongFalsely : Prop := fnExactNanoSineRow.holds Try.pinned (OpenSpec.ofChange fnExactNanoSineWrong)

/-- 'laws.FnExactScaleVector': WHATEVER THE INPUT: true; the input reads as it did. -/
def fnExactScaleVectorSpec : ChangeSpec := { name := "fnExactScaleVector", fn := fun _ => fun
  | [d1, d2] => { results := [.lit (.bool true)], args := [d1, d2] }
  | _ => none }
def fnExactScaleVectorRow : OpenClaim := { program := "ytboccnkleaiclaa", sum := "b59b069a5898cb3569a9770268f3db7181568d277678ba7e81a8ab221d50a977", func := "loop.example/g00948/laws.FnExactScaleVector", spec := "fnExactScaleVector", apart := false }
def FnExactScaleVectorSaid : Prop := fnExactScaleVectorRow.holds Try.pinned (OpenSpec.ofChange fnExactScaleVectorSpec)

/-- ITS FALSE NEIGHBOUR: 'it returns false'. Refute it at one input. -/
def fnExactScaleVectorWrong : ChangeSpec := { name := "fnExactScaleVector", fn := fun _ => fun
  | [d1, d2] => { results := [.lit (.bool false)], args := [d1, d2] }
  | _ => none }
def FnExactScaleVectorWrongFalsely : Prop := fnExactScaleVectorRow.holds Try.pinned (OpenSpec.ofChange fnExactScaleVectorWrong)

/-- 'laws.FnExactDateOf': WHATEVER THE INPUT: true; the input reads as it did. -/
def fnExactDateOfSpec : ChangeSpec := { name := "fnExactDateOf", fn := fun _ => fun
  | [d] => { results := [.lit (.bool true)], args := [d] }
  | _ => none }
def fnExactDateOfRow : OpenClaim := { program := "ytboccnkleaiclaa", sum := "b59b069a5898cb3569a9770268f3db7181568d277678ba7e81a8ab221d50a977", func := "loop.example/g00948/laws.FnExactDateOf", spec := "fnExactDateOf", apart := false }
def FnExactDateOfSaid : Prop := fnExactDateOfRow.holds Try.pinned (OpenSpec.ofChange fnExactDateOfSpec)

/-- ITS FALSE NEIGHBOUR: 'it returns false'. Refute it at one input. -/
def fnExactDateOfWrong : ChangeSpec := { name := "fnExactDateOf", fn := fun _ => fun
  | [d] => { results := [.lit (.bool false)], args := [d] }
  | _ => none }
def FnExactDateOfWrongFalsely : Prop := fnExactDateOfRow.holds Try.pinned (OpenSpec.ofChange fnExactDateOfWrong)

/- THE SECOND FORM. 'bulk': how many values and letters a reading holds, each counted each time it is reached (what is shared counts as often as it is met; a slice's spare places count too). A statement '..UptoSaid' is the law's where the arguments, and the package variables that the reading takes, are together of bulk at most 1048576: NARROWER than '..Said'. Prove '..Said' where nothing that the law and all that it calls make is longer than what came in: it says more and counts as full. Else prove '..UptoSaid'. A law counts once. -/
mutual
def uptoBulk {H : Type} : DataW H → Nat
  | .lit (.string bytes) => bytes.length + 1
  | .lit _ => 1
  | .nil => 1
  | .ptr d => uptoBulk d + 1
  | .slice elems spare => uptoBulkAll elems + uptoBulkAll spare + 1
  | .agg parts => uptoBulkAll parts + 1
  | .iface _ d => uptoBulk d + 1
  | .map entries => uptoBulkEntries entries + 1
  | .held _ => 1
def uptoBulkAll {H : Type} : List (DataW H) → Nat
  | [] => 0
  | d :: r => uptoBulk d + uptoBulkAll r
def uptoBulkEntries {H : Type} : List (Lit × DataW H) → Nat
  | [] => 0
  | x :: r => uptoBulkEntry x + uptoBulkEntries r
def uptoBulkEntry {H : Type} : Lit × DataW H → Nat
  | (.string bytes, d) => bytes.length + uptoBulk d + 1
  | (_, d) => uptoBulk d + 1
 end
def uptoSmall : (H : Type) → List (DataW H) → Bool := fun _ ds => decide (uptoBulkAll ds ≤ 1048576)
def OpenSpec.upto (s : _root_.Go.ChangeSpec) : _root_.Go.OpenSpec := { _root_.Go.OpenSpec.ofChange s with cond := some uptoSmall }

/-- 'laws.FnExactNearestOf', WHERE WHAT IT READS IS OF BULK AT MOST 1048576: true; the input reads as it did. -/
def fnExactNearestOfUptoRow : OpenClaim := { program := "ytboccnkleaiclaa", sum := "b59b069a5898cb3569a9770268f3db7181568d277678ba7e81a8ab221d50a977", func := "loop.example/g00948/laws.FnExactNearestOf", spec := "fnExactNearestOf", apart := false, narrowed := true }
def FnExactNearestOfUptoSaid : Prop := fnExactNearestOfUptoRow.holds Try.pinned (OpenSpec.upto fnExactNearestOfSpec)

/-- 'laws.FnExactMeanLongitude', WHERE WHAT IT READS IS OF BULK AT MOST 1048576: true; the input reads as it did. -/
def fnExactMeanLongitudeUptoRow : OpenClaim := { program := "ytboccnkleaiclaa", sum := "b59b069a5898cb3569a9770268f3db7181568d277678ba7e81a8ab221d50a977", func := "loop.example/g00948/laws.FnExactMeanLongitude", spec := "fnExactMeanLongitude", apart := false, narrowed := true }
def FnExactMeanLongitudeUptoSaid : Prop := fnExactMeanLongitudeUptoRow.holds Try.pinned (OpenSpec.upto fnExactMeanLongitudeSpec)

/-- 'laws.FnExactAddVectors', WHERE WHAT IT READS IS OF BULK AT MOST 1048576: true; the input reads as it did. -/
def fnExactAddVectorsUptoRow : OpenClaim := { program := "ytboccnkleaiclaa", sum := "b59b069a5898cb3569a9770268f3db7181568d277678ba7e81a8ab221d50a977", func := "loop.example/g00948/laws.FnExactAddVectors", spec := "fnExactAddVectors", apart := false, narrowed := true }
def FnExactAddVectorsUptoSaid : Prop := fnExactAddVectorsUptoRow.holds Try.pinned (OpenSpec.upto fnExactAddVectorsSpec)

/-- 'laws.FnExactDotProduct', WHERE WHAT IT READS IS OF BULK AT MOST 1048576: true; the input reads as it did. -/
def fnExactDotProductUptoRow : OpenClaim := { program := "ytboccnkleaiclaa", sum := "b59b069a5898cb3569a9770268f3db7181568d277678ba7e81a8ab221d50a977", func := "loop.example/g00948/laws.FnExactDotProduct", spec := "fnExactDotProduct", apart := false, narrowed := true }
def FnExactDotProductUptoSaid : Prop := fnExactDotProductUptoRow.holds Try.pinned (OpenSpec.upto fnExactDotProductSpec)

/-- 'laws.FnExactDayNumber', WHERE WHAT IT READS IS OF BULK AT MOST 1048576: true; the input reads as it did. -/
def fnExactDayNumberUptoRow : OpenClaim := { program := "ytboccnkleaiclaa", sum := "b59b069a5898cb3569a9770268f3db7181568d277678ba7e81a8ab221d50a977", func := "loop.example/g00948/laws.FnExactDayNumber", spec := "fnExactDayNumber", apart := false, narrowed := true }
def FnExactDayNumberUptoSaid : Prop := fnExactDayNumberUptoRow.holds Try.pinned (OpenSpec.upto fnExactDayNumberSpec)

/-- 'laws.FnExactDayOfYear', WHERE WHAT IT READS IS OF BULK AT MOST 1048576: true; the input reads as it did. -/
def fnExactDayOfYearUptoRow : OpenClaim := { program := "ytboccnkleaiclaa", sum := "b59b069a5898cb3569a9770268f3db7181568d277678ba7e81a8ab221d50a977", func := "loop.example/g00948/laws.FnExactDayOfYear", spec := "fnExactDayOfYear", apart := false, narrowed := true }
def FnExactDayOfYearUptoSaid : Prop := fnExactDayOfYearUptoRow.holds Try.pinned (OpenSpec.upto fnExactDayOfYearSpec)

/-- 'laws.FnExactHullOf', WHERE WHAT IT READS IS OF BULK AT MOST 1048576: true; the input reads as it did. -/
def fnExactHullOfUptoRow : OpenClaim := { program := "ytboccnkleaiclaa", sum := "b59b069a5898cb3569a9770268f3db7181568d277678ba7e81a8ab221d50a977", func := "loop.example/g00948/laws.FnExactHullOf", spec := "fnExactHullOf", apart := false, narrowed := true }
def FnExactHullOfUptoSaid : Prop := fnExactHullOfUptoRow.holds Try.pinned (OpenSpec.upto fnExactHullOfSpec)

/-- 'laws.FnExactMultiplyIntervals', WHERE WHAT IT READS IS OF BULK AT MOST 1048576: true; the input reads as it did. -/
def fnExactMultiplyIntervalsUptoRow : OpenClaim := { program := "ytboccnkleaiclaa", sum := "b59b069a5898cb3569a9770268f3db7181568d277678ba7e81a8ab221d50a977", func := "loop.example/g00948/laws.FnExactMultiplyIntervals", spec := "fnExactMultiplyIntervals", apart := false, narrowed := true }
def FnExactMultiplyIntervalsUptoSaid : Prop := fnExactMultiplyIntervalsUptoRow.holds Try.pinned (OpenSpec.upto fnExactMultiplyIntervalsSpec)

/-- 'laws.FnExactWeekdayOf', WHERE WHAT IT READS IS OF BULK AT MOST 1048576: true; the input reads as it did. -/
def fnExactWeekdayOfUptoRow : OpenClaim := { program := "ytboccnkleaiclaa", sum := "b59b069a5898cb3569a9770268f3db7181568d277678ba7e81a8ab221d50a977", func := "loop.example/g00948/laws.FnExactWeekdayOf", spec := "fnExactWeekdayOf", apart := false, narrowed := true }
def FnExactWeekdayOfUptoSaid : Prop := fnExactWeekdayOfUptoRow.holds Try.pinned (OpenSpec.upto fnExactWeekdayOfSpec)

/-- 'laws.FnExactNanoSine', WHERE WHAT IT READS IS OF BULK AT MOST 1048576: true; the input reads as it did. -/
def fnExactNanoSineUptoRow : OpenClaim := { program := "ytboccnkleaiclaa", sum := "b59b069a5898cb3569a9770268f3db7181568d277678ba7e81a8ab221d50a977", func := "loop.example/g00948/laws.FnExactNanoSine", spec := "fnExactNanoSine", apart := false, narrowed := true }
def FnExactNanoSineUptoSaid : Prop := fnExactNanoSineUptoRow.holds Try.pinned (OpenSpec.upto fnExactNanoSineSpec)

/-- 'laws.FnExactScaleVector', WHERE WHAT IT READS IS OF BULK AT MOST 1048576: true; the input reads as it did. -/
def fnExactScaleVectorUptoRow : OpenClaim := { program := "ytboccnkleaiclaa", sum := "b59b069a5898cb3569a9770268f3db7181568d277678ba7e81a8ab221d50a977", func := "loop.example/g00948/laws.FnExactScaleVector", spec := "fnExactScaleVector", apart := false, narrowed := true }
def FnExactScaleVectorUptoSaid : Prop := fnExactScaleVectorUptoRow.holds Try.pinned (OpenSpec.upto fnExactScaleVectorSpec)

/-- 'laws.FnExactDateOf', WHERE WHAT IT READS IS OF BULK AT MOST 1048576: true; the input reads as it did. -/
def fnExactDateOfUptoRow : OpenClaim := { program := "ytboccnkleaiclaa", sum := "b59b069a5898cb3569a9770268f3db7181568d277678ba7e81a8ab221d50a977", func := "loop.example/g00948/laws.FnExactDateOf", spec := "fnExactDateOf", apart := false, narrowed := true }
def FnExactDateOfUptoSaid : Prop := fnExactDateOfUptoRow.holds Try.pinned (OpenSpec.upto fnExactDateOfSpec)

end Rows
end Go.Proofs.Ytboccnkleaiclaa
