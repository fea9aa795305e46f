/-
  No cell of these rows narrows 'for every input' (looked for: loops, veiled, ifaces, maps, wideKeys, modest, calm, conditions, laid).
  DERIVED. THE GIVEN ROWS OF THIS SEAT. 12 by the template 'for every input the law returns true; each argument reads behind the call as it read before'; 0 by the template 'total and deterministic' (their statements: YtllapjemdegnjaaTotals.lean).
  GIVEN WITH THE SEED: the statements are not yours to turn. If you find one false, say at which input.
  Laid BY PROGRAM, IN A SANDBOX (cutbox-rows.mjs): the forced cells as the released guide's own fill.sh prints them over the translation 12fe8dc9525e6bdc… (all of the seat's roots in one cut). By AI agents, Wed Nov 11 2026. No macro, syntax, notation, axiom, sorry.
-/
import Derived.Test.YtllapjemdegnjaaChecked
import GoSem.Claim
import GoSem.ClaimJoined
import GoSem.ClaimMapViews
import Derived.JoinedTies
import Derived.KernelRfl
namespace Go.Proofs.Ytllapjemdegnjaa
/- THE CELL 'sum', in the pinned program and in every row, IS THE sha256 OF THE DUMP (.gsa) THAT YtllapjemdegnjaaProg.lean LOADS. Nothing in Lean hashes anything: it is a label: what it is worth is what the hold of that sum in a sandbox is worth. -/
noncomputable def Try.pinned : Pinned := { name := "ytllapjemdegnjaa", sum := "12fe8dc9525e6bdc7abb0237a0df60571d4181b53350e0a0d2f618c93c1b91ad", checked := Try.checked }
namespace Rows
def none {H : Type} : Left H := { results := [], args := [] }

/-- 'laws.FnExactCrossProduct': WHATEVER THE INPUT: true; the input reads as it did. -/
def fnExactCrossProductSpec : ChangeSpec := { name := "fnExactCrossProduct", fn := fun _ => fun
  | [d1, d2] => { results := [.lit (.bool true)], args := [d1, d2] }
  | _ => none }
def fnExactCrossProductRow : OpenClaim := { program := "ytllapjemdegnjaa", sum := "12fe8dc9525e6bdc7abb0237a0df60571d4181b53350e0a0d2f618c93c1b91ad", func := "loop.example/g00948/laws.FnExactCrossProduct", spec := "fnExactCrossProduct", apart := false }
def FnExactCrossProductSaid : Prop := fnExactCrossProductRow.holds Try.pinned (OpenSpec.ofChange fnExactCrossProductSpec)

/-- ITS FALSE NEIGHBOUR: 'it returns false'. Refute it at one input. -/
def fnExactCrossProductWrong : ChangeSpec := { name := "fnExactCrossProduct", fn := fun _ => fun
  | [d1, d2] => { results := [.lit (.bool false)], args := [d1, d2] }
  | _ => none }
def FnExactCrossProductWrongFalsely : Prop := fnExactCrossProductRow.holds Try.pinned (OpenSpec.ofChange fnExactCrossProductWrong)

/-- 'laws.FnExactPointAt': WHATEVER THE INPUT: true; the input reads as it did. -/
def fnExactPointAtSpec : ChangeSpec := { name := "fnExactPointAt", fn := fun _ => fun
  | [d1, d2] => { results := [.lit (.bool true)], args := [d1, d2] }
  | _ => none }
def fnExactPointAtRow : OpenClaim := { program := "ytllapjemdegnjaa", sum := "12fe8dc9525e6bdc7abb0237a0df60571d4181b53350e0a0d2f618c93c1b91ad", func := "loop.example/g00948/laws.FnExactPointAt", spec := "fnExactPointAt", apart := false }
def FnExactPointAtSaid : Prop := fnExactPointAtRow.holds Try.pinned (OpenSpec.ofChange fnExactPointAtSpec)

/-- ITS FALSE NEIGHBOUR: 'it returns false'. Refute it at one input. -/
def fnExactPointAtWrong : ChangeSpec := { name := "fnExactPointAt", fn := fun _ => fun
  | [d1, d2] => { results := [.lit (.bool false)], args := [d1, d2] }
  | _ => none }
def FnExactPointAtWrongFalsely : Prop := fnExactPointAtRow.holds Try.pinned (OpenSpec.ofChange fnExactPointAtWrong)

/-- 'laws.FnExactNthWeekday': WHATEVER THE INPUT: true; the input reads as it did. -/
def fnExactNthWeekdaySpec : ChangeSpec := { name := "fnExactNthWeekday", fn := fun _ => fun
  | [d1, d2, d3, d4] => { results := [.lit (.bool true)], args := [d1, d2, d3, d4] }
  | _ => none }
def fnExactNthWeekdayRow : OpenClaim := { program := "ytllapjemdegnjaa", sum := "12fe8dc9525e6bdc7abb0237a0df60571d4181b53350e0a0d2f618c93c1b91ad", func := "loop.example/g00948/laws.FnExactNthWeekday", spec := "fnExactNthWeekday", apart := false }
def FnExactNthWeekdaySaid : Prop := fnExactNthWeekdayRow.holds Try.pinned (OpenSpec.ofChange fnExactNthWeekdaySpec)

/-- ITS FALSE NEIGHBOUR: 'it returns false'. Refute it at one input. -/
def fnExactNthWeekdayWrong : ChangeSpec := { name := "fnExactNthWeekday", fn := fun _ => fun
  | [d1, d2, d3, d4] => { results := [.lit (.bool false)], args := [d1, d2, d3, d4] }
  | _ => none }
def FnExactNthWeekdayWrongFalsely : Prop := fnExactNthWeekdayRow.holds Try.pinned (OpenSpec.ofChange fnExactNthWeekdayWrong)

/-- 'laws.FnExactSineOf': WHATEVER THE INPUT: true; the input reads as it did. -/
def fnExactSineOfSpec : ChangeSpec := { name := "fnExactSineOf", fn := fun _ => fun
  | [d] => { results := [.lit (.bool true)], args := [d] }
  | _ => none }
def fnExactSineOfRow : OpenClaim := { program := "ytllapjemdegnjaa", sum := "12fe8dc9525e6bdc7abb0237a0df60571d4181b53350e0a0d2f618c93c1b91ad", func := "loop.example/g00948/laws.FnExactSineOf", spec := "fnExactSineOf", apart := false }
def FnExactSineOfSaid : Prop := fnExactSineOfRow.holds Try.pinned (OpenSpec.ofChange fnExactSineOfSpec)

/-- ITS FALSE NEIGHBOUR: 'it returns false'. Refute it at one input. -/
def fnExactSineOfWrong : ChangeSpec := { name := "fnExactSineOf", fn := fun _ => fun
  | [d] => { results := [.lit (.bool false)], args := [d] }
  | _ => none }
def FnExactSineOfWrongFalsely : Prop := fnExactSineOfRow.holds Try.pinned (OpenSpec.ofChange fnExactSineOfWrong)

/-- 'laws.FnExactChordOf': WHATEVER THE INPUT: true; the input reads as it did. -/
def fnExactChordOfSpec : ChangeSpec := { name := "fnExactChordOf", fn := fun _ => fun
  | [d] => { results := [.lit (.bool true)], args := [d] }
  | _ => none }
def fnExactChordOfRow : OpenClaim := { program := "ytllapjemdegnjaa", sum := "12fe8dc9525e6bdc7abb0237a0df60571d4181b53350e0a0d2f618c93c1b91ad", func := "loop.example/g00948/laws.FnExactChordOf", spec := "fnExactChordOf", recurses := true, apart := false }
def FnExactChordOfSaid : Prop := fnExactChordOfRow.holds Try.pinned (OpenSpec.ofChange fnExactChordOfSpec)

/-- ITS FALSE NEIGHBOUR: 'it returns false'. Refute it at one input. -/
def fnExactChordOfWrong : ChangeSpec := { name := "fnExactChordOf", fn := fun _ => fun
  | [d] => { results := [.lit (.bool false)], args := [d] }
  | _ => none }
def FnExactChordOfWrongFalsely : Prop := fnExactChordOfRow.holds Try.pinned (OpenSpec.ofChange fnExactChordOfWrong)

/-- 'laws.FnExactCosineOf': WHATEVER THE INPUT: true; the input reads as it did. -/
def fnExactCosineOfSpec : ChangeSpec := { name := "fnExactCosineOf", fn := fun _ => fun
  | [d] => { results := [.lit (.bool true)], args := [d] }
  | _ => none }
def fnExactCosineOfRow : OpenClaim := { program := "ytllapjemdegnjaa", sum := "12fe8dc9525e6bdc7abb0237a0df60571d4181b53350e0a0d2f618c93c1b91ad", func := "loop.example/g00948/laws.FnExactCosineOf", spec := "fnExactCosineOf", apart := false }
def FnExactCosineOfSaid : Prop := fnExactCosineOfRow.holds Try.pinned (OpenSpec.ofChange fnExactCosineOfSpec)

/-- ITS FALSE NEIGHBOUR: 'it returns false'. Refute it at one input. -/
def fnExactCosineOfWrong : ChangeSpec := { name := "fnExactCosineOf", fn := fun _ => fun
  | [d] => { results := [.lit (.bool false)], args := [d] }
  | _ => none }
def FnExactCosineOfWrongFalsely : Prop := fnExactCosineOfRow.holds Try.pinned (OpenSpec.ofChange fnExactCosineOfWrong)

/-- 'laws.FnExactSineAbove': WHATEVER THE INPUT: true; the input reads as it did. -/
def fnExactSineAboveSpec : ChangeSpec := { name := "fnExactSineAbove", fn := fun _ => fun
  | [d] => { results := [.lit (.bool true)], args := [d] }
  | _ => none }
def fnExactSineAboveRow : OpenClaim := { program := "ytllapjemdegnjaa", sum := "12fe8dc9525e6bdc7abb0237a0df60571d4181b53350e0a0d2f618c93c1b91ad", func := "loop.example/g00948/laws.FnExactSineAbove", spec := "fnExactSineAbove", unfollowed := true, recurses := true, apart := false }
def FnExactSineAboveSaid : Prop := fnExactSineAboveRow.holds Try.pinned (OpenSpec.ofChange fnExactSineAboveSpec)

/-- ITS FALSE NEIGHBOUR: 'it returns false'. Refute it at one input. -/
def fnExactSineAboveWrong : ChangeSpec := { name := "fnExactSineAbove", fn := fun _ => fun
  | [d] => { results := [.lit (.bool false)], args := [d] }
  | _ => none }
def FnExactSineAboveWrongFalsely : Prop := fnExactSineAboveRow.holds Try.pinned (OpenSpec.ofChange fnExactSineAboveWrong)

/-- 'laws.FnExactAngleOfPoint': WHATEVER THE INPUT: true; the input reads as it did. -/
def fnExactAngleOfPointSpec : ChangeSpec := { name := "fnExactAngleOfPoint", fn := fun _ => fun
  | [d1, d2] => { results := [.lit (.bool true)], args := [d1, d2] }
  | _ => none }
def fnExactAngleOfPointRow : OpenClaim := { program := "ytllapjemdegnjaa", sum := "12fe8dc9525e6bdc7abb0237a0df60571d4181b53350e0a0d2f618c93c1b91ad", func := "loop.example/g00948/laws.FnExactAngleOfPoint", spec := "fnExactAngleOfPoint", unfollowed := true, recurses := true, apart := false }
def FnExactAngleOfPointSaid : Prop := fnExactAngleOfPointRow.holds Try.pinned (OpenSpec.ofChange fnExactAngleOfPointSpec)

/-- ITS FALSE NEIGHBOUR: 'it returns false'. Refute it at one input. -/
def fnExactAngleOfPointWrong : ChangeSpec := { name := "fnExactAngleOfPoint", fn := fun _ => fun
  | [d1, d2] => { results := [.lit (.bool false)], args := [d1, d2] }
  | _ => none }
def FnExactAngleOfPointWrongFalsely : Prop := fnExactAngleOfPointRow.holds Try.pinned (OpenSpec.ofChange fnExactAngleOfPointWrong)

/-- 'laws.FnExactSignOf': WHATEVER THE INPUT: true; the input reads as it did. -/
def fnExactSignOfSpec : ChangeSpec := { name := "fnExactSignOf", fn := fun _ => fun
  | [d] => { results := [.lit (.bool true)], args := [d] }
  | _ => none }
def fnExactSignOfRow : OpenClaim := { program := "ytllapjemdegnjaa", sum := "12fe8dc9525e6bdc7abb0237a0df60571d4181b53350e0a0d2f618c93c1b91ad", func := "loop.example/g00948/laws.FnExactSignOf", spec := "fnExactSignOf", apart := false }
def FnExactSignOfSaid : Prop := fnExactSignOfRow.holds Try.pinned (OpenSpec.ofChange fnExactSignOfSpec)

/-- ITS FALSE NEIGHBOUR: 'it returns false'. Refute it at one input. -/
def fnExactSignOfWrong : ChangeSpec := { name := "fnExactSignOf", fn := fun _ => fun
  | [d] => { results := [.lit (.bool false)], args := [d] }
  | _ => none }
def FnExactSignOfWrongFalsely : Prop := fnExactSignOfRow.holds Try.pinned (OpenSpec.ofChange fnExactSignOfWrong)

/-- 'laws.FnExactDirectionTo': WHATEVER THE INPUT: true; the input reads as it did. -/
def fnExactDirectionToSpec : ChangeSpec := { name := "fnExactDirectionTo", fn := fun _ => fun
  | [d1, d2] => { results := [.lit (.bool true)], args := [d1, d2] }
  | _ => none }
def fnExactDirectionToRow : OpenClaim := { program := "ytllapjemdegnjaa", sum := "12fe8dc9525e6bdc7abb0237a0df60571d4181b53350e0a0d2f618c93c1b91ad", func := "loop.example/g00948/laws.FnExactDirectionTo", spec := "fnExactDirectionTo", apart := false }
def FnExactDirectionToSaid : Prop := fnExactDirectionToRow.holds Try.pinned (OpenSpec.ofChange fnExactDirectionToSpec)

/-- ITS FALSE NEIGHBOUR: 'it returns false'. Refute it at one input. -/
def fnExactDirectionToWrong : ChangeSpec := { name := "fnExactDirectionTo", fn := fun _ => fun
  | [d1, d2] => { results := [.lit (.bool false)], args := [d1, d2] }
  | _ => none }
def FnExactDirectionToWrongFalsely : Prop := fnExactDirectionToRow.holds Try.pinned (OpenSpec.ofChange fnExactDirectionToWrong)

/-- 'laws.FnExactSineRange': WHATEVER THE INPUT: true; the input reads as it did. -/
def fnExactSineRangeSpec : ChangeSpec := { name := "fnExactSineRange", fn := fun _ => fun
  | [d] => { results := [.lit (.bool true)], args := [d] }
  | _ => none }
def fnExactSineRangeRow : OpenClaim := { program := "ytllapjemdegnjaa", sum := "12fe8dc9525e6bdc7abb0237a0df60571d4181b53350e0a0d2f618c93c1b91ad", func := "loop.example/g00948/laws.FnExactSineRange", spec := "fnExactSineRange", unfollowed := true, recurses := true, apart := false }
def FnExactSineRangeSaid : Prop := fnExactSineRangeRow.holds Try.pinned (OpenSpec.ofChange fnExactSineRangeSpec)

/-- ITS FALSE NEIGHBOUR: 'it returns false'. Refute it at one input. -/
def fnExactSineRangeWrong : ChangeSpec := { name := "fnExactSineRange", fn := fun _ => fun
  | [d] => { results := [.lit (.bool false)], args := [d] }
  | _ => none }
def FnExactSineRangeWrongFalsely : Prop := fnExactSineRangeRow.holds Try.pinned (OpenSpec.ofChange fnExactSineRangeWrong)

/-- 'laws.FnExactCosineRange': WHATEVER THE INPUT: true; the input reads as it did. -/
def fnExactCosineRangeSpec : ChangeSpec := { name := "fnExactCosineRange", fn := fun _ => fun
  | [d] => { results := [.lit (.bool true)], args := [d] }
  | _ => none }
def fnExactCosineRangeRow : OpenClaim := { program := "ytllapjemdegnjaa", sum := "12fe8dc9525e6bdc7abb0237a0df60571d4181b53350e0a0d2f618c93c1b91ad", func := "loop.example/g00948/laws.FnExactCosineRange", spec := "fnExactCosineRange", unfollowed := true, recurses := true, apart := false }
def FnExactCosineRangeSaid : Prop := fnExactCosineRangeRow.holds Try.pinned (OpenSpec.ofChange fnExactCosineRangeSpec)

/-- ITS FALSE NEIGHBOUR: 'it returns false'. Refute it at one input. -/
def fnExactCosineRangeWrong : ChangeSpec := { name := "fnExactCosineRange", fn := fun _ => fun
  | [d] => { results := [.lit (.bool false)], args := [d] }
  | _ => none }
def FnExactCosineRangeWrongFalsely : Prop := fnExactCosineRangeRow.holds Try.pinned (OpenSpec.ofChange fnExactCosineRangeWrong)

/- THE SECOND FORM. 'bulk': how many values and letters a reading holds, each counted each time it is reached (what is shared counts as often as it is met; a slice's spare places count too). A statement '..UptoSaid' is the law's where the arguments, and the package variables that the reading takes, are together of bulk at most 1048576: NARROWER than '..Said'. Prove '..Said' where nothing that the law and all that it calls make is longer than what came in: it says more and counts as full. Else prove '..UptoSaid'. A law counts once. -/
mutual
def uptoBulk {H : Type} : DataW H → Nat
  | .lit (.string bytes) => bytes.length + 1
  | .lit _ => 1
  | .nil => 1
  | .ptr d => uptoBulk d + 1
  | .slice elems spare => uptoBulkAll elems + uptoBulkAll spare + 1
  | .agg parts => uptoBulkAll parts + 1
  | .iface _ d => uptoBulk d + 1
  | .map entries => uptoBulkEntries entries + 1
  | .held _ => 1
def uptoBulkAll {H : Type} : List (DataW H) → Nat
  | [] => 0
  | d :: r => uptoBulk d + uptoBulkAll r
def uptoBulkEntries {H : Type} : List (Lit × DataW H) → Nat
  | [] => 0
  | x :: r => uptoBulkEntry x + uptoBulkEntries r
def uptoBulkEntry {H : Type} : Lit × DataW H → Nat
  | (.string bytes, d) => bytes.length + uptoBulk d + 1
  | (_, d) => uptoBulk d + 1
 end
def uptoSmall : (H : Type) → List (DataW H) → Bool := fun _ ds => decide (uptoBulkAll ds ≤ 1048576)
def OpenSpec.upto (s : _root_.Go.ChangeSpec) : _root_.Go.OpenSpec := { _root_.Go.OpenSpec.ofChange s with cond := some uptoSmall }

/-- 'laws.FnExactCrossProduct', WHERE WHAT IT READS IS OF BULK AT MOST 1048576: true; the input reads as it did. -/
def fnExactCrossProductUptoRow : OpenClaim := { program := "ytllapjemdegnjaa", sum := "12fe8dc9525e6bdc7abb0237a0df60571d4181b53350e0a0d2f618c93c1b91ad", func := "loop.example/g00948/laws.FnExactCrossProduct", spec := "fnExactCrossProduct", apart := false, narrowed := true }
def FnExactCrossProductUptoSaid : Prop := fnExactCrossProductUptoRow.holds Try.pinned (OpenSpec.upto fnExactCrossProductSpec)

/-- 'laws.FnExactPointAt', WHERE WHAT IT READS IS OF BULK AT MOST 1048576: true; the input reads as it did. -/
def fnExactPointAtUptoRow : OpenClaim := { program := "ytllapjemdegnjaa", sum := "12fe8dc9525e6bdc7abb0237a0df60571d4181b53350e0a0d2f618c93c1b91ad", func := "loop.example/g00948/laws.FnExactPointAt", spec := "fnExactPointAt", apart := false, narrowed := true }
def FnExactPointAtUptoSaid : Prop := fnExactPointAtUptoRow.holds Try.pinned (OpenSpec.upto fnExactPointAtSpec)

/-- 'laws.FnExactNthWeekday', WHERE WHAT IT READS IS OF BULK AT MOST 1048576: true; the input reads as it did. -/
def fnExactNthWeekdayUptoRow : OpenClaim := { program := "ytllapjemdegnjaa", sum := "12fe8dc9525e6bdc7abb0237a0df60571d4181b53350e0a0d2f618c93c1b91ad", func := "loop.example/g00948/laws.FnExactNthWeekday", spec := "fnExactNthWeekday", apart := false, narrowed := true }
def FnExactNthWeekdayUptoSaid : Prop := fnExactNthWeekdayUptoRow.holds Try.pinned (OpenSpec.upto fnExactNthWeekdaySpec)

/-- 'laws.FnExactSineOf', WHERE WHAT IT READS IS OF BULK AT MOST 1048576: true; the input reads as it did. -/
def fnExactSineOfUptoRow : OpenClaim := { program := "ytllapjemdegnjaa", sum := "12fe8dc9525e6bdc7abb0237a0df60571d4181b53350e0a0d2f618c93c1b91ad", func := "loop.example/g00948/laws.FnExactSineOf", spec := "fnExactSineOf", apart := false, narrowed := true }
def FnExactSineOfUptoSaid : Prop := fnExactSineOfUptoRow.holds Try.pinned (OpenSpec.upto fnExactSineOfSpec)

/-- 'laws.FnExactChordOf', WHERE WHAT IT READS IS OF BULK AT MOST 1048576: true; the input reads as it did. -/
def fnExactChordOfUptoRow : OpenClaim := { program := "ytllapjemdegnjaa", sum := "12fe8dc9525e6bdc7abb0237a0df60571d4181b53350e0a0d2f618c93c1b91ad", func := "loop.example/g00948/laws.FnExactChordOf", spec := "fnExactChordOf", recurses := true, apart := false, narrowed := true }
def FnExactChordOfUptoSaid : Prop := fnExactChordOfUptoRow.holds Try.pinned (OpenSpec.upto fnExactChordOfSpec)

/-- 'laws.FnExactCosineOf', WHERE WHAT IT READS IS OF BULK AT MOST 1048576: true; the input reads as it did. -/
def fnExactCosineOfUptoRow : OpenClaim := { program := "ytllapjemdegnjaa", sum := "12fe8dc9525e6bdc7abb0237a0df60571d4181b53350e0a0d2f618c93c1b91ad", func := "loop.example/g00948/laws.FnExactCosineOf", spec := "fnExactCosineOf", apart := false, narrowed := true }
def FnExactCosineOfUptoSaid : Prop := fnExactCosineOfUptoRow.holds Try.pinned (OpenSpec.upto fnExactCosineOfSpec)

/-- 'laws.FnExactSineAbove', WHERE WHAT IT READS IS OF BULK AT MOST 1048576: true; the input reads as it did. -/
def fnExactSineAboveUptoRow : OpenClaim := { program := "ytllapjemdegnjaa", sum := "12fe8dc9525e6bdc7abb0237a0df60571d4181b53350e0a0d2f618c93c1b91ad", func := "loop.example/g00948/laws.FnExactSineAbove", spec := "fnExactSineAbove", unfollowed := true, recurses := true, apart := false, narrowed := true }
def FnExactSineAboveUptoSaid : Prop := fnExactSineAboveUptoRow.holds Try.pinned (OpenSpec.upto fnExactSineAboveSpec)

/-- 'laws.FnExactAngleOfPoint', WHERE WHAT IT READS IS OF BULK AT MOST 1048576: true; the input reads as it did. -/
def fnExactAngleOfPointUptoRow : OpenClaim := { program := "ytllapjemdegnjaa", sum := "12fe8dc9525e6bdc7abb0237a0df60571d4181b53350e0a0d2f618c93c1b91ad", func := "loop.example/g00948/laws.FnExactAngleOfPoint", spec := "fnExactAngleOfPoint", unfollowed := true, recurses := true, apart := false, narrowed := true }
def FnExactAngleOfPointUptoSaid : Prop := fnExactAngleOfPointUptoRow.holds Try.pinned (OpenSpec.upto fnExactAngleOfPointSpec)

/-- 'laws.FnExactSignOf', WHERE WHAT IT READS IS OF BULK AT MOST 1048576: true; the input reads as it did. -/
def fnExactSignOfUptoRow : OpenClaim := { program := "ytllapjemdegnjaa", sum := "12fe8dc9525e6bdc7abb0237a0df60571d4181b53350e0a0d2f618c93c1b91ad", func := "loop.example/g00948/laws.FnExactSignOf", spec := "fnExactSignOf", apart := false, narrowed := true }
def FnExactSignOfUptoSaid : Prop := fnExactSignOfUptoRow.holds Try.pinned (OpenSpec.upto fnExactSignOfSpec)

/-- 'laws.FnExactDirectionTo', WHERE WHAT IT READS IS OF BULK AT MOST 1048576: true; the input reads as it did. -/
def fnExactDirectionToUptoRow : OpenClaim := { program := "ytllapjemdegnjaa", sum := "12fe8dc9525e6bdc7abb0237a0df60571d4181b53350e0a0d2f618c93c1b91ad", func := "loop.example/g00948/laws.FnExactDirectionTo", spec := "fnExactDirectionTo", apart := false, narrowed := true }
def FnExactDirectionToUptoSaid : Prop := fnExactDirectionToUptoRow.holds Try.pinned (OpenSpec.upto fnExactDirectionToSpec)

/-- 'laws.FnExactSineRange', WHERE WHAT IT READS IS OF BULK AT MOST 1048576: true; the input reads as it did. -/
def fnExactSineRangeUptoRow : OpenClaim := { program := "ytllapjemdegnjaa", sum := "12fe8dc9525e6bdc7abb0237a0df60571d4181b53350e0a0d2f618c93c1b91ad", func := "loop.example/g00948/laws.FnExactSineRange", spec := "fnExactSineRange", unfollowed := true, recurses := true, apart := false, narrowed := true }
def FnExactSineRangeUptoSaid : Prop := fnExactSineRangeUptoRow.holds Try.pinned (OpenSpec.upto fnExactSineRangeSpec)

/-- 'laws.FnExactCosineRange', WHERE WHAT IT READS IS OF BULK AT MOST 1048576: true; the input reads as it did. -/
def fnExactCosineRangeUptoRow : OpenClaim := { program := "ytllapjemdegnjaa", sum := "12fe8dc9525e6bdc7abb0237a0df60571d4181b53350e0a0d2f618c93c1b91ad", func := "loop.example/g00948/laws.FnExactCosineRange", spec := "fnExactCosineRange", unfollowed := true, recurses := true, apart := false, narrowed := true }
def FnExactCosineRangeUptoSaid : Prop := fnExactCosineRangeUptoRow.holds Try.pinned (OpenSpec.upto fnExactCosineRangeSpec)

end Rows
end Go.Proofs.Ytllapjemdegnjaa
