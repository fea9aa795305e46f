/-
  No cell of these rows narrows 'for every input' (looked for: loops, veiled, ifaces, maps, wideKeys, modest, calm, conditions, laid).
  DERIVED. THE GIVEN ROWS OF THIS SEAT. 6 by the template 'for every input the law returns true; each argument reads behind the call as it read before'; 0 by the template 'total and deterministic' (their statements: YtcnaocjhfgnphaaTotals.lean).
  GIVEN WITH THE SEED: the statements are not yours to turn. If you find one false, say at which input.
  Laid BY PROGRAM, IN A SANDBOX (cutbox-rows.mjs): the forced cells as the released guide's own fill.sh prints them over the translation 44379702397f7beb… (all of the seat's roots in one cut). By AI agents, Wed Nov 11 2026. No macro, syntax, notation, axiom, sorry.
-/
import Derived.Test.YtcnaocjhfgnphaaChecked
import GoSem.Claim
import GoSem.ClaimJoined
import GoSem.ClaimMapViews
import Derived.JoinedTies
import Derived.KernelRfl
namespace Go.Proofs.Ytcnaocjhfgnphaa
/- THE CELL 'sum', in the pinned program and in every row, IS THE sha256 OF THE DUMP (.gsa) THAT YtcnaocjhfgnphaaProg.lean LOADS. Nothing in Lean hashes anything: it is a label: what it is worth is what the hold of that sum in a sandbox is worth. -/
noncomputable def Try.pinned : Pinned := { name := "ytcnaocjhfgnphaa", sum := "44379702397f7beb9140830ef07180ab5a84add6655d41fb6155b77e2b45dda4", checked := Try.checked }
namespace Rows
def none {H : Type} : Left H := { results := [], args := [] }

/-- 'laws.FnRoots': WHATEVER THE INPUT: true; the input reads as it did. -/
def fnRootsSpec : ChangeSpec := { name := "fnRoots", fn := fun _ => fun
  | [d] => { results := [.lit (.bool true)], args := [d] }
  | _ => none }
def fnRootsRow : OpenClaim := { program := "ytcnaocjhfgnphaa", sum := "44379702397f7beb9140830ef07180ab5a84add6655d41fb6155b77e2b45dda4", func := "loop.example/g00948/laws.FnRoots", spec := "fnRoots", apart := false }
def FnRootsSaid : Prop := fnRootsRow.holds Try.pinned (OpenSpec.ofChange fnRootsSpec)

/-- ITS FALSE NEIGHBOUR: 'it returns false'. Refute it at one input. -/
def fnRootsWrong : ChangeSpec := { name := "fnRoots", fn := fun _ => fun
  | [d] => { results := [.lit (.bool false)], args := [d] }
  | _ => none }
def FnRootsWrongFalsely : Prop := fnRootsRow.holds Try.pinned (OpenSpec.ofChange fnRootsWrong)

/-- 'laws.FnAngles': WHATEVER THE INPUT: true; the input reads as it did. -/
def fnAnglesSpec : ChangeSpec := { name := "fnAngles", fn := fun _ => fun
  | [d] => { results := [.lit (.bool true)], args := [d] }
  | _ => none }
def fnAnglesRow : OpenClaim := { program := "ytcnaocjhfgnphaa", sum := "44379702397f7beb9140830ef07180ab5a84add6655d41fb6155b77e2b45dda4", func := "loop.example/g00948/laws.FnAngles", spec := "fnAngles", apart := false }
def FnAnglesSaid : Prop := fnAnglesRow.holds Try.pinned (OpenSpec.ofChange fnAnglesSpec)

/-- ITS FALSE NEIGHBOUR: 'it returns false'. Refute it at one input. -/
def fnAnglesWrong : ChangeSpec := { name := "fnAngles", fn := fun _ => fun
  | [d] => { results := [.lit (.bool false)], args := [d] }
  | _ => none }
def FnAnglesWrongFalsely : Prop := fnAnglesRow.holds Try.pinned (OpenSpec.ofChange fnAnglesWrong)

/-- 'laws.FnFractions': WHATEVER THE INPUT: true; the input reads as it did. -/
def fnFractionsSpec : ChangeSpec := { name := "fnFractions", fn := fun _ => fun
  | [d] => { results := [.lit (.bool true)], args := [d] }
  | _ => none }
def fnFractionsRow : OpenClaim := { program := "ytcnaocjhfgnphaa", sum := "44379702397f7beb9140830ef07180ab5a84add6655d41fb6155b77e2b45dda4", func := "loop.example/g00948/laws.FnFractions", spec := "fnFractions", apart := false }
def FnFractionsSaid : Prop := fnFractionsRow.holds Try.pinned (OpenSpec.ofChange fnFractionsSpec)

/-- ITS FALSE NEIGHBOUR: 'it returns false'. Refute it at one input. -/
def fnFractionsWrong : ChangeSpec := { name := "fnFractions", fn := fun _ => fun
  | [d] => { results := [.lit (.bool false)], args := [d] }
  | _ => none }
def FnFractionsWrongFalsely : Prop := fnFractionsRow.holds Try.pinned (OpenSpec.ofChange fnFractionsWrong)

/-- 'laws.FnSines': WHATEVER THE INPUT: true; the input reads as it did. -/
def fnSinesSpec : ChangeSpec := { name := "fnSines", fn := fun _ => fun
  | [d] => { results := [.lit (.bool true)], args := [d] }
  | _ => none }
def fnSinesRow : OpenClaim := { program := "ytcnaocjhfgnphaa", sum := "44379702397f7beb9140830ef07180ab5a84add6655d41fb6155b77e2b45dda4", func := "loop.example/g00948/laws.FnSines", spec := "fnSines", apart := false }
def FnSinesSaid : Prop := fnSinesRow.holds Try.pinned (OpenSpec.ofChange fnSinesSpec)

/-- ITS FALSE NEIGHBOUR: 'it returns false'. Refute it at one input. -/
def fnSinesWrong : ChangeSpec := { name := "fnSines", fn := fun _ => fun
  | [d] => { results := [.lit (.bool false)], args := [d] }
  | _ => none }
def FnSinesWrongFalsely : Prop := fnSinesRow.holds Try.pinned (OpenSpec.ofChange fnSinesWrong)

/-- 'laws.FnDates': WHATEVER THE INPUT: true; the input reads as it did. -/
def fnDatesSpec : ChangeSpec := { name := "fnDates", fn := fun _ => fun
  | [d] => { results := [.lit (.bool true)], args := [d] }
  | _ => none }
def fnDatesRow : OpenClaim := { program := "ytcnaocjhfgnphaa", sum := "44379702397f7beb9140830ef07180ab5a84add6655d41fb6155b77e2b45dda4", func := "loop.example/g00948/laws.FnDates", spec := "fnDates", apart := false }
def FnDatesSaid : Prop := fnDatesRow.holds Try.pinned (OpenSpec.ofChange fnDatesSpec)

/-- ITS FALSE NEIGHBOUR: 'it returns false'. Refute it at one input. -/
def fnDatesWrong : ChangeSpec := { name := "fnDates", fn := fun _ => fun
  | [d] => { results := [.lit (.bool false)], args := [d] }
  | _ => none }
def FnDatesWrongFalsely : Prop := fnDatesRow.holds Try.pinned (OpenSpec.ofChange fnDatesWrong)

/-- 'laws.FnVectorSums': WHATEVER THE INPUT: true; the input reads as it did. -/
def fnVectorSumsSpec : ChangeSpec := { name := "fnVectorSums", fn := fun _ => fun
  | [d] => { results := [.lit (.bool true)], args := [d] }
  | _ => none }
def fnVectorSumsRow : OpenClaim := { program := "ytcnaocjhfgnphaa", sum := "44379702397f7beb9140830ef07180ab5a84add6655d41fb6155b77e2b45dda4", func := "loop.example/g00948/laws.FnVectorSums", spec := "fnVectorSums", apart := false }
def FnVectorSumsSaid : Prop := fnVectorSumsRow.holds Try.pinned (OpenSpec.ofChange fnVectorSumsSpec)

/-- ITS FALSE NEIGHBOUR: 'it returns false'. Refute it at one input. -/
def fnVectorSumsWrong : ChangeSpec := { name := "fnVectorSums", fn := fun _ => fun
  | [d] => { results := [.lit (.bool false)], args := [d] }
  | _ => none }
def FnVectorSumsWrongFalsely : Prop := fnVectorSumsRow.holds Try.pinned (OpenSpec.ofChange fnVectorSumsWrong)

/- THE SECOND FORM. 'bulk': how many values and letters a reading holds, each counted each time it is reached (what is shared counts as often as it is met; a slice's spare places count too). A statement '..UptoSaid' is the law's where the arguments, and the package variables that the reading takes, are together of bulk at most 1048576: NARROWER than '..Said'. Prove '..Said' where nothing that the law and all that it calls make is longer than what came in: it says more and counts as full. Else prove '..UptoSaid'. A law counts once. -/
mutual
def uptoBulk {H : Type} : DataW H → Nat
  | .lit (.string bytes) => bytes.length + 1
  | .lit _ => 1
  | .nil => 1
  | .ptr d => uptoBulk d + 1
  | .slice elems spare => uptoBulkAll elems + uptoBulkAll spare + 1
  | .agg parts => uptoBulkAll parts + 1
  | .iface _ d => uptoBulk d + 1
  | .map entries => uptoBulkEntries entries + 1
  | .held _ => 1
def uptoBulkAll {H : Type} : List (DataW H) → Nat
  | [] => 0
  | d :: r => uptoBulk d + uptoBulkAll r
def uptoBulkEntries {H : Type} : List (Lit × DataW H) → Nat
  | [] => 0
  | x :: r => uptoBulkEntry x + uptoBulkEntries r
def uptoBulkEntry {H : Type} : Lit × DataW H → Nat
  | (.string bytes, d) => bytes.length + uptoBulk d + 1
  | (_, d) => uptoBulk d + 1
 end
def uptoSmall : (H : Type) → List (DataW H) → Bool := fun _ ds => decide (uptoBulkAll ds ≤ 1048576)
def OpenSpec.upto (s : _root_.Go.ChangeSpec) : _root_.Go.OpenSpec := { _root_.Go.OpenSpec.ofChange s with cond := some uptoSmall }

/-- 'laws.FnRoots', WHERE WHAT IT READS IS OF BULK AT MOST 1048576: true; the input reads as it did. -/
def fnRootsUptoRow : OpenClaim := { program := "ytcnaocjhfgnphaa", sum := "44379702397f7beb9140830ef07180ab5a84add6655d41fb6155b77e2b45dda4", func := "loop.example/g00948/laws.FnRoots", spec := "fnRoots", apart := false, narrowed := true }
def FnRootsUptoSaid : Prop := fnRootsUptoRow.holds Try.pinned (OpenSpec.upto fnRootsSpec)

/-- 'laws.FnAngles', WHERE WHAT IT READS IS OF BULK AT MOST 1048576: true; the input reads as it did. -/
def fnAnglesUptoRow : OpenClaim := { program := "ytcnaocjhfgnphaa", sum := "44379702397f7beb9140830ef07180ab5a84add6655d41fb6155b77e2b45dda4", func := "loop.example/g00948/laws.FnAngles", spec := "fnAngles", apart := false, narrowed := true }
def FnAnglesUptoSaid : Prop := fnAnglesUptoRow.holds Try.pinned (OpenSpec.upto fnAnglesSpec)

/-- 'laws.FnFractions', WHERE WHAT IT READS IS OF BULK AT MOST 1048576: true; the input reads as it did. -/
def fnFractionsUptoRow : OpenClaim := { program := "ytcnaocjhfgnphaa", sum := "44379702397f7beb9140830ef07180ab5a84add6655d41fb6155b77e2b45dda4", func := "loop.example/g00948/laws.FnFractions", spec := "fnFractions", apart := false, narrowed := true }
def FnFractionsUptoSaid : Prop := fnFractionsUptoRow.holds Try.pinned (OpenSpec.upto fnFractionsSpec)

/-- 'laws.FnSines', WHERE WHAT IT READS IS OF BULK AT MOST 1048576: true; the input reads as it did. -/
def fnSinesUptoRow : OpenClaim := { program := "ytcnaocjhfgnphaa", sum := "44379702397f7beb9140830ef07180ab5a84add6655d41fb6155b77e2b45dda4", func := "loop.example/g00948/laws.FnSines", spec := "fnSines", apart := false, narrowed := true }
def FnSinesUptoSaid : Prop := fnSinesUptoRow.holds Try.pinned (OpenSpec.upto fnSinesSpec)

/-- 'laws.FnDates', WHERE WHAT IT READS IS OF BULK AT MOST 1048576: true; the input reads as it did. -/
def fnDatesUptoRow : OpenClaim := { program := "ytcnaocjhfgnphaa", sum := "44379702397f7beb9140830ef07180ab5a84add6655d41fb6155b77e2b45dda4", func := "loop.example/g00948/laws.FnDates", spec := "fnDates", apart := false, narrowed := true }
def FnDatesUptoSaid : Prop := fnDatesUptoRow.holds Try.pinned (OpenSpec.upto fnDatesSpec)

/-- 'laws.FnVectorSums', WHERE WHAT IT READS IS OF BULK AT MOST 1048576: true; the input reads as it did. -/
def fnVectorSumsUptoRow : OpenClaim := { program := "ytcnaocjhfgnphaa", sum := "44379702397f7beb9140830ef07180ab5a84add6655d41fb6155b77e2b45dda4", func := "loop.example/g00948/laws.FnVectorSums", spec := "fnVectorSums", apart := false, narrowed := true }
def FnVectorSumsUptoSaid : Prop := fnVectorSumsUptoRow.holds Try.pinned (OpenSpec.upto fnVectorSumsSpec)

end Rows
end Go.Proofs.Ytcnaocjhfgnphaa
