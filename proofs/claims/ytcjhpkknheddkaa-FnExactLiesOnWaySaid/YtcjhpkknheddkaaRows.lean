/-
  No cell of these rows narrows 'for every input' (looked for: loops, veiled, ifaces, maps, wideKeys, modest, calm, conditions, laid).
  DERIVED. THE GIVEN ROWS OF THIS SEAT. 6 by the template 'for every input the law returns true; each argument reads behind the call as it read before'; 0 by the template 'total and deterministic' (their statements: YtcjhpkknheddkaaTotals.lean).
  GIVEN WITH THE SEED: the statements are not yours to turn. If you find one false, say at which input.
  Laid BY PROGRAM, IN A SANDBOX (cutbox-rows.mjs): the forced cells as the released guide's own fill.sh prints them over the translation a3dd603faaa17b82… (all of the seat's roots in one cut). By AI agents, Wed Nov 11 2026. No macro, syntax, notation, axiom, sorry.
-/
import Derived.Test.YtcjhpkknheddkaaChecked
import GoSem.Claim
import GoSem.ClaimJoined
import GoSem.ClaimMapViews
import Derived.JoinedTies
import Derived.KernelRfl
namespace Go.Proofs.Ytcjhpkknheddkaa
/- THE CELL 'sum', in the pinned program and in every row, IS THE sha256 OF THE DUMP (.gsa) THAT YtcjhpkknheddkaaProg.lean LOADS. Nothing in Lean hashes anything: it is a label: what it is worth is what the hold of that sum in a sandbox is worth. -/
noncomputable def Try.pinned : Pinned := { name := "ytcjhpkknheddkaa", sum := "a3dd603faaa17b82f1ef0dbc2a80717cb1108b080e83e1a6243577aa92f17e61", checked := Try.checked }
namespace Rows
def none {H : Type} : Left H := { results := [], args := [] }

/-- 'laws.FnExactConstants': WHATEVER THE INPUT: true; the input reads as it did. -/
def fnExactConstantsSpec : ChangeSpec := { name := "fnExactConstants", fn := fun _ => fun
  | [] => { results := [.lit (.bool true)], args := [] }
  | _ => none }
def fnExactConstantsRow : OpenClaim := { program := "ytcjhpkknheddkaa", sum := "a3dd603faaa17b82f1ef0dbc2a80717cb1108b080e83e1a6243577aa92f17e61", func := "loop.example/g00948/laws.FnExactConstants", spec := "fnExactConstants", apart := false }
def FnExactConstantsSaid : Prop := fnExactConstantsRow.holds Try.pinned (OpenSpec.ofChange fnExactConstantsSpec)

/-- ITS FALSE NEIGHBOUR: 'it returns false'. Refute it at one input. -/
def fnExactConstantsWrong : ChangeSpec := { name := "fnExactConstants", fn := fun _ => fun
  | [] => { results := [.lit (.bool false)], args := [] }
  | _ => none }
def FnExactConstantsWrongFalsely : Prop := fnExactConstantsRow.holds Try.pinned (OpenSpec.ofChange fnExactConstantsWrong)

/-- 'laws.FnExactIsInterval': WHATEVER THE INPUT: true; the input reads as it did. -/
def fnExactIsIntervalSpec : ChangeSpec := { name := "fnExactIsInterval", fn := fun _ => fun
  | [d] => { results := [.lit (.bool true)], args := [d] }
  | _ => none }
def fnExactIsIntervalRow : OpenClaim := { program := "ytcjhpkknheddkaa", sum := "a3dd603faaa17b82f1ef0dbc2a80717cb1108b080e83e1a6243577aa92f17e61", func := "loop.example/g00948/laws.FnExactIsInterval", spec := "fnExactIsInterval", apart := false }
def FnExactIsIntervalSaid : Prop := fnExactIsIntervalRow.holds Try.pinned (OpenSpec.ofChange fnExactIsIntervalSpec)

/-- ITS FALSE NEIGHBOUR: 'it returns false'. Refute it at one input. -/
def fnExactIsIntervalWrong : ChangeSpec := { name := "fnExactIsInterval", fn := fun _ => fun
  | [d] => { results := [.lit (.bool false)], args := [d] }
  | _ => none }
def FnExactIsIntervalWrongFalsely : Prop := fnExactIsIntervalRow.holds Try.pinned (OpenSpec.ofChange fnExactIsIntervalWrong)

/-- 'laws.FnExactIsVector': WHATEVER THE INPUT: true; the input reads as it did. -/
def fnExactIsVectorSpec : ChangeSpec := { name := "fnExactIsVector", fn := fun _ => fun
  | [d] => { results := [.lit (.bool true)], args := [d] }
  | _ => none }
def fnExactIsVectorRow : OpenClaim := { program := "ytcjhpkknheddkaa", sum := "a3dd603faaa17b82f1ef0dbc2a80717cb1108b080e83e1a6243577aa92f17e61", func := "loop.example/g00948/laws.FnExactIsVector", spec := "fnExactIsVector", apart := false }
def FnExactIsVectorSaid : Prop := fnExactIsVectorRow.holds Try.pinned (OpenSpec.ofChange fnExactIsVectorSpec)

/-- ITS FALSE NEIGHBOUR: 'it returns false'. Refute it at one input. -/
def fnExactIsVectorWrong : ChangeSpec := { name := "fnExactIsVector", fn := fun _ => fun
  | [d] => { results := [.lit (.bool false)], args := [d] }
  | _ => none }
def FnExactIsVectorWrongFalsely : Prop := fnExactIsVectorRow.holds Try.pinned (OpenSpec.ofChange fnExactIsVectorWrong)

/-- 'laws.FnExactPlainAngle': WHATEVER THE INPUT: true; the input reads as it did. -/
def fnExactPlainAngleSpec : ChangeSpec := { name := "fnExactPlainAngle", fn := fun _ => fun
  | [d] => { results := [.lit (.bool true)], args := [d] }
  | _ => none }
def fnExactPlainAngleRow : OpenClaim := { program := "ytcjhpkknheddkaa", sum := "a3dd603faaa17b82f1ef0dbc2a80717cb1108b080e83e1a6243577aa92f17e61", func := "loop.example/g00948/laws.FnExactPlainAngle", spec := "fnExactPlainAngle", apart := false }
def FnExactPlainAngleSaid : Prop := fnExactPlainAngleRow.holds Try.pinned (OpenSpec.ofChange fnExactPlainAngleSpec)

/-- ITS FALSE NEIGHBOUR: 'it returns false'. Refute it at one input. -/
def fnExactPlainAngleWrong : ChangeSpec := { name := "fnExactPlainAngle", fn := fun _ => fun
  | [d] => { results := [.lit (.bool false)], args := [d] }
  | _ => none }
def FnExactPlainAngleWrongFalsely : Prop := fnExactPlainAngleRow.holds Try.pinned (OpenSpec.ofChange fnExactPlainAngleWrong)

/-- 'laws.FnExactLiesOnWay': WHATEVER THE INPUT: true; the input reads as it did. -/
def fnExactLiesOnWaySpec : ChangeSpec := { name := "fnExactLiesOnWay", fn := fun _ => fun
  | [d1, d2, d3] => { results := [.lit (.bool true)], args := [d1, d2, d3] }
  | _ => none }
def fnExactLiesOnWayRow : OpenClaim := { program := "ytcjhpkknheddkaa", sum := "a3dd603faaa17b82f1ef0dbc2a80717cb1108b080e83e1a6243577aa92f17e61", func := "loop.example/g00948/laws.FnExactLiesOnWay", spec := "fnExactLiesOnWay", apart := false }
def FnExactLiesOnWaySaid : Prop := fnExactLiesOnWayRow.holds Try.pinned (OpenSpec.ofChange fnExactLiesOnWaySpec)

/-- ITS FALSE NEIGHBOUR: 'it returns false'. Refute it at one input. -/
def fnExactLiesOnWayWrong : ChangeSpec := { name := "fnExactLiesOnWay", fn := fun _ => fun
  | [d1, d2, d3] => { results := [.lit (.bool false)], args := [d1, d2, d3] }
  | _ => none }
def FnExactLiesOnWayWrongFalsely : Prop := fnExactLiesOnWayRow.holds Try.pinned (OpenSpec.ofChange fnExactLiesOnWayWrong)

/-- 'laws.FnExactSignedAngle': WHATEVER THE INPUT: true; the input reads as it did. -/
def fnExactSignedAngleSpec : ChangeSpec := { name := "fnExactSignedAngle", fn := fun _ => fun
  | [d] => { results := [.lit (.bool true)], args := [d] }
  | _ => none }
def fnExactSignedAngleRow : OpenClaim := { program := "ytcjhpkknheddkaa", sum := "a3dd603faaa17b82f1ef0dbc2a80717cb1108b080e83e1a6243577aa92f17e61", func := "loop.example/g00948/laws.FnExactSignedAngle", spec := "fnExactSignedAngle", apart := false }
def FnExactSignedAngleSaid : Prop := fnExactSignedAngleRow.holds Try.pinned (OpenSpec.ofChange fnExactSignedAngleSpec)

/-- ITS FALSE NEIGHBOUR: 'it returns false'. Refute it at one input. -/
def fnExactSignedAngleWrong : ChangeSpec := { name := "fnExactSignedAngle", fn := fun _ => fun
  | [d] => { results := [.lit (.bool false)], args := [d] }
  | _ => none }
def FnExactSignedAngleWrongFalsely : Prop := fnExactSignedAngleRow.holds Try.pinned (OpenSpec.ofChange fnExactSignedAngleWrong)

/- THE SECOND FORM. 'bulk': how many values and letters a reading holds, each counted each time it is reached (what is shared counts as often as it is met; a slice's spare places count too). A statement '..UptoSaid' is the law's where the arguments, and the package variables that the reading takes, are together of bulk at most 1048576: NARROWER than '..Said'. Prove '..Said' where nothing that the law and all that it calls make is longer than what came in: it says more and counts as full. Else prove '..UptoSaid'. A law counts once. -/
mutual
def uptoBulk {H : Type} : DataW H → Nat
  | .lit (.string bytes) => bytes.length + 1
  | .lit _ => 1
  | .nil => 1
  | .ptr d => uptoBulk d + 1
  | .slice elems spare => uptoBulkAll elems + uptoBulkAll spare + 1
  | .agg parts => uptoBulkAll parts + 1
  | .iface _ d => uptoBulk d + 1
  | .map entries => uptoBulkEntries entries + 1
  | .held _ => 1
def uptoBulkAll {H : Type} : List (DataW H) → Nat
  | [] => 0
  | d :: r => uptoBulk d + uptoBulkAll r
def uptoBulkEntries {H : Type} : List (Lit × DataW H) → Nat
  | [] => 0
  | x :: r => uptoBulkEntry x + uptoBulkEntries r
def uptoBulkEntry {H : Type} : Lit × DataW H → Nat
  | (.string bytes, d) => bytes.length + uptoBulk d + 1
  | (_, d) => uptoBulk d + 1
 end
def uptoSmall : (H : Type) → List (DataW H) → Bool := fun _ ds => decide (uptoBulkAll ds ≤ 1048576)
def OpenSpec.upto (s : _root_.Go.ChangeSpec) : _root_.Go.OpenSpec := { _root_.Go.OpenSpec.ofChange s with cond := some uptoSmall }

/-- 'laws.FnExactConstants', WHERE WHAT IT READS IS OF BULK AT MOST 1048576: true; the input reads as it did. -/
def fnExactConstantsUptoRow : OpenClaim := { program := "ytcjhpkknheddkaa", sum := "a3dd603faaa17b82f1ef0dbc2a80717cb1108b080e83e1a6243577aa92f17e61", func := "loop.example/g00948/laws.FnExactConstants", spec := "fnExactConstants", apart := false, narrowed := true }
def FnExactConstantsUptoSaid : Prop := fnExactConstantsUptoRow.holds Try.pinned (OpenSpec.upto fnExactConstantsSpec)

/-- 'laws.FnExactIsInterval', WHERE WHAT IT READS IS OF BULK AT MOST 1048576: true; the input reads as it did. -/
def fnExactIsIntervalUptoRow : OpenClaim := { program := "ytcjhpkknheddkaa", sum := "a3dd603faaa17b82f1ef0dbc2a80717cb1108b080e83e1a6243577aa92f17e61", func := "loop.example/g00948/laws.FnExactIsInterval", spec := "fnExactIsInterval", apart := false, narrowed := true }
def FnExactIsIntervalUptoSaid : Prop := fnExactIsIntervalUptoRow.holds Try.pinned (OpenSpec.upto fnExactIsIntervalSpec)

/-- 'laws.FnExactIsVector', WHERE WHAT IT READS IS OF BULK AT MOST 1048576: true; the input reads as it did. -/
def fnExactIsVectorUptoRow : OpenClaim := { program := "ytcjhpkknheddkaa", sum := "a3dd603faaa17b82f1ef0dbc2a80717cb1108b080e83e1a6243577aa92f17e61", func := "loop.example/g00948/laws.FnExactIsVector", spec := "fnExactIsVector", apart := false, narrowed := true }
def FnExactIsVectorUptoSaid : Prop := fnExactIsVectorUptoRow.holds Try.pinned (OpenSpec.upto fnExactIsVectorSpec)

/-- 'laws.FnExactPlainAngle', WHERE WHAT IT READS IS OF BULK AT MOST 1048576: true; the input reads as it did. -/
def fnExactPlainAngleUptoRow : OpenClaim := { program := "ytcjhpkknheddkaa", sum := "a3dd603faaa17b82f1ef0dbc2a80717cb1108b080e83e1a6243577aa92f17e61", func := "loop.example/g00948/laws.FnExactPlainAngle", spec := "fnExactPlainAngle", apart := false, narrowed := true }
def FnExactPlainAngleUptoSaid : Prop := fnExactPlainAngleUptoRow.holds Try.pinned (OpenSpec.upto fnExactPlainAngleSpec)

/-- 'laws.FnExactLiesOnWay', WHERE WHAT IT READS IS OF BULK AT MOST 1048576: true; the input reads as it did. -/
def fnExactLiesOnWayUptoRow : OpenClaim := { program := "ytcjhpkknheddkaa", sum := "a3dd603faaa17b82f1ef0dbc2a80717cb1108b080e83e1a6243577aa92f17e61", func := "loop.example/g00948/laws.FnExactLiesOnWay", spec := "fnExactLiesOnWay", apart := false, narrowed := true }
def FnExactLiesOnWayUptoSaid : Prop := fnExactLiesOnWayUptoRow.holds Try.pinned (OpenSpec.upto fnExactLiesOnWaySpec)

/-- 'laws.FnExactSignedAngle', WHERE WHAT IT READS IS OF BULK AT MOST 1048576: true; the input reads as it did. -/
def fnExactSignedAngleUptoRow : OpenClaim := { program := "ytcjhpkknheddkaa", sum := "a3dd603faaa17b82f1ef0dbc2a80717cb1108b080e83e1a6243577aa92f17e61", func := "loop.example/g00948/laws.FnExactSignedAngle", spec := "fnExactSignedAngle", apart := false, narrowed := true }
def FnExactSignedAngleUptoSaid : Prop := fnExactSignedAngleUptoRow.holds Try.pinned (OpenSpec.upto fnExactSignedAngleSpec)

end Rows
end Go.Proofs.Ytcjhpkknheddkaa
