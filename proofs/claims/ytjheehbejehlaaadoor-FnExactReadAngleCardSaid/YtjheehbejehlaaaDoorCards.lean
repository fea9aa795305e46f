/-
  DERIVED. GIVEN WITH THE SEED: THE CARDS: each row of YtjheehbejehlaaaDoorRows.lean that lists a variable, with what it lists TIED to the program's text (the seventh form; the later family's looks); each row that meets fmt, with fmt's text TOLD by the authors' own Lean function (tested against real Go, not proved from fmt's source: count such statements apart). THE CARD IS WHAT COUNTS. Prove the row's statement (the work); the ties are given (YtjheehbejehlaaaDoorTie.lean); close each card by the builder's one call (the guide's Derived/Test/ToyasCard.lean, 'card_holds'). Laid BY PROGRAM, IN A SANDBOX (cutbox-door.mjs). By AI agents, Wed Nov 11 2026. No macro, syntax, notation, axiom, sorry.
-/
import Derived.Test.YtjheehbejehlaaaDoorRows
import GoSem.ClaimSeven
namespace Go.Proofs.YtjheehbejehlaaaDoor
namespace Rows

/-- THE TIED CARD OF 'laws.FnExactAngleText'. -/
def fnExactAngleTextCard : Claim7 := { stood := { row := fnExactAngleTextRow, standIns := [], harness := (true, "f6b402eaaabf97166f521bf8a0309a14ed819b98992d3a4cfc3451d110948801"), looks := true }, kinds := [], alts := [], laidByText := true, laidKinds := [.data, .data, .data], laidTests := true, laidLooks := .later }
def FnExactAngleTextCardSaid : Prop := Claim7.holds Tryd.pinned (.plain (OpenSpec.ofChange fnExactAngleTextSpec)) fnExactAngleTextCard

/-- THE TIED CARD OF 'laws.FnExactDateText'. -/
def fnExactDateTextCard : Claim7 := { stood := { row := fnExactDateTextRow, standIns := [], harness := (true, "f6b402eaaabf97166f521bf8a0309a14ed819b98992d3a4cfc3451d110948801"), looks := true }, kinds := [], alts := [], laidByText := true, laidKinds := [.data, .data, .data], laidTests := true, laidLooks := .later }
def FnExactDateTextCardSaid : Prop := Claim7.holds Tryd.pinned (.plain (OpenSpec.ofChange fnExactDateTextSpec)) fnExactDateTextCard

/-- THE TIED CARD OF 'laws.FnExactListText'. -/
def fnExactListTextCard : Claim7 := { stood := { row := fnExactListTextRow, standIns := [], harness := (true, "f6b402eaaabf97166f521bf8a0309a14ed819b98992d3a4cfc3451d110948801"), looks := true }, kinds := [], alts := [], laidByText := true, laidKinds := [.data, .data, .data], laidTests := true, laidLooks := .later }
def FnExactListTextCardSaid : Prop := Claim7.holds Tryd.pinned (.plain (OpenSpec.ofChange fnExactListTextSpec)) fnExactListTextCard

/-- THE TIED CARD OF 'laws.FnExactReadList'. -/
def fnExactReadListCard : Claim7 := { stood := { row := fnExactReadListRow, standIns := [], harness := (true, "f6b402eaaabf97166f521bf8a0309a14ed819b98992d3a4cfc3451d110948801"), looks := true }, kinds := [], alts := [], laidByText := true, laidKinds := [.data, .data, .data, .data, .sentinel, .sentinel, .pinned], laidTests := true, laidLooks := .later }
def FnExactReadListCardSaid : Prop := Claim7.holds Tryd.pinned (.plain (OpenSpec.ofChange fnExactReadListSpec)) fnExactReadListCard

/-- THE TIED CARD OF 'laws.FnExactReadAngle'. -/
def fnExactReadAngleCard : Claim7 := { stood := { row := fnExactReadAngleRow, standIns := [], harness := (true, "f6b402eaaabf97166f521bf8a0309a14ed819b98992d3a4cfc3451d110948801"), looks := true }, kinds := [], alts := [], laidByText := true, laidKinds := [.data, .data, .data, .sentinel, .sentinel], laidTests := true, laidLooks := .later }
def FnExactReadAngleCardSaid : Prop := Claim7.holds Tryd.pinned (.plain (OpenSpec.ofChange fnExactReadAngleSpec)) fnExactReadAngleCard

/-- THE TIED CARD OF 'laws.FnExactReadDate'. -/
def fnExactReadDateCard : Claim7 := { stood := { row := fnExactReadDateRow, standIns := [], harness := (true, "f6b402eaaabf97166f521bf8a0309a14ed819b98992d3a4cfc3451d110948801"), looks := true }, kinds := [], alts := [], laidByText := true, laidKinds := [.data, .data, .data, .data, .sentinel, .sentinel, .pinned], laidTests := true, laidLooks := .later }
def FnExactReadDateCardSaid : Prop := Claim7.holds Tryd.pinned (.plain (OpenSpec.ofChange fnExactReadDateSpec)) fnExactReadDateCard

/-- THE SECOND FORM's CARD OF 'laws.FnExactAngleText'. -/
def fnExactAngleTextUptoCard : Claim7 := { stood := { row := fnExactAngleTextUptoRow, standIns := [], harness := (true, "f6b402eaaabf97166f521bf8a0309a14ed819b98992d3a4cfc3451d110948801"), looks := true }, kinds := [], alts := [], laidByText := true, laidKinds := [.data, .data, .data], laidTests := true, laidLooks := .later }
def FnExactAngleTextUptoCardSaid : Prop := Claim7.holds Tryd.pinned (.plain (OpenSpec.upto fnExactAngleTextSpec)) fnExactAngleTextUptoCard

/-- THE SECOND FORM's CARD OF 'laws.FnExactDateText'. -/
def fnExactDateTextUptoCard : Claim7 := { stood := { row := fnExactDateTextUptoRow, standIns := [], harness := (true, "f6b402eaaabf97166f521bf8a0309a14ed819b98992d3a4cfc3451d110948801"), looks := true }, kinds := [], alts := [], laidByText := true, laidKinds := [.data, .data, .data], laidTests := true, laidLooks := .later }
def FnExactDateTextUptoCardSaid : Prop := Claim7.holds Tryd.pinned (.plain (OpenSpec.upto fnExactDateTextSpec)) fnExactDateTextUptoCard

/-- THE SECOND FORM's CARD OF 'laws.FnExactListText'. -/
def fnExactListTextUptoCard : Claim7 := { stood := { row := fnExactListTextUptoRow, standIns := [], harness := (true, "f6b402eaaabf97166f521bf8a0309a14ed819b98992d3a4cfc3451d110948801"), looks := true }, kinds := [], alts := [], laidByText := true, laidKinds := [.data, .data, .data], laidTests := true, laidLooks := .later }
def FnExactListTextUptoCardSaid : Prop := Claim7.holds Tryd.pinned (.plain (OpenSpec.upto fnExactListTextSpec)) fnExactListTextUptoCard

/-- THE SECOND FORM's CARD OF 'laws.FnExactReadList'. -/
def fnExactReadListUptoCard : Claim7 := { stood := { row := fnExactReadListUptoRow, standIns := [], harness := (true, "f6b402eaaabf97166f521bf8a0309a14ed819b98992d3a4cfc3451d110948801"), looks := true }, kinds := [], alts := [], laidByText := true, laidKinds := [.data, .data, .data, .data, .sentinel, .sentinel, .pinned], laidTests := true, laidLooks := .later }
def FnExactReadListUptoCardSaid : Prop := Claim7.holds Tryd.pinned (.plain (OpenSpec.upto fnExactReadListSpec)) fnExactReadListUptoCard

/-- THE SECOND FORM's CARD OF 'laws.FnExactReadAngle'. -/
def fnExactReadAngleUptoCard : Claim7 := { stood := { row := fnExactReadAngleUptoRow, standIns := [], harness := (true, "f6b402eaaabf97166f521bf8a0309a14ed819b98992d3a4cfc3451d110948801"), looks := true }, kinds := [], alts := [], laidByText := true, laidKinds := [.data, .data, .data, .sentinel, .sentinel], laidTests := true, laidLooks := .later }
def FnExactReadAngleUptoCardSaid : Prop := Claim7.holds Tryd.pinned (.plain (OpenSpec.upto fnExactReadAngleSpec)) fnExactReadAngleUptoCard

/-- THE SECOND FORM's CARD OF 'laws.FnExactReadDate'. -/
def fnExactReadDateUptoCard : Claim7 := { stood := { row := fnExactReadDateUptoRow, standIns := [], harness := (true, "f6b402eaaabf97166f521bf8a0309a14ed819b98992d3a4cfc3451d110948801"), looks := true }, kinds := [], alts := [], laidByText := true, laidKinds := [.data, .data, .data, .data, .sentinel, .sentinel, .pinned], laidTests := true, laidLooks := .later }
def FnExactReadDateUptoCardSaid : Prop := Claim7.holds Tryd.pinned (.plain (OpenSpec.upto fnExactReadDateSpec)) fnExactReadDateUptoCard
end Rows
end Go.Proofs.YtjheehbejehlaaaDoor
