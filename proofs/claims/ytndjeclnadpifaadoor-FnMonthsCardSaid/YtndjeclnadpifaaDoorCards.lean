/-
  DERIVED. GIVEN WITH THE SEED: THE CARDS: each row of YtndjeclnadpifaaDoorRows.lean that lists a variable, with what it lists TIED to the program's text (the seventh form; the later family's looks); each row that meets fmt, with fmt's text TOLD by the authors' own Lean function (tested against real Go, not proved from fmt's source: count such statements apart). THE CARD IS WHAT COUNTS. Prove the row's statement (the work); the ties are given (YtndjeclnadpifaaDoorTie.lean); close each card by the builder's one call (the guide's Derived/Test/ToyasCard.lean, 'card_holds'). Laid BY PROGRAM, IN A SANDBOX (cutbox-door.mjs). By AI agents, Wed Nov 11 2026. No macro, syntax, notation, axiom, sorry.
-/
import Derived.Test.YtndjeclnadpifaaDoorRows
import GoSem.ClaimSeven
namespace Go.Proofs.YtndjeclnadpifaaDoor
namespace Rows

/-- THE TIED CARD OF 'laws.FnMonths'. -/
def fnMonthsCard : Claim7 := { stood := { row := fnMonthsRow, standIns := [], harness := (true, "dab5a38b0f1a657807d5df81491712fe10fb80d7dd1848552fe93d8b7e35ca8a"), looks := true }, kinds := [], alts := [], laidByText := true, laidKinds := [.data, .data, .data, .data, .sentinel, .sentinel, .pinned], laidTests := true, laidLooks := .later }
def FnMonthsCardSaid : Prop := Claim7.holds Tryd.pinned (.plain (OpenSpec.ofChange fnMonthsSpec)) fnMonthsCard

/-- THE TIED CARD OF 'laws.FnLists'. -/
def fnListsCard : Claim7 := { stood := { row := fnListsRow, standIns := [], harness := (true, "dab5a38b0f1a657807d5df81491712fe10fb80d7dd1848552fe93d8b7e35ca8a"), looks := true }, kinds := [], alts := [], laidByText := true, laidKinds := [.data, .data, .data, .data, .sentinel, .sentinel, .pinned], laidTests := true, laidLooks := .later }
def FnListsCardSaid : Prop := Claim7.holds Tryd.pinned (.plain (OpenSpec.ofChange fnListsSpec)) fnListsCard

/-- THE TIED CARD OF 'laws.FnAngleTexts'. -/
def fnAngleTextsCard : Claim7 := { stood := { row := fnAngleTextsRow, standIns := [], harness := (true, "dab5a38b0f1a657807d5df81491712fe10fb80d7dd1848552fe93d8b7e35ca8a"), looks := true }, kinds := [], alts := [], laidByText := true, laidKinds := [.data, .data, .data, .sentinel, .sentinel], laidTests := true, laidLooks := .later }
def FnAngleTextsCardSaid : Prop := Claim7.holds Tryd.pinned (.plain (OpenSpec.ofChange fnAngleTextsSpec)) fnAngleTextsCard

/-- THE SECOND FORM's CARD OF 'laws.FnMonths'. -/
def fnMonthsUptoCard : Claim7 := { stood := { row := fnMonthsUptoRow, standIns := [], harness := (true, "dab5a38b0f1a657807d5df81491712fe10fb80d7dd1848552fe93d8b7e35ca8a"), looks := true }, kinds := [], alts := [], laidByText := true, laidKinds := [.data, .data, .data, .data, .sentinel, .sentinel, .pinned], laidTests := true, laidLooks := .later }
def FnMonthsUptoCardSaid : Prop := Claim7.holds Tryd.pinned (.plain (OpenSpec.upto fnMonthsSpec)) fnMonthsUptoCard

/-- THE SECOND FORM's CARD OF 'laws.FnLists'. -/
def fnListsUptoCard : Claim7 := { stood := { row := fnListsUptoRow, standIns := [], harness := (true, "dab5a38b0f1a657807d5df81491712fe10fb80d7dd1848552fe93d8b7e35ca8a"), looks := true }, kinds := [], alts := [], laidByText := true, laidKinds := [.data, .data, .data, .data, .sentinel, .sentinel, .pinned], laidTests := true, laidLooks := .later }
def FnListsUptoCardSaid : Prop := Claim7.holds Tryd.pinned (.plain (OpenSpec.upto fnListsSpec)) fnListsUptoCard

/-- THE SECOND FORM's CARD OF 'laws.FnAngleTexts'. -/
def fnAngleTextsUptoCard : Claim7 := { stood := { row := fnAngleTextsUptoRow, standIns := [], harness := (true, "dab5a38b0f1a657807d5df81491712fe10fb80d7dd1848552fe93d8b7e35ca8a"), looks := true }, kinds := [], alts := [], laidByText := true, laidKinds := [.data, .data, .data, .sentinel, .sentinel], laidTests := true, laidLooks := .later }
def FnAngleTextsUptoCardSaid : Prop := Claim7.holds Tryd.pinned (.plain (OpenSpec.upto fnAngleTextsSpec)) fnAngleTextsUptoCard
end Rows
end Go.Proofs.YtndjeclnadpifaaDoor
