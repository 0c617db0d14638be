/-
  DERIVED. GIVEN WITH THE SEED: THE CARDS: each row of YtodjjilpibnbeaaGreatDoorRows.lean that lists a variable, with what it lists TIED to the program's text (the seventh form; the later family's looks); each row that meets fmt, with fmt's text TOLD by the authors' own Lean function (tested against real Go, not proved from fmt's source: count such statements apart). THE CARD IS WHAT COUNTS. Prove the row's statement (the work); the ties are given (YtodjjilpibnbeaaGreatDoorTie.lean); close each card by the builder's one call (the guide's Derived/Test/ToyasCard.lean, 'card_holds'). Laid BY PROGRAM, IN A SANDBOX (cutbox-door.mjs). By AI agents, Wed Nov 11 2026. No macro, syntax, notation, axiom, sorry.
-/
import Derived.Test.YtodjjilpibnbeaaGreatDoorRows
import GoSem.ClaimSeven
namespace Go.Proofs.YtodjjilpibnbeaaGreatDoor
namespace Rows

/-- THE TIED CARD OF 'laws.FnExactMatRead'. -/
def fnExactMatReadCard : Claim7 := { stood := { row := fnExactMatReadRow, standIns := [], harness := (true, "ea226aa3cf1fb43955993e90146444fd686ff581a33c439d1575545289c7ffd6"), looks := false }, kinds := [], alts := [], laidByText := true, laidKinds := [.data, .data, .data, .pinned], laidTests := true, laidLooks := .later }
def FnExactMatReadCardSaid : Prop := Claim7.holds Tryz.pinned (.plain (OpenSpec.ofChange fnExactMatReadSpec)) fnExactMatReadCard

/-- THE TIED CARD OF 'laws.FnExactRootMat'. -/
def fnExactRootMatCard : Claim7 := { stood := { row := fnExactRootMatRow, standIns := [], harness := (true, "ea226aa3cf1fb43955993e90146444fd686ff581a33c439d1575545289c7ffd6"), looks := false }, kinds := [], alts := [], laidByText := true, laidKinds := [.data, .data], laidTests := true, laidLooks := .later }
def FnExactRootMatCardSaid : Prop := Claim7.holds Tryz.pinned (.plain (OpenSpec.ofChange fnExactRootMatSpec)) fnExactRootMatCard

/-- THE TIED CARD OF 'laws.FnExactExpHold'. -/
def fnExactExpHoldCard : Claim7 := { stood := { row := fnExactExpHoldRow, standIns := [], harness := (true, "ea226aa3cf1fb43955993e90146444fd686ff581a33c439d1575545289c7ffd6"), looks := false }, kinds := [], alts := [], laidByText := true, laidKinds := [.data, .data], laidTests := true, laidLooks := .later }
def FnExactExpHoldCardSaid : Prop := Claim7.holds Tryz.pinned (.plain (OpenSpec.ofChange fnExactExpHoldSpec)) fnExactExpHoldCard

/-- THE TIED CARD OF 'laws.FnExactExpMat'. -/
def fnExactExpMatCard : Claim7 := { stood := { row := fnExactExpMatRow, standIns := [], harness := (true, "ea226aa3cf1fb43955993e90146444fd686ff581a33c439d1575545289c7ffd6"), looks := false }, kinds := [], alts := [], laidByText := true, laidKinds := [.data, .data], laidTests := true, laidLooks := .later }
def FnExactExpMatCardSaid : Prop := Claim7.holds Tryz.pinned (.plain (OpenSpec.ofChange fnExactExpMatSpec)) fnExactExpMatCard

/-- THE SECOND FORM's CARD OF 'laws.FnExactMatRead'. -/
def fnExactMatReadUptoCard : Claim7 := { stood := { row := fnExactMatReadUptoRow, standIns := [], harness := (true, "ea226aa3cf1fb43955993e90146444fd686ff581a33c439d1575545289c7ffd6"), looks := false }, kinds := [], alts := [], laidByText := true, laidKinds := [.data, .data, .data, .pinned], laidTests := true, laidLooks := .later }
def FnExactMatReadUptoCardSaid : Prop := Claim7.holds Tryz.pinned (.plain (OpenSpec.upto fnExactMatReadSpec)) fnExactMatReadUptoCard

/-- THE SECOND FORM's CARD OF 'laws.FnExactRootMat'. -/
def fnExactRootMatUptoCard : Claim7 := { stood := { row := fnExactRootMatUptoRow, standIns := [], harness := (true, "ea226aa3cf1fb43955993e90146444fd686ff581a33c439d1575545289c7ffd6"), looks := false }, kinds := [], alts := [], laidByText := true, laidKinds := [.data, .data], laidTests := true, laidLooks := .later }
def FnExactRootMatUptoCardSaid : Prop := Claim7.holds Tryz.pinned (.plain (OpenSpec.upto fnExactRootMatSpec)) fnExactRootMatUptoCard

/-- THE SECOND FORM's CARD OF 'laws.FnExactExpHold'. -/
def fnExactExpHoldUptoCard : Claim7 := { stood := { row := fnExactExpHoldUptoRow, standIns := [], harness := (true, "ea226aa3cf1fb43955993e90146444fd686ff581a33c439d1575545289c7ffd6"), looks := false }, kinds := [], alts := [], laidByText := true, laidKinds := [.data, .data], laidTests := true, laidLooks := .later }
def FnExactExpHoldUptoCardSaid : Prop := Claim7.holds Tryz.pinned (.plain (OpenSpec.upto fnExactExpHoldSpec)) fnExactExpHoldUptoCard

/-- THE SECOND FORM's CARD OF 'laws.FnExactExpMat'. -/
def fnExactExpMatUptoCard : Claim7 := { stood := { row := fnExactExpMatUptoRow, standIns := [], harness := (true, "ea226aa3cf1fb43955993e90146444fd686ff581a33c439d1575545289c7ffd6"), looks := false }, kinds := [], alts := [], laidByText := true, laidKinds := [.data, .data], laidTests := true, laidLooks := .later }
def FnExactExpMatUptoCardSaid : Prop := Claim7.holds Tryz.pinned (.plain (OpenSpec.upto fnExactExpMatSpec)) fnExactExpMatUptoCard
end Rows
end Go.Proofs.YtodjjilpibnbeaaGreatDoor
