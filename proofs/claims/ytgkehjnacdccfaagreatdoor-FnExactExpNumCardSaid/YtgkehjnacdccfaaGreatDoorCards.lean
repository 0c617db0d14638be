/-
  DERIVED. GIVEN WITH THE SEED: THE CARDS: each row of YtgkehjnacdccfaaGreatDoorRows.lean that lists a variable, with what it lists TIED to the program's text (the seventh form; the later family's looks); each row that meets fmt, with fmt's text TOLD by the authors' own Lean function (tested against real Go, not proved from fmt's source: count such statements apart). THE CARD IS WHAT COUNTS. Prove the row's statement (the work); the ties are given (YtgkehjnacdccfaaGreatDoorTie.lean); close each card by the builder's one call (the guide's Derived/Test/ToyasCard.lean, 'card_holds'). Laid BY PROGRAM, IN A SANDBOX (cutbox-door.mjs). By AI agents, Wed Nov 11 2026. No macro, syntax, notation, axiom, sorry.
-/
import Derived.Test.YtgkehjnacdccfaaGreatDoorRows
import GoSem.ClaimSeven
namespace Go.Proofs.YtgkehjnacdccfaaGreatDoor
namespace Rows

/-- THE TIED CARD OF 'laws.FnExpTwice'. -/
def fnExpTwiceCard : Claim7 := { stood := { row := fnExpTwiceRow, standIns := [], harness := (true, "9996a56af8a6f1f1fb833fd2ac5e9493db5c09019088f68b23f9fb809d034a2d"), looks := false }, kinds := [], alts := [], laidByText := true, laidKinds := [.data, .data], laidTests := true, laidLooks := .later }
def FnExpTwiceCardSaid : Prop := Claim7.holds Tryz.pinned (.plain (OpenSpec.ofChange fnExpTwiceSpec)) fnExpTwiceCard

/-- THE TIED CARD OF 'laws.FnExpBack'. -/
def fnExpBackCard : Claim7 := { stood := { row := fnExpBackRow, standIns := [], harness := (true, "9996a56af8a6f1f1fb833fd2ac5e9493db5c09019088f68b23f9fb809d034a2d"), looks := false }, kinds := [], alts := [], laidByText := true, laidKinds := [.data, .data], laidTests := true, laidLooks := .later }
def FnExpBackCardSaid : Prop := Claim7.holds Tryz.pinned (.plain (OpenSpec.ofChange fnExpBackSpec)) fnExpBackCard

/-- THE TIED CARD OF 'laws.FnRanks'. -/
def fnRanksCard : Claim7 := { stood := { row := fnRanksRow, standIns := [], harness := (true, "9996a56af8a6f1f1fb833fd2ac5e9493db5c09019088f68b23f9fb809d034a2d"), looks := false }, kinds := [], alts := [], laidByText := true, laidKinds := [.data, .data], laidTests := true, laidLooks := .later }
def FnRanksCardSaid : Prop := Claim7.holds Tryz.pinned (.plain (OpenSpec.ofChange fnRanksSpec)) fnRanksCard

/-- THE TIED CARD OF 'laws.FnRoots'. -/
def fnRootsCard : Claim7 := { stood := { row := fnRootsRow, standIns := [], harness := (true, "9996a56af8a6f1f1fb833fd2ac5e9493db5c09019088f68b23f9fb809d034a2d"), looks := false }, kinds := [], alts := [], laidByText := true, laidKinds := [.data, .data], laidTests := true, laidLooks := .later }
def FnRootsCardSaid : Prop := Claim7.holds Tryz.pinned (.plain (OpenSpec.ofChange fnRootsSpec)) fnRootsCard

/-- THE TIED CARD OF 'laws.FnIvMatWidths'. -/
def fnIvMatWidthsCard : Claim7 := { stood := { row := fnIvMatWidthsRow, standIns := [], harness := (true, "9996a56af8a6f1f1fb833fd2ac5e9493db5c09019088f68b23f9fb809d034a2d"), looks := false }, kinds := [], alts := [], laidByText := true, laidKinds := [.data, .data], laidTests := true, laidLooks := .later }
def FnIvMatWidthsCardSaid : Prop := Claim7.holds Tryz.pinned (.plain (OpenSpec.ofChange fnIvMatWidthsSpec)) fnIvMatWidthsCard

/-- THE TIED CARD OF 'laws.FnExactRootMat'. -/
def fnExactRootMatCard : Claim7 := { stood := { row := fnExactRootMatRow, standIns := [], harness := (true, "9996a56af8a6f1f1fb833fd2ac5e9493db5c09019088f68b23f9fb809d034a2d"), looks := false }, kinds := [], alts := [], laidByText := true, laidKinds := [.data, .data], laidTests := true, laidLooks := .later }
def FnExactRootMatCardSaid : Prop := Claim7.holds Tryz.pinned (.plain (OpenSpec.ofChange fnExactRootMatSpec)) fnExactRootMatCard

/-- THE TIED CARD OF 'laws.FnExactExpNum'. -/
def fnExactExpNumCard : Claim7 := { stood := { row := fnExactExpNumRow, standIns := [], harness := (true, "9996a56af8a6f1f1fb833fd2ac5e9493db5c09019088f68b23f9fb809d034a2d"), looks := false }, kinds := [], alts := [], laidByText := true, laidKinds := [.data, .data], laidTests := true, laidLooks := .later }
def FnExactExpNumCardSaid : Prop := Claim7.holds Tryz.pinned (.plain (OpenSpec.ofChange fnExactExpNumSpec)) fnExactExpNumCard

/-- THE TIED CARD OF 'laws.FnExactExpHold'. -/
def fnExactExpHoldCard : Claim7 := { stood := { row := fnExactExpHoldRow, standIns := [], harness := (true, "9996a56af8a6f1f1fb833fd2ac5e9493db5c09019088f68b23f9fb809d034a2d"), looks := false }, kinds := [], alts := [], laidByText := true, laidKinds := [.data, .data], laidTests := true, laidLooks := .later }
def FnExactExpHoldCardSaid : Prop := Claim7.holds Tryz.pinned (.plain (OpenSpec.ofChange fnExactExpHoldSpec)) fnExactExpHoldCard

/-- THE TIED CARD OF 'laws.FnExactExpMat'. -/
def fnExactExpMatCard : Claim7 := { stood := { row := fnExactExpMatRow, standIns := [], harness := (true, "9996a56af8a6f1f1fb833fd2ac5e9493db5c09019088f68b23f9fb809d034a2d"), looks := false }, kinds := [], alts := [], laidByText := true, laidKinds := [.data, .data], laidTests := true, laidLooks := .later }
def FnExactExpMatCardSaid : Prop := Claim7.holds Tryz.pinned (.plain (OpenSpec.ofChange fnExactExpMatSpec)) fnExactExpMatCard

/-- THE SECOND FORM's CARD OF 'laws.FnExpTwice'. -/
def fnExpTwiceUptoCard : Claim7 := { stood := { row := fnExpTwiceUptoRow, standIns := [], harness := (true, "9996a56af8a6f1f1fb833fd2ac5e9493db5c09019088f68b23f9fb809d034a2d"), looks := false }, kinds := [], alts := [], laidByText := true, laidKinds := [.data, .data], laidTests := true, laidLooks := .later }
def FnExpTwiceUptoCardSaid : Prop := Claim7.holds Tryz.pinned (.plain (OpenSpec.upto fnExpTwiceSpec)) fnExpTwiceUptoCard

/-- THE SECOND FORM's CARD OF 'laws.FnExpBack'. -/
def fnExpBackUptoCard : Claim7 := { stood := { row := fnExpBackUptoRow, standIns := [], harness := (true, "9996a56af8a6f1f1fb833fd2ac5e9493db5c09019088f68b23f9fb809d034a2d"), looks := false }, kinds := [], alts := [], laidByText := true, laidKinds := [.data, .data], laidTests := true, laidLooks := .later }
def FnExpBackUptoCardSaid : Prop := Claim7.holds Tryz.pinned (.plain (OpenSpec.upto fnExpBackSpec)) fnExpBackUptoCard

/-- THE SECOND FORM's CARD OF 'laws.FnRanks'. -/
def fnRanksUptoCard : Claim7 := { stood := { row := fnRanksUptoRow, standIns := [], harness := (true, "9996a56af8a6f1f1fb833fd2ac5e9493db5c09019088f68b23f9fb809d034a2d"), looks := false }, kinds := [], alts := [], laidByText := true, laidKinds := [.data, .data], laidTests := true, laidLooks := .later }
def FnRanksUptoCardSaid : Prop := Claim7.holds Tryz.pinned (.plain (OpenSpec.upto fnRanksSpec)) fnRanksUptoCard

/-- THE SECOND FORM's CARD OF 'laws.FnRoots'. -/
def fnRootsUptoCard : Claim7 := { stood := { row := fnRootsUptoRow, standIns := [], harness := (true, "9996a56af8a6f1f1fb833fd2ac5e9493db5c09019088f68b23f9fb809d034a2d"), looks := false }, kinds := [], alts := [], laidByText := true, laidKinds := [.data, .data], laidTests := true, laidLooks := .later }
def FnRootsUptoCardSaid : Prop := Claim7.holds Tryz.pinned (.plain (OpenSpec.upto fnRootsSpec)) fnRootsUptoCard

/-- THE SECOND FORM's CARD OF 'laws.FnIvMatWidths'. -/
def fnIvMatWidthsUptoCard : Claim7 := { stood := { row := fnIvMatWidthsUptoRow, standIns := [], harness := (true, "9996a56af8a6f1f1fb833fd2ac5e9493db5c09019088f68b23f9fb809d034a2d"), looks := false }, kinds := [], alts := [], laidByText := true, laidKinds := [.data, .data], laidTests := true, laidLooks := .later }
def FnIvMatWidthsUptoCardSaid : Prop := Claim7.holds Tryz.pinned (.plain (OpenSpec.upto fnIvMatWidthsSpec)) fnIvMatWidthsUptoCard

/-- THE SECOND FORM's CARD OF 'laws.FnExactRootMat'. -/
def fnExactRootMatUptoCard : Claim7 := { stood := { row := fnExactRootMatUptoRow, standIns := [], harness := (true, "9996a56af8a6f1f1fb833fd2ac5e9493db5c09019088f68b23f9fb809d034a2d"), looks := false }, kinds := [], alts := [], laidByText := true, laidKinds := [.data, .data], laidTests := true, laidLooks := .later }
def FnExactRootMatUptoCardSaid : Prop := Claim7.holds Tryz.pinned (.plain (OpenSpec.upto fnExactRootMatSpec)) fnExactRootMatUptoCard

/-- THE SECOND FORM's CARD OF 'laws.FnExactExpNum'. -/
def fnExactExpNumUptoCard : Claim7 := { stood := { row := fnExactExpNumUptoRow, standIns := [], harness := (true, "9996a56af8a6f1f1fb833fd2ac5e9493db5c09019088f68b23f9fb809d034a2d"), looks := false }, kinds := [], alts := [], laidByText := true, laidKinds := [.data, .data], laidTests := true, laidLooks := .later }
def FnExactExpNumUptoCardSaid : Prop := Claim7.holds Tryz.pinned (.plain (OpenSpec.upto fnExactExpNumSpec)) fnExactExpNumUptoCard

/-- THE SECOND FORM's CARD OF 'laws.FnExactExpHold'. -/
def fnExactExpHoldUptoCard : Claim7 := { stood := { row := fnExactExpHoldUptoRow, standIns := [], harness := (true, "9996a56af8a6f1f1fb833fd2ac5e9493db5c09019088f68b23f9fb809d034a2d"), looks := false }, kinds := [], alts := [], laidByText := true, laidKinds := [.data, .data], laidTests := true, laidLooks := .later }
def FnExactExpHoldUptoCardSaid : Prop := Claim7.holds Tryz.pinned (.plain (OpenSpec.upto fnExactExpHoldSpec)) fnExactExpHoldUptoCard

/-- THE SECOND FORM's CARD OF 'laws.FnExactExpMat'. -/
def fnExactExpMatUptoCard : Claim7 := { stood := { row := fnExactExpMatUptoRow, standIns := [], harness := (true, "9996a56af8a6f1f1fb833fd2ac5e9493db5c09019088f68b23f9fb809d034a2d"), looks := false }, kinds := [], alts := [], laidByText := true, laidKinds := [.data, .data], laidTests := true, laidLooks := .later }
def FnExactExpMatUptoCardSaid : Prop := Claim7.holds Tryz.pinned (.plain (OpenSpec.upto fnExactExpMatSpec)) fnExactExpMatUptoCard
end Rows
end Go.Proofs.YtgkehjnacdccfaaGreatDoor
