/-
  DERIVED. GIVEN WITH THE SEED: THE CARDS: each row of YtcobffkepgogiaaGreatDoorRows.lean that lists a variable, with what it lists TIED to the program's text (the seventh form; the later family's looks); each row that meets fmt, with fmt's text TOLD by the authors' own Lean function (tested against real Go, not proved from fmt's source: count such statements apart). THE CARD IS WHAT COUNTS. Prove the row's statement (the work); the ties are given (YtcobffkepgogiaaGreatDoorTie.lean); close each card by the builder's one call (the guide's Derived/Test/ToyasCard.lean, 'card_holds'). Laid BY PROGRAM, IN A SANDBOX (cutbox-door.mjs). By AI agents, Wed Nov 11 2026. No macro, syntax, notation, axiom, sorry.
-/
import Derived.Test.YtcobffkepgogiaaGreatDoorRows
import GoSem.ClaimSeven
namespace Go.Proofs.YtcobffkepgogiaaGreatDoor
namespace Rows

/-- THE TIED CARD OF 'laws.FnPolyAts'. -/
def fnPolyAtsCard : Claim7 := { stood := { row := fnPolyAtsRow, standIns := [], harness := (true, "06fde09a79272f1241f944b70dd2db7f16b4083008791353653966566114f83e"), looks := false }, kinds := [], alts := [], laidByText := true, laidKinds := [.data, .data], laidTests := true, laidLooks := .later }
def FnPolyAtsCardSaid : Prop := Claim7.holds Tryz.pinned (.plain (OpenSpec.ofChange fnPolyAtsSpec)) fnPolyAtsCard

/-- THE TIED CARD OF 'laws.FnDets'. -/
def fnDetsCard : Claim7 := { stood := { row := fnDetsRow, standIns := [], harness := (true, "06fde09a79272f1241f944b70dd2db7f16b4083008791353653966566114f83e"), looks := false }, kinds := [], alts := [], laidByText := true, laidKinds := [.data, .data], laidTests := true, laidLooks := .later }
def FnDetsCardSaid : Prop := Claim7.holds Tryz.pinned (.plain (OpenSpec.ofChange fnDetsSpec)) fnDetsCard

/-- THE TIED CARD OF 'laws.FnIvDivs'. -/
def fnIvDivsCard : Claim7 := { stood := { row := fnIvDivsRow, standIns := [], harness := (true, "06fde09a79272f1241f944b70dd2db7f16b4083008791353653966566114f83e"), looks := false }, kinds := [], alts := [], laidByText := true, laidKinds := [.data, .data], laidTests := true, laidLooks := .later }
def FnIvDivsCardSaid : Prop := Claim7.holds Tryz.pinned (.plain (OpenSpec.ofChange fnIvDivsSpec)) fnIvDivsCard

/-- THE TIED CARD OF 'laws.FnRanks'. -/
def fnRanksCard : Claim7 := { stood := { row := fnRanksRow, standIns := [], harness := (true, "06fde09a79272f1241f944b70dd2db7f16b4083008791353653966566114f83e"), looks := false }, kinds := [], alts := [], laidByText := true, laidKinds := [.data, .data], laidTests := true, laidLooks := .later }
def FnRanksCardSaid : Prop := Claim7.holds Tryz.pinned (.plain (OpenSpec.ofChange fnRanksSpec)) fnRanksCard

/-- THE TIED CARD OF 'laws.FnSolves'. -/
def fnSolvesCard : Claim7 := { stood := { row := fnSolvesRow, standIns := [], harness := (true, "06fde09a79272f1241f944b70dd2db7f16b4083008791353653966566114f83e"), looks := false }, kinds := [], alts := [], laidByText := true, laidKinds := [.data, .data], laidTests := true, laidLooks := .later }
def FnSolvesCardSaid : Prop := Claim7.holds Tryz.pinned (.plain (OpenSpec.ofChange fnSolvesSpec)) fnSolvesCard

/-- THE TIED CARD OF 'laws.FnPolys'. -/
def fnPolysCard : Claim7 := { stood := { row := fnPolysRow, standIns := [], harness := (true, "06fde09a79272f1241f944b70dd2db7f16b4083008791353653966566114f83e"), looks := false }, kinds := [], alts := [], laidByText := true, laidKinds := [.data, .data], laidTests := true, laidLooks := .later }
def FnPolysCardSaid : Prop := Claim7.holds Tryz.pinned (.plain (OpenSpec.ofChange fnPolysSpec)) fnPolysCard

/-- THE TIED CARD OF 'laws.FnInverses'. -/
def fnInversesCard : Claim7 := { stood := { row := fnInversesRow, standIns := [], harness := (true, "06fde09a79272f1241f944b70dd2db7f16b4083008791353653966566114f83e"), looks := false }, kinds := [], alts := [], laidByText := true, laidKinds := [.data, .data], laidTests := true, laidLooks := .later }
def FnInversesCardSaid : Prop := Claim7.holds Tryz.pinned (.plain (OpenSpec.ofChange fnInversesSpec)) fnInversesCard

/-- THE TIED CARD OF 'laws.FnIvMats'. -/
def fnIvMatsCard : Claim7 := { stood := { row := fnIvMatsRow, standIns := [], harness := (true, "06fde09a79272f1241f944b70dd2db7f16b4083008791353653966566114f83e"), looks := false }, kinds := [], alts := [], laidByText := true, laidKinds := [.data, .data], laidTests := true, laidLooks := .later }
def FnIvMatsCardSaid : Prop := Claim7.holds Tryz.pinned (.plain (OpenSpec.ofChange fnIvMatsSpec)) fnIvMatsCard

/-- THE TIED CARD OF 'laws.FnRoots'. -/
def fnRootsCard : Claim7 := { stood := { row := fnRootsRow, standIns := [], harness := (true, "06fde09a79272f1241f944b70dd2db7f16b4083008791353653966566114f83e"), looks := false }, kinds := [], alts := [], laidByText := true, laidKinds := [.data, .data], laidTests := true, laidLooks := .later }
def FnRootsCardSaid : Prop := Claim7.holds Tryz.pinned (.plain (OpenSpec.ofChange fnRootsSpec)) fnRootsCard

/-- THE TIED CARD OF 'laws.FnAdjs'. -/
def fnAdjsCard : Claim7 := { stood := { row := fnAdjsRow, standIns := [], harness := (true, "06fde09a79272f1241f944b70dd2db7f16b4083008791353653966566114f83e"), looks := false }, kinds := [], alts := [], laidByText := true, laidKinds := [.data, .data], laidTests := true, laidLooks := .later }
def FnAdjsCardSaid : Prop := Claim7.holds Tryz.pinned (.plain (OpenSpec.ofChange fnAdjsSpec)) fnAdjsCard

/-- THE TIED CARD OF 'laws.FnIvMatWidths'. -/
def fnIvMatWidthsCard : Claim7 := { stood := { row := fnIvMatWidthsRow, standIns := [], harness := (true, "06fde09a79272f1241f944b70dd2db7f16b4083008791353653966566114f83e"), looks := false }, kinds := [], alts := [], laidByText := true, laidKinds := [.data, .data], laidTests := true, laidLooks := .later }
def FnIvMatWidthsCardSaid : Prop := Claim7.holds Tryz.pinned (.plain (OpenSpec.ofChange fnIvMatWidthsSpec)) fnIvMatWidthsCard

/-- THE SECOND FORM's CARD OF 'laws.FnPolyAts'. -/
def fnPolyAtsUptoCard : Claim7 := { stood := { row := fnPolyAtsUptoRow, standIns := [], harness := (true, "06fde09a79272f1241f944b70dd2db7f16b4083008791353653966566114f83e"), looks := false }, kinds := [], alts := [], laidByText := true, laidKinds := [.data, .data], laidTests := true, laidLooks := .later }
def FnPolyAtsUptoCardSaid : Prop := Claim7.holds Tryz.pinned (.plain (OpenSpec.upto fnPolyAtsSpec)) fnPolyAtsUptoCard

/-- THE SECOND FORM's CARD OF 'laws.FnDets'. -/
def fnDetsUptoCard : Claim7 := { stood := { row := fnDetsUptoRow, standIns := [], harness := (true, "06fde09a79272f1241f944b70dd2db7f16b4083008791353653966566114f83e"), looks := false }, kinds := [], alts := [], laidByText := true, laidKinds := [.data, .data], laidTests := true, laidLooks := .later }
def FnDetsUptoCardSaid : Prop := Claim7.holds Tryz.pinned (.plain (OpenSpec.upto fnDetsSpec)) fnDetsUptoCard

/-- THE SECOND FORM's CARD OF 'laws.FnIvDivs'. -/
def fnIvDivsUptoCard : Claim7 := { stood := { row := fnIvDivsUptoRow, standIns := [], harness := (true, "06fde09a79272f1241f944b70dd2db7f16b4083008791353653966566114f83e"), looks := false }, kinds := [], alts := [], laidByText := true, laidKinds := [.data, .data], laidTests := true, laidLooks := .later }
def FnIvDivsUptoCardSaid : Prop := Claim7.holds Tryz.pinned (.plain (OpenSpec.upto fnIvDivsSpec)) fnIvDivsUptoCard

/-- THE SECOND FORM's CARD OF 'laws.FnRanks'. -/
def fnRanksUptoCard : Claim7 := { stood := { row := fnRanksUptoRow, standIns := [], harness := (true, "06fde09a79272f1241f944b70dd2db7f16b4083008791353653966566114f83e"), looks := false }, kinds := [], alts := [], laidByText := true, laidKinds := [.data, .data], laidTests := true, laidLooks := .later }
def FnRanksUptoCardSaid : Prop := Claim7.holds Tryz.pinned (.plain (OpenSpec.upto fnRanksSpec)) fnRanksUptoCard

/-- THE SECOND FORM's CARD OF 'laws.FnSolves'. -/
def fnSolvesUptoCard : Claim7 := { stood := { row := fnSolvesUptoRow, standIns := [], harness := (true, "06fde09a79272f1241f944b70dd2db7f16b4083008791353653966566114f83e"), looks := false }, kinds := [], alts := [], laidByText := true, laidKinds := [.data, .data], laidTests := true, laidLooks := .later }
def FnSolvesUptoCardSaid : Prop := Claim7.holds Tryz.pinned (.plain (OpenSpec.upto fnSolvesSpec)) fnSolvesUptoCard

/-- THE SECOND FORM's CARD OF 'laws.FnPolys'. -/
def fnPolysUptoCard : Claim7 := { stood := { row := fnPolysUptoRow, standIns := [], harness := (true, "06fde09a79272f1241f944b70dd2db7f16b4083008791353653966566114f83e"), looks := false }, kinds := [], alts := [], laidByText := true, laidKinds := [.data, .data], laidTests := true, laidLooks := .later }
def FnPolysUptoCardSaid : Prop := Claim7.holds Tryz.pinned (.plain (OpenSpec.upto fnPolysSpec)) fnPolysUptoCard

/-- THE SECOND FORM's CARD OF 'laws.FnInverses'. -/
def fnInversesUptoCard : Claim7 := { stood := { row := fnInversesUptoRow, standIns := [], harness := (true, "06fde09a79272f1241f944b70dd2db7f16b4083008791353653966566114f83e"), looks := false }, kinds := [], alts := [], laidByText := true, laidKinds := [.data, .data], laidTests := true, laidLooks := .later }
def FnInversesUptoCardSaid : Prop := Claim7.holds Tryz.pinned (.plain (OpenSpec.upto fnInversesSpec)) fnInversesUptoCard

/-- THE SECOND FORM's CARD OF 'laws.FnIvMats'. -/
def fnIvMatsUptoCard : Claim7 := { stood := { row := fnIvMatsUptoRow, standIns := [], harness := (true, "06fde09a79272f1241f944b70dd2db7f16b4083008791353653966566114f83e"), looks := false }, kinds := [], alts := [], laidByText := true, laidKinds := [.data, .data], laidTests := true, laidLooks := .later }
def FnIvMatsUptoCardSaid : Prop := Claim7.holds Tryz.pinned (.plain (OpenSpec.upto fnIvMatsSpec)) fnIvMatsUptoCard

/-- THE SECOND FORM's CARD OF 'laws.FnRoots'. -/
def fnRootsUptoCard : Claim7 := { stood := { row := fnRootsUptoRow, standIns := [], harness := (true, "06fde09a79272f1241f944b70dd2db7f16b4083008791353653966566114f83e"), looks := false }, kinds := [], alts := [], laidByText := true, laidKinds := [.data, .data], laidTests := true, laidLooks := .later }
def FnRootsUptoCardSaid : Prop := Claim7.holds Tryz.pinned (.plain (OpenSpec.upto fnRootsSpec)) fnRootsUptoCard

/-- THE SECOND FORM's CARD OF 'laws.FnAdjs'. -/
def fnAdjsUptoCard : Claim7 := { stood := { row := fnAdjsUptoRow, standIns := [], harness := (true, "06fde09a79272f1241f944b70dd2db7f16b4083008791353653966566114f83e"), looks := false }, kinds := [], alts := [], laidByText := true, laidKinds := [.data, .data], laidTests := true, laidLooks := .later }
def FnAdjsUptoCardSaid : Prop := Claim7.holds Tryz.pinned (.plain (OpenSpec.upto fnAdjsSpec)) fnAdjsUptoCard

/-- THE SECOND FORM's CARD OF 'laws.FnIvMatWidths'. -/
def fnIvMatWidthsUptoCard : Claim7 := { stood := { row := fnIvMatWidthsUptoRow, standIns := [], harness := (true, "06fde09a79272f1241f944b70dd2db7f16b4083008791353653966566114f83e"), looks := false }, kinds := [], alts := [], laidByText := true, laidKinds := [.data, .data], laidTests := true, laidLooks := .later }
def FnIvMatWidthsUptoCardSaid : Prop := Claim7.holds Tryz.pinned (.plain (OpenSpec.upto fnIvMatWidthsSpec)) fnIvMatWidthsUptoCard
end Rows
end Go.Proofs.YtcobffkepgogiaaGreatDoor
