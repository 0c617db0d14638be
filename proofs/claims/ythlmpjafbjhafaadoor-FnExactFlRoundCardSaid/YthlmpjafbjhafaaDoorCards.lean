/-
  DERIVED. GIVEN WITH THE SEED: THE CARDS: each row of YthlmpjafbjhafaaDoorRows.lean that lists a variable, with what it lists TIED to the program's text (the seventh form; the later family's looks); each row that meets fmt, with fmt's text TOLD by the authors' own Lean function (tested against real Go, not proved from fmt's source: count such statements apart). THE CARD IS WHAT COUNTS. Prove the row's statement (the work); the ties are given (YthlmpjafbjhafaaDoorTie.lean); close each card by the builder's one call (the guide's Derived/Test/ToyasCard.lean, 'card_holds'). Laid BY PROGRAM, IN A SANDBOX (cutbox-door.mjs). By AI agents, Wed Nov 11 2026. No macro, syntax, notation, axiom, sorry.
-/
import Derived.Test.YthlmpjafbjhafaaDoorRows
import GoSem.ClaimSeven
namespace Go.Proofs.YthlmpjafbjhafaaDoor
namespace Rows

/-- THE TIED CARD OF 'laws.FnExactFlOfInt'. -/
def fnExactFlOfIntCard : Claim7 := { stood := { row := fnExactFlOfIntRow, standIns := [], harness := (true, "e7fdde710ddb018a66620726e29d8d58e99553dafb786b0b948dd5fcc1161d41"), looks := false }, kinds := [], alts := [], laidByText := true, laidKinds := [.data, .data], laidTests := true, laidLooks := .later }
def FnExactFlOfIntCardSaid : Prop := Claim7.holds Tryd.pinned (.plain (OpenSpec.ofChange fnExactFlOfIntSpec)) fnExactFlOfIntCard

/-- THE TIED CARD OF 'laws.FnExactFlMul'. -/
def fnExactFlMulCard : Claim7 := { stood := { row := fnExactFlMulRow, standIns := [], harness := (true, "e7fdde710ddb018a66620726e29d8d58e99553dafb786b0b948dd5fcc1161d41"), looks := false }, kinds := [], alts := [], laidByText := true, laidKinds := [.data, .data], laidTests := true, laidLooks := .later }
def FnExactFlMulCardSaid : Prop := Claim7.holds Tryd.pinned (.plain (OpenSpec.ofChange fnExactFlMulSpec)) fnExactFlMulCard

/-- THE TIED CARD OF 'laws.FnExactFlRound'. -/
def fnExactFlRoundCard : Claim7 := { stood := { row := fnExactFlRoundRow, standIns := [], harness := (true, "e7fdde710ddb018a66620726e29d8d58e99553dafb786b0b948dd5fcc1161d41"), looks := false }, kinds := [], alts := [], laidByText := true, laidKinds := [.data, .data], laidTests := true, laidLooks := .later }
def FnExactFlRoundCardSaid : Prop := Claim7.holds Tryd.pinned (.plain (OpenSpec.ofChange fnExactFlRoundSpec)) fnExactFlRoundCard

/-- THE SECOND FORM's CARD OF 'laws.FnExactFlOfInt'. -/
def fnExactFlOfIntUptoCard : Claim7 := { stood := { row := fnExactFlOfIntUptoRow, standIns := [], harness := (true, "e7fdde710ddb018a66620726e29d8d58e99553dafb786b0b948dd5fcc1161d41"), looks := false }, kinds := [], alts := [], laidByText := true, laidKinds := [.data, .data], laidTests := true, laidLooks := .later }
def FnExactFlOfIntUptoCardSaid : Prop := Claim7.holds Tryd.pinned (.plain (OpenSpec.upto fnExactFlOfIntSpec)) fnExactFlOfIntUptoCard

/-- THE SECOND FORM's CARD OF 'laws.FnExactFlMul'. -/
def fnExactFlMulUptoCard : Claim7 := { stood := { row := fnExactFlMulUptoRow, standIns := [], harness := (true, "e7fdde710ddb018a66620726e29d8d58e99553dafb786b0b948dd5fcc1161d41"), looks := false }, kinds := [], alts := [], laidByText := true, laidKinds := [.data, .data], laidTests := true, laidLooks := .later }
def FnExactFlMulUptoCardSaid : Prop := Claim7.holds Tryd.pinned (.plain (OpenSpec.upto fnExactFlMulSpec)) fnExactFlMulUptoCard

/-- THE SECOND FORM's CARD OF 'laws.FnExactFlRound'. -/
def fnExactFlRoundUptoCard : Claim7 := { stood := { row := fnExactFlRoundUptoRow, standIns := [], harness := (true, "e7fdde710ddb018a66620726e29d8d58e99553dafb786b0b948dd5fcc1161d41"), looks := false }, kinds := [], alts := [], laidByText := true, laidKinds := [.data, .data], laidTests := true, laidLooks := .later }
def FnExactFlRoundUptoCardSaid : Prop := Claim7.holds Tryd.pinned (.plain (OpenSpec.upto fnExactFlRoundSpec)) fnExactFlRoundUptoCard
end Rows
end Go.Proofs.YthlmpjafbjhafaaDoor
