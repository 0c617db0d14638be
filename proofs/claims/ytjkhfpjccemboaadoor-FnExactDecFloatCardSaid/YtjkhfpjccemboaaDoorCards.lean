/-
  DERIVED. GIVEN WITH THE SEED: THE CARDS: each row of YtjkhfpjccemboaaDoorRows.lean that lists a variable, with what it lists TIED to the program's text (the seventh form; the later family's looks); each row that meets fmt, with fmt's text TOLD by the authors' own Lean function (tested against real Go, not proved from fmt's source: count such statements apart). THE CARD IS WHAT COUNTS. Prove the row's statement (the work); the ties are given (YtjkhfpjccemboaaDoorTie.lean); close each card by the builder's one call (the guide's Derived/Test/ToyasCard.lean, 'card_holds'). Laid BY PROGRAM, IN A SANDBOX (cutbox-door.mjs). By AI agents, Wed Nov 11 2026. No macro, syntax, notation, axiom, sorry.
-/
import Derived.Test.YtjkhfpjccemboaaDoorRows
import GoSem.ClaimSeven
namespace Go.Proofs.YtjkhfpjccemboaaDoor
namespace Rows

/-- THE TIED CARD OF 'laws.FnExactDecFloat'. -/
def fnExactDecFloatCard : Claim7 := { stood := { row := fnExactDecFloatRow, standIns := [], harness := (true, "d48b5c990e23bb54dc01a35e9fd087c983081abb6aa55891d94041f33afdfecd"), looks := false }, kinds := [], alts := [], laidByText := true, laidKinds := [.data, .data], laidTests := true, laidLooks := .later }
def FnExactDecFloatCardSaid : Prop := Claim7.holds Tryd.pinned (.plain (OpenSpec.ofChange fnExactDecFloatSpec)) fnExactDecFloatCard

/-- THE SECOND FORM's CARD OF 'laws.FnExactDecFloat'. -/
def fnExactDecFloatUptoCard : Claim7 := { stood := { row := fnExactDecFloatUptoRow, standIns := [], harness := (true, "d48b5c990e23bb54dc01a35e9fd087c983081abb6aa55891d94041f33afdfecd"), looks := false }, kinds := [], alts := [], laidByText := true, laidKinds := [.data, .data], laidTests := true, laidLooks := .later }
def FnExactDecFloatUptoCardSaid : Prop := Claim7.holds Tryd.pinned (.plain (OpenSpec.upto fnExactDecFloatSpec)) fnExactDecFloatUptoCard
end Rows
end Go.Proofs.YtjkhfpjccemboaaDoor
