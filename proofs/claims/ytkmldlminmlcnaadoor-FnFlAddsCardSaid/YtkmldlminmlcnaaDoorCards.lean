/-
  DERIVED. GIVEN WITH THE SEED: THE CARDS: each row of YtkmldlminmlcnaaDoorRows.lean that lists a variable, with what it lists TIED to the program's text (the seventh form; the later family's looks); each row that meets fmt, with fmt's text TOLD by the authors' own Lean function (tested against real Go, not proved from fmt's source: count such statements apart). THE CARD IS WHAT COUNTS. Prove the row's statement (the work); the ties are given (YtkmldlminmlcnaaDoorTie.lean); close each card by the builder's one call (the guide's Derived/Test/ToyasCard.lean, 'card_holds'). Laid BY PROGRAM, IN A SANDBOX (cutbox-door.mjs). By AI agents, Wed Nov 11 2026. No macro, syntax, notation, axiom, sorry.
-/
import Derived.Test.YtkmldlminmlcnaaDoorRows
import GoSem.ClaimSeven
namespace Go.Proofs.YtkmldlminmlcnaaDoor
namespace Rows

/-- THE TIED CARD OF 'laws.FnExactFlAdd'. -/
def fnExactFlAddCard : Claim7 := { stood := { row := fnExactFlAddRow, standIns := [], harness := (true, "bbbdab48c8cb9cb1d3abd00e17ded8b9bf4ca9c37180c250777b8102d06a99be"), looks := false }, kinds := [], alts := [], laidByText := true, laidKinds := [.data, .data], laidTests := true, laidLooks := .later }
def FnExactFlAddCardSaid : Prop := Claim7.holds Tryd.pinned (.plain (OpenSpec.ofChange fnExactFlAddSpec)) fnExactFlAddCard

/-- THE TIED CARD OF 'laws.FnExactFlSub'. -/
def fnExactFlSubCard : Claim7 := { stood := { row := fnExactFlSubRow, standIns := [], harness := (true, "bbbdab48c8cb9cb1d3abd00e17ded8b9bf4ca9c37180c250777b8102d06a99be"), looks := false }, kinds := [], alts := [], laidByText := true, laidKinds := [.data, .data], laidTests := true, laidLooks := .later }
def FnExactFlSubCardSaid : Prop := Claim7.holds Tryd.pinned (.plain (OpenSpec.ofChange fnExactFlSubSpec)) fnExactFlSubCard

/-- THE TIED CARD OF 'laws.FnExactFlFma'. -/
def fnExactFlFmaCard : Claim7 := { stood := { row := fnExactFlFmaRow, standIns := [], harness := (true, "bbbdab48c8cb9cb1d3abd00e17ded8b9bf4ca9c37180c250777b8102d06a99be"), looks := false }, kinds := [], alts := [], laidByText := true, laidKinds := [.data, .data], laidTests := true, laidLooks := .later }
def FnExactFlFmaCardSaid : Prop := Claim7.holds Tryd.pinned (.plain (OpenSpec.ofChange fnExactFlFmaSpec)) fnExactFlFmaCard

/-- THE TIED CARD OF 'laws.FnExactDecFloat'. -/
def fnExactDecFloatCard : Claim7 := { stood := { row := fnExactDecFloatRow, standIns := [], harness := (true, "bbbdab48c8cb9cb1d3abd00e17ded8b9bf4ca9c37180c250777b8102d06a99be"), looks := false }, kinds := [], alts := [], laidByText := true, laidKinds := [.data, .data], laidTests := true, laidLooks := .later }
def FnExactDecFloatCardSaid : Prop := Claim7.holds Tryd.pinned (.plain (OpenSpec.ofChange fnExactDecFloatSpec)) fnExactDecFloatCard

/-- THE TIED CARD OF 'laws.FnFlAdds'. -/
def fnFlAddsCard : Claim7 := { stood := { row := fnFlAddsRow, standIns := [], harness := (true, "bbbdab48c8cb9cb1d3abd00e17ded8b9bf4ca9c37180c250777b8102d06a99be"), looks := false }, kinds := [], alts := [], laidByText := true, laidKinds := [.data, .data], laidTests := true, laidLooks := .later }
def FnFlAddsCardSaid : Prop := Claim7.holds Tryd.pinned (.plain (OpenSpec.ofChange fnFlAddsSpec)) fnFlAddsCard

/-- THE SECOND FORM's CARD OF 'laws.FnExactFlAdd'. -/
def fnExactFlAddUptoCard : Claim7 := { stood := { row := fnExactFlAddUptoRow, standIns := [], harness := (true, "bbbdab48c8cb9cb1d3abd00e17ded8b9bf4ca9c37180c250777b8102d06a99be"), looks := false }, kinds := [], alts := [], laidByText := true, laidKinds := [.data, .data], laidTests := true, laidLooks := .later }
def FnExactFlAddUptoCardSaid : Prop := Claim7.holds Tryd.pinned (.plain (OpenSpec.upto fnExactFlAddSpec)) fnExactFlAddUptoCard

/-- THE SECOND FORM's CARD OF 'laws.FnExactFlSub'. -/
def fnExactFlSubUptoCard : Claim7 := { stood := { row := fnExactFlSubUptoRow, standIns := [], harness := (true, "bbbdab48c8cb9cb1d3abd00e17ded8b9bf4ca9c37180c250777b8102d06a99be"), looks := false }, kinds := [], alts := [], laidByText := true, laidKinds := [.data, .data], laidTests := true, laidLooks := .later }
def FnExactFlSubUptoCardSaid : Prop := Claim7.holds Tryd.pinned (.plain (OpenSpec.upto fnExactFlSubSpec)) fnExactFlSubUptoCard

/-- THE SECOND FORM's CARD OF 'laws.FnExactFlFma'. -/
def fnExactFlFmaUptoCard : Claim7 := { stood := { row := fnExactFlFmaUptoRow, standIns := [], harness := (true, "bbbdab48c8cb9cb1d3abd00e17ded8b9bf4ca9c37180c250777b8102d06a99be"), looks := false }, kinds := [], alts := [], laidByText := true, laidKinds := [.data, .data], laidTests := true, laidLooks := .later }
def FnExactFlFmaUptoCardSaid : Prop := Claim7.holds Tryd.pinned (.plain (OpenSpec.upto fnExactFlFmaSpec)) fnExactFlFmaUptoCard

/-- THE SECOND FORM's CARD OF 'laws.FnExactDecFloat'. -/
def fnExactDecFloatUptoCard : Claim7 := { stood := { row := fnExactDecFloatUptoRow, standIns := [], harness := (true, "bbbdab48c8cb9cb1d3abd00e17ded8b9bf4ca9c37180c250777b8102d06a99be"), looks := false }, kinds := [], alts := [], laidByText := true, laidKinds := [.data, .data], laidTests := true, laidLooks := .later }
def FnExactDecFloatUptoCardSaid : Prop := Claim7.holds Tryd.pinned (.plain (OpenSpec.upto fnExactDecFloatSpec)) fnExactDecFloatUptoCard

/-- THE SECOND FORM's CARD OF 'laws.FnFlAdds'. -/
def fnFlAddsUptoCard : Claim7 := { stood := { row := fnFlAddsUptoRow, standIns := [], harness := (true, "bbbdab48c8cb9cb1d3abd00e17ded8b9bf4ca9c37180c250777b8102d06a99be"), looks := false }, kinds := [], alts := [], laidByText := true, laidKinds := [.data, .data], laidTests := true, laidLooks := .later }
def FnFlAddsUptoCardSaid : Prop := Claim7.holds Tryd.pinned (.plain (OpenSpec.upto fnFlAddsSpec)) fnFlAddsUptoCard
end Rows
end Go.Proofs.YtkmldlminmlcnaaDoor
