/-
  DERIVED. GIVEN WITH THE SEED: THE CARDS: each row of YtkmldlminmlcnaaGreatDoorRows.lean that lists a variable, with what it lists TIED to the program's text (the seventh form; the later family's looks); each row that meets fmt, with fmt's text TOLD by the authors' own Lean function (tested against real Go, not proved from fmt's source: count such statements apart). THE CARD IS WHAT COUNTS. Prove the row's statement (the work); the ties are given (YtkmldlminmlcnaaGreatDoorTie.lean); close each card by the builder's one call (the guide's Derived/Test/ToyasCard.lean, 'card_holds'). Laid BY PROGRAM, IN A SANDBOX (cutbox-door.mjs). By AI agents, Wed Nov 11 2026. No macro, syntax, notation, axiom, sorry.
-/
import Derived.Test.YtkmldlminmlcnaaGreatDoorRows
import GoSem.ClaimSeven
namespace Go.Proofs.YtkmldlminmlcnaaGreatDoor
namespace Rows

/-- THE TIED CARD OF 'laws.FnFlInts'. -/
def fnFlIntsCard : Claim7 := { stood := { row := fnFlIntsRow, standIns := [], harness := (true, "2c3795518b69b224107cce025c20cf0c2fa205192d798dfb3041af4e79d59896"), looks := false }, kinds := [], alts := [], laidByText := true, laidKinds := [.data, .data], laidTests := true, laidLooks := .later }
def FnFlIntsCardSaid : Prop := Claim7.holds Tryz.pinned (.plain (OpenSpec.ofChange fnFlIntsSpec)) fnFlIntsCard

/-- THE TIED CARD OF 'laws.FnNexts'. -/
def fnNextsCard : Claim7 := { stood := { row := fnNextsRow, standIns := [], harness := (true, "2c3795518b69b224107cce025c20cf0c2fa205192d798dfb3041af4e79d59896"), looks := false }, kinds := [], alts := [], laidByText := true, laidKinds := [.data, .data], laidTests := true, laidLooks := .later }
def FnNextsCardSaid : Prop := Claim7.holds Tryz.pinned (.plain (OpenSpec.ofChange fnNextsSpec)) fnNextsCard

/-- THE TIED CARD OF 'laws.FnFmas'. -/
def fnFmasCard : Claim7 := { stood := { row := fnFmasRow, standIns := [], harness := (true, "2c3795518b69b224107cce025c20cf0c2fa205192d798dfb3041af4e79d59896"), looks := false }, kinds := [], alts := [], laidByText := true, laidKinds := [.data, .data], laidTests := true, laidLooks := .later }
def FnFmasCardSaid : Prop := Claim7.holds Tryz.pinned (.plain (OpenSpec.ofChange fnFmasSpec)) fnFmasCard

/-- THE SECOND FORM's CARD OF 'laws.FnFlInts'. -/
def fnFlIntsUptoCard : Claim7 := { stood := { row := fnFlIntsUptoRow, standIns := [], harness := (true, "2c3795518b69b224107cce025c20cf0c2fa205192d798dfb3041af4e79d59896"), looks := false }, kinds := [], alts := [], laidByText := true, laidKinds := [.data, .data], laidTests := true, laidLooks := .later }
def FnFlIntsUptoCardSaid : Prop := Claim7.holds Tryz.pinned (.plain (OpenSpec.upto fnFlIntsSpec)) fnFlIntsUptoCard

/-- THE SECOND FORM's CARD OF 'laws.FnNexts'. -/
def fnNextsUptoCard : Claim7 := { stood := { row := fnNextsUptoRow, standIns := [], harness := (true, "2c3795518b69b224107cce025c20cf0c2fa205192d798dfb3041af4e79d59896"), looks := false }, kinds := [], alts := [], laidByText := true, laidKinds := [.data, .data], laidTests := true, laidLooks := .later }
def FnNextsUptoCardSaid : Prop := Claim7.holds Tryz.pinned (.plain (OpenSpec.upto fnNextsSpec)) fnNextsUptoCard

/-- THE SECOND FORM's CARD OF 'laws.FnFmas'. -/
def fnFmasUptoCard : Claim7 := { stood := { row := fnFmasUptoRow, standIns := [], harness := (true, "2c3795518b69b224107cce025c20cf0c2fa205192d798dfb3041af4e79d59896"), looks := false }, kinds := [], alts := [], laidByText := true, laidKinds := [.data, .data], laidTests := true, laidLooks := .later }
def FnFmasUptoCardSaid : Prop := Claim7.holds Tryz.pinned (.plain (OpenSpec.upto fnFmasSpec)) fnFmasUptoCard
end Rows
end Go.Proofs.YtkmldlminmlcnaaGreatDoor
