/-
  DERIVED. GIVEN WITH THE SEED: THE CARDS: each row of YtjkhfpjccemboaaGreatDoorRows.lean that lists a variable, with what it lists TIED to the program's text (the seventh form; the later family's looks); each row that meets fmt, with fmt's text TOLD by the authors' own Lean function (tested against real Go, not proved from fmt's source: count such statements apart). THE CARD IS WHAT COUNTS. Prove the row's statement (the work); the ties are given (YtjkhfpjccemboaaGreatDoorTie.lean); close each card by the builder's one call (the guide's Derived/Test/ToyasCard.lean, 'card_holds'). Laid BY PROGRAM, IN A SANDBOX (cutbox-door.mjs). By AI agents, Wed Nov 11 2026. No macro, syntax, notation, axiom, sorry.
-/
import Derived.Test.YtjkhfpjccemboaaGreatDoorRows
import GoSem.ClaimSeven
namespace Go.Proofs.YtjkhfpjccemboaaGreatDoor
namespace Rows

/-- THE TIED CARD OF 'laws.FnDyRoots'. -/
def fnDyRootsCard : Claim7 := { stood := { row := fnDyRootsRow, standIns := [], harness := (true, "ece3c45bb4ac150835d178970fb9803bc6f11592ed22d72dc50c89cafeefe5cc"), looks := false }, kinds := [], alts := [], laidByText := true, laidKinds := [.data, .data], laidTests := true, laidLooks := .later }
def FnDyRootsCardSaid : Prop := Claim7.holds Tryz.pinned (.plain (OpenSpec.ofChange fnDyRootsSpec)) fnDyRootsCard

/-- THE TIED CARD OF 'laws.FnMatNorms'. -/
def fnMatNormsCard : Claim7 := { stood := { row := fnMatNormsRow, standIns := [], harness := (true, "ece3c45bb4ac150835d178970fb9803bc6f11592ed22d72dc50c89cafeefe5cc"), looks := false }, kinds := [], alts := [], laidByText := true, laidKinds := [.data, .data], laidTests := true, laidLooks := .later }
def FnMatNormsCardSaid : Prop := Claim7.holds Tryz.pinned (.plain (OpenSpec.ofChange fnMatNormsSpec)) fnMatNormsCard

/-- THE TIED CARD OF 'laws.FnIvSets'. -/
def fnIvSetsCard : Claim7 := { stood := { row := fnIvSetsRow, standIns := [], harness := (true, "ece3c45bb4ac150835d178970fb9803bc6f11592ed22d72dc50c89cafeefe5cc"), looks := false }, kinds := [], alts := [], laidByText := true, laidKinds := [.data, .data], laidTests := true, laidLooks := .later }
def FnIvSetsCardSaid : Prop := Claim7.holds Tryz.pinned (.plain (OpenSpec.ofChange fnIvSetsSpec)) fnIvSetsCard

/-- THE TIED CARD OF 'laws.FnMatRing'. -/
def fnMatRingCard : Claim7 := { stood := { row := fnMatRingRow, standIns := [], harness := (true, "ece3c45bb4ac150835d178970fb9803bc6f11592ed22d72dc50c89cafeefe5cc"), looks := false }, kinds := [], alts := [], laidByText := true, laidKinds := [.data, .data], laidTests := true, laidLooks := .later }
def FnMatRingCardSaid : Prop := Claim7.holds Tryz.pinned (.plain (OpenSpec.ofChange fnMatRingSpec)) fnMatRingCard

/-- THE TIED CARD OF 'laws.FnFlDivs'. -/
def fnFlDivsCard : Claim7 := { stood := { row := fnFlDivsRow, standIns := [], harness := (true, "ece3c45bb4ac150835d178970fb9803bc6f11592ed22d72dc50c89cafeefe5cc"), looks := false }, kinds := [], alts := [], laidByText := true, laidKinds := [.data, .data], laidTests := true, laidLooks := .later }
def FnFlDivsCardSaid : Prop := Claim7.holds Tryz.pinned (.plain (OpenSpec.ofChange fnFlDivsSpec)) fnFlDivsCard

/-- THE TIED CARD OF 'laws.FnSqrts'. -/
def fnSqrtsCard : Claim7 := { stood := { row := fnSqrtsRow, standIns := [], harness := (true, "ece3c45bb4ac150835d178970fb9803bc6f11592ed22d72dc50c89cafeefe5cc"), looks := false }, kinds := [], alts := [], laidByText := true, laidKinds := [.data, .data], laidTests := true, laidLooks := .later }
def FnSqrtsCardSaid : Prop := Claim7.holds Tryz.pinned (.plain (OpenSpec.ofChange fnSqrtsSpec)) fnSqrtsCard

/-- THE TIED CARD OF 'laws.FnFlExact'. -/
def fnFlExactCard : Claim7 := { stood := { row := fnFlExactRow, standIns := [], harness := (true, "ece3c45bb4ac150835d178970fb9803bc6f11592ed22d72dc50c89cafeefe5cc"), looks := false }, kinds := [], alts := [], laidByText := true, laidKinds := [.data, .data], laidTests := true, laidLooks := .later }
def FnFlExactCardSaid : Prop := Claim7.holds Tryz.pinned (.plain (OpenSpec.ofChange fnFlExactSpec)) fnFlExactCard

/-- THE TIED CARD OF 'laws.FnFlRounds'. -/
def fnFlRoundsCard : Claim7 := { stood := { row := fnFlRoundsRow, standIns := [], harness := (true, "ece3c45bb4ac150835d178970fb9803bc6f11592ed22d72dc50c89cafeefe5cc"), looks := false }, kinds := [], alts := [], laidByText := true, laidKinds := [.data, .data], laidTests := true, laidLooks := .later }
def FnFlRoundsCardSaid : Prop := Claim7.holds Tryz.pinned (.plain (OpenSpec.ofChange fnFlRoundsSpec)) fnFlRoundsCard

/-- THE SECOND FORM's CARD OF 'laws.FnDyRoots'. -/
def fnDyRootsUptoCard : Claim7 := { stood := { row := fnDyRootsUptoRow, standIns := [], harness := (true, "ece3c45bb4ac150835d178970fb9803bc6f11592ed22d72dc50c89cafeefe5cc"), looks := false }, kinds := [], alts := [], laidByText := true, laidKinds := [.data, .data], laidTests := true, laidLooks := .later }
def FnDyRootsUptoCardSaid : Prop := Claim7.holds Tryz.pinned (.plain (OpenSpec.upto fnDyRootsSpec)) fnDyRootsUptoCard

/-- THE SECOND FORM's CARD OF 'laws.FnMatNorms'. -/
def fnMatNormsUptoCard : Claim7 := { stood := { row := fnMatNormsUptoRow, standIns := [], harness := (true, "ece3c45bb4ac150835d178970fb9803bc6f11592ed22d72dc50c89cafeefe5cc"), looks := false }, kinds := [], alts := [], laidByText := true, laidKinds := [.data, .data], laidTests := true, laidLooks := .later }
def FnMatNormsUptoCardSaid : Prop := Claim7.holds Tryz.pinned (.plain (OpenSpec.upto fnMatNormsSpec)) fnMatNormsUptoCard

/-- THE SECOND FORM's CARD OF 'laws.FnIvSets'. -/
def fnIvSetsUptoCard : Claim7 := { stood := { row := fnIvSetsUptoRow, standIns := [], harness := (true, "ece3c45bb4ac150835d178970fb9803bc6f11592ed22d72dc50c89cafeefe5cc"), looks := false }, kinds := [], alts := [], laidByText := true, laidKinds := [.data, .data], laidTests := true, laidLooks := .later }
def FnIvSetsUptoCardSaid : Prop := Claim7.holds Tryz.pinned (.plain (OpenSpec.upto fnIvSetsSpec)) fnIvSetsUptoCard

/-- THE SECOND FORM's CARD OF 'laws.FnMatRing'. -/
def fnMatRingUptoCard : Claim7 := { stood := { row := fnMatRingUptoRow, standIns := [], harness := (true, "ece3c45bb4ac150835d178970fb9803bc6f11592ed22d72dc50c89cafeefe5cc"), looks := false }, kinds := [], alts := [], laidByText := true, laidKinds := [.data, .data], laidTests := true, laidLooks := .later }
def FnMatRingUptoCardSaid : Prop := Claim7.holds Tryz.pinned (.plain (OpenSpec.upto fnMatRingSpec)) fnMatRingUptoCard

/-- THE SECOND FORM's CARD OF 'laws.FnFlDivs'. -/
def fnFlDivsUptoCard : Claim7 := { stood := { row := fnFlDivsUptoRow, standIns := [], harness := (true, "ece3c45bb4ac150835d178970fb9803bc6f11592ed22d72dc50c89cafeefe5cc"), looks := false }, kinds := [], alts := [], laidByText := true, laidKinds := [.data, .data], laidTests := true, laidLooks := .later }
def FnFlDivsUptoCardSaid : Prop := Claim7.holds Tryz.pinned (.plain (OpenSpec.upto fnFlDivsSpec)) fnFlDivsUptoCard

/-- THE SECOND FORM's CARD OF 'laws.FnSqrts'. -/
def fnSqrtsUptoCard : Claim7 := { stood := { row := fnSqrtsUptoRow, standIns := [], harness := (true, "ece3c45bb4ac150835d178970fb9803bc6f11592ed22d72dc50c89cafeefe5cc"), looks := false }, kinds := [], alts := [], laidByText := true, laidKinds := [.data, .data], laidTests := true, laidLooks := .later }
def FnSqrtsUptoCardSaid : Prop := Claim7.holds Tryz.pinned (.plain (OpenSpec.upto fnSqrtsSpec)) fnSqrtsUptoCard

/-- THE SECOND FORM's CARD OF 'laws.FnFlExact'. -/
def fnFlExactUptoCard : Claim7 := { stood := { row := fnFlExactUptoRow, standIns := [], harness := (true, "ece3c45bb4ac150835d178970fb9803bc6f11592ed22d72dc50c89cafeefe5cc"), looks := false }, kinds := [], alts := [], laidByText := true, laidKinds := [.data, .data], laidTests := true, laidLooks := .later }
def FnFlExactUptoCardSaid : Prop := Claim7.holds Tryz.pinned (.plain (OpenSpec.upto fnFlExactSpec)) fnFlExactUptoCard

/-- THE SECOND FORM's CARD OF 'laws.FnFlRounds'. -/
def fnFlRoundsUptoCard : Claim7 := { stood := { row := fnFlRoundsUptoRow, standIns := [], harness := (true, "ece3c45bb4ac150835d178970fb9803bc6f11592ed22d72dc50c89cafeefe5cc"), looks := false }, kinds := [], alts := [], laidByText := true, laidKinds := [.data, .data], laidTests := true, laidLooks := .later }
def FnFlRoundsUptoCardSaid : Prop := Claim7.holds Tryz.pinned (.plain (OpenSpec.upto fnFlRoundsSpec)) fnFlRoundsUptoCard
end Rows
end Go.Proofs.YtjkhfpjccemboaaGreatDoor
