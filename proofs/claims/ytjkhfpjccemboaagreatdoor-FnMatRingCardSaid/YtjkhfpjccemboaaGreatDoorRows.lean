/-
  NARROWER THAN 'FOR EVERY INPUT', by the rows' own cells (each row's printed sentence says how): FnDyRoots: laid · FnMatNorms: laid · FnIvSets: laid · FnMatRing: laid · FnFlDivs: laid · FnSqrts: laid · FnFlExact: laid · FnFlRounds: laid.
  DERIVED. THE GIVEN ROWS OF THIS SEAT. 8 by the template 'for every input the law returns true; each argument reads behind the call as it read before'; 0 by the template 'total and deterministic' (their statements: YtjkhfpjccemboaaGreatDoorTotals.lean).
  GIVEN WITH THE SEED: the statements are not yours to turn. If you find one false, say at which input.
  Laid BY PROGRAM, IN A SANDBOX (cutbox-rows.mjs): the forced cells as the released guide's own fill.sh prints them over the translation cba12c9cd1b890f3… (all of the seat's roots in one cut). By AI agents, Wed Nov 11 2026. No macro, syntax, notation, axiom, sorry.
-/
import Derived.Test.YtjkhfpjccemboaaGreatDoorChecked
import GoSem.Claim
import GoSem.ClaimJoined
import GoSem.ClaimMapViews
import Derived.JoinedTies
import Derived.KernelRfl
namespace Go.Proofs.YtjkhfpjccemboaaGreatDoor
/- THE CELL 'sum', in the pinned program and in every row, IS THE sha256 OF THE DUMP (.gsa) THAT YtjkhfpjccemboaaGreatDoorProg.lean LOADS. Nothing in Lean hashes anything: it is a label: what it is worth is what the hold of that sum in a sandbox is worth. -/
noncomputable def Tryz.pinned : Pinned := { name := "ytjkhfpjccemboaagreatdoor", sum := "cba12c9cd1b890f3aa5ab83c326bbf7364244f1d31c4a1e8f823f69a25c3772e", checked := Tryz.checked }
namespace Rows
def none {H : Type} : Left H := { results := [], args := [] }

/- WHAT THE LISTED PACKAGE-LEVEL VARIABLES READ AS WHEN THE CALL BEGINS. Each datum BY PROGRAM (the guide's laid-datum.mjs) off the statement by which the dump's own 'gosem.cut.vars' lays the variable. In a bare row this is a premise. The card (YtjkhfpjccemboaaGreatDoorCards.lean) ties it to the program's text. -/
def laid_math_bits_deBruijn32tab {H : Type} : DataW H := .agg [.lit (.int .u8 0), .lit (.int .u8 1), .lit (.int .u8 28), .lit (.int .u8 2), .lit (.int .u8 29), .lit (.int .u8 14), .lit (.int .u8 24), .lit (.int .u8 3), .lit (.int .u8 30), .lit (.int .u8 22), .lit (.int .u8 20), .lit (.int .u8 15), .lit (.int .u8 25), .lit (.int .u8 17), .lit (.int .u8 4), .lit (.int .u8 8), .lit (.int .u8 31), .lit (.int .u8 27), .lit (.int .u8 13), .lit (.int .u8 23), .lit (.int .u8 21), .lit (.int .u8 19), .lit (.int .u8 16), .lit (.int .u8 7), .lit (.int .u8 26), .lit (.int .u8 12), .lit (.int .u8 18), .lit (.int .u8 6), .lit (.int .u8 11), .lit (.int .u8 5), .lit (.int .u8 10), .lit (.int .u8 9)]
def laid_math_bits_deBruijn64tab {H : Type} : DataW H := .agg [.lit (.int .u8 0), .lit (.int .u8 1), .lit (.int .u8 56), .lit (.int .u8 2), .lit (.int .u8 57), .lit (.int .u8 49), .lit (.int .u8 28), .lit (.int .u8 3), .lit (.int .u8 61), .lit (.int .u8 58), .lit (.int .u8 42), .lit (.int .u8 50), .lit (.int .u8 38), .lit (.int .u8 29), .lit (.int .u8 17), .lit (.int .u8 4), .lit (.int .u8 62), .lit (.int .u8 47), .lit (.int .u8 59), .lit (.int .u8 36), .lit (.int .u8 45), .lit (.int .u8 43), .lit (.int .u8 51), .lit (.int .u8 22), .lit (.int .u8 53), .lit (.int .u8 39), .lit (.int .u8 33), .lit (.int .u8 30), .lit (.int .u8 24), .lit (.int .u8 18), .lit (.int .u8 12), .lit (.int .u8 5), .lit (.int .u8 63), .lit (.int .u8 55), .lit (.int .u8 48), .lit (.int .u8 27), .lit (.int .u8 60), .lit (.int .u8 41), .lit (.int .u8 37), .lit (.int .u8 16), .lit (.int .u8 46), .lit (.int .u8 35), .lit (.int .u8 44), .lit (.int .u8 21), .lit (.int .u8 52), .lit (.int .u8 32), .lit (.int .u8 23), .lit (.int .u8 11), .lit (.int .u8 54), .lit (.int .u8 26), .lit (.int .u8 40), .lit (.int .u8 15), .lit (.int .u8 34), .lit (.int .u8 20), .lit (.int .u8 31), .lit (.int .u8 10), .lit (.int .u8 25), .lit (.int .u8 14), .lit (.int .u8 19), .lit (.int .u8 9), .lit (.int .u8 13), .lit (.int .u8 8), .lit (.int .u8 7), .lit (.int .u8 6)]

/-- 'laws.FnDyRoots': WHATEVER THE INPUT: true; the input reads as it did. -/
def fnDyRootsSpec : ChangeSpec := { name := "fnDyRoots", fn := fun _ => fun
  | [d] => { results := [.lit (.bool true)], args := [d] }
  | _ => none }
def fnDyRootsRow : OpenClaim := { program := "ytjkhfpjccemboaagreatdoor", sum := "cba12c9cd1b890f3aa5ab83c326bbf7364244f1d31c4a1e8f823f69a25c3772e", func := "loop.example/g00382/laws.FnDyRoots", spec := "fnDyRoots", unfollowed := true, recurses := true, named := ["math/bits.deBruijn32tab", "math/bits.deBruijn64tab"], apart := false, laid := [("math/bits.deBruijn32tab", laid_math_bits_deBruijn32tab), ("math/bits.deBruijn64tab", laid_math_bits_deBruijn64tab)] }
def FnDyRootsSaid : Prop := fnDyRootsRow.holds Tryz.pinned (OpenSpec.ofChange fnDyRootsSpec)

/-- ITS FALSE NEIGHBOUR: 'it returns false'. Refute it at one input. -/
def fnDyRootsWrong : ChangeSpec := { name := "fnDyRoots", fn := fun _ => fun
  | [d] => { results := [.lit (.bool false)], args := [d] }
  | _ => none }
def FnDyRootsWrongFalsely : Prop := fnDyRootsRow.holds Tryz.pinned (OpenSpec.ofChange fnDyRootsWrong)

/-- 'laws.FnMatNorms': WHATEVER THE INPUT: true; the input reads as it did. -/
def fnMatNormsSpec : ChangeSpec := { name := "fnMatNorms", fn := fun _ => fun
  | [d] => { results := [.lit (.bool true)], args := [d] }
  | _ => none }
def fnMatNormsRow : OpenClaim := { program := "ytjkhfpjccemboaagreatdoor", sum := "cba12c9cd1b890f3aa5ab83c326bbf7364244f1d31c4a1e8f823f69a25c3772e", func := "loop.example/g00382/laws.FnMatNorms", spec := "fnMatNorms", unfollowed := true, recurses := true, named := ["math/bits.deBruijn32tab", "math/bits.deBruijn64tab"], apart := false, laid := [("math/bits.deBruijn32tab", laid_math_bits_deBruijn32tab), ("math/bits.deBruijn64tab", laid_math_bits_deBruijn64tab)] }
def FnMatNormsSaid : Prop := fnMatNormsRow.holds Tryz.pinned (OpenSpec.ofChange fnMatNormsSpec)

/-- ITS FALSE NEIGHBOUR: 'it returns false'. Refute it at one input. -/
def fnMatNormsWrong : ChangeSpec := { name := "fnMatNorms", fn := fun _ => fun
  | [d] => { results := [.lit (.bool false)], args := [d] }
  | _ => none }
def FnMatNormsWrongFalsely : Prop := fnMatNormsRow.holds Tryz.pinned (OpenSpec.ofChange fnMatNormsWrong)

/-- 'laws.FnIvSets': WHATEVER THE INPUT: true; the input reads as it did. -/
def fnIvSetsSpec : ChangeSpec := { name := "fnIvSets", fn := fun _ => fun
  | [d] => { results := [.lit (.bool true)], args := [d] }
  | _ => none }
def fnIvSetsRow : OpenClaim := { program := "ytjkhfpjccemboaagreatdoor", sum := "cba12c9cd1b890f3aa5ab83c326bbf7364244f1d31c4a1e8f823f69a25c3772e", func := "loop.example/g00382/laws.FnIvSets", spec := "fnIvSets", unfollowed := true, recurses := true, named := ["math/bits.deBruijn32tab", "math/bits.deBruijn64tab"], apart := false, laid := [("math/bits.deBruijn32tab", laid_math_bits_deBruijn32tab), ("math/bits.deBruijn64tab", laid_math_bits_deBruijn64tab)] }
def FnIvSetsSaid : Prop := fnIvSetsRow.holds Tryz.pinned (OpenSpec.ofChange fnIvSetsSpec)

/-- ITS FALSE NEIGHBOUR: 'it returns false'. Refute it at one input. -/
def fnIvSetsWrong : ChangeSpec := { name := "fnIvSets", fn := fun _ => fun
  | [d] => { results := [.lit (.bool false)], args := [d] }
  | _ => none }
def FnIvSetsWrongFalsely : Prop := fnIvSetsRow.holds Tryz.pinned (OpenSpec.ofChange fnIvSetsWrong)

/-- 'laws.FnMatRing': WHATEVER THE INPUT: true; the input reads as it did. -/
def fnMatRingSpec : ChangeSpec := { name := "fnMatRing", fn := fun _ => fun
  | [d] => { results := [.lit (.bool true)], args := [d] }
  | _ => none }
def fnMatRingRow : OpenClaim := { program := "ytjkhfpjccemboaagreatdoor", sum := "cba12c9cd1b890f3aa5ab83c326bbf7364244f1d31c4a1e8f823f69a25c3772e", func := "loop.example/g00382/laws.FnMatRing", spec := "fnMatRing", unfollowed := true, recurses := true, named := ["math/bits.deBruijn32tab", "math/bits.deBruijn64tab"], apart := false, laid := [("math/bits.deBruijn32tab", laid_math_bits_deBruijn32tab), ("math/bits.deBruijn64tab", laid_math_bits_deBruijn64tab)] }
def FnMatRingSaid : Prop := fnMatRingRow.holds Tryz.pinned (OpenSpec.ofChange fnMatRingSpec)

/-- ITS FALSE NEIGHBOUR: 'it returns false'. Refute it at one input. -/
def fnMatRingWrong : ChangeSpec := { name := "fnMatRing", fn := fun _ => fun
  | [d] => { results := [.lit (.bool false)], args := [d] }
  | _ => none }
def FnMatRingWrongFalsely : Prop := fnMatRingRow.holds Tryz.pinned (OpenSpec.ofChange fnMatRingWrong)

/-- 'laws.FnFlDivs': WHATEVER THE INPUT: true; the input reads as it did. -/
def fnFlDivsSpec : ChangeSpec := { name := "fnFlDivs", fn := fun _ => fun
  | [d] => { results := [.lit (.bool true)], args := [d] }
  | _ => none }
def fnFlDivsRow : OpenClaim := { program := "ytjkhfpjccemboaagreatdoor", sum := "cba12c9cd1b890f3aa5ab83c326bbf7364244f1d31c4a1e8f823f69a25c3772e", func := "loop.example/g00382/laws.FnFlDivs", spec := "fnFlDivs", unfollowed := true, recurses := true, named := ["math/bits.deBruijn32tab", "math/bits.deBruijn64tab"], apart := false, laid := [("math/bits.deBruijn32tab", laid_math_bits_deBruijn32tab), ("math/bits.deBruijn64tab", laid_math_bits_deBruijn64tab)] }
def FnFlDivsSaid : Prop := fnFlDivsRow.holds Tryz.pinned (OpenSpec.ofChange fnFlDivsSpec)

/-- ITS FALSE NEIGHBOUR: 'it returns false'. Refute it at one input. -/
def fnFlDivsWrong : ChangeSpec := { name := "fnFlDivs", fn := fun _ => fun
  | [d] => { results := [.lit (.bool false)], args := [d] }
  | _ => none }
def FnFlDivsWrongFalsely : Prop := fnFlDivsRow.holds Tryz.pinned (OpenSpec.ofChange fnFlDivsWrong)

/-- 'laws.FnSqrts': WHATEVER THE INPUT: true; the input reads as it did. -/
def fnSqrtsSpec : ChangeSpec := { name := "fnSqrts", fn := fun _ => fun
  | [d] => { results := [.lit (.bool true)], args := [d] }
  | _ => none }
def fnSqrtsRow : OpenClaim := { program := "ytjkhfpjccemboaagreatdoor", sum := "cba12c9cd1b890f3aa5ab83c326bbf7364244f1d31c4a1e8f823f69a25c3772e", func := "loop.example/g00382/laws.FnSqrts", spec := "fnSqrts", unfollowed := true, recurses := true, named := ["math/bits.deBruijn32tab", "math/bits.deBruijn64tab"], apart := false, laid := [("math/bits.deBruijn32tab", laid_math_bits_deBruijn32tab), ("math/bits.deBruijn64tab", laid_math_bits_deBruijn64tab)] }
def FnSqrtsSaid : Prop := fnSqrtsRow.holds Tryz.pinned (OpenSpec.ofChange fnSqrtsSpec)

/-- ITS FALSE NEIGHBOUR: 'it returns false'. Refute it at one input. -/
def fnSqrtsWrong : ChangeSpec := { name := "fnSqrts", fn := fun _ => fun
  | [d] => { results := [.lit (.bool false)], args := [d] }
  | _ => none }
def FnSqrtsWrongFalsely : Prop := fnSqrtsRow.holds Tryz.pinned (OpenSpec.ofChange fnSqrtsWrong)

/-- 'laws.FnFlExact': WHATEVER THE INPUT: true; the input reads as it did. -/
def fnFlExactSpec : ChangeSpec := { name := "fnFlExact", fn := fun _ => fun
  | [d] => { results := [.lit (.bool true)], args := [d] }
  | _ => none }
def fnFlExactRow : OpenClaim := { program := "ytjkhfpjccemboaagreatdoor", sum := "cba12c9cd1b890f3aa5ab83c326bbf7364244f1d31c4a1e8f823f69a25c3772e", func := "loop.example/g00382/laws.FnFlExact", spec := "fnFlExact", unfollowed := true, recurses := true, named := ["math/bits.deBruijn32tab", "math/bits.deBruijn64tab"], apart := false, laid := [("math/bits.deBruijn32tab", laid_math_bits_deBruijn32tab), ("math/bits.deBruijn64tab", laid_math_bits_deBruijn64tab)] }
def FnFlExactSaid : Prop := fnFlExactRow.holds Tryz.pinned (OpenSpec.ofChange fnFlExactSpec)

/-- ITS FALSE NEIGHBOUR: 'it returns false'. Refute it at one input. -/
def fnFlExactWrong : ChangeSpec := { name := "fnFlExact", fn := fun _ => fun
  | [d] => { results := [.lit (.bool false)], args := [d] }
  | _ => none }
def FnFlExactWrongFalsely : Prop := fnFlExactRow.holds Tryz.pinned (OpenSpec.ofChange fnFlExactWrong)

/-- 'laws.FnFlRounds': WHATEVER THE INPUT: true; the input reads as it did. -/
def fnFlRoundsSpec : ChangeSpec := { name := "fnFlRounds", fn := fun _ => fun
  | [d] => { results := [.lit (.bool true)], args := [d] }
  | _ => none }
def fnFlRoundsRow : OpenClaim := { program := "ytjkhfpjccemboaagreatdoor", sum := "cba12c9cd1b890f3aa5ab83c326bbf7364244f1d31c4a1e8f823f69a25c3772e", func := "loop.example/g00382/laws.FnFlRounds", spec := "fnFlRounds", unfollowed := true, recurses := true, named := ["math/bits.deBruijn32tab", "math/bits.deBruijn64tab"], apart := false, laid := [("math/bits.deBruijn32tab", laid_math_bits_deBruijn32tab), ("math/bits.deBruijn64tab", laid_math_bits_deBruijn64tab)] }
def FnFlRoundsSaid : Prop := fnFlRoundsRow.holds Tryz.pinned (OpenSpec.ofChange fnFlRoundsSpec)

/-- ITS FALSE NEIGHBOUR: 'it returns false'. Refute it at one input. -/
def fnFlRoundsWrong : ChangeSpec := { name := "fnFlRounds", fn := fun _ => fun
  | [d] => { results := [.lit (.bool false)], args := [d] }
  | _ => none }
def FnFlRoundsWrongFalsely : Prop := fnFlRoundsRow.holds Tryz.pinned (OpenSpec.ofChange fnFlRoundsWrong)

/- THE SECOND FORM. 'bulk': how many values and letters a reading holds, each counted each time it is reached (what is shared counts as often as it is met; a slice's spare places count too). A statement '..UptoSaid' is the law's where the arguments, and the package variables that the reading takes, are together of bulk at most 1048576: NARROWER than '..Said'. Prove '..Said' where nothing that the law and all that it calls make is longer than what came in: it says more and counts as full. Else prove '..UptoSaid'. A law counts once. -/
mutual
def uptoBulk {H : Type} : DataW H → Nat
  | .lit (.string bytes) => bytes.length + 1
  | .lit _ => 1
  | .nil => 1
  | .ptr d => uptoBulk d + 1
  | .slice elems spare => uptoBulkAll elems + uptoBulkAll spare + 1
  | .agg parts => uptoBulkAll parts + 1
  | .iface _ d => uptoBulk d + 1
  | .map entries => uptoBulkEntries entries + 1
  | .held _ => 1
def uptoBulkAll {H : Type} : List (DataW H) → Nat
  | [] => 0
  | d :: r => uptoBulk d + uptoBulkAll r
def uptoBulkEntries {H : Type} : List (Lit × DataW H) → Nat
  | [] => 0
  | x :: r => uptoBulkEntry x + uptoBulkEntries r
def uptoBulkEntry {H : Type} : Lit × DataW H → Nat
  | (.string bytes, d) => bytes.length + uptoBulk d + 1
  | (_, d) => uptoBulk d + 1
 end
def uptoSmall : (H : Type) → List (DataW H) → Bool := fun _ ds => decide (uptoBulkAll ds ≤ 1048576)
def OpenSpec.upto (s : _root_.Go.ChangeSpec) : _root_.Go.OpenSpec := { _root_.Go.OpenSpec.ofChange s with cond := some uptoSmall }

/-- 'laws.FnDyRoots', WHERE WHAT IT READS IS OF BULK AT MOST 1048576: true; the input reads as it did. -/
def fnDyRootsUptoRow : OpenClaim := { program := "ytjkhfpjccemboaagreatdoor", sum := "cba12c9cd1b890f3aa5ab83c326bbf7364244f1d31c4a1e8f823f69a25c3772e", func := "loop.example/g00382/laws.FnDyRoots", spec := "fnDyRoots", unfollowed := true, recurses := true, named := ["math/bits.deBruijn32tab", "math/bits.deBruijn64tab"], apart := false, laid := [("math/bits.deBruijn32tab", laid_math_bits_deBruijn32tab), ("math/bits.deBruijn64tab", laid_math_bits_deBruijn64tab)], narrowed := true }
def FnDyRootsUptoSaid : Prop := fnDyRootsUptoRow.holds Tryz.pinned (OpenSpec.upto fnDyRootsSpec)

/-- 'laws.FnMatNorms', WHERE WHAT IT READS IS OF BULK AT MOST 1048576: true; the input reads as it did. -/
def fnMatNormsUptoRow : OpenClaim := { program := "ytjkhfpjccemboaagreatdoor", sum := "cba12c9cd1b890f3aa5ab83c326bbf7364244f1d31c4a1e8f823f69a25c3772e", func := "loop.example/g00382/laws.FnMatNorms", spec := "fnMatNorms", unfollowed := true, recurses := true, named := ["math/bits.deBruijn32tab", "math/bits.deBruijn64tab"], apart := false, laid := [("math/bits.deBruijn32tab", laid_math_bits_deBruijn32tab), ("math/bits.deBruijn64tab", laid_math_bits_deBruijn64tab)], narrowed := true }
def FnMatNormsUptoSaid : Prop := fnMatNormsUptoRow.holds Tryz.pinned (OpenSpec.upto fnMatNormsSpec)

/-- 'laws.FnIvSets', WHERE WHAT IT READS IS OF BULK AT MOST 1048576: true; the input reads as it did. -/
def fnIvSetsUptoRow : OpenClaim := { program := "ytjkhfpjccemboaagreatdoor", sum := "cba12c9cd1b890f3aa5ab83c326bbf7364244f1d31c4a1e8f823f69a25c3772e", func := "loop.example/g00382/laws.FnIvSets", spec := "fnIvSets", unfollowed := true, recurses := true, named := ["math/bits.deBruijn32tab", "math/bits.deBruijn64tab"], apart := false, laid := [("math/bits.deBruijn32tab", laid_math_bits_deBruijn32tab), ("math/bits.deBruijn64tab", laid_math_bits_deBruijn64tab)], narrowed := true }
def FnIvSetsUptoSaid : Prop := fnIvSetsUptoRow.holds Tryz.pinned (OpenSpec.upto fnIvSetsSpec)

/-- 'laws.FnMatRing', WHERE WHAT IT READS IS OF BULK AT MOST 1048576: true; the input reads as it did. -/
def fnMatRingUptoRow : OpenClaim := { program := "ytjkhfpjccemboaagreatdoor", sum := "cba12c9cd1b890f3aa5ab83c326bbf7364244f1d31c4a1e8f823f69a25c3772e", func := "loop.example/g00382/laws.FnMatRing", spec := "fnMatRing", unfollowed := true, recurses := true, named := ["math/bits.deBruijn32tab", "math/bits.deBruijn64tab"], apart := false, laid := [("math/bits.deBruijn32tab", laid_math_bits_deBruijn32tab), ("math/bits.deBruijn64tab", laid_math_bits_deBruijn64tab)], narrowed := true }
def FnMatRingUptoSaid : Prop := fnMatRingUptoRow.holds Tryz.pinned (OpenSpec.upto fnMatRingSpec)

/-- 'laws.FnFlDivs', WHERE WHAT IT READS IS OF BULK AT MOST 1048576: true; the input reads as it did. -/
def fnFlDivsUptoRow : OpenClaim := { program := "ytjkhfpjccemboaagreatdoor", sum := "cba12c9cd1b890f3aa5ab83c326bbf7364244f1d31c4a1e8f823f69a25c3772e", func := "loop.example/g00382/laws.FnFlDivs", spec := "fnFlDivs", unfollowed := true, recurses := true, named := ["math/bits.deBruijn32tab", "math/bits.deBruijn64tab"], apart := false, laid := [("math/bits.deBruijn32tab", laid_math_bits_deBruijn32tab), ("math/bits.deBruijn64tab", laid_math_bits_deBruijn64tab)], narrowed := true }
def FnFlDivsUptoSaid : Prop := fnFlDivsUptoRow.holds Tryz.pinned (OpenSpec.upto fnFlDivsSpec)

/-- 'laws.FnSqrts', WHERE WHAT IT READS IS OF BULK AT MOST 1048576: true; the input reads as it did. -/
def fnSqrtsUptoRow : OpenClaim := { program := "ytjkhfpjccemboaagreatdoor", sum := "cba12c9cd1b890f3aa5ab83c326bbf7364244f1d31c4a1e8f823f69a25c3772e", func := "loop.example/g00382/laws.FnSqrts", spec := "fnSqrts", unfollowed := true, recurses := true, named := ["math/bits.deBruijn32tab", "math/bits.deBruijn64tab"], apart := false, laid := [("math/bits.deBruijn32tab", laid_math_bits_deBruijn32tab), ("math/bits.deBruijn64tab", laid_math_bits_deBruijn64tab)], narrowed := true }
def FnSqrtsUptoSaid : Prop := fnSqrtsUptoRow.holds Tryz.pinned (OpenSpec.upto fnSqrtsSpec)

/-- 'laws.FnFlExact', WHERE WHAT IT READS IS OF BULK AT MOST 1048576: true; the input reads as it did. -/
def fnFlExactUptoRow : OpenClaim := { program := "ytjkhfpjccemboaagreatdoor", sum := "cba12c9cd1b890f3aa5ab83c326bbf7364244f1d31c4a1e8f823f69a25c3772e", func := "loop.example/g00382/laws.FnFlExact", spec := "fnFlExact", unfollowed := true, recurses := true, named := ["math/bits.deBruijn32tab", "math/bits.deBruijn64tab"], apart := false, laid := [("math/bits.deBruijn32tab", laid_math_bits_deBruijn32tab), ("math/bits.deBruijn64tab", laid_math_bits_deBruijn64tab)], narrowed := true }
def FnFlExactUptoSaid : Prop := fnFlExactUptoRow.holds Tryz.pinned (OpenSpec.upto fnFlExactSpec)

/-- 'laws.FnFlRounds', WHERE WHAT IT READS IS OF BULK AT MOST 1048576: true; the input reads as it did. -/
def fnFlRoundsUptoRow : OpenClaim := { program := "ytjkhfpjccemboaagreatdoor", sum := "cba12c9cd1b890f3aa5ab83c326bbf7364244f1d31c4a1e8f823f69a25c3772e", func := "loop.example/g00382/laws.FnFlRounds", spec := "fnFlRounds", unfollowed := true, recurses := true, named := ["math/bits.deBruijn32tab", "math/bits.deBruijn64tab"], apart := false, laid := [("math/bits.deBruijn32tab", laid_math_bits_deBruijn32tab), ("math/bits.deBruijn64tab", laid_math_bits_deBruijn64tab)], narrowed := true }
def FnFlRoundsUptoSaid : Prop := fnFlRoundsUptoRow.holds Tryz.pinned (OpenSpec.upto fnFlRoundsSpec)

end Rows
end Go.Proofs.YtjkhfpjccemboaaGreatDoor
