/-
  NARROWER THAN 'FOR EVERY INPUT', by the rows' own cells (each row's printed sentence says how): FnPolyAts: laid · FnDets: laid · FnIvDivs: laid · FnRanks: laid · FnSolves: laid · FnPolys: laid · FnInverses: laid · FnIvMats: laid · FnRoots: laid · FnAdjs: laid · FnIvMatWidths: laid.
  DERIVED. THE GIVEN ROWS OF THIS SEAT. 11 by the template 'for every input the law returns true; each argument reads behind the call as it read before'; 0 by the template 'total and deterministic' (their statements: YtcobffkepgogiaaGreatDoorTotals.lean).
  GIVEN WITH THE SEED: the statements are not yours to turn. If you find one false, say at which input.
  Laid BY PROGRAM, IN A SANDBOX (cutbox-rows.mjs): the forced cells as the released guide's own fill.sh prints them over the translation 0d5c163d7ee96965… (all of the seat's roots in one cut). By AI agents, Wed Nov 11 2026. No macro, syntax, notation, axiom, sorry.
-/
import Derived.Test.YtcobffkepgogiaaGreatDoorChecked
import GoSem.Claim
import GoSem.ClaimJoined
import GoSem.ClaimMapViews
import Derived.JoinedTies
import Derived.KernelRfl
namespace Go.Proofs.YtcobffkepgogiaaGreatDoor
/- THE CELL 'sum', in the pinned program and in every row, IS THE sha256 OF THE DUMP (.gsa) THAT YtcobffkepgogiaaGreatDoorProg.lean LOADS. Nothing in Lean hashes anything: it is a label: what it is worth is what the hold of that sum in a sandbox is worth. -/
noncomputable def Tryz.pinned : Pinned := { name := "ytcobffkepgogiaagreatdoor", sum := "0d5c163d7ee969657ee3ae6048b27c099dbfa822e1b59a8e9788723489f3aeed", checked := Tryz.checked }
namespace Rows
def none {H : Type} : Left H := { results := [], args := [] }

/- WHAT THE LISTED PACKAGE-LEVEL VARIABLES READ AS WHEN THE CALL BEGINS. Each datum BY PROGRAM (the guide's laid-datum.mjs) off the statement by which the dump's own 'gosem.cut.vars' lays the variable. In a bare row this is a premise. The card (YtcobffkepgogiaaGreatDoorCards.lean) ties it to the program's text. -/
def laid_math_bits_deBruijn32tab {H : Type} : DataW H := .agg [.lit (.int .u8 0), .lit (.int .u8 1), .lit (.int .u8 28), .lit (.int .u8 2), .lit (.int .u8 29), .lit (.int .u8 14), .lit (.int .u8 24), .lit (.int .u8 3), .lit (.int .u8 30), .lit (.int .u8 22), .lit (.int .u8 20), .lit (.int .u8 15), .lit (.int .u8 25), .lit (.int .u8 17), .lit (.int .u8 4), .lit (.int .u8 8), .lit (.int .u8 31), .lit (.int .u8 27), .lit (.int .u8 13), .lit (.int .u8 23), .lit (.int .u8 21), .lit (.int .u8 19), .lit (.int .u8 16), .lit (.int .u8 7), .lit (.int .u8 26), .lit (.int .u8 12), .lit (.int .u8 18), .lit (.int .u8 6), .lit (.int .u8 11), .lit (.int .u8 5), .lit (.int .u8 10), .lit (.int .u8 9)]
def laid_math_bits_deBruijn64tab {H : Type} : DataW H := .agg [.lit (.int .u8 0), .lit (.int .u8 1), .lit (.int .u8 56), .lit (.int .u8 2), .lit (.int .u8 57), .lit (.int .u8 49), .lit (.int .u8 28), .lit (.int .u8 3), .lit (.int .u8 61), .lit (.int .u8 58), .lit (.int .u8 42), .lit (.int .u8 50), .lit (.int .u8 38), .lit (.int .u8 29), .lit (.int .u8 17), .lit (.int .u8 4), .lit (.int .u8 62), .lit (.int .u8 47), .lit (.int .u8 59), .lit (.int .u8 36), .lit (.int .u8 45), .lit (.int .u8 43), .lit (.int .u8 51), .lit (.int .u8 22), .lit (.int .u8 53), .lit (.int .u8 39), .lit (.int .u8 33), .lit (.int .u8 30), .lit (.int .u8 24), .lit (.int .u8 18), .lit (.int .u8 12), .lit (.int .u8 5), .lit (.int .u8 63), .lit (.int .u8 55), .lit (.int .u8 48), .lit (.int .u8 27), .lit (.int .u8 60), .lit (.int .u8 41), .lit (.int .u8 37), .lit (.int .u8 16), .lit (.int .u8 46), .lit (.int .u8 35), .lit (.int .u8 44), .lit (.int .u8 21), .lit (.int .u8 52), .lit (.int .u8 32), .lit (.int .u8 23), .lit (.int .u8 11), .lit (.int .u8 54), .lit (.int .u8 26), .lit (.int .u8 40), .lit (.int .u8 15), .lit (.int .u8 34), .lit (.int .u8 20), .lit (.int .u8 31), .lit (.int .u8 10), .lit (.int .u8 25), .lit (.int .u8 14), .lit (.int .u8 19), .lit (.int .u8 9), .lit (.int .u8 13), .lit (.int .u8 8), .lit (.int .u8 7), .lit (.int .u8 6)]

/-- 'laws.FnPolyAts': WHATEVER THE INPUT: true; the input reads as it did. -/
def fnPolyAtsSpec : ChangeSpec := { name := "fnPolyAts", fn := fun _ => fun
  | [d] => { results := [.lit (.bool true)], args := [d] }
  | _ => none }
def fnPolyAtsRow : OpenClaim := { program := "ytcobffkepgogiaagreatdoor", sum := "0d5c163d7ee969657ee3ae6048b27c099dbfa822e1b59a8e9788723489f3aeed", func := "loop.example/g00382/laws.FnPolyAts", spec := "fnPolyAts", unfollowed := true, recurses := true, named := ["math/bits.deBruijn32tab", "math/bits.deBruijn64tab"], apart := false, laid := [("math/bits.deBruijn32tab", laid_math_bits_deBruijn32tab), ("math/bits.deBruijn64tab", laid_math_bits_deBruijn64tab)] }
def FnPolyAtsSaid : Prop := fnPolyAtsRow.holds Tryz.pinned (OpenSpec.ofChange fnPolyAtsSpec)

/-- ITS FALSE NEIGHBOUR: 'it returns false'. Refute it at one input. -/
def fnPolyAtsWrong : ChangeSpec := { name := "fnPolyAts", fn := fun _ => fun
  | [d] => { results := [.lit (.bool false)], args := [d] }
  | _ => none }
def FnPolyAtsWrongFalsely : Prop := fnPolyAtsRow.holds Tryz.pinned (OpenSpec.ofChange fnPolyAtsWrong)

/-- 'laws.FnDets': WHATEVER THE INPUT: true; the input reads as it did. -/
def fnDetsSpec : ChangeSpec := { name := "fnDets", fn := fun _ => fun
  | [d] => { results := [.lit (.bool true)], args := [d] }
  | _ => none }
def fnDetsRow : OpenClaim := { program := "ytcobffkepgogiaagreatdoor", sum := "0d5c163d7ee969657ee3ae6048b27c099dbfa822e1b59a8e9788723489f3aeed", func := "loop.example/g00382/laws.FnDets", spec := "fnDets", unfollowed := true, recurses := true, named := ["math/bits.deBruijn32tab", "math/bits.deBruijn64tab"], apart := false, laid := [("math/bits.deBruijn32tab", laid_math_bits_deBruijn32tab), ("math/bits.deBruijn64tab", laid_math_bits_deBruijn64tab)] }
def FnDetsSaid : Prop := fnDetsRow.holds Tryz.pinned (OpenSpec.ofChange fnDetsSpec)

/-- ITS FALSE NEIGHBOUR: 'it returns false'. Refute it at one input. -/
def fnDetsWrong : ChangeSpec := { name := "fnDets", fn := fun _ => fun
  | [d] => { results := [.lit (.bool false)], args := [d] }
  | _ => none }
def FnDetsWrongFalsely : Prop := fnDetsRow.holds Tryz.pinned (OpenSpec.ofChange fnDetsWrong)

/-- 'laws.FnIvDivs': WHATEVER THE INPUT: true; the input reads as it did. -/
def fnIvDivsSpec : ChangeSpec := { name := "fnIvDivs", fn := fun _ => fun
  | [d] => { results := [.lit (.bool true)], args := [d] }
  | _ => none }
def fnIvDivsRow : OpenClaim := { program := "ytcobffkepgogiaagreatdoor", sum := "0d5c163d7ee969657ee3ae6048b27c099dbfa822e1b59a8e9788723489f3aeed", func := "loop.example/g00382/laws.FnIvDivs", spec := "fnIvDivs", unfollowed := true, recurses := true, named := ["math/bits.deBruijn32tab", "math/bits.deBruijn64tab"], apart := false, laid := [("math/bits.deBruijn32tab", laid_math_bits_deBruijn32tab), ("math/bits.deBruijn64tab", laid_math_bits_deBruijn64tab)] }
def FnIvDivsSaid : Prop := fnIvDivsRow.holds Tryz.pinned (OpenSpec.ofChange fnIvDivsSpec)

/-- ITS FALSE NEIGHBOUR: 'it returns false'. Refute it at one input. -/
def fnIvDivsWrong : ChangeSpec := { name := "fnIvDivs", fn := fun _ => fun
  | [d] => { results := [.lit (.bool false)], args := [d] }
  | _ => none }
def FnIvDivsWrongFalsely : Prop := fnIvDivsRow.holds Tryz.pinned (OpenSpec.ofChange fnIvDivsWrong)

/-- 'laws.FnRanks': WHATEVER THE INPUT: true; the input reads as it did. -/
def fnRanksSpec : ChangeSpec := { name := "fnRanks", fn := fun _ => fun
  | [d] => { results := [.lit (.bool true)], args := [d] }
  | _ => none }
def fnRanksRow : OpenClaim := { program := "ytcobffkepgogiaagreatdoor", sum := "0d5c163d7ee969657ee3ae6048b27c099dbfa822e1b59a8e9788723489f3aeed", func := "loop.example/g00382/laws.FnRanks", spec := "fnRanks", unfollowed := true, recurses := true, named := ["math/bits.deBruijn32tab", "math/bits.deBruijn64tab"], apart := false, laid := [("math/bits.deBruijn32tab", laid_math_bits_deBruijn32tab), ("math/bits.deBruijn64tab", laid_math_bits_deBruijn64tab)] }
def FnRanksSaid : Prop := fnRanksRow.holds Tryz.pinned (OpenSpec.ofChange fnRanksSpec)

/-- ITS FALSE NEIGHBOUR: 'it returns false'. Refute it at one input. -/
def fnRanksWrong : ChangeSpec := { name := "fnRanks", fn := fun _ => fun
  | [d] => { results := [.lit (.bool false)], args := [d] }
  | _ => none }
def FnRanksWrongFalsely : Prop := fnRanksRow.holds Tryz.pinned (OpenSpec.ofChange fnRanksWrong)

/-- 'laws.FnSolves': WHATEVER THE INPUT: true; the input reads as it did. -/
def fnSolvesSpec : ChangeSpec := { name := "fnSolves", fn := fun _ => fun
  | [d] => { results := [.lit (.bool true)], args := [d] }
  | _ => none }
def fnSolvesRow : OpenClaim := { program := "ytcobffkepgogiaagreatdoor", sum := "0d5c163d7ee969657ee3ae6048b27c099dbfa822e1b59a8e9788723489f3aeed", func := "loop.example/g00382/laws.FnSolves", spec := "fnSolves", unfollowed := true, recurses := true, named := ["math/bits.deBruijn32tab", "math/bits.deBruijn64tab"], apart := false, laid := [("math/bits.deBruijn32tab", laid_math_bits_deBruijn32tab), ("math/bits.deBruijn64tab", laid_math_bits_deBruijn64tab)] }
def FnSolvesSaid : Prop := fnSolvesRow.holds Tryz.pinned (OpenSpec.ofChange fnSolvesSpec)

/-- ITS FALSE NEIGHBOUR: 'it returns false'. Refute it at one input. -/
def fnSolvesWrong : ChangeSpec := { name := "fnSolves", fn := fun _ => fun
  | [d] => { results := [.lit (.bool false)], args := [d] }
  | _ => none }
def FnSolvesWrongFalsely : Prop := fnSolvesRow.holds Tryz.pinned (OpenSpec.ofChange fnSolvesWrong)

/-- 'laws.FnPolys': WHATEVER THE INPUT: true; the input reads as it did. -/
def fnPolysSpec : ChangeSpec := { name := "fnPolys", fn := fun _ => fun
  | [d] => { results := [.lit (.bool true)], args := [d] }
  | _ => none }
def fnPolysRow : OpenClaim := { program := "ytcobffkepgogiaagreatdoor", sum := "0d5c163d7ee969657ee3ae6048b27c099dbfa822e1b59a8e9788723489f3aeed", func := "loop.example/g00382/laws.FnPolys", spec := "fnPolys", unfollowed := true, recurses := true, named := ["math/bits.deBruijn32tab", "math/bits.deBruijn64tab"], apart := false, laid := [("math/bits.deBruijn32tab", laid_math_bits_deBruijn32tab), ("math/bits.deBruijn64tab", laid_math_bits_deBruijn64tab)] }
def FnPolysSaid : Prop := fnPolysRow.holds Tryz.pinned (OpenSpec.ofChange fnPolysSpec)

/-- ITS FALSE NEIGHBOUR: 'it returns false'. Refute it at one input. -/
def fnPolysWrong : ChangeSpec := { name := "fnPolys", fn := fun _ => fun
  | [d] => { results := [.lit (.bool false)], args := [d] }
  | _ => none }
def FnPolysWrongFalsely : Prop := fnPolysRow.holds Tryz.pinned (OpenSpec.ofChange fnPolysWrong)

/-- 'laws.FnInverses': WHATEVER THE INPUT: true; the input reads as it did. -/
def fnInversesSpec : ChangeSpec := { name := "fnInverses", fn := fun _ => fun
  | [d] => { results := [.lit (.bool true)], args := [d] }
  | _ => none }
def fnInversesRow : OpenClaim := { program := "ytcobffkepgogiaagreatdoor", sum := "0d5c163d7ee969657ee3ae6048b27c099dbfa822e1b59a8e9788723489f3aeed", func := "loop.example/g00382/laws.FnInverses", spec := "fnInverses", unfollowed := true, recurses := true, named := ["math/bits.deBruijn32tab", "math/bits.deBruijn64tab"], apart := false, laid := [("math/bits.deBruijn32tab", laid_math_bits_deBruijn32tab), ("math/bits.deBruijn64tab", laid_math_bits_deBruijn64tab)] }
def FnInversesSaid : Prop := fnInversesRow.holds Tryz.pinned (OpenSpec.ofChange fnInversesSpec)

/-- ITS FALSE NEIGHBOUR: 'it returns false'. Refute it at one input. -/
def fnInversesWrong : ChangeSpec := { name := "fnInverses", fn := fun _ => fun
  | [d] => { results := [.lit (.bool false)], args := [d] }
  | _ => none }
def FnInversesWrongFalsely : Prop := fnInversesRow.holds Tryz.pinned (OpenSpec.ofChange fnInversesWrong)

/-- 'laws.FnIvMats': WHATEVER THE INPUT: true; the input reads as it did. -/
def fnIvMatsSpec : ChangeSpec := { name := "fnIvMats", fn := fun _ => fun
  | [d] => { results := [.lit (.bool true)], args := [d] }
  | _ => none }
def fnIvMatsRow : OpenClaim := { program := "ytcobffkepgogiaagreatdoor", sum := "0d5c163d7ee969657ee3ae6048b27c099dbfa822e1b59a8e9788723489f3aeed", func := "loop.example/g00382/laws.FnIvMats", spec := "fnIvMats", unfollowed := true, recurses := true, named := ["math/bits.deBruijn32tab", "math/bits.deBruijn64tab"], apart := false, laid := [("math/bits.deBruijn32tab", laid_math_bits_deBruijn32tab), ("math/bits.deBruijn64tab", laid_math_bits_deBruijn64tab)] }
def FnIvMatsSaid : Prop := fnIvMatsRow.holds Tryz.pinned (OpenSpec.ofChange fnIvMatsSpec)

/-- ITS FALSE NEIGHBOUR: 'it returns false'. Refute it at one input. -/
def fnIvMatsWrong : ChangeSpec := { name := "fnIvMats", fn := fun _ => fun
  | [d] => { results := [.lit (.bool false)], args := [d] }
  | _ => none }
def FnIvMatsWrongFalsely : Prop := fnIvMatsRow.holds Tryz.pinned (OpenSpec.ofChange fnIvMatsWrong)

/-- 'laws.FnRoots': WHATEVER THE INPUT: true; the input reads as it did. -/
def fnRootsSpec : ChangeSpec := { name := "fnRoots", fn := fun _ => fun
  | [d] => { results := [.lit (.bool true)], args := [d] }
  | _ => none }
def fnRootsRow : OpenClaim := { program := "ytcobffkepgogiaagreatdoor", sum := "0d5c163d7ee969657ee3ae6048b27c099dbfa822e1b59a8e9788723489f3aeed", func := "loop.example/g00382/laws.FnRoots", spec := "fnRoots", unfollowed := true, recurses := true, named := ["math/bits.deBruijn32tab", "math/bits.deBruijn64tab"], apart := false, laid := [("math/bits.deBruijn32tab", laid_math_bits_deBruijn32tab), ("math/bits.deBruijn64tab", laid_math_bits_deBruijn64tab)] }
def FnRootsSaid : Prop := fnRootsRow.holds Tryz.pinned (OpenSpec.ofChange fnRootsSpec)

/-- ITS FALSE NEIGHBOUR: 'it returns false'. Refute it at one input. -/
def fnRootsWrong : ChangeSpec := { name := "fnRoots", fn := fun _ => fun
  | [d] => { results := [.lit (.bool false)], args := [d] }
  | _ => none }
def FnRootsWrongFalsely : Prop := fnRootsRow.holds Tryz.pinned (OpenSpec.ofChange fnRootsWrong)

/-- 'laws.FnAdjs': WHATEVER THE INPUT: true; the input reads as it did. -/
def fnAdjsSpec : ChangeSpec := { name := "fnAdjs", fn := fun _ => fun
  | [d] => { results := [.lit (.bool true)], args := [d] }
  | _ => none }
def fnAdjsRow : OpenClaim := { program := "ytcobffkepgogiaagreatdoor", sum := "0d5c163d7ee969657ee3ae6048b27c099dbfa822e1b59a8e9788723489f3aeed", func := "loop.example/g00382/laws.FnAdjs", spec := "fnAdjs", unfollowed := true, recurses := true, named := ["math/bits.deBruijn32tab", "math/bits.deBruijn64tab"], apart := false, laid := [("math/bits.deBruijn32tab", laid_math_bits_deBruijn32tab), ("math/bits.deBruijn64tab", laid_math_bits_deBruijn64tab)] }
def FnAdjsSaid : Prop := fnAdjsRow.holds Tryz.pinned (OpenSpec.ofChange fnAdjsSpec)

/-- ITS FALSE NEIGHBOUR: 'it returns false'. Refute it at one input. -/
def fnAdjsWrong : ChangeSpec := { name := "fnAdjs", fn := fun _ => fun
  | [d] => { results := [.lit (.bool false)], args := [d] }
  | _ => none }
def FnAdjsWrongFalsely : Prop := fnAdjsRow.holds Tryz.pinned (OpenSpec.ofChange fnAdjsWrong)

/-- 'laws.FnIvMatWidths': WHATEVER THE INPUT: true; the input reads as it did. -/
def fnIvMatWidthsSpec : ChangeSpec := { name := "fnIvMatWidths", fn := fun _ => fun
  | [d] => { results := [.lit (.bool true)], args := [d] }
  | _ => none }
def fnIvMatWidthsRow : OpenClaim := { program := "ytcobffkepgogiaagreatdoor", sum := "0d5c163d7ee969657ee3ae6048b27c099dbfa822e1b59a8e9788723489f3aeed", func := "loop.example/g00382/laws.FnIvMatWidths", spec := "fnIvMatWidths", unfollowed := true, recurses := true, named := ["math/bits.deBruijn32tab", "math/bits.deBruijn64tab"], apart := false, laid := [("math/bits.deBruijn32tab", laid_math_bits_deBruijn32tab), ("math/bits.deBruijn64tab", laid_math_bits_deBruijn64tab)] }
def FnIvMatWidthsSaid : Prop := fnIvMatWidthsRow.holds Tryz.pinned (OpenSpec.ofChange fnIvMatWidthsSpec)

/-- ITS FALSE NEIGHBOUR: 'it returns false'. Refute it at one input. -/
def fnIvMatWidthsWrong : ChangeSpec := { name := "fnIvMatWidths", fn := fun _ => fun
  | [d] => { results := [.lit (.bool false)], args := [d] }
  | _ => none }
def FnIvMatWidthsWrongFalsely : Prop := fnIvMatWidthsRow.holds Tryz.pinned (OpenSpec.ofChange fnIvMatWidthsWrong)

/- THE SECOND FORM. 'bulk': how many values and letters a reading holds, each counted each time it is reached (what is shared counts as often as it is met; a slice's spare places count too). A statement '..UptoSaid' is the law's where the arguments, and the package variables that the reading takes, are together of bulk at most 1048576: NARROWER than '..Said'. Prove '..Said' where nothing that the law and all that it calls make is longer than what came in: it says more and counts as full. Else prove '..UptoSaid'. A law counts once. -/
mutual
def uptoBulk {H : Type} : DataW H → Nat
  | .lit (.string bytes) => bytes.length + 1
  | .lit _ => 1
  | .nil => 1
  | .ptr d => uptoBulk d + 1
  | .slice elems spare => uptoBulkAll elems + uptoBulkAll spare + 1
  | .agg parts => uptoBulkAll parts + 1
  | .iface _ d => uptoBulk d + 1
  | .map entries => uptoBulkEntries entries + 1
  | .held _ => 1
def uptoBulkAll {H : Type} : List (DataW H) → Nat
  | [] => 0
  | d :: r => uptoBulk d + uptoBulkAll r
def uptoBulkEntries {H : Type} : List (Lit × DataW H) → Nat
  | [] => 0
  | x :: r => uptoBulkEntry x + uptoBulkEntries r
def uptoBulkEntry {H : Type} : Lit × DataW H → Nat
  | (.string bytes, d) => bytes.length + uptoBulk d + 1
  | (_, d) => uptoBulk d + 1
 end
def uptoSmall : (H : Type) → List (DataW H) → Bool := fun _ ds => decide (uptoBulkAll ds ≤ 1048576)
def OpenSpec.upto (s : _root_.Go.ChangeSpec) : _root_.Go.OpenSpec := { _root_.Go.OpenSpec.ofChange s with cond := some uptoSmall }

/-- 'laws.FnPolyAts', WHERE WHAT IT READS IS OF BULK AT MOST 1048576: true; the input reads as it did. -/
def fnPolyAtsUptoRow : OpenClaim := { program := "ytcobffkepgogiaagreatdoor", sum := "0d5c163d7ee969657ee3ae6048b27c099dbfa822e1b59a8e9788723489f3aeed", func := "loop.example/g00382/laws.FnPolyAts", spec := "fnPolyAts", unfollowed := true, recurses := true, named := ["math/bits.deBruijn32tab", "math/bits.deBruijn64tab"], apart := false, laid := [("math/bits.deBruijn32tab", laid_math_bits_deBruijn32tab), ("math/bits.deBruijn64tab", laid_math_bits_deBruijn64tab)], narrowed := true }
def FnPolyAtsUptoSaid : Prop := fnPolyAtsUptoRow.holds Tryz.pinned (OpenSpec.upto fnPolyAtsSpec)

/-- 'laws.FnDets', WHERE WHAT IT READS IS OF BULK AT MOST 1048576: true; the input reads as it did. -/
def fnDetsUptoRow : OpenClaim := { program := "ytcobffkepgogiaagreatdoor", sum := "0d5c163d7ee969657ee3ae6048b27c099dbfa822e1b59a8e9788723489f3aeed", func := "loop.example/g00382/laws.FnDets", spec := "fnDets", unfollowed := true, recurses := true, named := ["math/bits.deBruijn32tab", "math/bits.deBruijn64tab"], apart := false, laid := [("math/bits.deBruijn32tab", laid_math_bits_deBruijn32tab), ("math/bits.deBruijn64tab", laid_math_bits_deBruijn64tab)], narrowed := true }
def FnDetsUptoSaid : Prop := fnDetsUptoRow.holds Tryz.pinned (OpenSpec.upto fnDetsSpec)

/-- 'laws.FnIvDivs', WHERE WHAT IT READS IS OF BULK AT MOST 1048576: true; the input reads as it did. -/
def fnIvDivsUptoRow : OpenClaim := { program := "ytcobffkepgogiaagreatdoor", sum := "0d5c163d7ee969657ee3ae6048b27c099dbfa822e1b59a8e9788723489f3aeed", func := "loop.example/g00382/laws.FnIvDivs", spec := "fnIvDivs", unfollowed := true, recurses := true, named := ["math/bits.deBruijn32tab", "math/bits.deBruijn64tab"], apart := false, laid := [("math/bits.deBruijn32tab", laid_math_bits_deBruijn32tab), ("math/bits.deBruijn64tab", laid_math_bits_deBruijn64tab)], narrowed := true }
def FnIvDivsUptoSaid : Prop := fnIvDivsUptoRow.holds Tryz.pinned (OpenSpec.upto fnIvDivsSpec)

/-- 'laws.FnRanks', WHERE WHAT IT READS IS OF BULK AT MOST 1048576: true; the input reads as it did. -/
def fnRanksUptoRow : OpenClaim := { program := "ytcobffkepgogiaagreatdoor", sum := "0d5c163d7ee969657ee3ae6048b27c099dbfa822e1b59a8e9788723489f3aeed", func := "loop.example/g00382/laws.FnRanks", spec := "fnRanks", unfollowed := true, recurses := true, named := ["math/bits.deBruijn32tab", "math/bits.deBruijn64tab"], apart := false, laid := [("math/bits.deBruijn32tab", laid_math_bits_deBruijn32tab), ("math/bits.deBruijn64tab", laid_math_bits_deBruijn64tab)], narrowed := true }
def FnRanksUptoSaid : Prop := fnRanksUptoRow.holds Tryz.pinned (OpenSpec.upto fnRanksSpec)

/-- 'laws.FnSolves', WHERE WHAT IT READS IS OF BULK AT MOST 1048576: true; the input reads as it did. -/
def fnSolvesUptoRow : OpenClaim := { program := "ytcobffkepgogiaagreatdoor", sum := "0d5c163d7ee969657ee3ae6048b27c099dbfa822e1b59a8e9788723489f3aeed", func := "loop.example/g00382/laws.FnSolves", spec := "fnSolves", unfollowed := true, recurses := true, named := ["math/bits.deBruijn32tab", "math/bits.deBruijn64tab"], apart := false, laid := [("math/bits.deBruijn32tab", laid_math_bits_deBruijn32tab), ("math/bits.deBruijn64tab", laid_math_bits_deBruijn64tab)], narrowed := true }
def FnSolvesUptoSaid : Prop := fnSolvesUptoRow.holds Tryz.pinned (OpenSpec.upto fnSolvesSpec)

/-- 'laws.FnPolys', WHERE WHAT IT READS IS OF BULK AT MOST 1048576: true; the input reads as it did. -/
def fnPolysUptoRow : OpenClaim := { program := "ytcobffkepgogiaagreatdoor", sum := "0d5c163d7ee969657ee3ae6048b27c099dbfa822e1b59a8e9788723489f3aeed", func := "loop.example/g00382/laws.FnPolys", spec := "fnPolys", unfollowed := true, recurses := true, named := ["math/bits.deBruijn32tab", "math/bits.deBruijn64tab"], apart := false, laid := [("math/bits.deBruijn32tab", laid_math_bits_deBruijn32tab), ("math/bits.deBruijn64tab", laid_math_bits_deBruijn64tab)], narrowed := true }
def FnPolysUptoSaid : Prop := fnPolysUptoRow.holds Tryz.pinned (OpenSpec.upto fnPolysSpec)

/-- 'laws.FnInverses', WHERE WHAT IT READS IS OF BULK AT MOST 1048576: true; the input reads as it did. -/
def fnInversesUptoRow : OpenClaim := { program := "ytcobffkepgogiaagreatdoor", sum := "0d5c163d7ee969657ee3ae6048b27c099dbfa822e1b59a8e9788723489f3aeed", func := "loop.example/g00382/laws.FnInverses", spec := "fnInverses", unfollowed := true, recurses := true, named := ["math/bits.deBruijn32tab", "math/bits.deBruijn64tab"], apart := false, laid := [("math/bits.deBruijn32tab", laid_math_bits_deBruijn32tab), ("math/bits.deBruijn64tab", laid_math_bits_deBruijn64tab)], narrowed := true }
def FnInversesUptoSaid : Prop := fnInversesUptoRow.holds Tryz.pinned (OpenSpec.upto fnInversesSpec)

/-- 'laws.FnIvMats', WHERE WHAT IT READS IS OF BULK AT MOST 1048576: true; the input reads as it did. -/
def fnIvMatsUptoRow : OpenClaim := { program := "ytcobffkepgogiaagreatdoor", sum := "0d5c163d7ee969657ee3ae6048b27c099dbfa822e1b59a8e9788723489f3aeed", func := "loop.example/g00382/laws.FnIvMats", spec := "fnIvMats", unfollowed := true, recurses := true, named := ["math/bits.deBruijn32tab", "math/bits.deBruijn64tab"], apart := false, laid := [("math/bits.deBruijn32tab", laid_math_bits_deBruijn32tab), ("math/bits.deBruijn64tab", laid_math_bits_deBruijn64tab)], narrowed := true }
def FnIvMatsUptoSaid : Prop := fnIvMatsUptoRow.holds Tryz.pinned (OpenSpec.upto fnIvMatsSpec)

/-- 'laws.FnRoots', WHERE WHAT IT READS IS OF BULK AT MOST 1048576: true; the input reads as it did. -/
def fnRootsUptoRow : OpenClaim := { program := "ytcobffkepgogiaagreatdoor", sum := "0d5c163d7ee969657ee3ae6048b27c099dbfa822e1b59a8e9788723489f3aeed", func := "loop.example/g00382/laws.FnRoots", spec := "fnRoots", unfollowed := true, recurses := true, named := ["math/bits.deBruijn32tab", "math/bits.deBruijn64tab"], apart := false, laid := [("math/bits.deBruijn32tab", laid_math_bits_deBruijn32tab), ("math/bits.deBruijn64tab", laid_math_bits_deBruijn64tab)], narrowed := true }
def FnRootsUptoSaid : Prop := fnRootsUptoRow.holds Tryz.pinned (OpenSpec.upto fnRootsSpec)

/-- 'laws.FnAdjs', WHERE WHAT IT READS IS OF BULK AT MOST 1048576: true; the input reads as it did. -/
def fnAdjsUptoRow : OpenClaim := { program := "ytcobffkepgogiaagreatdoor", sum := "0d5c163d7ee969657ee3ae6048b27c099dbfa822e1b59a8e9788723489f3aeed", func := "loop.example/g00382/laws.FnAdjs", spec := "fnAdjs", unfollowed := true, recurses := true, named := ["math/bits.deBruijn32tab", "math/bits.deBruijn64tab"], apart := false, laid := [("math/bits.deBruijn32tab", laid_math_bits_deBruijn32tab), ("math/bits.deBruijn64tab", laid_math_bits_deBruijn64tab)], narrowed := true }
def FnAdjsUptoSaid : Prop := fnAdjsUptoRow.holds Tryz.pinned (OpenSpec.upto fnAdjsSpec)

/-- 'laws.FnIvMatWidths', WHERE WHAT IT READS IS OF BULK AT MOST 1048576: true; the input reads as it did. -/
def fnIvMatWidthsUptoRow : OpenClaim := { program := "ytcobffkepgogiaagreatdoor", sum := "0d5c163d7ee969657ee3ae6048b27c099dbfa822e1b59a8e9788723489f3aeed", func := "loop.example/g00382/laws.FnIvMatWidths", spec := "fnIvMatWidths", unfollowed := true, recurses := true, named := ["math/bits.deBruijn32tab", "math/bits.deBruijn64tab"], apart := false, laid := [("math/bits.deBruijn32tab", laid_math_bits_deBruijn32tab), ("math/bits.deBruijn64tab", laid_math_bits_deBruijn64tab)], narrowed := true }
def FnIvMatWidthsUptoSaid : Prop := fnIvMatWidthsUptoRow.holds Tryz.pinned (OpenSpec.upto fnIvMatWidthsSpec)

end Rows
end Go.Proofs.YtcobffkepgogiaaGreatDoor
