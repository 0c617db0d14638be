/-
  NARROWER THAN 'FOR EVERY INPUT', by the rows' own cells (each row's printed sentence says how): FnExpTwice: laid · FnExpBack: laid · FnRanks: laid · FnRoots: laid · FnIvMatWidths: laid · FnExactRootMat: laid · FnExactExpNum: laid · FnExactExpHold: laid · FnExactExpMat: laid.
  DERIVED. THE GIVEN ROWS OF THIS SEAT. 9 by the template 'for every input the law returns true; each argument reads behind the call as it read before'; 0 by the template 'total and deterministic' (their statements: YtgkehjnacdccfaaGreatDoorTotals.lean).
  GIVEN WITH THE SEED: the statements are not yours to turn. If you find one false, say at which input.
  Laid BY PROGRAM, IN A SANDBOX (cutbox-rows.mjs): the forced cells as the released guide's own fill.sh prints them over the translation 4aee55e48cf76a78… (all of the seat's roots in one cut). By AI agents, Wed Nov 11 2026. No macro, syntax, notation, axiom, sorry.
-/
import Derived.Test.YtgkehjnacdccfaaGreatDoorChecked
import GoSem.Claim
import GoSem.ClaimJoined
import GoSem.ClaimMapViews
import Derived.JoinedTies
import Derived.KernelRfl
namespace Go.Proofs.YtgkehjnacdccfaaGreatDoor
/- THE CELL 'sum', in the pinned program and in every row, IS THE sha256 OF THE DUMP (.gsa) THAT YtgkehjnacdccfaaGreatDoorProg.lean LOADS. Nothing in Lean hashes anything: it is a label: what it is worth is what the hold of that sum in a sandbox is worth. -/
noncomputable def Tryz.pinned : Pinned := { name := "ytgkehjnacdccfaagreatdoor", sum := "4aee55e48cf76a782a46ffa29a8d63afac3a942439926d15195b9a09356cde07", checked := Tryz.checked }
namespace Rows
def none {H : Type} : Left H := { results := [], args := [] }

/- WHAT THE LISTED PACKAGE-LEVEL VARIABLES READ AS WHEN THE CALL BEGINS. Each datum BY PROGRAM (the guide's laid-datum.mjs) off the statement by which the dump's own 'gosem.cut.vars' lays the variable. In a bare row this is a premise. The card (YtgkehjnacdccfaaGreatDoorCards.lean) ties it to the program's text. -/
def laid_math_bits_deBruijn32tab {H : Type} : DataW H := .agg [.lit (.int .u8 0), .lit (.int .u8 1), .lit (.int .u8 28), .lit (.int .u8 2), .lit (.int .u8 29), .lit (.int .u8 14), .lit (.int .u8 24), .lit (.int .u8 3), .lit (.int .u8 30), .lit (.int .u8 22), .lit (.int .u8 20), .lit (.int .u8 15), .lit (.int .u8 25), .lit (.int .u8 17), .lit (.int .u8 4), .lit (.int .u8 8), .lit (.int .u8 31), .lit (.int .u8 27), .lit (.int .u8 13), .lit (.int .u8 23), .lit (.int .u8 21), .lit (.int .u8 19), .lit (.int .u8 16), .lit (.int .u8 7), .lit (.int .u8 26), .lit (.int .u8 12), .lit (.int .u8 18), .lit (.int .u8 6), .lit (.int .u8 11), .lit (.int .u8 5), .lit (.int .u8 10), .lit (.int .u8 9)]
def laid_math_bits_deBruijn64tab {H : Type} : DataW H := .agg [.lit (.int .u8 0), .lit (.int .u8 1), .lit (.int .u8 56), .lit (.int .u8 2), .lit (.int .u8 57), .lit (.int .u8 49), .lit (.int .u8 28), .lit (.int .u8 3), .lit (.int .u8 61), .lit (.int .u8 58), .lit (.int .u8 42), .lit (.int .u8 50), .lit (.int .u8 38), .lit (.int .u8 29), .lit (.int .u8 17), .lit (.int .u8 4), .lit (.int .u8 62), .lit (.int .u8 47), .lit (.int .u8 59), .lit (.int .u8 36), .lit (.int .u8 45), .lit (.int .u8 43), .lit (.int .u8 51), .lit (.int .u8 22), .lit (.int .u8 53), .lit (.int .u8 39), .lit (.int .u8 33), .lit (.int .u8 30), .lit (.int .u8 24), .lit (.int .u8 18), .lit (.int .u8 12), .lit (.int .u8 5), .lit (.int .u8 63), .lit (.int .u8 55), .lit (.int .u8 48), .lit (.int .u8 27), .lit (.int .u8 60), .lit (.int .u8 41), .lit (.int .u8 37), .lit (.int .u8 16), .lit (.int .u8 46), .lit (.int .u8 35), .lit (.int .u8 44), .lit (.int .u8 21), .lit (.int .u8 52), .lit (.int .u8 32), .lit (.int .u8 23), .lit (.int .u8 11), .lit (.int .u8 54), .lit (.int .u8 26), .lit (.int .u8 40), .lit (.int .u8 15), .lit (.int .u8 34), .lit (.int .u8 20), .lit (.int .u8 31), .lit (.int .u8 10), .lit (.int .u8 25), .lit (.int .u8 14), .lit (.int .u8 19), .lit (.int .u8 9), .lit (.int .u8 13), .lit (.int .u8 8), .lit (.int .u8 7), .lit (.int .u8 6)]

/-- 'laws.FnExpTwice': WHATEVER THE INPUT: true; the input reads as it did. -/
def fnExpTwiceSpec : ChangeSpec := { name := "fnExpTwice", fn := fun _ => fun
  | [d] => { results := [.lit (.bool true)], args := [d] }
  | _ => none }
def fnExpTwiceRow : OpenClaim := { program := "ytgkehjnacdccfaagreatdoor", sum := "4aee55e48cf76a782a46ffa29a8d63afac3a942439926d15195b9a09356cde07", func := "loop.example/g00382/laws.FnExpTwice", spec := "fnExpTwice", unfollowed := true, recurses := true, named := ["math/bits.deBruijn32tab", "math/bits.deBruijn64tab"], apart := false, laid := [("math/bits.deBruijn32tab", laid_math_bits_deBruijn32tab), ("math/bits.deBruijn64tab", laid_math_bits_deBruijn64tab)] }
def FnExpTwiceSaid : Prop := fnExpTwiceRow.holds Tryz.pinned (OpenSpec.ofChange fnExpTwiceSpec)

/-- ITS FALSE NEIGHBOUR: 'it returns false'. Refute it at one input. -/
def fnExpTwiceWrong : ChangeSpec := { name := "fnExpTwice", fn := fun _ => fun
  | [d] => { results := [.lit (.bool false)], args := [d] }
  | _ => none }
def FnExpTwiceWrongFalsely : Prop := fnExpTwiceRow.holds Tryz.pinned (OpenSpec.ofChange fnExpTwiceWrong)

/-- 'laws.FnExpBack': WHATEVER THE INPUT: true; the input reads as it did. -/
def fnExpBackSpec : ChangeSpec := { name := "fnExpBack", fn := fun _ => fun
  | [d] => { results := [.lit (.bool true)], args := [d] }
  | _ => none }
def fnExpBackRow : OpenClaim := { program := "ytgkehjnacdccfaagreatdoor", sum := "4aee55e48cf76a782a46ffa29a8d63afac3a942439926d15195b9a09356cde07", func := "loop.example/g00382/laws.FnExpBack", spec := "fnExpBack", unfollowed := true, recurses := true, named := ["math/bits.deBruijn32tab", "math/bits.deBruijn64tab"], apart := false, laid := [("math/bits.deBruijn32tab", laid_math_bits_deBruijn32tab), ("math/bits.deBruijn64tab", laid_math_bits_deBruijn64tab)] }
def FnExpBackSaid : Prop := fnExpBackRow.holds Tryz.pinned (OpenSpec.ofChange fnExpBackSpec)

/-- ITS FALSE NEIGHBOUR: 'it returns false'. Refute it at one input. -/
def fnExpBackWrong : ChangeSpec := { name := "fnExpBack", fn := fun _ => fun
  | [d] => { results := [.lit (.bool false)], args := [d] }
  | _ => none }
def FnExpBackWrongFalsely : Prop := fnExpBackRow.holds Tryz.pinned (OpenSpec.ofChange fnExpBackWrong)

/-- 'laws.FnRanks': WHATEVER THE INPUT: true; the input reads as it did. -/
def fnRanksSpec : ChangeSpec := { name := "fnRanks", fn := fun _ => fun
  | [d] => { results := [.lit (.bool true)], args := [d] }
  | _ => none }
def fnRanksRow : OpenClaim := { program := "ytgkehjnacdccfaagreatdoor", sum := "4aee55e48cf76a782a46ffa29a8d63afac3a942439926d15195b9a09356cde07", func := "loop.example/g00382/laws.FnRanks", spec := "fnRanks", unfollowed := true, recurses := true, named := ["math/bits.deBruijn32tab", "math/bits.deBruijn64tab"], apart := false, laid := [("math/bits.deBruijn32tab", laid_math_bits_deBruijn32tab), ("math/bits.deBruijn64tab", laid_math_bits_deBruijn64tab)] }
def FnRanksSaid : Prop := fnRanksRow.holds Tryz.pinned (OpenSpec.ofChange fnRanksSpec)

/-- ITS FALSE NEIGHBOUR: 'it returns false'. Refute it at one input. -/
def fnRanksWrong : ChangeSpec := { name := "fnRanks", fn := fun _ => fun
  | [d] => { results := [.lit (.bool false)], args := [d] }
  | _ => none }
def FnRanksWrongFalsely : Prop := fnRanksRow.holds Tryz.pinned (OpenSpec.ofChange fnRanksWrong)

/-- 'laws.FnRoots': WHATEVER THE INPUT: true; the input reads as it did. -/
def fnRootsSpec : ChangeSpec := { name := "fnRoots", fn := fun _ => fun
  | [d] => { results := [.lit (.bool true)], args := [d] }
  | _ => none }
def fnRootsRow : OpenClaim := { program := "ytgkehjnacdccfaagreatdoor", sum := "4aee55e48cf76a782a46ffa29a8d63afac3a942439926d15195b9a09356cde07", func := "loop.example/g00382/laws.FnRoots", spec := "fnRoots", unfollowed := true, recurses := true, named := ["math/bits.deBruijn32tab", "math/bits.deBruijn64tab"], apart := false, laid := [("math/bits.deBruijn32tab", laid_math_bits_deBruijn32tab), ("math/bits.deBruijn64tab", laid_math_bits_deBruijn64tab)] }
def FnRootsSaid : Prop := fnRootsRow.holds Tryz.pinned (OpenSpec.ofChange fnRootsSpec)

/-- ITS FALSE NEIGHBOUR: 'it returns false'. Refute it at one input. -/
def fnRootsWrong : ChangeSpec := { name := "fnRoots", fn := fun _ => fun
  | [d] => { results := [.lit (.bool false)], args := [d] }
  | _ => none }
def FnRootsWrongFalsely : Prop := fnRootsRow.holds Tryz.pinned (OpenSpec.ofChange fnRootsWrong)

/-- 'laws.FnIvMatWidths': WHATEVER THE INPUT: true; the input reads as it did. -/
def fnIvMatWidthsSpec : ChangeSpec := { name := "fnIvMatWidths", fn := fun _ => fun
  | [d] => { results := [.lit (.bool true)], args := [d] }
  | _ => none }
def fnIvMatWidthsRow : OpenClaim := { program := "ytgkehjnacdccfaagreatdoor", sum := "4aee55e48cf76a782a46ffa29a8d63afac3a942439926d15195b9a09356cde07", func := "loop.example/g00382/laws.FnIvMatWidths", spec := "fnIvMatWidths", unfollowed := true, recurses := true, named := ["math/bits.deBruijn32tab", "math/bits.deBruijn64tab"], apart := false, laid := [("math/bits.deBruijn32tab", laid_math_bits_deBruijn32tab), ("math/bits.deBruijn64tab", laid_math_bits_deBruijn64tab)] }
def FnIvMatWidthsSaid : Prop := fnIvMatWidthsRow.holds Tryz.pinned (OpenSpec.ofChange fnIvMatWidthsSpec)

/-- ITS FALSE NEIGHBOUR: 'it returns false'. Refute it at one input. -/
def fnIvMatWidthsWrong : ChangeSpec := { name := "fnIvMatWidths", fn := fun _ => fun
  | [d] => { results := [.lit (.bool false)], args := [d] }
  | _ => none }
def FnIvMatWidthsWrongFalsely : Prop := fnIvMatWidthsRow.holds Tryz.pinned (OpenSpec.ofChange fnIvMatWidthsWrong)

/-- 'laws.FnExactRootMat': WHATEVER THE INPUT: true; the input reads as it did. -/
def fnExactRootMatSpec : ChangeSpec := { name := "fnExactRootMat", fn := fun _ => fun
  | [d1, d2, d3] => { results := [.lit (.bool true)], args := [d1, d2, d3] }
  | _ => none }
def fnExactRootMatRow : OpenClaim := { program := "ytgkehjnacdccfaagreatdoor", sum := "4aee55e48cf76a782a46ffa29a8d63afac3a942439926d15195b9a09356cde07", func := "loop.example/g00382/laws.FnExactRootMat", spec := "fnExactRootMat", unfollowed := true, recurses := true, named := ["math/bits.deBruijn32tab", "math/bits.deBruijn64tab"], apart := false, laid := [("math/bits.deBruijn32tab", laid_math_bits_deBruijn32tab), ("math/bits.deBruijn64tab", laid_math_bits_deBruijn64tab)] }
def FnExactRootMatSaid : Prop := fnExactRootMatRow.holds Tryz.pinned (OpenSpec.ofChange fnExactRootMatSpec)

/-- ITS FALSE NEIGHBOUR: 'it returns false'. Refute it at one input. -/
def fnExactRootMatWrong : ChangeSpec := { name := "fnExactRootMat", fn := fun _ => fun
  | [d1, d2, d3] => { results := [.lit (.bool false)], args := [d1, d2, d3] }
  | _ => none }
def FnExactRootMatWrongFalsely : Prop := fnExactRootMatRow.holds Tryz.pinned (OpenSpec.ofChange fnExactRootMatWrong)

/-- 'laws.FnExactExpNum': WHATEVER THE INPUT: true; the input reads as it did. -/
def fnExactExpNumSpec : ChangeSpec := { name := "fnExactExpNum", fn := fun _ => fun
  | [d1, d2] => { results := [.lit (.bool true)], args := [d1, d2] }
  | _ => none }
def fnExactExpNumRow : OpenClaim := { program := "ytgkehjnacdccfaagreatdoor", sum := "4aee55e48cf76a782a46ffa29a8d63afac3a942439926d15195b9a09356cde07", func := "loop.example/g00382/laws.FnExactExpNum", spec := "fnExactExpNum", unfollowed := true, recurses := true, named := ["math/bits.deBruijn32tab", "math/bits.deBruijn64tab"], apart := false, laid := [("math/bits.deBruijn32tab", laid_math_bits_deBruijn32tab), ("math/bits.deBruijn64tab", laid_math_bits_deBruijn64tab)] }
def FnExactExpNumSaid : Prop := fnExactExpNumRow.holds Tryz.pinned (OpenSpec.ofChange fnExactExpNumSpec)

/-- ITS FALSE NEIGHBOUR: 'it returns false'. Refute it at one input. -/
def fnExactExpNumWrong : ChangeSpec := { name := "fnExactExpNum", fn := fun _ => fun
  | [d1, d2] => { results := [.lit (.bool false)], args := [d1, d2] }
  | _ => none }
def FnExactExpNumWrongFalsely : Prop := fnExactExpNumRow.holds Tryz.pinned (OpenSpec.ofChange fnExactExpNumWrong)

/-- 'laws.FnExactExpHold': WHATEVER THE INPUT: true; the input reads as it did. -/
def fnExactExpHoldSpec : ChangeSpec := { name := "fnExactExpHold", fn := fun _ => fun
  | [d1, d2] => { results := [.lit (.bool true)], args := [d1, d2] }
  | _ => none }
def fnExactExpHoldRow : OpenClaim := { program := "ytgkehjnacdccfaagreatdoor", sum := "4aee55e48cf76a782a46ffa29a8d63afac3a942439926d15195b9a09356cde07", func := "loop.example/g00382/laws.FnExactExpHold", spec := "fnExactExpHold", unfollowed := true, recurses := true, named := ["math/bits.deBruijn32tab", "math/bits.deBruijn64tab"], apart := false, laid := [("math/bits.deBruijn32tab", laid_math_bits_deBruijn32tab), ("math/bits.deBruijn64tab", laid_math_bits_deBruijn64tab)] }
def FnExactExpHoldSaid : Prop := fnExactExpHoldRow.holds Tryz.pinned (OpenSpec.ofChange fnExactExpHoldSpec)

/-- ITS FALSE NEIGHBOUR: 'it returns false'. Refute it at one input. -/
def fnExactExpHoldWrong : ChangeSpec := { name := "fnExactExpHold", fn := fun _ => fun
  | [d1, d2] => { results := [.lit (.bool false)], args := [d1, d2] }
  | _ => none }
def FnExactExpHoldWrongFalsely : Prop := fnExactExpHoldRow.holds Tryz.pinned (OpenSpec.ofChange fnExactExpHoldWrong)

/-- 'laws.FnExactExpMat': WHATEVER THE INPUT: true; the input reads as it did. -/
def fnExactExpMatSpec : ChangeSpec := { name := "fnExactExpMat", fn := fun _ => fun
  | [d1, d2] => { results := [.lit (.bool true)], args := [d1, d2] }
  | _ => none }
def fnExactExpMatRow : OpenClaim := { program := "ytgkehjnacdccfaagreatdoor", sum := "4aee55e48cf76a782a46ffa29a8d63afac3a942439926d15195b9a09356cde07", func := "loop.example/g00382/laws.FnExactExpMat", spec := "fnExactExpMat", unfollowed := true, recurses := true, named := ["math/bits.deBruijn32tab", "math/bits.deBruijn64tab"], apart := false, laid := [("math/bits.deBruijn32tab", laid_math_bits_deBruijn32tab), ("math/bits.deBruijn64tab", laid_math_bits_deBruijn64tab)] }
def FnExactExpMatSaid : Prop := fnExactExpMatRow.holds Tryz.pinned (OpenSpec.ofChange fnExactExpMatSpec)

/-- ITS FALSE NEIGHBOUR: 'it returns false'. Refute it at one input. -/
def fnExactExpMatWrong : ChangeSpec := { name := "fnExactExpMat", fn := fun _ => fun
  | [d1, d2] => { results := [.lit (.bool false)], args := [d1, d2] }
  | _ => none }
def FnExactExpMatWrongFalsely : Prop := fnExactExpMatRow.holds Tryz.pinned (OpenSpec.ofChange fnExactExpMatWrong)

/- THE SECOND FORM. 'bulk': how many values and letters a reading holds, each counted each time it is reached (what is shared counts as often as it is met; a slice's spare places count too). A statement '..UptoSaid' is the law's where the arguments, and the package variables that the reading takes, are together of bulk at most 1048576: NARROWER than '..Said'. Prove '..Said' where nothing that the law and all that it calls make is longer than what came in: it says more and counts as full. Else prove '..UptoSaid'. A law counts once. -/
mutual
def uptoBulk {H : Type} : DataW H → Nat
  | .lit (.string bytes) => bytes.length + 1
  | .lit _ => 1
  | .nil => 1
  | .ptr d => uptoBulk d + 1
  | .slice elems spare => uptoBulkAll elems + uptoBulkAll spare + 1
  | .agg parts => uptoBulkAll parts + 1
  | .iface _ d => uptoBulk d + 1
  | .map entries => uptoBulkEntries entries + 1
  | .held _ => 1
def uptoBulkAll {H : Type} : List (DataW H) → Nat
  | [] => 0
  | d :: r => uptoBulk d + uptoBulkAll r
def uptoBulkEntries {H : Type} : List (Lit × DataW H) → Nat
  | [] => 0
  | x :: r => uptoBulkEntry x + uptoBulkEntries r
def uptoBulkEntry {H : Type} : Lit × DataW H → Nat
  | (.string bytes, d) => bytes.length + uptoBulk d + 1
  | (_, d) => uptoBulk d + 1
 end
def uptoSmall : (H : Type) → List (DataW H) → Bool := fun _ ds => decide (uptoBulkAll ds ≤ 1048576)
def OpenSpec.upto (s : _root_.Go.ChangeSpec) : _root_.Go.OpenSpec := { _root_.Go.OpenSpec.ofChange s with cond := some uptoSmall }

/-- 'laws.FnExpTwice', WHERE WHAT IT READS IS OF BULK AT MOST 1048576: true; the input reads as it did. -/
def fnExpTwiceUptoRow : OpenClaim := { program := "ytgkehjnacdccfaagreatdoor", sum := "4aee55e48cf76a782a46ffa29a8d63afac3a942439926d15195b9a09356cde07", func := "loop.example/g00382/laws.FnExpTwice", spec := "fnExpTwice", unfollowed := true, recurses := true, named := ["math/bits.deBruijn32tab", "math/bits.deBruijn64tab"], apart := false, laid := [("math/bits.deBruijn32tab", laid_math_bits_deBruijn32tab), ("math/bits.deBruijn64tab", laid_math_bits_deBruijn64tab)], narrowed := true }
def FnExpTwiceUptoSaid : Prop := fnExpTwiceUptoRow.holds Tryz.pinned (OpenSpec.upto fnExpTwiceSpec)

/-- 'laws.FnExpBack', WHERE WHAT IT READS IS OF BULK AT MOST 1048576: true; the input reads as it did. -/
def fnExpBackUptoRow : OpenClaim := { program := "ytgkehjnacdccfaagreatdoor", sum := "4aee55e48cf76a782a46ffa29a8d63afac3a942439926d15195b9a09356cde07", func := "loop.example/g00382/laws.FnExpBack", spec := "fnExpBack", unfollowed := true, recurses := true, named := ["math/bits.deBruijn32tab", "math/bits.deBruijn64tab"], apart := false, laid := [("math/bits.deBruijn32tab", laid_math_bits_deBruijn32tab), ("math/bits.deBruijn64tab", laid_math_bits_deBruijn64tab)], narrowed := true }
def FnExpBackUptoSaid : Prop := fnExpBackUptoRow.holds Tryz.pinned (OpenSpec.upto fnExpBackSpec)

/-- 'laws.FnRanks', WHERE WHAT IT READS IS OF BULK AT MOST 1048576: true; the input reads as it did. -/
def fnRanksUptoRow : OpenClaim := { program := "ytgkehjnacdccfaagreatdoor", sum := "4aee55e48cf76a782a46ffa29a8d63afac3a942439926d15195b9a09356cde07", func := "loop.example/g00382/laws.FnRanks", spec := "fnRanks", unfollowed := true, recurses := true, named := ["math/bits.deBruijn32tab", "math/bits.deBruijn64tab"], apart := false, laid := [("math/bits.deBruijn32tab", laid_math_bits_deBruijn32tab), ("math/bits.deBruijn64tab", laid_math_bits_deBruijn64tab)], narrowed := true }
def FnRanksUptoSaid : Prop := fnRanksUptoRow.holds Tryz.pinned (OpenSpec.upto fnRanksSpec)

/-- 'laws.FnRoots', WHERE WHAT IT READS IS OF BULK AT MOST 1048576: true; the input reads as it did. -/
def fnRootsUptoRow : OpenClaim := { program := "ytgkehjnacdccfaagreatdoor", sum := "4aee55e48cf76a782a46ffa29a8d63afac3a942439926d15195b9a09356cde07", func := "loop.example/g00382/laws.FnRoots", spec := "fnRoots", unfollowed := true, recurses := true, named := ["math/bits.deBruijn32tab", "math/bits.deBruijn64tab"], apart := false, laid := [("math/bits.deBruijn32tab", laid_math_bits_deBruijn32tab), ("math/bits.deBruijn64tab", laid_math_bits_deBruijn64tab)], narrowed := true }
def FnRootsUptoSaid : Prop := fnRootsUptoRow.holds Tryz.pinned (OpenSpec.upto fnRootsSpec)

/-- 'laws.FnIvMatWidths', WHERE WHAT IT READS IS OF BULK AT MOST 1048576: true; the input reads as it did. -/
def fnIvMatWidthsUptoRow : OpenClaim := { program := "ytgkehjnacdccfaagreatdoor", sum := "4aee55e48cf76a782a46ffa29a8d63afac3a942439926d15195b9a09356cde07", func := "loop.example/g00382/laws.FnIvMatWidths", spec := "fnIvMatWidths", unfollowed := true, recurses := true, named := ["math/bits.deBruijn32tab", "math/bits.deBruijn64tab"], apart := false, laid := [("math/bits.deBruijn32tab", laid_math_bits_deBruijn32tab), ("math/bits.deBruijn64tab", laid_math_bits_deBruijn64tab)], narrowed := true }
def FnIvMatWidthsUptoSaid : Prop := fnIvMatWidthsUptoRow.holds Tryz.pinned (OpenSpec.upto fnIvMatWidthsSpec)

/-- 'laws.FnExactRootMat', WHERE WHAT IT READS IS OF BULK AT MOST 1048576: true; the input reads as it did. -/
def fnExactRootMatUptoRow : OpenClaim := { program := "ytgkehjnacdccfaagreatdoor", sum := "4aee55e48cf76a782a46ffa29a8d63afac3a942439926d15195b9a09356cde07", func := "loop.example/g00382/laws.FnExactRootMat", spec := "fnExactRootMat", unfollowed := true, recurses := true, named := ["math/bits.deBruijn32tab", "math/bits.deBruijn64tab"], apart := false, laid := [("math/bits.deBruijn32tab", laid_math_bits_deBruijn32tab), ("math/bits.deBruijn64tab", laid_math_bits_deBruijn64tab)], narrowed := true }
def FnExactRootMatUptoSaid : Prop := fnExactRootMatUptoRow.holds Tryz.pinned (OpenSpec.upto fnExactRootMatSpec)

/-- 'laws.FnExactExpNum', WHERE WHAT IT READS IS OF BULK AT MOST 1048576: true; the input reads as it did. -/
def fnExactExpNumUptoRow : OpenClaim := { program := "ytgkehjnacdccfaagreatdoor", sum := "4aee55e48cf76a782a46ffa29a8d63afac3a942439926d15195b9a09356cde07", func := "loop.example/g00382/laws.FnExactExpNum", spec := "fnExactExpNum", unfollowed := true, recurses := true, named := ["math/bits.deBruijn32tab", "math/bits.deBruijn64tab"], apart := false, laid := [("math/bits.deBruijn32tab", laid_math_bits_deBruijn32tab), ("math/bits.deBruijn64tab", laid_math_bits_deBruijn64tab)], narrowed := true }
def FnExactExpNumUptoSaid : Prop := fnExactExpNumUptoRow.holds Tryz.pinned (OpenSpec.upto fnExactExpNumSpec)

/-- 'laws.FnExactExpHold', WHERE WHAT IT READS IS OF BULK AT MOST 1048576: true; the input reads as it did. -/
def fnExactExpHoldUptoRow : OpenClaim := { program := "ytgkehjnacdccfaagreatdoor", sum := "4aee55e48cf76a782a46ffa29a8d63afac3a942439926d15195b9a09356cde07", func := "loop.example/g00382/laws.FnExactExpHold", spec := "fnExactExpHold", unfollowed := true, recurses := true, named := ["math/bits.deBruijn32tab", "math/bits.deBruijn64tab"], apart := false, laid := [("math/bits.deBruijn32tab", laid_math_bits_deBruijn32tab), ("math/bits.deBruijn64tab", laid_math_bits_deBruijn64tab)], narrowed := true }
def FnExactExpHoldUptoSaid : Prop := fnExactExpHoldUptoRow.holds Tryz.pinned (OpenSpec.upto fnExactExpHoldSpec)

/-- 'laws.FnExactExpMat', WHERE WHAT IT READS IS OF BULK AT MOST 1048576: true; the input reads as it did. -/
def fnExactExpMatUptoRow : OpenClaim := { program := "ytgkehjnacdccfaagreatdoor", sum := "4aee55e48cf76a782a46ffa29a8d63afac3a942439926d15195b9a09356cde07", func := "loop.example/g00382/laws.FnExactExpMat", spec := "fnExactExpMat", unfollowed := true, recurses := true, named := ["math/bits.deBruijn32tab", "math/bits.deBruijn64tab"], apart := false, laid := [("math/bits.deBruijn32tab", laid_math_bits_deBruijn32tab), ("math/bits.deBruijn64tab", laid_math_bits_deBruijn64tab)], narrowed := true }
def FnExactExpMatUptoSaid : Prop := fnExactExpMatUptoRow.holds Tryz.pinned (OpenSpec.upto fnExactExpMatSpec)

end Rows
end Go.Proofs.YtgkehjnacdccfaaGreatDoor
