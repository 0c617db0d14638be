/-
  No cell of these rows narrows 'for every input' (looked for: loops, veiled, ifaces, maps, wideKeys, modest, calm, conditions, laid).
  DERIVED. THE GIVEN ROWS OF THIS SEAT. 3 by the template 'for every input the law returns true; each argument reads behind the call as it read before'; 0 by the template 'total and deterministic' (their statements: YtodjjilpibnbeaaTotals.lean).
  GIVEN WITH THE SEED: the statements are not yours to turn. If you find one false, say at which input.
  Laid BY PROGRAM, IN A SANDBOX (cutbox-rows.mjs): the forced cells as the released guide's own fill.sh prints them over the translation 95e8d9befbdcf50b… (all of the seat's roots in one cut). By AI agents, Wed Nov 11 2026. No macro, syntax, notation, axiom, sorry.
-/
import Derived.Test.YtodjjilpibnbeaaChecked
import GoSem.Claim
import GoSem.ClaimJoined
import GoSem.ClaimMapViews
import Derived.JoinedTies
import Derived.KernelRfl
namespace Go.Proofs.Ytodjjilpibnbeaa
/- THE CELL 'sum', in the pinned program and in every row, IS THE sha256 OF THE DUMP (.gsa) THAT YtodjjilpibnbeaaProg.lean LOADS. Nothing in Lean hashes anything: it is a label: what it is worth is what the hold of that sum in a sandbox is worth. -/
noncomputable def Try.pinned : Pinned := { name := "ytodjjilpibnbeaa", sum := "95e8d9befbdcf50b009ccd584587510d8b7343423201f9aa8bb3ad915660b82b", checked := Try.checked }
namespace Rows
def none {H : Type} : Left H := { results := [], args := [] }

/-- 'laws.FnExactListText': WHATEVER THE INPUT: true; the input reads as it did. -/
def fnExactListTextSpec : ChangeSpec := { name := "fnExactListText", fn := fun _ => fun
  | [d] => { results := [.lit (.bool true)], args := [d] }
  | _ => none }
def fnExactListTextRow : OpenClaim := { program := "ytodjjilpibnbeaa", sum := "95e8d9befbdcf50b009ccd584587510d8b7343423201f9aa8bb3ad915660b82b", func := "loop.example/g00382/laws.FnExactListText", spec := "fnExactListText", inPlace := ["internal/bytealg.MakeNoZero"], unfollowed := true, recurses := true, apart := false }
def FnExactListTextSaid : Prop := fnExactListTextRow.holds Try.pinned (OpenSpec.ofChange fnExactListTextSpec)

/-- ITS FALSE NEIGHBOUR: 'it returns false'. Refute it at one input. -/
def fnExactListTextWrong : ChangeSpec := { name := "fnExactListText", fn := fun _ => fun
  | [d] => { results := [.lit (.bool false)], args := [d] }
  | _ => none }
def FnExactListTextWrongFalsely : Prop := fnExactListTextRow.holds Try.pinned (OpenSpec.ofChange fnExactListTextWrong)

/-- 'laws.FnExactMatText': WHATEVER THE INPUT: true; the input reads as it did. -/
def fnExactMatTextSpec : ChangeSpec := { name := "fnExactMatText", fn := fun _ => fun
  | [d] => { results := [.lit (.bool true)], args := [d] }
  | _ => none }
def fnExactMatTextRow : OpenClaim := { program := "ytodjjilpibnbeaa", sum := "95e8d9befbdcf50b009ccd584587510d8b7343423201f9aa8bb3ad915660b82b", func := "loop.example/g00382/laws.FnExactMatText", spec := "fnExactMatText", inPlace := ["internal/bytealg.MakeNoZero"], unfollowed := true, recurses := true, apart := false }
def FnExactMatTextSaid : Prop := fnExactMatTextRow.holds Try.pinned (OpenSpec.ofChange fnExactMatTextSpec)

/-- ITS FALSE NEIGHBOUR: 'it returns false'. Refute it at one input. -/
def fnExactMatTextWrong : ChangeSpec := { name := "fnExactMatText", fn := fun _ => fun
  | [d] => { results := [.lit (.bool false)], args := [d] }
  | _ => none }
def FnExactMatTextWrongFalsely : Prop := fnExactMatTextRow.holds Try.pinned (OpenSpec.ofChange fnExactMatTextWrong)

/-- 'laws.FnExactIvText': WHATEVER THE INPUT: true; the input reads as it did. -/
def fnExactIvTextSpec : ChangeSpec := { name := "fnExactIvText", fn := fun _ => fun
  | [d] => { results := [.lit (.bool true)], args := [d] }
  | _ => none }
def fnExactIvTextRow : OpenClaim := { program := "ytodjjilpibnbeaa", sum := "95e8d9befbdcf50b009ccd584587510d8b7343423201f9aa8bb3ad915660b82b", func := "loop.example/g00382/laws.FnExactIvText", spec := "fnExactIvText", inPlace := ["internal/bytealg.MakeNoZero"], unfollowed := true, recurses := true, apart := false }
def FnExactIvTextSaid : Prop := fnExactIvTextRow.holds Try.pinned (OpenSpec.ofChange fnExactIvTextSpec)

/-- ITS FALSE NEIGHBOUR: 'it returns false'. Refute it at one input. -/
def fnExactIvTextWrong : ChangeSpec := { name := "fnExactIvText", fn := fun _ => fun
  | [d] => { results := [.lit (.bool false)], args := [d] }
  | _ => none }
def FnExactIvTextWrongFalsely : Prop := fnExactIvTextRow.holds Try.pinned (OpenSpec.ofChange fnExactIvTextWrong)

/- THE SECOND FORM. 'bulk': how many values and letters a reading holds, each counted each time it is reached (what is shared counts as often as it is met; a slice's spare places count too). A statement '..UptoSaid' is the law's where the arguments, and the package variables that the reading takes, are together of bulk at most 1048576: NARROWER than '..Said'. Prove '..Said' where nothing that the law and all that it calls make is longer than what came in: it says more and counts as full. Else prove '..UptoSaid'. A law counts once. -/
mutual
def uptoBulk {H : Type} : DataW H → Nat
  | .lit (.string bytes) => bytes.length + 1
  | .lit _ => 1
  | .nil => 1
  | .ptr d => uptoBulk d + 1
  | .slice elems spare => uptoBulkAll elems + uptoBulkAll spare + 1
  | .agg parts => uptoBulkAll parts + 1
  | .iface _ d => uptoBulk d + 1
  | .map entries => uptoBulkEntries entries + 1
  | .held _ => 1
def uptoBulkAll {H : Type} : List (DataW H) → Nat
  | [] => 0
  | d :: r => uptoBulk d + uptoBulkAll r
def uptoBulkEntries {H : Type} : List (Lit × DataW H) → Nat
  | [] => 0
  | x :: r => uptoBulkEntry x + uptoBulkEntries r
def uptoBulkEntry {H : Type} : Lit × DataW H → Nat
  | (.string bytes, d) => bytes.length + uptoBulk d + 1
  | (_, d) => uptoBulk d + 1
 end
def uptoSmall : (H : Type) → List (DataW H) → Bool := fun _ ds => decide (uptoBulkAll ds ≤ 1048576)
def OpenSpec.upto (s : _root_.Go.ChangeSpec) : _root_.Go.OpenSpec := { _root_.Go.OpenSpec.ofChange s with cond := some uptoSmall }

/-- 'laws.FnExactListText', WHERE WHAT IT READS IS OF BULK AT MOST 1048576: true; the input reads as it did. -/
def fnExactListTextUptoRow : OpenClaim := { program := "ytodjjilpibnbeaa", sum := "95e8d9befbdcf50b009ccd584587510d8b7343423201f9aa8bb3ad915660b82b", func := "loop.example/g00382/laws.FnExactListText", spec := "fnExactListText", inPlace := ["internal/bytealg.MakeNoZero"], unfollowed := true, recurses := true, apart := false, narrowed := true }
def FnExactListTextUptoSaid : Prop := fnExactListTextUptoRow.holds Try.pinned (OpenSpec.upto fnExactListTextSpec)

/-- 'laws.FnExactMatText', WHERE WHAT IT READS IS OF BULK AT MOST 1048576: true; the input reads as it did. -/
def fnExactMatTextUptoRow : OpenClaim := { program := "ytodjjilpibnbeaa", sum := "95e8d9befbdcf50b009ccd584587510d8b7343423201f9aa8bb3ad915660b82b", func := "loop.example/g00382/laws.FnExactMatText", spec := "fnExactMatText", inPlace := ["internal/bytealg.MakeNoZero"], unfollowed := true, recurses := true, apart := false, narrowed := true }
def FnExactMatTextUptoSaid : Prop := fnExactMatTextUptoRow.holds Try.pinned (OpenSpec.upto fnExactMatTextSpec)

/-- 'laws.FnExactIvText', WHERE WHAT IT READS IS OF BULK AT MOST 1048576: true; the input reads as it did. -/
def fnExactIvTextUptoRow : OpenClaim := { program := "ytodjjilpibnbeaa", sum := "95e8d9befbdcf50b009ccd584587510d8b7343423201f9aa8bb3ad915660b82b", func := "loop.example/g00382/laws.FnExactIvText", spec := "fnExactIvText", inPlace := ["internal/bytealg.MakeNoZero"], unfollowed := true, recurses := true, apart := false, narrowed := true }
def FnExactIvTextUptoSaid : Prop := fnExactIvTextUptoRow.holds Try.pinned (OpenSpec.upto fnExactIvTextSpec)

end Rows
end Go.Proofs.Ytodjjilpibnbeaa
