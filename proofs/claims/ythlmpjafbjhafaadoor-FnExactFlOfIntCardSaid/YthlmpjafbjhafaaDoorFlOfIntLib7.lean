/- What the proof of this claim stands on: the walks of the functions and the plain laws, part 7. -/
import Derived.Test.YthlmpjafbjhafaaDoorFlOfIntLib6
import Derived.Carry
import Derived.Test.YthlmpjafbjhafaaDoorRows
import Derived.Test.YthlmpjafbjhafaaDoorCards
import Derived.Test.YthlmpjafbjhafaaDoorTie
import Derived.Handed
import Derived.ChangeSame
import Derived.JoinedOf
import Derived.RowKit
import Derived.WalkKit
import Derived.ProofKit
import Derived.OpenShut
import Derived.LaidLaws
import Derived.LaidHandle
import Derived.SevenTiedAt
import Derived.Stop.LaidErr
import Derived.Lib.LaidTab
namespace Go.Ab
open Go Go.Proofs
set_option linter.unusedVariables false
set_option linter.unusedSimpArgs false

theorem con_eqFl (k1 : Int) (s1 : Bool) (m1 e1 : Int) : Con Tryd.prog 8 true [.ag [.v (.int .i64 (k1)), .v (.bool (s1)), .v (.int .i64 (m1)), .v (.int .i64 (e1))], .ag [.v (.int .i64 (k1)), .v (.bool (s1)), .v (.int .i64 (m1)), .v (.int .i64 (e1))]] [] (isA (.v (.bool true))) := by
  refine Con.of_aw Tryd.func8 rfl Tryd.ntmps8 (by simp) (by simp) (by simp) (W.sound ?_)
  show @W Tryd.prog 25 ⟨_⟩ ⟨fun x σ => @retW _ _ _ ⟨_⟩ _ ⟨_⟩ x σ⟩ _ _
  simp (disch := omega) only [go_sem, ↓reduceIte, Int.reduceToNat, Nat.reduceEqDiff, Nat.reduceAdd, Nat.reduceMul, Nat.reduceSub, Nat.reducePow, Nat.reduceLT, Nat.reduceLeDiff, Int.reduceNeg, Int.reduceEq, Int.reduceLT, Int.reduceLE, reduceCtorEq]
  have e : (s1 != s1) = false := by cases s1 <;> rfl
  simp (disch := omega) only [go_sem, ↓reduceIte, Int.reduceToNat, Nat.reduceEqDiff, Nat.reduceAdd, Nat.reduceMul, Nat.reduceSub, Nat.reducePow, Nat.reduceLT, Nat.reduceLeDiff, Int.reduceNeg, Int.reduceEq, Int.reduceLT, Int.reduceLE, reduceCtorEq, e]
  exact fin_valc (by simp (disch := omega) only [go_sem, ↓reduceIte, Int.reduceToNat, Nat.reduceEqDiff, Nat.reduceAdd, Nat.reduceMul, Nat.reduceSub, Nat.reducePow, Nat.reduceLT, Nat.reduceLeDiff, Int.reduceNeg, Int.reduceEq, Int.reduceLT, Int.reduceLE, reduceCtorEq]) (by simp (disch := omega) only [go_sem, ↓reduceIte, Int.reduceToNat, Nat.reduceEqDiff, Nat.reduceAdd, Nat.reduceMul, Nat.reduceSub, Nat.reducePow, Nat.reduceLT, Nat.reduceLeDiff, Int.reduceNeg, Int.reduceEq, Int.reduceLT, Int.reduceLE, reduceCtorEq]) isA_mk

theorem law_FlOfInt (n mode : Int) (h : -9223372036854775808 ≤ n ∧ n < 9223372036854775808) : Con Tryd.prog 3 true [.v (.int .i64 n), .v (.int .i64 mode)] [] (isA (.v (.bool true))) := by
  have c1 := con_FlOfIntS n mode h
  have c2 := con_FlOfInt n mode h
  generalize (flV (decide (n < 0)) n.natAbs 0 mode false) = V at *
  generalize (flG (decide (n < 0)) n.natAbs 0 mode) = G at *
  refine Con.of_aw Tryd.func3 rfl Tryd.ntmps3 (by simp) (by simp) (by simp) (W.sound ?_)
  show @W Tryd.prog 30 ⟨_⟩ ⟨fun x σ => @retW _ _ _ ⟨_⟩ _ ⟨_⟩ x σ⟩ _ _
  simp (disch := omega) only [go_sem, ↓reduceIte, Int.reduceToNat, Nat.reduceEqDiff, Nat.reduceAdd, Nat.reduceMul, Nat.reduceSub, Nat.reducePow, Nat.reduceLT, Nat.reduceLeDiff, Int.reduceNeg, Int.reduceEq, Int.reduceLT, Int.reduceLE, reduceCtorEq]
  by_cases hm : modeB mode = true
  · rw [if_pos hm] at c1 c2
    refine call_closed (c1) (by simp (disch := omega) only [go_sem, ↓reduceIte, Int.reduceToNat, Nat.reduceEqDiff, Nat.reduceAdd, Nat.reduceMul, Nat.reduceSub, Nat.reducePow, Nat.reduceLT, Nat.reduceLeDiff, Int.reduceNeg, Int.reduceEq, Int.reduceLT, Int.reduceLE, reduceCtorEq]) ?_
    rintro r hs ⟨rfl, rfl, _⟩
    refine ⟨by simp [freeN], ?_⟩
    simp (disch := omega) only [go_sem, ↓reduceIte, Int.reduceToNat, Nat.reduceEqDiff, Nat.reduceAdd, Nat.reduceMul, Nat.reduceSub, Nat.reducePow, Nat.reduceLT, Nat.reduceLeDiff, Int.reduceNeg, Int.reduceEq, Int.reduceLT, Int.reduceLE, reduceCtorEq]
    refine call_closed (c2) (by simp (disch := omega) only [go_sem, ↓reduceIte, Int.reduceToNat, Nat.reduceEqDiff, Nat.reduceAdd, Nat.reduceMul, Nat.reduceSub, Nat.reducePow, Nat.reduceLT, Nat.reduceLeDiff, Int.reduceNeg, Int.reduceEq, Int.reduceLT, Int.reduceLE, reduceCtorEq]) ?_
    rintro r hs ⟨rfl, rfl, _⟩
    refine ⟨by simp [freeN], ?_⟩
    simp (disch := omega) only [go_sem, ↓reduceIte, Int.reduceToNat, Nat.reduceEqDiff, Nat.reduceAdd, Nat.reduceMul, Nat.reduceSub, Nat.reducePow, Nat.reduceLT, Nat.reduceLeDiff, Int.reduceNeg, Int.reduceEq, Int.reduceLT, Int.reduceLE, reduceCtorEq]
    refine call_closed (con_eqFl V.k V.s V.m V.e) (by simp (disch := omega) only [go_sem, ↓reduceIte, Int.reduceToNat, Nat.reduceEqDiff, Nat.reduceAdd, Nat.reduceMul, Nat.reduceSub, Nat.reducePow, Nat.reduceLT, Nat.reduceLeDiff, Int.reduceNeg, Int.reduceEq, Int.reduceLT, Int.reduceLE, reduceCtorEq]) ?_
    rintro r hs ⟨rfl, rfl, _⟩
    refine ⟨by simp [freeN], ?_⟩
    simp (disch := omega) only [go_sem, ↓reduceIte, Int.reduceToNat, Nat.reduceEqDiff, Nat.reduceAdd, Nat.reduceMul, Nat.reduceSub, Nat.reducePow, Nat.reduceLT, Nat.reduceLeDiff, Int.reduceNeg, Int.reduceEq, Int.reduceLT, Int.reduceLE, reduceCtorEq]
    exact fin_valc (by simp (disch := omega) only [go_sem, ↓reduceIte, Int.reduceToNat, Nat.reduceEqDiff, Nat.reduceAdd, Nat.reduceMul, Nat.reduceSub, Nat.reducePow, Nat.reduceLT, Nat.reduceLeDiff, Int.reduceNeg, Int.reduceEq, Int.reduceLT, Int.reduceLE, reduceCtorEq]) (by simp (disch := omega) only [go_sem, ↓reduceIte, Int.reduceToNat, Nat.reduceEqDiff, Nat.reduceAdd, Nat.reduceMul, Nat.reduceSub, Nat.reducePow, Nat.reduceLT, Nat.reduceLeDiff, Int.reduceNeg, Int.reduceEq, Int.reduceLT, Int.reduceLE, reduceCtorEq]) isA_mk
  · rw [if_neg hm] at c1 c2
    refine call_closed (c1) (by simp (disch := omega) only [go_sem, ↓reduceIte, Int.reduceToNat, Nat.reduceEqDiff, Nat.reduceAdd, Nat.reduceMul, Nat.reduceSub, Nat.reducePow, Nat.reduceLT, Nat.reduceLeDiff, Int.reduceNeg, Int.reduceEq, Int.reduceLT, Int.reduceLE, reduceCtorEq]) ?_
    rintro r hs ⟨rfl, rfl, _⟩
    refine ⟨by simp [freeN], ?_⟩
    simp (disch := omega) only [go_sem, ↓reduceIte, Int.reduceToNat, Nat.reduceEqDiff, Nat.reduceAdd, Nat.reduceMul, Nat.reduceSub, Nat.reducePow, Nat.reduceLT, Nat.reduceLeDiff, Int.reduceNeg, Int.reduceEq, Int.reduceLT, Int.reduceLE, reduceCtorEq]
    refine call_closed (c2) (by simp (disch := omega) only [go_sem, ↓reduceIte, Int.reduceToNat, Nat.reduceEqDiff, Nat.reduceAdd, Nat.reduceMul, Nat.reduceSub, Nat.reducePow, Nat.reduceLT, Nat.reduceLeDiff, Int.reduceNeg, Int.reduceEq, Int.reduceLT, Int.reduceLE, reduceCtorEq]) ?_
    rintro r hs ⟨rfl, rfl, _⟩
    refine ⟨by simp [freeN], ?_⟩
    simp (disch := omega) only [go_sem, ↓reduceIte, Int.reduceToNat, Nat.reduceEqDiff, Nat.reduceAdd, Nat.reduceMul, Nat.reduceSub, Nat.reducePow, Nat.reduceLT, Nat.reduceLeDiff, Int.reduceNeg, Int.reduceEq, Int.reduceLT, Int.reduceLE, reduceCtorEq]
    refine call_closed (con_eqFl 3 false 0 0) (by simp (disch := omega) only [go_sem, ↓reduceIte, Int.reduceToNat, Nat.reduceEqDiff, Nat.reduceAdd, Nat.reduceMul, Nat.reduceSub, Nat.reducePow, Nat.reduceLT, Nat.reduceLeDiff, Int.reduceNeg, Int.reduceEq, Int.reduceLT, Int.reduceLE, reduceCtorEq]) ?_
    rintro r hs ⟨rfl, rfl, _⟩
    refine ⟨by simp [freeN], ?_⟩
    simp (disch := omega) only [go_sem, ↓reduceIte, Int.reduceToNat, Nat.reduceEqDiff, Nat.reduceAdd, Nat.reduceMul, Nat.reduceSub, Nat.reducePow, Nat.reduceLT, Nat.reduceLeDiff, Int.reduceNeg, Int.reduceEq, Int.reduceLT, Int.reduceLE, reduceCtorEq]
    exact fin_valc (by simp (disch := omega) only [go_sem, ↓reduceIte, Int.reduceToNat, Nat.reduceEqDiff, Nat.reduceAdd, Nat.reduceMul, Nat.reduceSub, Nat.reducePow, Nat.reduceLT, Nat.reduceLeDiff, Int.reduceNeg, Int.reduceEq, Int.reduceLT, Int.reduceLE, reduceCtorEq]) (by simp (disch := omega) only [go_sem, ↓reduceIte, Int.reduceToNat, Nat.reduceEqDiff, Nat.reduceAdd, Nat.reduceMul, Nat.reduceSub, Nat.reducePow, Nat.reduceLT, Nat.reduceLeDiff, Int.reduceNeg, Int.reduceEq, Int.reduceLT, Int.reduceLE, reduceCtorEq]) isA_mk
end Go.Ab
namespace Go.Ab
open Go

theorem bhp_nil (m : Nat) : bhp [] m = .free := by unfold bhp; split <;> simp

/-- From a contract to a walk: called with nothing lent. -/
theorem Con.enter {P : Program} {f : FuncId} {cl : Bool} {args : List AV} {x : Value} (h : Con P f cl args [] (isA (.v x))) (R : Nat → Prop) (w : World) (vs : Array Value)
    (hlt : ∀ b, R b → b < w.heap.size) (hr : RepA R (fun _ => none) w vs args) (ha : AllL (fun m => bhp [] m ≠ .free) args) (hg : Gd w) :
    Calls P f vs w fun e w' => e = .returned x ∧ Ext (fun _ => False) w w' := by
  have hno : ∀ b, ¬ OwnB (bhp []) (fun _ => none) b := fun b ⟨nm, z, cs, B, e, _⟩ => by rw [bhp_nil] at e; cases e
  have hh : HpOk R (fun _ => none) w (bhp []) :=
    ⟨fun nm => (by rw [bhp_nil]; trivial), fun nm z cs B e => absurd e (by rw [bhp_nil]; simp), fun nm nm' z z' cs cs' B B' e => absurd e (by rw [bhp_nil]; simp), fun nm z cs e => absurd e (by rw [bhp_nil]; simp)⟩
  refine (h R (fun _ => none) w vs hlt hr ha hh ⟨hg, fun g l _ => hno g⟩).mono ?_
  rintro e w' ⟨y, r, hs, bs', R', ι', rfl, ⟨rfl, rfl, rfl⟩, hf⟩
  refine ⟨?_, hf.ext.os, hf.ext.tape, hf.ext.output, hf.ext.size, fun b hb _ => hf.ext.block b hb (hno b)⟩
  cases hf.rep with
  | fr _ _ h => cases h; rfl

theorem Ext.kept {w w' : World} (h : Ext (fun _ => False) w w') (may : MemPlace → Prop) : w.keptBut w' may := by
  refine ⟨h.os, h.output, fun i hi => ?_⟩
  rw [h.block i hi (fun h => h)]
  cases w.heap[i]? with
  | none => trivial
  | some o => cases o with
    | cells c t fr => exact ⟨rfl, rfl, rfl, fun _ _ => rfl⟩
    | map es cl => exact .inr ⟨rfl, rfl⟩
    | _ => rfl

theorem Ext.below {w w' : World} (h : Ext (fun _ => False) w w') : RowKit.Below w.heap.size w w' := ⟨h.os, h.tape, h.output, h.size, fun k hk => h.block k hk (fun h => h)⟩

/-- What was read reads so again. -/
theorem Ext.trod {H : Type} {enc : TypeId × Value → H} {P : Program} {t : TypeId} {W W' : World} (hw : Ext (fun _ => False) W W') (hl : laidOutB P = true) (hr : P.readableRec t = true) (hrow : t < P.types.size) {v : Value} {d : DataW H} {ps : List MemPlace}
    (h : DataW.Trod enc P W 0 (fun _ => true) true t v d ps) (hlt : ∀ x ∈ ps, x.block < W.heap.size) : DataW.Trod enc P W' 0 (fun b => decide (b < W.heap.size)) true t v d ps :=
  RowKit.Below.trod hl hr hrow h hw.below hlt

theorem cell_blk {w : World} {a : Addr} {v : Value} (h : w.cell? a = some v) : a.block < w.heap.size := by
  rcases Nat.lt_or_ge a.block w.heap.size with h' | h'
  · exact h'
  · simp [World.cell?, Array.getElem?_eq_none h'] at h

theorem rep_v {R : Nat → Prop} {ι : Nat → Option Blk} {w : World} (x : Value) : Rep R ι w x (.v x) := .fr _ _ (.v x)
theorem repA_two {R : Nat → Prop} {ι : Nat → Option Blk} {w : World} {x y : Value} {a b : AV} (h1 : Rep R ι w x a) (h2 : Rep R ι w y b) : RepA R ι w #[x, y] [a, b] :=
  ⟨rfl, fun i h => match i, h with
    | 0, _ => h1
    | 1, _ => h2⟩
theorem repA_three {R : Nat → Prop} {ι : Nat → Option Blk} {w : World} {x y z : Value} {a b c : AV} (h1 : Rep R ι w x a) (h2 : Rep R ι w y b) (h3 : Rep R ι w z c) : RepA R ι w #[x, y, z] [a, b, c] :=
  ⟨rfl, fun i h => match i, h with
    | 0, _ => h1
    | 1, _ => h2
    | 2, _ => h3⟩
theorem frep_four {R : Nat → Prop} {w : World} (x y z t : Value) : FRep R w (.agg #[x, y, z, t]) (.ag [.v x, .v y, .v z, .v t]) :=
  .ag _ _ rfl (fun i h => match i, h with
    | 0, _ => .v x
    | 1, _ => .v y
    | 2, _ => .v z
    | 3, _ => .v t)
end Go.Ab
namespace Go.Proofs.YthlmpjafbjhafaaDoor
open Go.ChangeShapes Go.WideShapes Go.ChangeAt Go.RowKit Go.Ab

theorem own : ownKnob Tryd.prog.godebug = none := by kernel_rfl
theorem laidOut : laidOutB Tryd.prog = true := by kernel_rfl
theorem tabs_g1 : Tryd.prog.globalNamed "math/bits.deBruijn64tab" = some 1 := by kernel_rfl
theorem tabs_t1 : (Tryd.prog.globals[1]?).map (·.type) = some 131 := by kernel_rfl
theorem tabs_u1 : Tryd.prog.underlying 131 = some (.array 64 5) := by kernel_rfl
theorem tabs_e1 : Tryd.prog.underlying 5 = some (.int .u8) := by kernel_rfl
theorem tabs_c1 : Tryd.prog.cellsOf 5 = 1 := by kernel_rfl
theorem tabs_k1 : Tryd.prog.cellsOf 131 = 64 := by kernel_rfl
noncomputable def laidList : List (String × DataW Unit) := [("math/bits.deBruijn32tab", Rows.laid_math_bits_deBruijn32tab), ("math/bits.deBruijn64tab", Rows.laid_math_bits_deBruijn64tab)]

theorem tabs_gd {W : World} (h : laidMetH Tryd.prog laidList W) : Gd W := by
  have h' : laidMet Tryd.prog laidList W := h
  have h2 : laidMet Tryd.prog [("math/bits.deBruijn64tab", Lib.tabData .u8 (Lib.deBruijn64tab.map Int.ofNat))] W := laidMet.tail h'
  have hT := Lib.tabIs_of_head tabs_g1 tabs_t1 tabs_u1 tabs_e1 tabs_c1 tabs_k1 h2
  intro g l hg
  unfold glb at hg
  split at hg
  · rename_i e
    subst e
    cases hg
    have hc : ∀ i, i < Lib.deBruijn64tab.length → W.cell? ⟨1, i, none⟩ = some (.int .u8 ((Lib.deBruijn64tab.getD i 0 : Nat) : Int)) := fun i hi => by
      have := hT.cell tabs_g1 i (by simpa using hi)
      rw [this]
      simp [List.getD, hi]
    exact ⟨cell_blk (hc 0 (by decide)), hc⟩
  · cases hg

/-- A world that meets the condition: the settled one, the tables laid. -/
noncomputable def laidWorld (os : Os) : World :=
  let w0 := World.holding Tryd.prog os ⟨#[], #[], []⟩
  { w0 with heap := (w0.heap.modify 1 fun
      | .cells _ t frozen => .cells (Lib.deBruijn64tab.map fun z => Value.int .u8 (Int.ofNat z)).toArray t frozen
      | o => o).modify 0 fun
      | .cells _ t frozen => .cells (Lib.deBruijn32tab.map fun z => Value.int .u8 (Int.ofNat z)).toArray t frozen
      | o => o }
theorem laidWorld_met (os : Os) (args : Array Value) : laidMetH Tryd.prog laidList ((laidWorld os).forCall (fun _ _ => 0) ⟨#[], args, []⟩).memory :=
  laidMetH_of_parts (laidMet_of_run' 8 (by kernel_rfl) (by kernel_rfl)) (by kernel_rfl)
end Go.Proofs.YthlmpjafbjhafaaDoor
