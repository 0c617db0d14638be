/- What the proof of this claim stands on: the walks of the functions and the plain laws, part 7. -/
import Derived.Test.YthlmpjafbjhafaaDoorFlMulLib6
import Derived.Carry
import Derived.Test.YthlmpjafbjhafaaDoorRows
import Derived.Test.YthlmpjafbjhafaaDoorCards
import Derived.Test.YthlmpjafbjhafaaDoorTie
import Derived.Handed
import Derived.ChangeSame
import Derived.JoinedOf
import Derived.RowKit
import Derived.WalkKit
import Derived.ProofKit
import Derived.OpenShut
import Derived.LaidLaws
import Derived.LaidHandle
import Derived.SevenTiedAt
import Derived.Stop.LaidErr
import Derived.Lib.LaidTab
namespace Go.Ab
open Go Go.Proofs
set_option linter.unusedVariables false
set_option linter.unusedSimpArgs false

theorem con_eqFl (k1 : Int) (s1 : Bool) (m1 e1 : Int) : Con Tryd.prog 8 true [.ag [.v (.int .i64 (k1)), .v (.bool (s1)), .v (.int .i64 (m1)), .v (.int .i64 (e1))], .ag [.v (.int .i64 (k1)), .v (.bool (s1)), .v (.int .i64 (m1)), .v (.int .i64 (e1))]] [] (isA (.v (.bool true))) := by
  refine Con.of_aw Tryd.func8 rfl Tryd.ntmps8 (by simp) (by simp) (by simp) (W.sound ?_)
  show @W Tryd.prog 25 ⟨_⟩ ⟨fun x σ => @retW _ _ _ ⟨_⟩ _ ⟨_⟩ x σ⟩ _ _
  simp (disch := omega) only [go_sem, ↓reduceIte, Int.reduceToNat, Nat.reduceEqDiff, Nat.reduceAdd, Nat.reduceMul, Nat.reduceSub, Nat.reducePow, Nat.reduceLT, Nat.reduceLeDiff, Int.reduceNeg, Int.reduceEq, Int.reduceLT, Int.reduceLE, reduceCtorEq]
  have e : (s1 != s1) = false := by cases s1 <;> rfl
  simp (disch := omega) only [go_sem, ↓reduceIte, Int.reduceToNat, Nat.reduceEqDiff, Nat.reduceAdd, Nat.reduceMul, Nat.reduceSub, Nat.reducePow, Nat.reduceLT, Nat.reduceLeDiff, Int.reduceNeg, Int.reduceEq, Int.reduceLT, Int.reduceLE, reduceCtorEq, e]
  exact fin_valc (by simp (disch := omega) only [go_sem, ↓reduceIte, Int.reduceToNat, Nat.reduceEqDiff, Nat.reduceAdd, Nat.reduceMul, Nat.reduceSub, Nat.reducePow, Nat.reduceLT, Nat.reduceLeDiff, Int.reduceNeg, Int.reduceEq, Int.reduceLT, Int.reduceLE, reduceCtorEq]) (by simp (disch := omega) only [go_sem, ↓reduceIte, Int.reduceToNat, Nat.reduceEqDiff, Nat.reduceAdd, Nat.reduceMul, Nat.reduceSub, Nat.reducePow, Nat.reduceLT, Nat.reduceLeDiff, Int.reduceNeg, Int.reduceEq, Int.reduceLT, Int.reduceLE, reduceCtorEq]) isA_mk

theorem law_FlOfInt (n mode : Int) (h : -9223372036854775808 ≤ n ∧ n < 9223372036854775808) : Con Tryd.prog 3 true [.v (.int .i64 n), .v (.int .i64 mode)] [] (isA (.v (.bool true))) := by
  have c1 := con_FlOfIntS n mode h
  have c2 := con_FlOfInt n mode h
  generalize (flV (decide (n < 0)) n.natAbs 0 mode false) = V at *
  generalize (flG (decide (n < 0)) n.natAbs 0 mode) = G at *
  refine Con.of_aw Tryd.func3 rfl Tryd.ntmps3 (by simp) (by simp) (by simp) (W.sound ?_)
  show @W Tryd.prog 30 ⟨_⟩ ⟨fun x σ => @retW _ _ _ ⟨_⟩ _ ⟨_⟩ x σ⟩ _ _
  simp (disch := omega) only [go_sem, ↓reduceIte, Int.reduceToNat, Nat.reduceEqDiff, Nat.reduceAdd, Nat.reduceMul, Nat.reduceSub, Nat.reducePow, Nat.reduceLT, Nat.reduceLeDiff, Int.reduceNeg, Int.reduceEq, Int.reduceLT, Int.reduceLE, reduceCtorEq]
  by_cases hm : modeB mode = true
  · rw [if_pos hm] at c1 c2
    refine call_closed (c1) (by simp (disch := omega) only [go_sem, ↓reduceIte, Int.reduceToNat, Nat.reduceEqDiff, Nat.reduceAdd, Nat.reduceMul, Nat.reduceSub, Nat.reducePow, Nat.reduceLT, Nat.reduceLeDiff, Int.reduceNeg, Int.reduceEq, Int.reduceLT, Int.reduceLE, reduceCtorEq]) ?_
    rintro r hs ⟨rfl, rfl, _⟩
    refine ⟨by simp [freeN], ?_⟩
    simp (disch := omega) only [go_sem, ↓reduceIte, Int.reduceToNat, Nat.reduceEqDiff, Nat.reduceAdd, Nat.reduceMul, Nat.reduceSub, Nat.reducePow, Nat.reduceLT, Nat.reduceLeDiff, Int.reduceNeg, Int.reduceEq, Int.reduceLT, Int.reduceLE, reduceCtorEq]
    refine call_closed (c2) (by simp (disch := omega) only [go_sem, ↓reduceIte, Int.reduceToNat, Nat.reduceEqDiff, Nat.reduceAdd, Nat.reduceMul, Nat.reduceSub, Nat.reducePow, Nat.reduceLT, Nat.reduceLeDiff, Int.reduceNeg, Int.reduceEq, Int.reduceLT, Int.reduceLE, reduceCtorEq]) ?_
    rintro r hs ⟨rfl, rfl, _⟩
    refine ⟨by simp [freeN], ?_⟩
    simp (disch := omega) only [go_sem, ↓reduceIte, Int.reduceToNat, Nat.reduceEqDiff, Nat.reduceAdd, Nat.reduceMul, Nat.reduceSub, Nat.reducePow, Nat.reduceLT, Nat.reduceLeDiff, Int.reduceNeg, Int.reduceEq, Int.reduceLT, Int.reduceLE, reduceCtorEq]
    refine call_closed (con_eqFl V.k V.s V.m V.e) (by simp (disch := omega) only [go_sem, ↓reduceIte, Int.reduceToNat, Nat.reduceEqDiff, Nat.reduceAdd, Nat.reduceMul, Nat.reduceSub, Nat.reducePow, Nat.reduceLT, Nat.reduceLeDiff, Int.reduceNeg, Int.reduceEq, Int.reduceLT, Int.reduceLE, reduceCtorEq]) ?_
    rintro r hs ⟨rfl, rfl, _⟩
    refine ⟨by simp [freeN], ?_⟩
    simp (disch := omega) only [go_sem, ↓reduceIte, Int.reduceToNat, Nat.reduceEqDiff, Nat.reduceAdd, Nat.reduceMul, Nat.reduceSub, Nat.reducePow, Nat.reduceLT, Nat.reduceLeDiff, Int.reduceNeg, Int.reduceEq, Int.reduceLT, Int.reduceLE, reduceCtorEq]
    exact fin_valc (by simp (disch := omega) only [go_sem, ↓reduceIte, Int.reduceToNat, Nat.reduceEqDiff, Nat.reduceAdd, Nat.reduceMul, Nat.reduceSub, Nat.reducePow, Nat.reduceLT, Nat.reduceLeDiff, Int.reduceNeg, Int.reduceEq, Int.reduceLT, Int.reduceLE, reduceCtorEq]) (by simp (disch := omega) only [go_sem, ↓reduceIte, Int.reduceToNat, Nat.reduceEqDiff, Nat.reduceAdd, Nat.reduceMul, Nat.reduceSub, Nat.reducePow, Nat.reduceLT, Nat.reduceLeDiff, Int.reduceNeg, Int.reduceEq, Int.reduceLT, Int.reduceLE, reduceCtorEq]) isA_mk
  · rw [if_neg hm] at c1 c2
    refine call_closed (c1) (by simp (disch := omega) only [go_sem, ↓reduceIte, Int.reduceToNat, Nat.reduceEqDiff, Nat.reduceAdd, Nat.reduceMul, Nat.reduceSub, Nat.reducePow, Nat.reduceLT, Nat.reduceLeDiff, Int.reduceNeg, Int.reduceEq, Int.reduceLT, Int.reduceLE, reduceCtorEq]) ?_
    rintro r hs ⟨rfl, rfl, _⟩
    refine ⟨by simp [freeN], ?_⟩
    simp (disch := omega) only [go_sem, ↓reduceIte, Int.reduceToNat, Nat.reduceEqDiff, Nat.reduceAdd, Nat.reduceMul, Nat.reduceSub, Nat.reducePow, Nat.reduceLT, Nat.reduceLeDiff, Int.reduceNeg, Int.reduceEq, Int.reduceLT, Int.reduceLE, reduceCtorEq]
    refine call_closed (c2) (by simp (disch := omega) only [go_sem, ↓reduceIte, Int.reduceToNat, Nat.reduceEqDiff, Nat.reduceAdd, Nat.reduceMul, Nat.reduceSub, Nat.reducePow, Nat.reduceLT, Nat.reduceLeDiff, Int.reduceNeg, Int.reduceEq, Int.reduceLT, Int.reduceLE, reduceCtorEq]) ?_
    rintro r hs ⟨rfl, rfl, _⟩
    refine ⟨by simp [freeN], ?_⟩
    simp (disch := omega) only [go_sem, ↓reduceIte, Int.reduceToNat, Nat.reduceEqDiff, Nat.reduceAdd, Nat.reduceMul, Nat.reduceSub, Nat.reducePow, Nat.reduceLT, Nat.reduceLeDiff, Int.reduceNeg, Int.reduceEq, Int.reduceLT, Int.reduceLE, reduceCtorEq]
    refine call_closed (con_eqFl 3 false 0 0) (by simp (disch := omega) only [go_sem, ↓reduceIte, Int.reduceToNat, Nat.reduceEqDiff, Nat.reduceAdd, Nat.reduceMul, Nat.reduceSub, Nat.reducePow, Nat.reduceLT, Nat.reduceLeDiff, Int.reduceNeg, Int.reduceEq, Int.reduceLT, Int.reduceLE, reduceCtorEq]) ?_
    rintro r hs ⟨rfl, rfl, _⟩
    refine ⟨by simp [freeN], ?_⟩
    simp (disch := omega) only [go_sem, ↓reduceIte, Int.reduceToNat, Nat.reduceEqDiff, Nat.reduceAdd, Nat.reduceMul, Nat.reduceSub, Nat.reducePow, Nat.reduceLT, Nat.reduceLeDiff, Int.reduceNeg, Int.reduceEq, Int.reduceLT, Int.reduceLE, reduceCtorEq]
    exact fin_valc (by simp (disch := omega) only [go_sem, ↓reduceIte, Int.reduceToNat, Nat.reduceEqDiff, Nat.reduceAdd, Nat.reduceMul, Nat.reduceSub, Nat.reducePow, Nat.reduceLT, Nat.reduceLeDiff, Int.reduceNeg, Int.reduceEq, Int.reduceLT, Int.reduceLE, reduceCtorEq]) (by simp (disch := omega) only [go_sem, ↓reduceIte, Int.reduceToNat, Nat.reduceEqDiff, Nat.reduceAdd, Nat.reduceMul, Nat.reduceSub, Nat.reducePow, Nat.reduceLT, Nat.reduceLeDiff, Int.reduceNeg, Int.reduceEq, Int.reduceLT, Int.reduceLE, reduceCtorEq]) isA_mk
end Go.Ab
namespace Go.Ab
open Go Go.Proofs
set_option linter.unusedVariables false
set_option linter.unusedSimpArgs false

theorem flB_rng {k : Int} {s : Bool} {m e : Int} (h : flB k s m e = true) : (0 ≤ m ∧ m ≤ 9007199254740991) ∧ (-1074 ≤ e ∧ e ≤ 971) ∧ (0 ≤ k ∧ k ≤ 3) ∧ (k ≠ 1 → m = 0 ∧ e = 0) ∧ (k = 1 → 1 ≤ m) ∧ (k = 3 → s = false) := by
  unfold flB at h
  split at h
  · simp only [Bool.and_eq_true, Bool.or_eq_true, decide_eq_true_eq] at h
    omega
  · split at h
    · simp only [Bool.and_eq_true, decide_eq_true_eq] at h
      omega
    · simp only [Bool.and_eq_true, decide_eq_true_eq, Bool.not_eq_true'] at h
      refine ⟨by omega, by omega, by omega, by omega, by omega, fun _ => h.2⟩

/-- A product of floats. -/
def muS (k1 : Int) (s1 : Bool) (m1 : Int) (k2 : Int) (s2 : Bool) (m2 : Int) : Bool := ((s1 && decide (k1 = 1)) != (s2 && decide (k2 = 1))) && decide (m1.toNat * m2.toNat ≠ 0)
def mulV (k1 : Int) (s1 : Bool) (m1 e1 k2 : Int) (s2 : Bool) (m2 e2 mode : Int) : FlV :=
  if (decide (k1 = 3) || decide (k2 = 3)) = true then ⟨3, false, 0, 0⟩
  else if (decide (k1 = 2) || decide (k2 = 2)) = true then (if (decide (k1 = 0) || decide (k2 = 0)) = true then ⟨3, false, 0, 0⟩ else ⟨2, s1 != s2, 0, 0⟩)
  else flV (muS k1 s1 m1 k2 s2 m2) (m1.toNat * m2.toNat) (e1 + e2) mode (s1 != s2)
def mulG (k1 : Int) (s1 : Bool) (m1 e1 k2 : Int) (s2 : Bool) (m2 e2 mode : Int) : Int :=
  if (decide (k1 = 3) || decide (k2 = 3)) = true then 0
  else if (decide (k1 = 2) || decide (k2 = 2)) = true then (if (decide (k1 = 0) || decide (k2 = 0)) = true then 16 else 0)
  else flG (muS k1 s1 m1 k2 s2 m2) (m1.toNat * m2.toNat) (e1 + e2) mode

theorem con_mul (k1 : Int) (s1 : Bool) (m1 e1 k2 : Int) (s2 : Bool) (m2 e2 mode : Int) (h1 : flB k1 s1 m1 e1 = true) (h2 : flB k2 s2 m2 e2 = true) :
    Con Tryd.prog 29 true [.ag [.v (.int .i64 (k1)), .v (.bool (s1)), .v (.int .i64 (m1)), .v (.int .i64 (e1))], .ag [.v (.int .i64 (k2)), .v (.bool (s2)), .v (.int .i64 (m2)), .v (.int .i64 (e2))], .v (.int .i64 mode)] []
      (isA (.tu [.ag [.v (.int .i64 ((mulV k1 s1 m1 e1 k2 s2 m2 e2 mode).k)), .v (.bool ((mulV k1 s1 m1 e1 k2 s2 m2 e2 mode).s)), .v (.int .i64 ((mulV k1 s1 m1 e1 k2 s2 m2 e2 mode).m)), .v (.int .i64 ((mulV k1 s1 m1 e1 k2 s2 m2 e2 mode).e))], .v (.int .i64 (mulG k1 s1 m1 e1 k2 s2 m2 e2 mode))])) := by
  obtain ⟨a1, a2, a3, a4⟩ := flB_rng h1
  obtain ⟨b1, b2, b3, b4⟩ := flB_rng h2
  obtain ⟨n1, rfl⟩ := Int.eq_ofNat_of_zero_le a1.1
  obtain ⟨n2, rfl⟩ := Int.eq_ofNat_of_zero_le b1.1
  have q1 : bl n1 ≤ 53 := bl_le.2 (by omega)
  have q2 : bl n2 ≤ 53 := bl_le.2 (by omega)
  have q3 := bl_mulle n1 n2
  refine Con.of_aw Tryd.func29 rfl Tryd.ntmps29 (by simp) (by simp) (by simp) (W.sound ?_)
  show @W Tryd.prog 45 ⟨_⟩ ⟨fun x σ => @retW _ _ _ ⟨_⟩ _ ⟨_⟩ x σ⟩ _ _
  simp (disch := omega) only [go_sem, ↓reduceIte, Int.reduceToNat, Nat.reduceEqDiff, Nat.reduceAdd, Nat.reduceMul, Nat.reduceSub, Nat.reducePow, Nat.reduceLT, Nat.reduceLeDiff, Int.reduceNeg, Int.reduceEq, Int.reduceLT, Int.reduceLE, reduceCtorEq]
  refine call_closed (con_hasKind 3 k1 (n1 : Int) e1 k2 (n2 : Int) e2 s1 s2) (by simp (disch := omega) only [go_sem, ↓reduceIte, Int.reduceToNat, Nat.reduceEqDiff, Nat.reduceAdd, Nat.reduceMul, Nat.reduceSub, Nat.reducePow, Nat.reduceLT, Nat.reduceLeDiff, Int.reduceNeg, Int.reduceEq, Int.reduceLT, Int.reduceLE, reduceCtorEq]) ?_
  rintro r hs ⟨rfl, rfl, _⟩
  refine ⟨by simp [freeN], ?_⟩
  simp (disch := omega) only [go_sem, ↓reduceIte, Int.reduceToNat, Nat.reduceEqDiff, Nat.reduceAdd, Nat.reduceMul, Nat.reduceSub, Nat.reducePow, Nat.reduceLT, Nat.reduceLeDiff, Int.reduceNeg, Int.reduceEq, Int.reduceLT, Int.reduceLE, reduceCtorEq]
  refine ifW_b (fun c1 => ?_) (fun c1 => ?_)
  · simp (disch := omega) only [go_sem, ↓reduceIte, Int.reduceToNat, Nat.reduceEqDiff, Nat.reduceAdd, Nat.reduceMul, Nat.reduceSub, Nat.reducePow, Nat.reduceLT, Nat.reduceLeDiff, Int.reduceNeg, Int.reduceEq, Int.reduceLT, Int.reduceLE, reduceCtorEq, c1]
    refine call_closed (con_nan) (by simp (disch := omega) only [go_sem, ↓reduceIte, Int.reduceToNat, Nat.reduceEqDiff, Nat.reduceAdd, Nat.reduceMul, Nat.reduceSub, Nat.reducePow, Nat.reduceLT, Nat.reduceLeDiff, Int.reduceNeg, Int.reduceEq, Int.reduceLT, Int.reduceLE, reduceCtorEq]) ?_
    rintro r hs ⟨rfl, rfl, _⟩
    refine ⟨by simp [freeN], ?_⟩
    simp (disch := omega) only [go_sem, ↓reduceIte, Int.reduceToNat, Nat.reduceEqDiff, Nat.reduceAdd, Nat.reduceMul, Nat.reduceSub, Nat.reducePow, Nat.reduceLT, Nat.reduceLeDiff, Int.reduceNeg, Int.reduceEq, Int.reduceLT, Int.reduceLE, reduceCtorEq]
    unfold mulV mulG
    rw [if_pos c1, if_pos c1]
    exact fin_valc (by simp (disch := omega) only [go_sem, ↓reduceIte, Int.reduceToNat, Nat.reduceEqDiff, Nat.reduceAdd, Nat.reduceMul, Nat.reduceSub, Nat.reducePow, Nat.reduceLT, Nat.reduceLeDiff, Int.reduceNeg, Int.reduceEq, Int.reduceLT, Int.reduceLE, reduceCtorEq]) (by simp (disch := omega) only [go_sem, ↓reduceIte, Int.reduceToNat, Nat.reduceEqDiff, Nat.reduceAdd, Nat.reduceMul, Nat.reduceSub, Nat.reducePow, Nat.reduceLT, Nat.reduceLeDiff, Int.reduceNeg, Int.reduceEq, Int.reduceLT, Int.reduceLE, reduceCtorEq]) isA_mk
  · simp (disch := omega) only [go_sem, ↓reduceIte, Int.reduceToNat, Nat.reduceEqDiff, Nat.reduceAdd, Nat.reduceMul, Nat.reduceSub, Nat.reducePow, Nat.reduceLT, Nat.reduceLeDiff, Int.reduceNeg, Int.reduceEq, Int.reduceLT, Int.reduceLE, reduceCtorEq, c1]
    have c1' : ¬ (decide (k1 = 3) || decide (k2 = 3)) = true := by rw [c1]; simp
    refine call_closed (con_hasKind 2 k1 (n1 : Int) e1 k2 (n2 : Int) e2 s1 s2) (by simp (disch := omega) only [go_sem, ↓reduceIte, Int.reduceToNat, Nat.reduceEqDiff, Nat.reduceAdd, Nat.reduceMul, Nat.reduceSub, Nat.reducePow, Nat.reduceLT, Nat.reduceLeDiff, Int.reduceNeg, Int.reduceEq, Int.reduceLT, Int.reduceLE, reduceCtorEq]) ?_
    rintro r hs ⟨rfl, rfl, _⟩
    refine ⟨by simp [freeN], ?_⟩
    simp (disch := omega) only [go_sem, ↓reduceIte, Int.reduceToNat, Nat.reduceEqDiff, Nat.reduceAdd, Nat.reduceMul, Nat.reduceSub, Nat.reducePow, Nat.reduceLT, Nat.reduceLeDiff, Int.reduceNeg, Int.reduceEq, Int.reduceLT, Int.reduceLE, reduceCtorEq]
    refine ifW_b (fun c2 => ?_) (fun c2 => ?_)
    · simp (disch := omega) only [go_sem, ↓reduceIte, Int.reduceToNat, Nat.reduceEqDiff, Nat.reduceAdd, Nat.reduceMul, Nat.reduceSub, Nat.reducePow, Nat.reduceLT, Nat.reduceLeDiff, Int.reduceNeg, Int.reduceEq, Int.reduceLT, Int.reduceLE, reduceCtorEq, c2]
      refine call_closed (con_hasKind 0 k1 (n1 : Int) e1 k2 (n2 : Int) e2 s1 s2) (by simp (disch := omega) only [go_sem, ↓reduceIte, Int.reduceToNat, Nat.reduceEqDiff, Nat.reduceAdd, Nat.reduceMul, Nat.reduceSub, Nat.reducePow, Nat.reduceLT, Nat.reduceLeDiff, Int.reduceNeg, Int.reduceEq, Int.reduceLT, Int.reduceLE, reduceCtorEq]) ?_
      rintro r hs ⟨rfl, rfl, _⟩
      refine ⟨by simp [freeN], ?_⟩
      simp (disch := omega) only [go_sem, ↓reduceIte, Int.reduceToNat, Nat.reduceEqDiff, Nat.reduceAdd, Nat.reduceMul, Nat.reduceSub, Nat.reducePow, Nat.reduceLT, Nat.reduceLeDiff, Int.reduceNeg, Int.reduceEq, Int.reduceLT, Int.reduceLE, reduceCtorEq]
      refine ifW_b (fun c3 => ?_) (fun c3 => ?_)
      · simp (disch := omega) only [go_sem, ↓reduceIte, Int.reduceToNat, Nat.reduceEqDiff, Nat.reduceAdd, Nat.reduceMul, Nat.reduceSub, Nat.reducePow, Nat.reduceLT, Nat.reduceLeDiff, Int.reduceNeg, Int.reduceEq, Int.reduceLT, Int.reduceLE, reduceCtorEq, c3]
        refine call_closed (con_nan) (by simp (disch := omega) only [go_sem, ↓reduceIte, Int.reduceToNat, Nat.reduceEqDiff, Nat.reduceAdd, Nat.reduceMul, Nat.reduceSub, Nat.reducePow, Nat.reduceLT, Nat.reduceLeDiff, Int.reduceNeg, Int.reduceEq, Int.reduceLT, Int.reduceLE, reduceCtorEq]) ?_
        rintro r hs ⟨rfl, rfl, _⟩
        refine ⟨by simp [freeN], ?_⟩
        simp (disch := omega) only [go_sem, ↓reduceIte, Int.reduceToNat, Nat.reduceEqDiff, Nat.reduceAdd, Nat.reduceMul, Nat.reduceSub, Nat.reducePow, Nat.reduceLT, Nat.reduceLeDiff, Int.reduceNeg, Int.reduceEq, Int.reduceLT, Int.reduceLE, reduceCtorEq]
        unfold mulV mulG
        rw [if_neg c1', if_neg c1', if_pos c2, if_pos c2, if_pos c3, if_pos c3]
        exact fin_valc (by simp (disch := omega) only [go_sem, ↓reduceIte, Int.reduceToNat, Nat.reduceEqDiff, Nat.reduceAdd, Nat.reduceMul, Nat.reduceSub, Nat.reducePow, Nat.reduceLT, Nat.reduceLeDiff, Int.reduceNeg, Int.reduceEq, Int.reduceLT, Int.reduceLE, reduceCtorEq]) (by simp (disch := omega) only [go_sem, ↓reduceIte, Int.reduceToNat, Nat.reduceEqDiff, Nat.reduceAdd, Nat.reduceMul, Nat.reduceSub, Nat.reducePow, Nat.reduceLT, Nat.reduceLeDiff, Int.reduceNeg, Int.reduceEq, Int.reduceLT, Int.reduceLE, reduceCtorEq]) isA_mk
      · simp (disch := omega) only [go_sem, ↓reduceIte, Int.reduceToNat, Nat.reduceEqDiff, Nat.reduceAdd, Nat.reduceMul, Nat.reduceSub, Nat.reducePow, Nat.reduceLT, Nat.reduceLeDiff, Int.reduceNeg, Int.reduceEq, Int.reduceLT, Int.reduceLE, reduceCtorEq, c3]
        have c3' : ¬ (decide (k1 = 0) || decide (k2 = 0)) = true := by rw [c3]; simp
        refine call_closed (con_hasKind 2 k1 (n1 : Int) e1 k2 (n2 : Int) e2 s1 s2) (by simp (disch := omega) only [go_sem, ↓reduceIte, Int.reduceToNat, Nat.reduceEqDiff, Nat.reduceAdd, Nat.reduceMul, Nat.reduceSub, Nat.reducePow, Nat.reduceLT, Nat.reduceLeDiff, Int.reduceNeg, Int.reduceEq, Int.reduceLT, Int.reduceLE, reduceCtorEq]) ?_
        rintro r hs ⟨rfl, rfl, _⟩
        refine ⟨by simp [freeN], ?_⟩
        simp (disch := omega) only [go_sem, ↓reduceIte, Int.reduceToNat, Nat.reduceEqDiff, Nat.reduceAdd, Nat.reduceMul, Nat.reduceSub, Nat.reducePow, Nat.reduceLT, Nat.reduceLeDiff, Int.reduceNeg, Int.reduceEq, Int.reduceLT, Int.reduceLE, reduceCtorEq]
        simp (disch := omega) only [go_sem, ↓reduceIte, Int.reduceToNat, Nat.reduceEqDiff, Nat.reduceAdd, Nat.reduceMul, Nat.reduceSub, Nat.reducePow, Nat.reduceLT, Nat.reduceLeDiff, Int.reduceNeg, Int.reduceEq, Int.reduceLT, Int.reduceLE, reduceCtorEq, c2]
        refine call_closed (con_infinity (s1 != s2)) (by simp (disch := omega) only [go_sem, ↓reduceIte, Int.reduceToNat, Nat.reduceEqDiff, Nat.reduceAdd, Nat.reduceMul, Nat.reduceSub, Nat.reducePow, Nat.reduceLT, Nat.reduceLeDiff, Int.reduceNeg, Int.reduceEq, Int.reduceLT, Int.reduceLE, reduceCtorEq]) ?_
        rintro r hs ⟨rfl, rfl, _⟩
        refine ⟨by simp [freeN], ?_⟩
        simp (disch := omega) only [go_sem, ↓reduceIte, Int.reduceToNat, Nat.reduceEqDiff, Nat.reduceAdd, Nat.reduceMul, Nat.reduceSub, Nat.reducePow, Nat.reduceLT, Nat.reduceLeDiff, Int.reduceNeg, Int.reduceEq, Int.reduceLT, Int.reduceLE, reduceCtorEq]
        unfold mulV mulG
        rw [if_neg c1', if_neg c1', if_pos c2, if_pos c2, if_neg c3', if_neg c3']
        exact fin_valc (by simp (disch := omega) only [go_sem, ↓reduceIte, Int.reduceToNat, Nat.reduceEqDiff, Nat.reduceAdd, Nat.reduceMul, Nat.reduceSub, Nat.reducePow, Nat.reduceLT, Nat.reduceLeDiff, Int.reduceNeg, Int.reduceEq, Int.reduceLT, Int.reduceLE, reduceCtorEq]) (by simp (disch := omega) only [go_sem, ↓reduceIte, Int.reduceToNat, Nat.reduceEqDiff, Nat.reduceAdd, Nat.reduceMul, Nat.reduceSub, Nat.reducePow, Nat.reduceLT, Nat.reduceLeDiff, Int.reduceNeg, Int.reduceEq, Int.reduceLT, Int.reduceLE, reduceCtorEq]) isA_mk
    · have c2' : ¬ (decide (k1 = 2) || decide (k2 = 2)) = true := by rw [c2]; simp
      simp (disch := omega) only [go_sem, ↓reduceIte, Int.reduceToNat, Nat.reduceEqDiff, Nat.reduceAdd, Nat.reduceMul, Nat.reduceSub, Nat.reducePow, Nat.reduceLT, Nat.reduceLeDiff, Int.reduceNeg, Int.reduceEq, Int.reduceLT, Int.reduceLE, reduceCtorEq, c2]
      refine call_closed (con_hasKind 2 k1 (n1 : Int) e1 k2 (n2 : Int) e2 s1 s2) (by simp (disch := omega) only [go_sem, ↓reduceIte, Int.reduceToNat, Nat.reduceEqDiff, Nat.reduceAdd, Nat.reduceMul, Nat.reduceSub, Nat.reducePow, Nat.reduceLT, Nat.reduceLeDiff, Int.reduceNeg, Int.reduceEq, Int.reduceLT, Int.reduceLE, reduceCtorEq]) ?_
      rintro r hs ⟨rfl, rfl, _⟩
      refine ⟨by simp [freeN], ?_⟩
      simp (disch := omega) only [go_sem, ↓reduceIte, Int.reduceToNat, Nat.reduceEqDiff, Nat.reduceAdd, Nat.reduceMul, Nat.reduceSub, Nat.reducePow, Nat.reduceLT, Nat.reduceLeDiff, Int.reduceNeg, Int.reduceEq, Int.reduceLT, Int.reduceLE, reduceCtorEq]
      simp (disch := omega) only [go_sem, ↓reduceIte, Int.reduceToNat, Nat.reduceEqDiff, Nat.reduceAdd, Nat.reduceMul, Nat.reduceSub, Nat.reducePow, Nat.reduceLT, Nat.reduceLeDiff, Int.reduceNeg, Int.reduceEq, Int.reduceLT, Int.reduceLE, reduceCtorEq, c2]
      refine draw_of rfl [⟨0, [], []⟩, ⟨2, [0], []⟩, ⟨5, [0, 2], []⟩, ⟨6, [0, 2], []⟩, ⟨1, [2], []⟩, ⟨3, [], []⟩, ⟨4, [], []⟩, ⟨7, [], []⟩, ⟨8, [], []⟩, ⟨9, [], []⟩, ⟨10, [], []⟩, ⟨11, [], []⟩] (by kernel_rfl) ?_
      simp (disch := omega) only [go_sem, ↓reduceIte, Int.reduceToNat, Nat.reduceEqDiff, Nat.reduceAdd, Nat.reduceMul, Nat.reduceSub, Nat.reducePow, Nat.reduceLT, Nat.reduceLeDiff, Int.reduceNeg, Int.reduceEq, Int.reduceLT, Int.reduceLE, reduceCtorEq]
      refine call_open (con_flexact k1 s1 n1 e1 (by omega)) (by simp (disch := omega) only [go_sem, ↓reduceIte, Int.reduceToNat, Nat.reduceEqDiff, Nat.reduceAdd, Nat.reduceMul, Nat.reduceSub, Nat.reducePow, Nat.reduceLT, Nat.reduceLeDiff, Int.reduceNeg, Int.reduceEq, Int.reduceLT, Int.reduceLE, reduceCtorEq]) ?_
      rintro r hs ⟨rfl, rfl, _⟩
      refine ⟨by simp [freeN], ?_⟩
      simp (disch := omega) only [go_sem, ↓reduceIte, Int.reduceToNat, Nat.reduceEqDiff, Nat.reduceAdd, Nat.reduceMul, Nat.reduceSub, Nat.reducePow, Nat.reduceLT, Nat.reduceLeDiff, Int.reduceNeg, Int.reduceEq, Int.reduceLT, Int.reduceLE, reduceCtorEq]
      refine call_open (con_flexact k2 s2 n2 e2 (by omega)) (by simp (disch := omega) only [go_sem, ↓reduceIte, Int.reduceToNat, Nat.reduceEqDiff, Nat.reduceAdd, Nat.reduceMul, Nat.reduceSub, Nat.reducePow, Nat.reduceLT, Nat.reduceLeDiff, Int.reduceNeg, Int.reduceEq, Int.reduceLT, Int.reduceLE, reduceCtorEq]) ?_
      rintro r hs ⟨rfl, rfl, _⟩
      refine ⟨by simp [freeN], ?_⟩
      simp (disch := omega) only [go_sem, ↓reduceIte, Int.reduceToNat, Nat.reduceEqDiff, Nat.reduceAdd, Nat.reduceMul, Nat.reduceSub, Nat.reducePow, Nat.reduceLT, Nat.reduceLeDiff, Int.reduceNeg, Int.reduceEq, Int.reduceLT, Int.reduceLE, reduceCtorEq]
      refine call_open (con_timesX (s1 && decide (k1 = 1)) n1 e1 (s2 && decide (k2 = 1)) n2 e2 (by omega) (by omega) (by omega) (by omega)) (by simp (disch := omega) only [go_sem, ↓reduceIte, Int.reduceToNat, Nat.reduceEqDiff, Nat.reduceAdd, Nat.reduceMul, Nat.reduceSub, Nat.reducePow, Nat.reduceLT, Nat.reduceLeDiff, Int.reduceNeg, Int.reduceEq, Int.reduceLT, Int.reduceLE, reduceCtorEq]) ?_
      rintro r hs ⟨rfl, rfl, _⟩
      refine ⟨by simp [freeN], ?_⟩
      simp (disch := omega) only [go_sem, ↓reduceIte, Int.reduceToNat, Nat.reduceEqDiff, Nat.reduceAdd, Nat.reduceMul, Nat.reduceSub, Nat.reducePow, Nat.reduceLT, Nat.reduceLeDiff, Int.reduceNeg, Int.reduceEq, Int.reduceLT, Int.reduceLE, reduceCtorEq]
      refine call_closed (con_float (((s1 && decide (k1 = 1)) != (s2 && decide (k2 = 1))) && decide (n1 * n2 ≠ 0)) (n1 * n2) (e1 + e2) mode (s1 != s2) (by omega) (by omega)) (by simp (disch := omega) only [go_sem, ↓reduceIte, Int.reduceToNat, Nat.reduceEqDiff, Nat.reduceAdd, Nat.reduceMul, Nat.reduceSub, Nat.reducePow, Nat.reduceLT, Nat.reduceLeDiff, Int.reduceNeg, Int.reduceEq, Int.reduceLT, Int.reduceLE, reduceCtorEq]) ?_
      rintro r hs ⟨rfl, rfl, _⟩
      refine ⟨by simp [freeN], ?_⟩
      simp (disch := omega) only [go_sem, ↓reduceIte, Int.reduceToNat, Nat.reduceEqDiff, Nat.reduceAdd, Nat.reduceMul, Nat.reduceSub, Nat.reducePow, Nat.reduceLT, Nat.reduceLeDiff, Int.reduceNeg, Int.reduceEq, Int.reduceLT, Int.reduceLE, reduceCtorEq]
      unfold mulV mulG muS
      rw [if_neg c1', if_neg c1', if_neg c2', if_neg c2', Int.toNat_natCast, Int.toNat_natCast]
      exact fin_valc (by simp (disch := omega) only [go_sem, ↓reduceIte, Int.reduceToNat, Nat.reduceEqDiff, Nat.reduceAdd, Nat.reduceMul, Nat.reduceSub, Nat.reducePow, Nat.reduceLT, Nat.reduceLeDiff, Int.reduceNeg, Int.reduceEq, Int.reduceLT, Int.reduceLE, reduceCtorEq]) (by simp (disch := omega) only [go_sem, ↓reduceIte, Int.reduceToNat, Nat.reduceEqDiff, Nat.reduceAdd, Nat.reduceMul, Nat.reduceSub, Nat.reducePow, Nat.reduceLT, Nat.reduceLeDiff, Int.reduceNeg, Int.reduceEq, Int.reduceLT, Int.reduceLE, reduceCtorEq]) isA_mk
end Go.Ab
namespace Go.Ab
open Go Go.Proofs
set_option linter.unusedVariables false
set_option linter.unusedSimpArgs false

theorem con_areFloats2 (mode k1 : Int) (s1 : Bool) (m1 e1 k2 : Int) (s2 : Bool) (m2 e2 : Int) :
    Con Tryd.prog 28 true [.v (.int .i64 mode), .sl 2 [.v (.int .i64 k1), .v (.bool s1), .v (.int .i64 m1), .v (.int .i64 e1), .v (.int .i64 k2), .v (.bool s2), .v (.int .i64 m2), .v (.int .i64 e2)]] []
      (isA (.v (.bool (modeB mode && (flB k1 s1 m1 e1 && flB k2 s2 m2 e2))))) := by
  have := con_areFloats mode [⟨k1, s1, m1, e1⟩, ⟨k2, s2, m2, e2⟩] (by simp)
  simp only [List.all_cons, List.all_nil, Bool.and_true] at this
  exact this

theorem con_FlMul (k1 : Int) (s1 : Bool) (m1 e1 k2 : Int) (s2 : Bool) (m2 e2 mode : Int) :
    Con Tryd.prog 11 true [.ag [.v (.int .i64 (k1)), .v (.bool (s1)), .v (.int .i64 (m1)), .v (.int .i64 (e1))], .ag [.v (.int .i64 (k2)), .v (.bool (s2)), .v (.int .i64 (m2)), .v (.int .i64 (e2))], .v (.int .i64 mode)] []
      (isA (if (modeB mode && (flB k1 s1 m1 e1 && flB k2 s2 m2 e2)) = true then .tu [.ag [.v (.int .i64 ((mulV k1 s1 m1 e1 k2 s2 m2 e2 mode).k)), .v (.bool ((mulV k1 s1 m1 e1 k2 s2 m2 e2 mode).s)), .v (.int .i64 ((mulV k1 s1 m1 e1 k2 s2 m2 e2 mode).m)), .v (.int .i64 ((mulV k1 s1 m1 e1 k2 s2 m2 e2 mode).e))], .v (.int .i64 (mulG k1 s1 m1 e1 k2 s2 m2 e2 mode))]
        else .tu [.ag [.v (.int .i64 (3)), .v (.bool (false)), .v (.int .i64 (0)), .v (.int .i64 (0))], .v (.int .i64 16)])) := by
  refine Con.of_aw Tryd.func11 rfl Tryd.ntmps11 (by simp) (by simp) (by simp) (W.sound ?_)
  show @W Tryd.prog 21 ⟨_⟩ ⟨fun x σ => @retW _ _ _ ⟨_⟩ _ ⟨_⟩ x σ⟩ _ _
  simp (disch := omega) only [go_sem, ↓reduceIte, Int.reduceToNat, Nat.reduceEqDiff, Nat.reduceAdd, Nat.reduceMul, Nat.reduceSub, Nat.reducePow, Nat.reduceLT, Nat.reduceLeDiff, Int.reduceNeg, Int.reduceEq, Int.reduceLT, Int.reduceLE, reduceCtorEq]
  refine call_closed (con_areFloats2 mode k1 s1 m1 e1 k2 s2 m2 e2) (by simp (disch := omega) only [go_sem, ↓reduceIte, Int.reduceToNat, Nat.reduceEqDiff, Nat.reduceAdd, Nat.reduceMul, Nat.reduceSub, Nat.reducePow, Nat.reduceLT, Nat.reduceLeDiff, Int.reduceNeg, Int.reduceEq, Int.reduceLT, Int.reduceLE, reduceCtorEq]) ?_
  rintro r hs ⟨rfl, rfl, _⟩
  refine ⟨by simp [freeN], ?_⟩
  simp (disch := omega) only [go_sem, ↓reduceIte, Int.reduceToNat, Nat.reduceEqDiff, Nat.reduceAdd, Nat.reduceMul, Nat.reduceSub, Nat.reducePow, Nat.reduceLT, Nat.reduceLeDiff, Int.reduceNeg, Int.reduceEq, Int.reduceLT, Int.reduceLE, reduceCtorEq]
  refine ifW_nb (fun h => ?_) (fun h => ?_)
  · simp (disch := omega) only [go_sem, ↓reduceIte, Int.reduceToNat, Nat.reduceEqDiff, Nat.reduceAdd, Nat.reduceMul, Nat.reduceSub, Nat.reducePow, Nat.reduceLT, Nat.reduceLeDiff, Int.reduceNeg, Int.reduceEq, Int.reduceLT, Int.reduceLE, reduceCtorEq, h]
    refine call_closed (con_nan) (by simp (disch := omega) only [go_sem, ↓reduceIte, Int.reduceToNat, Nat.reduceEqDiff, Nat.reduceAdd, Nat.reduceMul, Nat.reduceSub, Nat.reducePow, Nat.reduceLT, Nat.reduceLeDiff, Int.reduceNeg, Int.reduceEq, Int.reduceLT, Int.reduceLE, reduceCtorEq]) ?_
    rintro r hs ⟨rfl, rfl, _⟩
    refine ⟨by simp [freeN], ?_⟩
    simp (disch := omega) only [go_sem, ↓reduceIte, Int.reduceToNat, Nat.reduceEqDiff, Nat.reduceAdd, Nat.reduceMul, Nat.reduceSub, Nat.reducePow, Nat.reduceLT, Nat.reduceLeDiff, Int.reduceNeg, Int.reduceEq, Int.reduceLT, Int.reduceLE, reduceCtorEq]
    rw [if_neg (by rw [h]; simp)]
    exact fin_valc (by simp (disch := omega) only [go_sem, ↓reduceIte, Int.reduceToNat, Nat.reduceEqDiff, Nat.reduceAdd, Nat.reduceMul, Nat.reduceSub, Nat.reducePow, Nat.reduceLT, Nat.reduceLeDiff, Int.reduceNeg, Int.reduceEq, Int.reduceLT, Int.reduceLE, reduceCtorEq]) (by simp (disch := omega) only [go_sem, ↓reduceIte, Int.reduceToNat, Nat.reduceEqDiff, Nat.reduceAdd, Nat.reduceMul, Nat.reduceSub, Nat.reducePow, Nat.reduceLT, Nat.reduceLeDiff, Int.reduceNeg, Int.reduceEq, Int.reduceLT, Int.reduceLE, reduceCtorEq]) isA_mk
  · simp (disch := omega) only [go_sem, ↓reduceIte, Int.reduceToNat, Nat.reduceEqDiff, Nat.reduceAdd, Nat.reduceMul, Nat.reduceSub, Nat.reducePow, Nat.reduceLT, Nat.reduceLeDiff, Int.reduceNeg, Int.reduceEq, Int.reduceLT, Int.reduceLE, reduceCtorEq, h]
    have h' := h
    simp only [Bool.and_eq_true] at h'
    refine call_closed (con_mul k1 s1 m1 e1 k2 s2 m2 e2 mode h'.2.1 h'.2.2) (by simp (disch := omega) only [go_sem, ↓reduceIte, Int.reduceToNat, Nat.reduceEqDiff, Nat.reduceAdd, Nat.reduceMul, Nat.reduceSub, Nat.reducePow, Nat.reduceLT, Nat.reduceLeDiff, Int.reduceNeg, Int.reduceEq, Int.reduceLT, Int.reduceLE, reduceCtorEq]) ?_
    rintro r hs ⟨rfl, rfl, _⟩
    refine ⟨by simp [freeN], ?_⟩
    simp (disch := omega) only [go_sem, ↓reduceIte, Int.reduceToNat, Nat.reduceEqDiff, Nat.reduceAdd, Nat.reduceMul, Nat.reduceSub, Nat.reducePow, Nat.reduceLT, Nat.reduceLeDiff, Int.reduceNeg, Int.reduceEq, Int.reduceLT, Int.reduceLE, reduceCtorEq]
    rw [if_pos h]
    exact fin_valc (by simp (disch := omega) only [go_sem, ↓reduceIte, Int.reduceToNat, Nat.reduceEqDiff, Nat.reduceAdd, Nat.reduceMul, Nat.reduceSub, Nat.reducePow, Nat.reduceLT, Nat.reduceLeDiff, Int.reduceNeg, Int.reduceEq, Int.reduceLT, Int.reduceLE, reduceCtorEq]) (by simp (disch := omega) only [go_sem, ↓reduceIte, Int.reduceToNat, Nat.reduceEqDiff, Nat.reduceAdd, Nat.reduceMul, Nat.reduceSub, Nat.reducePow, Nat.reduceLT, Nat.reduceLeDiff, Int.reduceNeg, Int.reduceEq, Int.reduceLT, Int.reduceLE, reduceCtorEq]) isA_mk
end Go.Ab
namespace Go.Ab
open Go Go.Proofs
set_option linter.unusedVariables false
set_option linter.unusedSimpArgs false

theorem con_flokS (k : Int) (s : Bool) (m e : Int) : Con Tryd.prog 56 true [.ag [.v (.int .i64 (k)), .v (.bool (s)), .v (.int .i64 (m)), .v (.int .i64 (e))]] [] (isA (.v (.bool (flB k s m e)))) := by
  refine Con.of_aw Tryd.func56 rfl Tryd.ntmps56 (by simp) (by simp) (by simp) (W.sound ?_)
  show @W Tryd.prog 59 ⟨_⟩ ⟨fun x σ => @retW _ _ _ ⟨_⟩ _ ⟨_⟩ x σ⟩ _ _
  simp (disch := omega) only [go_sem, ↓reduceIte, Int.reduceToNat, Nat.reduceEqDiff, Nat.reduceAdd, Nat.reduceMul, Nat.reduceSub, Nat.reducePow, Nat.reduceLT, Nat.reduceLeDiff, Int.reduceNeg, Int.reduceEq, Int.reduceLT, Int.reduceLE, reduceCtorEq]
  refine ifW_dec (fun h0 => ?_) (fun h0 => ?_)
  · subst h0
    simp (disch := omega) only [go_sem, ↓reduceIte, Int.reduceToNat, Nat.reduceEqDiff, Nat.reduceAdd, Nat.reduceMul, Nat.reduceSub, Nat.reducePow, Nat.reduceLT, Nat.reduceLeDiff, Int.reduceNeg, Int.reduceEq, Int.reduceLT, Int.reduceLE, reduceCtorEq]
    repeat' first
      | simp (disch := omega) only [go_sem, ↓reduceIte, Int.reduceToNat, Nat.reduceEqDiff, Nat.reduceAdd, Nat.reduceMul, Nat.reduceSub, Nat.reducePow, Nat.reduceLT, Nat.reduceLeDiff, Int.reduceNeg, Int.reduceEq, Int.reduceLT, Int.reduceLE, reduceCtorEq, *]
      | (with_reducible refine ifW_dec (fun _ => ?_) (fun _ => ?_))
      | (with_reducible refine ifW_not (fun _ => ?_) (fun _ => ?_))
      | (with_reducible refine ifW_nb (fun _ => ?_) (fun _ => ?_))
      | (with_reducible refine ifW_b (fun _ => ?_) (fun _ => ?_))
    all_goals exact fin_valc (by simp (disch := omega) only [go_sem, ↓reduceIte, Int.reduceToNat, Nat.reduceEqDiff, Nat.reduceAdd, Nat.reduceMul, Nat.reduceSub, Nat.reducePow, Nat.reduceLT, Nat.reduceLeDiff, Int.reduceNeg, Int.reduceEq, Int.reduceLT, Int.reduceLE, reduceCtorEq]) (by simp (disch := omega) only [go_sem, ↓reduceIte, Int.reduceToNat, Nat.reduceEqDiff, Nat.reduceAdd, Nat.reduceMul, Nat.reduceSub, Nat.reducePow, Nat.reduceLT, Nat.reduceLeDiff, Int.reduceNeg, Int.reduceEq, Int.reduceLT, Int.reduceLE, reduceCtorEq]) ⟨by simp_all [tupA, flB] <;> omega, rfl, rfl⟩
  · simp (disch := omega) only [go_sem, ↓reduceIte, Int.reduceToNat, Nat.reduceEqDiff, Nat.reduceAdd, Nat.reduceMul, Nat.reduceSub, Nat.reducePow, Nat.reduceLT, Nat.reduceLeDiff, Int.reduceNeg, Int.reduceEq, Int.reduceLT, Int.reduceLE, reduceCtorEq, h0]
    refine ifW_dec (fun h2 => ?_) (fun h2 => ?_)
    · subst h2
      simp (disch := omega) only [go_sem, ↓reduceIte, Int.reduceToNat, Nat.reduceEqDiff, Nat.reduceAdd, Nat.reduceMul, Nat.reduceSub, Nat.reducePow, Nat.reduceLT, Nat.reduceLeDiff, Int.reduceNeg, Int.reduceEq, Int.reduceLT, Int.reduceLE, reduceCtorEq]
      repeat' first
        | simp (disch := omega) only [go_sem, ↓reduceIte, Int.reduceToNat, Nat.reduceEqDiff, Nat.reduceAdd, Nat.reduceMul, Nat.reduceSub, Nat.reducePow, Nat.reduceLT, Nat.reduceLeDiff, Int.reduceNeg, Int.reduceEq, Int.reduceLT, Int.reduceLE, reduceCtorEq, *]
        | (with_reducible refine ifW_dec (fun _ => ?_) (fun _ => ?_))
        | (with_reducible refine ifW_not (fun _ => ?_) (fun _ => ?_))
        | (with_reducible refine ifW_nb (fun _ => ?_) (fun _ => ?_))
        | (with_reducible refine ifW_b (fun _ => ?_) (fun _ => ?_))
      all_goals exact fin_valc (by simp (disch := omega) only [go_sem, ↓reduceIte, Int.reduceToNat, Nat.reduceEqDiff, Nat.reduceAdd, Nat.reduceMul, Nat.reduceSub, Nat.reducePow, Nat.reduceLT, Nat.reduceLeDiff, Int.reduceNeg, Int.reduceEq, Int.reduceLT, Int.reduceLE, reduceCtorEq]) (by simp (disch := omega) only [go_sem, ↓reduceIte, Int.reduceToNat, Nat.reduceEqDiff, Nat.reduceAdd, Nat.reduceMul, Nat.reduceSub, Nat.reducePow, Nat.reduceLT, Nat.reduceLeDiff, Int.reduceNeg, Int.reduceEq, Int.reduceLT, Int.reduceLE, reduceCtorEq]) ⟨by simp_all [tupA, flB] <;> omega, rfl, rfl⟩
    · simp (disch := omega) only [go_sem, ↓reduceIte, Int.reduceToNat, Nat.reduceEqDiff, Nat.reduceAdd, Nat.reduceMul, Nat.reduceSub, Nat.reducePow, Nat.reduceLT, Nat.reduceLeDiff, Int.reduceNeg, Int.reduceEq, Int.reduceLT, Int.reduceLE, reduceCtorEq, h2]
      refine ifW_dec (fun h3 => ?_) (fun h3 => ?_)
      · subst h3
        simp (disch := omega) only [go_sem, ↓reduceIte, Int.reduceToNat, Nat.reduceEqDiff, Nat.reduceAdd, Nat.reduceMul, Nat.reduceSub, Nat.reducePow, Nat.reduceLT, Nat.reduceLeDiff, Int.reduceNeg, Int.reduceEq, Int.reduceLT, Int.reduceLE, reduceCtorEq]
        repeat' first
          | simp (disch := omega) only [go_sem, ↓reduceIte, Int.reduceToNat, Nat.reduceEqDiff, Nat.reduceAdd, Nat.reduceMul, Nat.reduceSub, Nat.reducePow, Nat.reduceLT, Nat.reduceLeDiff, Int.reduceNeg, Int.reduceEq, Int.reduceLT, Int.reduceLE, reduceCtorEq, *]
          | (with_reducible refine ifW_dec (fun _ => ?_) (fun _ => ?_))
          | (with_reducible refine ifW_not (fun _ => ?_) (fun _ => ?_))
          | (with_reducible refine ifW_nb (fun _ => ?_) (fun _ => ?_))
          | (with_reducible refine ifW_b (fun _ => ?_) (fun _ => ?_))
        all_goals exact fin_valc (by simp (disch := omega) only [go_sem, ↓reduceIte, Int.reduceToNat, Nat.reduceEqDiff, Nat.reduceAdd, Nat.reduceMul, Nat.reduceSub, Nat.reducePow, Nat.reduceLT, Nat.reduceLeDiff, Int.reduceNeg, Int.reduceEq, Int.reduceLT, Int.reduceLE, reduceCtorEq]) (by simp (disch := omega) only [go_sem, ↓reduceIte, Int.reduceToNat, Nat.reduceEqDiff, Nat.reduceAdd, Nat.reduceMul, Nat.reduceSub, Nat.reducePow, Nat.reduceLT, Nat.reduceLeDiff, Int.reduceNeg, Int.reduceEq, Int.reduceLT, Int.reduceLE, reduceCtorEq]) ⟨by simp_all [tupA, flB] <;> omega, rfl, rfl⟩
      · simp (disch := omega) only [go_sem, ↓reduceIte, Int.reduceToNat, Nat.reduceEqDiff, Nat.reduceAdd, Nat.reduceMul, Nat.reduceSub, Nat.reducePow, Nat.reduceLT, Nat.reduceLeDiff, Int.reduceNeg, Int.reduceEq, Int.reduceLT, Int.reduceLE, reduceCtorEq, h3]
        refine ifW_dec (fun h1 => ?_) (fun h1 => ?_)
        · subst h1
          simp (disch := omega) only [go_sem, ↓reduceIte, Int.reduceToNat, Nat.reduceEqDiff, Nat.reduceAdd, Nat.reduceMul, Nat.reduceSub, Nat.reducePow, Nat.reduceLT, Nat.reduceLeDiff, Int.reduceNeg, Int.reduceEq, Int.reduceLT, Int.reduceLE, reduceCtorEq]
          repeat' first
            | simp (disch := omega) only [go_sem, ↓reduceIte, Int.reduceToNat, Nat.reduceEqDiff, Nat.reduceAdd, Nat.reduceMul, Nat.reduceSub, Nat.reducePow, Nat.reduceLT, Nat.reduceLeDiff, Int.reduceNeg, Int.reduceEq, Int.reduceLT, Int.reduceLE, reduceCtorEq, *]
            | (with_reducible refine ifW_dec (fun _ => ?_) (fun _ => ?_))
            | (with_reducible refine ifW_not (fun _ => ?_) (fun _ => ?_))
            | (with_reducible refine ifW_nb (fun _ => ?_) (fun _ => ?_))
            | (with_reducible refine ifW_b (fun _ => ?_) (fun _ => ?_))
          all_goals refine fin_valc (by simp (disch := omega) only [go_sem, ↓reduceIte, Int.reduceToNat, Nat.reduceEqDiff, Nat.reduceAdd, Nat.reduceMul, Nat.reduceSub, Nat.reducePow, Nat.reduceLT, Nat.reduceLeDiff, Int.reduceNeg, Int.reduceEq, Int.reduceLT, Int.reduceLE, reduceCtorEq]) (by simp (disch := omega) only [go_sem, ↓reduceIte, Int.reduceToNat, Nat.reduceEqDiff, Nat.reduceAdd, Nat.reduceMul, Nat.reduceSub, Nat.reducePow, Nat.reduceLT, Nat.reduceLeDiff, Int.reduceNeg, Int.reduceEq, Int.reduceLT, Int.reduceLE, reduceCtorEq]) ⟨?_, rfl, rfl⟩
          all_goals simp only [tupA, flB, if_true]
          all_goals congr 2
          all_goals rw [Bool.eq_iff_iff]
          all_goals simp only [Bool.and_eq_true, Bool.or_eq_true, decide_eq_true_eq, Bool.false_eq_true, Bool.true_eq_false, false_iff, true_iff, not_and, not_or]
          all_goals omega
        · simp (disch := omega) only [go_sem, ↓reduceIte, Int.reduceToNat, Nat.reduceEqDiff, Nat.reduceAdd, Nat.reduceMul, Nat.reduceSub, Nat.reducePow, Nat.reduceLT, Nat.reduceLeDiff, Int.reduceNeg, Int.reduceEq, Int.reduceLT, Int.reduceLE, reduceCtorEq, h1]
          refine fin_valc (by simp (disch := omega) only [go_sem, ↓reduceIte, Int.reduceToNat, Nat.reduceEqDiff, Nat.reduceAdd, Nat.reduceMul, Nat.reduceSub, Nat.reducePow, Nat.reduceLT, Nat.reduceLeDiff, Int.reduceNeg, Int.reduceEq, Int.reduceLT, Int.reduceLE, reduceCtorEq]) (by simp (disch := omega) only [go_sem, ↓reduceIte, Int.reduceToNat, Nat.reduceEqDiff, Nat.reduceAdd, Nat.reduceMul, Nat.reduceSub, Nat.reducePow, Nat.reduceLT, Nat.reduceLeDiff, Int.reduceNeg, Int.reduceEq, Int.reduceLT, Int.reduceLE, reduceCtorEq]) ⟨?_, rfl, rfl⟩
          simp [tupA, flB, h0, h1, h2, h3]

theorem con_l5ok (k1 : Int) (s1 : Bool) (m1 e1 k2 : Int) (s2 : Bool) (m2 e2 mode : Int) :
    Con Tryd.prog 26 true [.ag [.v (.int .i64 (k1)), .v (.bool (s1)), .v (.int .i64 (m1)), .v (.int .i64 (e1))], .ag [.v (.int .i64 (k2)), .v (.bool (s2)), .v (.int .i64 (m2)), .v (.int .i64 (e2))], .v (.int .i64 mode)] [] (isA (.v (.bool (modeB mode && (flB k1 s1 m1 e1 && flB k2 s2 m2 e2))))) := by
  refine Con.of_aw Tryd.func26 rfl Tryd.ntmps26 (by simp) (by simp) (by simp) (W.sound ?_)
  show @W Tryd.prog 17 ⟨_⟩ ⟨fun x σ => @retW _ _ _ ⟨_⟩ _ ⟨_⟩ x σ⟩ _ _
  simp (disch := omega) only [go_sem, ↓reduceIte, Int.reduceToNat, Nat.reduceEqDiff, Nat.reduceAdd, Nat.reduceMul, Nat.reduceSub, Nat.reducePow, Nat.reduceLT, Nat.reduceLeDiff, Int.reduceNeg, Int.reduceEq, Int.reduceLT, Int.reduceLE, reduceCtorEq]
  refine call_closed (con_flokS k1 s1 m1 e1) (by simp (disch := omega) only [go_sem, ↓reduceIte, Int.reduceToNat, Nat.reduceEqDiff, Nat.reduceAdd, Nat.reduceMul, Nat.reduceSub, Nat.reducePow, Nat.reduceLT, Nat.reduceLeDiff, Int.reduceNeg, Int.reduceEq, Int.reduceLT, Int.reduceLE, reduceCtorEq]) ?_
  rintro r hs ⟨rfl, rfl, _⟩
  refine ⟨by simp [freeN], ?_⟩
  simp (disch := omega) only [go_sem, ↓reduceIte, Int.reduceToNat, Nat.reduceEqDiff, Nat.reduceAdd, Nat.reduceMul, Nat.reduceSub, Nat.reducePow, Nat.reduceLT, Nat.reduceLeDiff, Int.reduceNeg, Int.reduceEq, Int.reduceLT, Int.reduceLE, reduceCtorEq]
  refine ifW_b (fun h1 => ?_) (fun h1 => ?_)
  · simp (disch := omega) only [go_sem, ↓reduceIte, Int.reduceToNat, Nat.reduceEqDiff, Nat.reduceAdd, Nat.reduceMul, Nat.reduceSub, Nat.reducePow, Nat.reduceLT, Nat.reduceLeDiff, Int.reduceNeg, Int.reduceEq, Int.reduceLT, Int.reduceLE, reduceCtorEq, h1]
    refine call_closed (con_flokS k2 s2 m2 e2) (by simp (disch := omega) only [go_sem, ↓reduceIte, Int.reduceToNat, Nat.reduceEqDiff, Nat.reduceAdd, Nat.reduceMul, Nat.reduceSub, Nat.reducePow, Nat.reduceLT, Nat.reduceLeDiff, Int.reduceNeg, Int.reduceEq, Int.reduceLT, Int.reduceLE, reduceCtorEq]) ?_
    rintro r hs ⟨rfl, rfl, _⟩
    refine ⟨by simp [freeN], ?_⟩
    simp (disch := omega) only [go_sem, ↓reduceIte, Int.reduceToNat, Nat.reduceEqDiff, Nat.reduceAdd, Nat.reduceMul, Nat.reduceSub, Nat.reducePow, Nat.reduceLT, Nat.reduceLeDiff, Int.reduceNeg, Int.reduceEq, Int.reduceLT, Int.reduceLE, reduceCtorEq]
    refine ifW_b (fun h2 => ?_) (fun h2 => ?_)
    · simp (disch := omega) only [go_sem, ↓reduceIte, Int.reduceToNat, Nat.reduceEqDiff, Nat.reduceAdd, Nat.reduceMul, Nat.reduceSub, Nat.reducePow, Nat.reduceLT, Nat.reduceLeDiff, Int.reduceNeg, Int.reduceEq, Int.reduceLT, Int.reduceLE, reduceCtorEq, h2]
      refine call_closed (con_l4mode mode) (by simp (disch := omega) only [go_sem, ↓reduceIte, Int.reduceToNat, Nat.reduceEqDiff, Nat.reduceAdd, Nat.reduceMul, Nat.reduceSub, Nat.reducePow, Nat.reduceLT, Nat.reduceLeDiff, Int.reduceNeg, Int.reduceEq, Int.reduceLT, Int.reduceLE, reduceCtorEq]) ?_
      rintro r hs ⟨rfl, rfl, _⟩
      refine ⟨by simp [freeN], ?_⟩
      simp (disch := omega) only [go_sem, ↓reduceIte, Int.reduceToNat, Nat.reduceEqDiff, Nat.reduceAdd, Nat.reduceMul, Nat.reduceSub, Nat.reducePow, Nat.reduceLT, Nat.reduceLeDiff, Int.reduceNeg, Int.reduceEq, Int.reduceLT, Int.reduceLE, reduceCtorEq]
      refine fin_valc (by simp (disch := omega) only [go_sem, ↓reduceIte, Int.reduceToNat, Nat.reduceEqDiff, Nat.reduceAdd, Nat.reduceMul, Nat.reduceSub, Nat.reducePow, Nat.reduceLT, Nat.reduceLeDiff, Int.reduceNeg, Int.reduceEq, Int.reduceLT, Int.reduceLE, reduceCtorEq]) (by simp (disch := omega) only [go_sem, ↓reduceIte, Int.reduceToNat, Nat.reduceEqDiff, Nat.reduceAdd, Nat.reduceMul, Nat.reduceSub, Nat.reducePow, Nat.reduceLT, Nat.reduceLeDiff, Int.reduceNeg, Int.reduceEq, Int.reduceLT, Int.reduceLE, reduceCtorEq]) ⟨?_, rfl, rfl⟩
      simp [tupA, h1, h2, modeB]
    · simp (disch := omega) only [go_sem, ↓reduceIte, Int.reduceToNat, Nat.reduceEqDiff, Nat.reduceAdd, Nat.reduceMul, Nat.reduceSub, Nat.reducePow, Nat.reduceLT, Nat.reduceLeDiff, Int.reduceNeg, Int.reduceEq, Int.reduceLT, Int.reduceLE, reduceCtorEq, h2]
      refine fin_valc (by simp (disch := omega) only [go_sem, ↓reduceIte, Int.reduceToNat, Nat.reduceEqDiff, Nat.reduceAdd, Nat.reduceMul, Nat.reduceSub, Nat.reducePow, Nat.reduceLT, Nat.reduceLeDiff, Int.reduceNeg, Int.reduceEq, Int.reduceLT, Int.reduceLE, reduceCtorEq]) (by simp (disch := omega) only [go_sem, ↓reduceIte, Int.reduceToNat, Nat.reduceEqDiff, Nat.reduceAdd, Nat.reduceMul, Nat.reduceSub, Nat.reducePow, Nat.reduceLT, Nat.reduceLeDiff, Int.reduceNeg, Int.reduceEq, Int.reduceLT, Int.reduceLE, reduceCtorEq]) ⟨?_, rfl, rfl⟩
      simp [tupA, h1, h2]
  · simp (disch := omega) only [go_sem, ↓reduceIte, Int.reduceToNat, Nat.reduceEqDiff, Nat.reduceAdd, Nat.reduceMul, Nat.reduceSub, Nat.reducePow, Nat.reduceLT, Nat.reduceLeDiff, Int.reduceNeg, Int.reduceEq, Int.reduceLT, Int.reduceLE, reduceCtorEq, h1]
    refine fin_valc (by simp (disch := omega) only [go_sem, ↓reduceIte, Int.reduceToNat, Nat.reduceEqDiff, Nat.reduceAdd, Nat.reduceMul, Nat.reduceSub, Nat.reducePow, Nat.reduceLT, Nat.reduceLeDiff, Int.reduceNeg, Int.reduceEq, Int.reduceLT, Int.reduceLE, reduceCtorEq]) (by simp (disch := omega) only [go_sem, ↓reduceIte, Int.reduceToNat, Nat.reduceEqDiff, Nat.reduceAdd, Nat.reduceMul, Nat.reduceSub, Nat.reducePow, Nat.reduceLT, Nat.reduceLeDiff, Int.reduceNeg, Int.reduceEq, Int.reduceLT, Int.reduceLE, reduceCtorEq]) ⟨?_, rfl, rfl⟩
    simp [tupA, h1]

def l5dM (k m : Int) : Nat := if k = 1 then oM m.toNat else 0
def l5dE (k m e : Int) : Int := if k = 1 then oE m.toNat e else 0
def l5dS (k : Int) (s : Bool) (m : Int) : Bool := if k = 1 then oS (s && decide (m.toNat ≠ 0)) m.toNat else false

theorem con_l5dy (k : Int) (s : Bool) (m e : Int) (h : flB k s m e = true) : Con Tryd.prog 58 false [.ag [.v (.int .i64 (k)), .v (.bool (s)), .v (.int .i64 (m)), .v (.int .i64 (e))]] [] (isA (.ag [.v (.bool (l5dS k s m)), .sl (lim (l5dM k m)).length (ints (lim (l5dM k m))), .v (.int .i64 (l5dE k m e))])) := by
  refine Con.frzA ?_
  obtain ⟨a1, a2, a3, a4⟩ := flB_rng h
  obtain ⟨n, rfl⟩ := Int.eq_ofNat_of_zero_le a1.1
  have hb : bl n ≤ 53 := bl_le.2 (by omega)
  have hl := len_bl hb
  refine Con.of_aw Tryd.func58 rfl Tryd.ntmps58 (by simp) (by simp) (by simp) (W.sound ?_)
  show @W Tryd.prog 16 ⟨_⟩ ⟨fun x σ => @retW _ _ _ ⟨_⟩ _ ⟨_⟩ x σ⟩ _ _
  simp (disch := omega) only [go_sem, ↓reduceIte, Int.reduceToNat, Nat.reduceEqDiff, Nat.reduceAdd, Nat.reduceMul, Nat.reduceSub, Nat.reducePow, Nat.reduceLT, Nat.reduceLeDiff, Int.reduceNeg, Int.reduceEq, Int.reduceLT, Int.reduceLE, reduceCtorEq]
  refine ifW_not (fun h1 => ?_) (fun h1 => ?_)
  · simp (disch := omega) only [go_sem, ↓reduceIte, Int.reduceToNat, Nat.reduceEqDiff, Nat.reduceAdd, Nat.reduceMul, Nat.reduceSub, Nat.reducePow, Nat.reduceLT, Nat.reduceLeDiff, Int.reduceNeg, Int.reduceEq, Int.reduceLT, Int.reduceLE, reduceCtorEq, h1]
    unfold l5dS l5dM l5dE
    rw [if_neg h1, if_neg h1, if_neg h1, lim_zero]
    refine fin_val (by simp (disch := omega) only [go_sem, ↓reduceIte, Int.reduceToNat, Nat.reduceEqDiff, Nat.reduceAdd, Nat.reduceMul, Nat.reduceSub, Nat.reducePow, Nat.reduceLT, Nat.reduceLeDiff, Int.reduceNeg, Int.reduceEq, Int.reduceLT, Int.reduceLE, reduceCtorEq]) ?_
    show snap _ 6 _ = _
    simp (disch := omega) only [go_sem, ↓reduceIte, Int.reduceToNat, Nat.reduceEqDiff, Nat.reduceAdd, Nat.reduceMul, Nat.reduceSub, Nat.reducePow, Nat.reduceLT, Nat.reduceLeDiff, Int.reduceNeg, Int.reduceEq, Int.reduceLT, Int.reduceLE, reduceCtorEq]
  · simp (disch := omega) only [go_sem, ↓reduceIte, Int.reduceToNat, Nat.reduceEqDiff, Nat.reduceAdd, Nat.reduceMul, Nat.reduceSub, Nat.reducePow, Nat.reduceLT, Nat.reduceLeDiff, Int.reduceNeg, Int.reduceEq, Int.reduceLT, Int.reduceLE, reduceCtorEq, h1]
    refine draw_of rfl [⟨0, [], []⟩, ⟨1, [], []⟩, ⟨2, [1], []⟩, ⟨3, [1], []⟩, ⟨6, [1, 3], []⟩, ⟨7, [1, 3], []⟩, ⟨4, [1, 7], []⟩, ⟨5, [7], []⟩, ⟨8, [], []⟩, ⟨9, [], []⟩] (by kernel_rfl) ?_
    simp (disch := omega) only [go_sem, ↓reduceIte, Int.reduceToNat, Nat.reduceEqDiff, Nat.reduceAdd, Nat.reduceMul, Nat.reduceSub, Nat.reducePow, Nat.reduceLT, Nat.reduceLeDiff, Int.reduceNeg, Int.reduceEq, Int.reduceLT, Int.reduceLE, reduceCtorEq]
    refine call_open (con_l2ofF n (by omega)) (by simp (disch := omega) only [go_sem, ↓reduceIte, Int.reduceToNat, Nat.reduceEqDiff, Nat.reduceAdd, Nat.reduceMul, Nat.reduceSub, Nat.reducePow, Nat.reduceLT, Nat.reduceLeDiff, Int.reduceNeg, Int.reduceEq, Int.reduceLT, Int.reduceLE, reduceCtorEq]) ?_
    rintro r hs ⟨rfl, rfl, _⟩
    refine ⟨by simp [freeN], ?_⟩
    simp (disch := omega) only [go_sem, ↓reduceIte, Int.reduceToNat, Nat.reduceEqDiff, Nat.reduceAdd, Nat.reduceMul, Nat.reduceSub, Nat.reducePow, Nat.reduceLT, Nat.reduceLeDiff, Int.reduceNeg, Int.reduceEq, Int.reduceLT, Int.reduceLE, reduceCtorEq]
    refine call_open (con_l3make s n (by omega)) (by simp (disch := omega) only [go_sem, ↓reduceIte, Int.reduceToNat, Nat.reduceEqDiff, Nat.reduceAdd, Nat.reduceMul, Nat.reduceSub, Nat.reducePow, Nat.reduceLT, Nat.reduceLeDiff, Int.reduceNeg, Int.reduceEq, Int.reduceLT, Int.reduceLE, reduceCtorEq]) ?_
    rintro r hs ⟨rfl, rfl, _⟩
    refine ⟨by simp [freeN], ?_⟩
    simp (disch := omega) only [go_sem, ↓reduceIte, Int.reduceToNat, Nat.reduceEqDiff, Nat.reduceAdd, Nat.reduceMul, Nat.reduceSub, Nat.reducePow, Nat.reduceLT, Nat.reduceLeDiff, Int.reduceNeg, Int.reduceEq, Int.reduceLT, Int.reduceLE, reduceCtorEq]
    refine call_open (con_l4make (s && decide (n ≠ 0)) n e (by omega) (by omega)) (by simp (disch := omega) only [go_sem, ↓reduceIte, Int.reduceToNat, Nat.reduceEqDiff, Nat.reduceAdd, Nat.reduceMul, Nat.reduceSub, Nat.reducePow, Nat.reduceLT, Nat.reduceLeDiff, Int.reduceNeg, Int.reduceEq, Int.reduceLT, Int.reduceLE, reduceCtorEq]) ?_
    rintro r hs ⟨rfl, rfl, _⟩
    refine ⟨by simp [freeN], ?_⟩
    simp (disch := omega) only [go_sem, ↓reduceIte, Int.reduceToNat, Nat.reduceEqDiff, Nat.reduceAdd, Nat.reduceMul, Nat.reduceSub, Nat.reducePow, Nat.reduceLT, Nat.reduceLeDiff, Int.reduceNeg, Int.reduceEq, Int.reduceLT, Int.reduceLE, reduceCtorEq]
    unfold l5dS l5dM l5dE
    rw [if_pos h1, if_pos h1, if_pos h1, Int.toNat_natCast]
    refine fin_val (by simp (disch := omega) only [go_sem, ↓reduceIte, Int.reduceToNat, Nat.reduceEqDiff, Nat.reduceAdd, Nat.reduceMul, Nat.reduceSub, Nat.reducePow, Nat.reduceLT, Nat.reduceLeDiff, Int.reduceNeg, Int.reduceEq, Int.reduceLT, Int.reduceLE, reduceCtorEq]) ?_
    show snap _ 6 _ = _
    simp (disch := omega) only [go_sem, ↓reduceIte, Int.reduceToNat, Nat.reduceEqDiff, Nat.reduceAdd, Nat.reduceMul, Nat.reduceSub, Nat.reducePow, Nat.reduceLT, Nat.reduceLeDiff, Int.reduceNeg, Int.reduceEq, Int.reduceLT, Int.reduceLE, reduceCtorEq]
end Go.Ab
namespace Go.Ab
open Go Go.Proofs
set_option linter.unusedVariables false
set_option linter.unusedSimpArgs false

theorem l5d_rng {k : Int} {s : Bool} {m e : Int} (h : flB k s m e = true) : bl (l5dM k m) ≤ 53 ∧ (-1074 ≤ l5dE k m e ∧ l5dE k m e ≤ 971 + 53) := by
  obtain ⟨a1, a2, a3, a4⟩ := flB_rng h
  have hb : bl m.toNat ≤ 53 := bl_le.2 (by omega)
  unfold l5dM l5dE
  by_cases h1 : k = 1
  · rw [if_pos h1, if_pos h1]
    exact ⟨Nat.le_trans (bl_mono (oM_le _)) hb, oE_rng hb (by omega) (by omega) a2⟩
  · rw [if_neg h1, if_neg h1, bl_zero]; omega

theorem mul_canon {k1 : Int} {s1 : Bool} {m1 e1 k2 : Int} {s2 : Bool} {m2 e2 mode : Int} (z : Bool) (h1 : flB k1 s1 m1 e1 = true) (h2 : flB k2 s2 m2 e2 = true) :
    flV (oS ((l5dS k1 s1 m1 != l5dS k2 s2 m2) && decide (l5dM k1 m1 * l5dM k2 m2 ≠ 0)) (l5dM k1 m1 * l5dM k2 m2)) (oM (l5dM k1 m1 * l5dM k2 m2)) (oE (l5dM k1 m1 * l5dM k2 m2) (l5dE k1 m1 e1 + l5dE k2 m2 e2)) mode z = flV (muS k1 s1 m1 k2 s2 m2) (m1.toNat * m2.toNat) (e1 + e2) mode z ∧
    flG (oS ((l5dS k1 s1 m1 != l5dS k2 s2 m2) && decide (l5dM k1 m1 * l5dM k2 m2 ≠ 0)) (l5dM k1 m1 * l5dM k2 m2)) (oM (l5dM k1 m1 * l5dM k2 m2)) (oE (l5dM k1 m1 * l5dM k2 m2) (l5dE k1 m1 e1 + l5dE k2 m2 e2)) mode = flG (muS k1 s1 m1 k2 s2 m2) (m1.toNat * m2.toNat) (e1 + e2) mode := by
  obtain ⟨a1, a2, a3, a4, a5, _⟩ := flB_rng h1
  obtain ⟨b1, b2, b3, b4, b5, _⟩ := flB_rng h2
  rw [(flV_canon _ _ _ mode z).1, (flV_canon _ _ _ mode z).2]
  by_cases c : k1 = 1 ∧ k2 = 1
  · obtain ⟨c1, c2⟩ := c
    have n1 : m1.toNat ≠ 0 := by have := a5 c1; omega
    have n2 : m2.toNat ≠ 0 := by have := b5 c2; omega
    have o1 : oM m1.toNat ≠ 0 := fun e => n1 (oM_eq_zero.1 e)
    have o2 : oM m2.toNat ≠ 0 := fun e => n2 (oM_eq_zero.1 e)
    have hS : ((l5dS k1 s1 m1 != l5dS k2 s2 m2) && decide (l5dM k1 m1 * l5dM k2 m2 ≠ 0)) = muS k1 s1 m1 k2 s2 m2 := by
      unfold l5dS l5dM muS oS
      simp [c1, c2, n1, n2, o1, o2, Nat.mul_ne_zero n1 n2, Nat.mul_ne_zero o1 o2]
    rw [hS]
    have hM : l5dM k1 m1 * l5dM k2 m2 = oM m1.toNat * oM m2.toNat := by unfold l5dM; rw [if_pos c1, if_pos c2]
    have hE : l5dE k1 m1 e1 + l5dE k2 m2 e2 = e1 + e2 + ((tz m1.toNat + tz m2.toNat : Nat) : Int) := by
      unfold l5dE oE; rw [if_pos c1, if_pos c2, if_neg n1, if_neg n2]; omega
    have hp : m1.toNat * m2.toNat = oM m1.toNat * oM m2.toNat * 2 ^ (tz m1.toNat + tz m2.toNat) := by
      have q1 := @oM_mul m1.toNat
      have q2 := @oM_mul m2.toNat
      rw [Nat.pow_add]
      calc m1.toNat * m2.toNat = (oM m1.toNat * 2 ^ tz m1.toNat) * (oM m2.toNat * 2 ^ tz m2.toNat) := by rw [q1, q2]
        _ = _ := by rw [Nat.mul_mul_mul_comm]
    have h0 : oM m1.toNat * oM m2.toNat ≠ 0 := Nat.mul_ne_zero o1 o2
    rw [hM, hE, hp]
    generalize oM m1.toNat * oM m2.toNat = P at *
    generalize tz m1.toNat + tz m2.toNat = t at *
    rw [← (flV_norm _ P _ mode z).1, ← (flV_norm _ P _ mode z).2, ← (flV_norm _ (P * 2 ^ t) _ mode z).1, ← (flV_norm _ (P * 2 ^ t) _ mode z).2]
    have g0 : P * 2 ^ t ≠ 0 := Nat.mul_ne_zero h0 (Nat.pos_iff_ne_zero.1 (Nat.pow_pos (by omega)))
    have hoE : oE P (e1 + e2 + (t : Int)) = oE (P * 2 ^ t) (e1 + e2) := by
      unfold oE; rw [if_neg h0, if_neg g0, tz_mul_pow h0]; omega
    rw [oM_pow, hoE]
    exact ⟨rfl, rfl⟩
  · have hz : l5dM k1 m1 * l5dM k2 m2 = 0 := by
      unfold l5dM
      by_cases c1 : k1 = 1
      · rw [if_neg (fun c2 => c ⟨c1, c2⟩ : ¬ k2 = 1)]; simp
      · rw [if_neg c1]; simp
    have hz2 : m1.toNat * m2.toNat = 0 := by
      by_cases c1 : k1 = 1
      · have := (b4 (fun c2 => c ⟨c1, c2⟩)).1; rw [this]; simp
      · have := (a4 c1).1; rw [this]; simp
    unfold flV flG
    rw [if_pos hz, if_pos hz, if_pos hz2, if_pos hz2]
    exact ⟨rfl, rfl⟩

set_option maxRecDepth 100000 in
theorem con_l5mul (k1 : Int) (s1 : Bool) (m1 e1 k2 : Int) (s2 : Bool) (m2 e2 mode : Int) (h1 : flB k1 s1 m1 e1 = true) (h2 : flB k2 s2 m2 e2 = true) (hmode : 0 ≤ mode ∧ mode ≤ 4) :
    Con Tryd.prog 27 true [.ag [.v (.int .i64 (k1)), .v (.bool (s1)), .v (.int .i64 (m1)), .v (.int .i64 (e1))], .ag [.v (.int .i64 (k2)), .v (.bool (s2)), .v (.int .i64 (m2)), .v (.int .i64 (e2))], .v (.int .i64 mode)] []
      (isA (.tu [.ag [.v (.int .i64 ((mulV k1 s1 m1 e1 k2 s2 m2 e2 mode).k)), .v (.bool ((mulV k1 s1 m1 e1 k2 s2 m2 e2 mode).s)), .v (.int .i64 ((mulV k1 s1 m1 e1 k2 s2 m2 e2 mode).m)), .v (.int .i64 ((mulV k1 s1 m1 e1 k2 s2 m2 e2 mode).e))], .v (.int .i64 (mulG k1 s1 m1 e1 k2 s2 m2 e2 mode))])) := by
  have hr1 := (flB_rng h1).2.2.1
  have hr2 := (flB_rng h2).2.2.1
  obtain ⟨d1, d2⟩ := l5d_rng h1
  obtain ⟨f1, f2⟩ := l5d_rng h2
  obtain ⟨mc1, mc2⟩ := mul_canon (mode := mode) (s1 != s2) h1 h2
  obtain rfl | rfl | rfl | rfl : k1 = 0 ∨ k1 = 1 ∨ k1 = 2 ∨ k1 = 3 := by omega
  · obtain rfl | rfl | rfl | rfl : k2 = 0 ∨ k2 = 1 ∨ k2 = 2 ∨ k2 = 3 := by omega
    · refine Con.of_aw Tryd.func27 rfl Tryd.ntmps27 (by simp) (by simp) (by simp) (W.sound ?_)
      show @W Tryd.prog 67 ⟨_⟩ ⟨fun x σ => @retW _ _ _ ⟨_⟩ _ ⟨_⟩ x σ⟩ _ _
      simp (disch := omega) only [go_sem, ↓reduceIte, Int.reduceToNat, Nat.reduceEqDiff, Nat.reduceAdd, Nat.reduceMul, Nat.reduceSub, Nat.reducePow, Nat.reduceLT, Nat.reduceLeDiff, Int.reduceNeg, Int.reduceEq, Int.reduceLT, Int.reduceLE, reduceCtorEq]
      refine draw_of rfl [⟨0, [], []⟩, ⟨2, [0], []⟩, ⟨5, [0, 2], []⟩, ⟨6, [0, 2], []⟩, ⟨1, [2], []⟩, ⟨3, [], []⟩, ⟨4, [], []⟩, ⟨7, [], []⟩, ⟨8, [], []⟩, ⟨9, [], []⟩, ⟨10, [], []⟩, ⟨11, [], []⟩] (by kernel_rfl) ?_
      simp (disch := omega) only [go_sem, ↓reduceIte, Int.reduceToNat, Nat.reduceEqDiff, Nat.reduceAdd, Nat.reduceMul, Nat.reduceSub, Nat.reducePow, Nat.reduceLT, Nat.reduceLeDiff, Int.reduceNeg, Int.reduceEq, Int.reduceLT, Int.reduceLE, reduceCtorEq]
      refine call_open (con_l5dy (0) s1 m1 e1 h1) (by simp (disch := omega) only [go_sem, ↓reduceIte, Int.reduceToNat, Nat.reduceEqDiff, Nat.reduceAdd, Nat.reduceMul, Nat.reduceSub, Nat.reducePow, Nat.reduceLT, Nat.reduceLeDiff, Int.reduceNeg, Int.reduceEq, Int.reduceLT, Int.reduceLE, reduceCtorEq]) ?_
      rintro r hs ⟨rfl, rfl, _⟩
      refine ⟨by simp [freeN], ?_⟩
      simp (disch := omega) only [go_sem, ↓reduceIte, Int.reduceToNat, Nat.reduceEqDiff, Nat.reduceAdd, Nat.reduceMul, Nat.reduceSub, Nat.reducePow, Nat.reduceLT, Nat.reduceLeDiff, Int.reduceNeg, Int.reduceEq, Int.reduceLT, Int.reduceLE, reduceCtorEq]
      refine call_open (con_l5dy (0) s2 m2 e2 h2) (by simp (disch := omega) only [go_sem, ↓reduceIte, Int.reduceToNat, Nat.reduceEqDiff, Nat.reduceAdd, Nat.reduceMul, Nat.reduceSub, Nat.reducePow, Nat.reduceLT, Nat.reduceLeDiff, Int.reduceNeg, Int.reduceEq, Int.reduceLT, Int.reduceLE, reduceCtorEq]) ?_
      rintro r hs ⟨rfl, rfl, _⟩
      refine ⟨by simp [freeN], ?_⟩
      simp (disch := omega) only [go_sem, ↓reduceIte, Int.reduceToNat, Nat.reduceEqDiff, Nat.reduceAdd, Nat.reduceMul, Nat.reduceSub, Nat.reducePow, Nat.reduceLT, Nat.reduceLeDiff, Int.reduceNeg, Int.reduceEq, Int.reduceLT, Int.reduceLE, reduceCtorEq]
      refine call_open (con_l4mul (l5dS (0) s1 m1) (l5dM (0) m1) (l5dE (0) m1 e1) (l5dS (0) s2 m2) (l5dM (0) m2) (l5dE (0) m2 e2) (by omega) (by omega) (by omega) (by omega)) (by simp (disch := omega) only [go_sem, ↓reduceIte, Int.reduceToNat, Nat.reduceEqDiff, Nat.reduceAdd, Nat.reduceMul, Nat.reduceSub, Nat.reducePow, Nat.reduceLT, Nat.reduceLeDiff, Int.reduceNeg, Int.reduceEq, Int.reduceLT, Int.reduceLE, reduceCtorEq]) ?_
      rintro r hs ⟨rfl, rfl, _⟩
      refine ⟨by simp [freeN], ?_⟩
      simp (disch := omega) only [go_sem, ↓reduceIte, Int.reduceToNat, Nat.reduceEqDiff, Nat.reduceAdd, Nat.reduceMul, Nat.reduceSub, Nat.reducePow, Nat.reduceLT, Nat.reduceLeDiff, Int.reduceNeg, Int.reduceEq, Int.reduceLT, Int.reduceLE, reduceCtorEq]
      have q3 := bl_mulle (l5dM (0) m1) (l5dM (0) m2)
      have q4 := bl_mono (oM_le (l5dM (0) m1 * l5dM (0) m2))
      have q5 := oE_rng (m := l5dM (0) m1 * l5dM (0) m2) (e := l5dE (0) m1 e1 + l5dE (0) m2 e2) (lo := -2148) (hi := 2048) (Nat.le_refl _) (by omega) (by omega) (by omega)
      refine call_closed (con_l5round (oS ((l5dS (0) s1 m1 != l5dS (0) s2 m2) && decide (l5dM (0) m1 * l5dM (0) m2 ≠ 0)) (l5dM (0) m1 * l5dM (0) m2)) (oM (l5dM (0) m1 * l5dM (0) m2)) (oE (l5dM (0) m1 * l5dM (0) m2) (l5dE (0) m1 e1 + l5dE (0) m2 e2)) mode (s1 != s2) (oM_odd _) (oS_z _ _) hmode (by omega) (by omega)) (by simp (disch := omega) only [go_sem, ↓reduceIte, Int.reduceToNat, Nat.reduceEqDiff, Nat.reduceAdd, Nat.reduceMul, Nat.reduceSub, Nat.reducePow, Nat.reduceLT, Nat.reduceLeDiff, Int.reduceNeg, Int.reduceEq, Int.reduceLT, Int.reduceLE, reduceCtorEq]) ?_
      rintro r hs ⟨rfl, rfl, _⟩
      refine ⟨by simp [freeN], ?_⟩
      simp (disch := omega) only [go_sem, ↓reduceIte, Int.reduceToNat, Nat.reduceEqDiff, Nat.reduceAdd, Nat.reduceMul, Nat.reduceSub, Nat.reducePow, Nat.reduceLT, Nat.reduceLeDiff, Int.reduceNeg, Int.reduceEq, Int.reduceLT, Int.reduceLE, reduceCtorEq]
      rw [mc1, mc2]
      refine fin_valc (by simp (disch := omega) only [go_sem, ↓reduceIte, Int.reduceToNat, Nat.reduceEqDiff, Nat.reduceAdd, Nat.reduceMul, Nat.reduceSub, Nat.reducePow, Nat.reduceLT, Nat.reduceLeDiff, Int.reduceNeg, Int.reduceEq, Int.reduceLT, Int.reduceLE, reduceCtorEq]) (by simp (disch := omega) only [go_sem, ↓reduceIte, Int.reduceToNat, Nat.reduceEqDiff, Nat.reduceAdd, Nat.reduceMul, Nat.reduceSub, Nat.reducePow, Nat.reduceLT, Nat.reduceLeDiff, Int.reduceNeg, Int.reduceEq, Int.reduceLT, Int.reduceLE, reduceCtorEq]) ⟨rfl, rfl, rfl⟩
    · refine Con.of_aw Tryd.func27 rfl Tryd.ntmps27 (by simp) (by simp) (by simp) (W.sound ?_)
      show @W Tryd.prog 67 ⟨_⟩ ⟨fun x σ => @retW _ _ _ ⟨_⟩ _ ⟨_⟩ x σ⟩ _ _
      simp (disch := omega) only [go_sem, ↓reduceIte, Int.reduceToNat, Nat.reduceEqDiff, Nat.reduceAdd, Nat.reduceMul, Nat.reduceSub, Nat.reducePow, Nat.reduceLT, Nat.reduceLeDiff, Int.reduceNeg, Int.reduceEq, Int.reduceLT, Int.reduceLE, reduceCtorEq]
      refine draw_of rfl [⟨0, [], []⟩, ⟨2, [0], []⟩, ⟨5, [0, 2], []⟩, ⟨6, [0, 2], []⟩, ⟨1, [2], []⟩, ⟨3, [], []⟩, ⟨4, [], []⟩, ⟨7, [], []⟩, ⟨8, [], []⟩, ⟨9, [], []⟩, ⟨10, [], []⟩, ⟨11, [], []⟩] (by kernel_rfl) ?_
      simp (disch := omega) only [go_sem, ↓reduceIte, Int.reduceToNat, Nat.reduceEqDiff, Nat.reduceAdd, Nat.reduceMul, Nat.reduceSub, Nat.reducePow, Nat.reduceLT, Nat.reduceLeDiff, Int.reduceNeg, Int.reduceEq, Int.reduceLT, Int.reduceLE, reduceCtorEq]
      refine call_open (con_l5dy (0) s1 m1 e1 h1) (by simp (disch := omega) only [go_sem, ↓reduceIte, Int.reduceToNat, Nat.reduceEqDiff, Nat.reduceAdd, Nat.reduceMul, Nat.reduceSub, Nat.reducePow, Nat.reduceLT, Nat.reduceLeDiff, Int.reduceNeg, Int.reduceEq, Int.reduceLT, Int.reduceLE, reduceCtorEq]) ?_
      rintro r hs ⟨rfl, rfl, _⟩
      refine ⟨by simp [freeN], ?_⟩
      simp (disch := omega) only [go_sem, ↓reduceIte, Int.reduceToNat, Nat.reduceEqDiff, Nat.reduceAdd, Nat.reduceMul, Nat.reduceSub, Nat.reducePow, Nat.reduceLT, Nat.reduceLeDiff, Int.reduceNeg, Int.reduceEq, Int.reduceLT, Int.reduceLE, reduceCtorEq]
      refine call_open (con_l5dy (1) s2 m2 e2 h2) (by simp (disch := omega) only [go_sem, ↓reduceIte, Int.reduceToNat, Nat.reduceEqDiff, Nat.reduceAdd, Nat.reduceMul, Nat.reduceSub, Nat.reducePow, Nat.reduceLT, Nat.reduceLeDiff, Int.reduceNeg, Int.reduceEq, Int.reduceLT, Int.reduceLE, reduceCtorEq]) ?_
      rintro r hs ⟨rfl, rfl, _⟩
      refine ⟨by simp [freeN], ?_⟩
      simp (disch := omega) only [go_sem, ↓reduceIte, Int.reduceToNat, Nat.reduceEqDiff, Nat.reduceAdd, Nat.reduceMul, Nat.reduceSub, Nat.reducePow, Nat.reduceLT, Nat.reduceLeDiff, Int.reduceNeg, Int.reduceEq, Int.reduceLT, Int.reduceLE, reduceCtorEq]
      refine call_open (con_l4mul (l5dS (0) s1 m1) (l5dM (0) m1) (l5dE (0) m1 e1) (l5dS (1) s2 m2) (l5dM (1) m2) (l5dE (1) m2 e2) (by omega) (by omega) (by omega) (by omega)) (by simp (disch := omega) only [go_sem, ↓reduceIte, Int.reduceToNat, Nat.reduceEqDiff, Nat.reduceAdd, Nat.reduceMul, Nat.reduceSub, Nat.reducePow, Nat.reduceLT, Nat.reduceLeDiff, Int.reduceNeg, Int.reduceEq, Int.reduceLT, Int.reduceLE, reduceCtorEq]) ?_
      rintro r hs ⟨rfl, rfl, _⟩
      refine ⟨by simp [freeN], ?_⟩
      simp (disch := omega) only [go_sem, ↓reduceIte, Int.reduceToNat, Nat.reduceEqDiff, Nat.reduceAdd, Nat.reduceMul, Nat.reduceSub, Nat.reducePow, Nat.reduceLT, Nat.reduceLeDiff, Int.reduceNeg, Int.reduceEq, Int.reduceLT, Int.reduceLE, reduceCtorEq]
      have q3 := bl_mulle (l5dM (0) m1) (l5dM (1) m2)
      have q4 := bl_mono (oM_le (l5dM (0) m1 * l5dM (1) m2))
      have q5 := oE_rng (m := l5dM (0) m1 * l5dM (1) m2) (e := l5dE (0) m1 e1 + l5dE (1) m2 e2) (lo := -2148) (hi := 2048) (Nat.le_refl _) (by omega) (by omega) (by omega)
      refine call_closed (con_l5round (oS ((l5dS (0) s1 m1 != l5dS (1) s2 m2) && decide (l5dM (0) m1 * l5dM (1) m2 ≠ 0)) (l5dM (0) m1 * l5dM (1) m2)) (oM (l5dM (0) m1 * l5dM (1) m2)) (oE (l5dM (0) m1 * l5dM (1) m2) (l5dE (0) m1 e1 + l5dE (1) m2 e2)) mode (s1 != s2) (oM_odd _) (oS_z _ _) hmode (by omega) (by omega)) (by simp (disch := omega) only [go_sem, ↓reduceIte, Int.reduceToNat, Nat.reduceEqDiff, Nat.reduceAdd, Nat.reduceMul, Nat.reduceSub, Nat.reducePow, Nat.reduceLT, Nat.reduceLeDiff, Int.reduceNeg, Int.reduceEq, Int.reduceLT, Int.reduceLE, reduceCtorEq]) ?_
      rintro r hs ⟨rfl, rfl, _⟩
      refine ⟨by simp [freeN], ?_⟩
      simp (disch := omega) only [go_sem, ↓reduceIte, Int.reduceToNat, Nat.reduceEqDiff, Nat.reduceAdd, Nat.reduceMul, Nat.reduceSub, Nat.reducePow, Nat.reduceLT, Nat.reduceLeDiff, Int.reduceNeg, Int.reduceEq, Int.reduceLT, Int.reduceLE, reduceCtorEq]
      rw [mc1, mc2]
      refine fin_valc (by simp (disch := omega) only [go_sem, ↓reduceIte, Int.reduceToNat, Nat.reduceEqDiff, Nat.reduceAdd, Nat.reduceMul, Nat.reduceSub, Nat.reducePow, Nat.reduceLT, Nat.reduceLeDiff, Int.reduceNeg, Int.reduceEq, Int.reduceLT, Int.reduceLE, reduceCtorEq]) (by simp (disch := omega) only [go_sem, ↓reduceIte, Int.reduceToNat, Nat.reduceEqDiff, Nat.reduceAdd, Nat.reduceMul, Nat.reduceSub, Nat.reducePow, Nat.reduceLT, Nat.reduceLeDiff, Int.reduceNeg, Int.reduceEq, Int.reduceLT, Int.reduceLE, reduceCtorEq]) ⟨rfl, rfl, rfl⟩
    · refine Con.of_aw Tryd.func27 rfl Tryd.ntmps27 (by simp) (by simp) (by simp) (W.sound ?_)
      show @W Tryd.prog 67 ⟨_⟩ ⟨fun x σ => @retW _ _ _ ⟨_⟩ _ ⟨_⟩ x σ⟩ _ _
      simp (disch := omega) only [go_sem, ↓reduceIte, Int.reduceToNat, Nat.reduceEqDiff, Nat.reduceAdd, Nat.reduceMul, Nat.reduceSub, Nat.reducePow, Nat.reduceLT, Nat.reduceLeDiff, Int.reduceNeg, Int.reduceEq, Int.reduceLT, Int.reduceLE, reduceCtorEq]
      refine call_closed (con_l5bad) (by simp (disch := omega) only [go_sem, ↓reduceIte, Int.reduceToNat, Nat.reduceEqDiff, Nat.reduceAdd, Nat.reduceMul, Nat.reduceSub, Nat.reducePow, Nat.reduceLT, Nat.reduceLeDiff, Int.reduceNeg, Int.reduceEq, Int.reduceLT, Int.reduceLE, reduceCtorEq]) ?_
      rintro r hs ⟨rfl, rfl, _⟩
      refine ⟨by simp [freeN], ?_⟩
      simp (disch := omega) only [go_sem, ↓reduceIte, Int.reduceToNat, Nat.reduceEqDiff, Nat.reduceAdd, Nat.reduceMul, Nat.reduceSub, Nat.reducePow, Nat.reduceLT, Nat.reduceLeDiff, Int.reduceNeg, Int.reduceEq, Int.reduceLT, Int.reduceLE, reduceCtorEq]
      refine fin_valc (by simp (disch := omega) only [go_sem, ↓reduceIte, Int.reduceToNat, Nat.reduceEqDiff, Nat.reduceAdd, Nat.reduceMul, Nat.reduceSub, Nat.reducePow, Nat.reduceLT, Nat.reduceLeDiff, Int.reduceNeg, Int.reduceEq, Int.reduceLT, Int.reduceLE, reduceCtorEq]) (by simp (disch := omega) only [go_sem, ↓reduceIte, Int.reduceToNat, Nat.reduceEqDiff, Nat.reduceAdd, Nat.reduceMul, Nat.reduceSub, Nat.reducePow, Nat.reduceLT, Nat.reduceLeDiff, Int.reduceNeg, Int.reduceEq, Int.reduceLT, Int.reduceLE, reduceCtorEq]) ⟨rfl, rfl, rfl⟩
    · refine Con.of_aw Tryd.func27 rfl Tryd.ntmps27 (by simp) (by simp) (by simp) (W.sound ?_)
      show @W Tryd.prog 67 ⟨_⟩ ⟨fun x σ => @retW _ _ _ ⟨_⟩ _ ⟨_⟩ x σ⟩ _ _
      simp (disch := omega) only [go_sem, ↓reduceIte, Int.reduceToNat, Nat.reduceEqDiff, Nat.reduceAdd, Nat.reduceMul, Nat.reduceSub, Nat.reducePow, Nat.reduceLT, Nat.reduceLeDiff, Int.reduceNeg, Int.reduceEq, Int.reduceLT, Int.reduceLE, reduceCtorEq]
      refine call_closed (con_l5nan) (by simp (disch := omega) only [go_sem, ↓reduceIte, Int.reduceToNat, Nat.reduceEqDiff, Nat.reduceAdd, Nat.reduceMul, Nat.reduceSub, Nat.reducePow, Nat.reduceLT, Nat.reduceLeDiff, Int.reduceNeg, Int.reduceEq, Int.reduceLT, Int.reduceLE, reduceCtorEq]) ?_
      rintro r hs ⟨rfl, rfl, _⟩
      refine ⟨by simp [freeN], ?_⟩
      simp (disch := omega) only [go_sem, ↓reduceIte, Int.reduceToNat, Nat.reduceEqDiff, Nat.reduceAdd, Nat.reduceMul, Nat.reduceSub, Nat.reducePow, Nat.reduceLT, Nat.reduceLeDiff, Int.reduceNeg, Int.reduceEq, Int.reduceLT, Int.reduceLE, reduceCtorEq]
      refine fin_valc (by simp (disch := omega) only [go_sem, ↓reduceIte, Int.reduceToNat, Nat.reduceEqDiff, Nat.reduceAdd, Nat.reduceMul, Nat.reduceSub, Nat.reducePow, Nat.reduceLT, Nat.reduceLeDiff, Int.reduceNeg, Int.reduceEq, Int.reduceLT, Int.reduceLE, reduceCtorEq]) (by simp (disch := omega) only [go_sem, ↓reduceIte, Int.reduceToNat, Nat.reduceEqDiff, Nat.reduceAdd, Nat.reduceMul, Nat.reduceSub, Nat.reducePow, Nat.reduceLT, Nat.reduceLeDiff, Int.reduceNeg, Int.reduceEq, Int.reduceLT, Int.reduceLE, reduceCtorEq]) ⟨rfl, rfl, rfl⟩
  · obtain rfl | rfl | rfl | rfl : k2 = 0 ∨ k2 = 1 ∨ k2 = 2 ∨ k2 = 3 := by omega
    · refine Con.of_aw Tryd.func27 rfl Tryd.ntmps27 (by simp) (by simp) (by simp) (W.sound ?_)
      show @W Tryd.prog 67 ⟨_⟩ ⟨fun x σ => @retW _ _ _ ⟨_⟩ _ ⟨_⟩ x σ⟩ _ _
      simp (disch := omega) only [go_sem, ↓reduceIte, Int.reduceToNat, Nat.reduceEqDiff, Nat.reduceAdd, Nat.reduceMul, Nat.reduceSub, Nat.reducePow, Nat.reduceLT, Nat.reduceLeDiff, Int.reduceNeg, Int.reduceEq, Int.reduceLT, Int.reduceLE, reduceCtorEq]
      refine draw_of rfl [⟨0, [], []⟩, ⟨2, [0], []⟩, ⟨5, [0, 2], []⟩, ⟨6, [0, 2], []⟩, ⟨1, [2], []⟩, ⟨3, [], []⟩, ⟨4, [], []⟩, ⟨7, [], []⟩, ⟨8, [], []⟩, ⟨9, [], []⟩, ⟨10, [], []⟩, ⟨11, [], []⟩] (by kernel_rfl) ?_
      simp (disch := omega) only [go_sem, ↓reduceIte, Int.reduceToNat, Nat.reduceEqDiff, Nat.reduceAdd, Nat.reduceMul, Nat.reduceSub, Nat.reducePow, Nat.reduceLT, Nat.reduceLeDiff, Int.reduceNeg, Int.reduceEq, Int.reduceLT, Int.reduceLE, reduceCtorEq]
      refine call_open (con_l5dy (1) s1 m1 e1 h1) (by simp (disch := omega) only [go_sem, ↓reduceIte, Int.reduceToNat, Nat.reduceEqDiff, Nat.reduceAdd, Nat.reduceMul, Nat.reduceSub, Nat.reducePow, Nat.reduceLT, Nat.reduceLeDiff, Int.reduceNeg, Int.reduceEq, Int.reduceLT, Int.reduceLE, reduceCtorEq]) ?_
      rintro r hs ⟨rfl, rfl, _⟩
      refine ⟨by simp [freeN], ?_⟩
      simp (disch := omega) only [go_sem, ↓reduceIte, Int.reduceToNat, Nat.reduceEqDiff, Nat.reduceAdd, Nat.reduceMul, Nat.reduceSub, Nat.reducePow, Nat.reduceLT, Nat.reduceLeDiff, Int.reduceNeg, Int.reduceEq, Int.reduceLT, Int.reduceLE, reduceCtorEq]
      refine call_open (con_l5dy (0) s2 m2 e2 h2) (by simp (disch := omega) only [go_sem, ↓reduceIte, Int.reduceToNat, Nat.reduceEqDiff, Nat.reduceAdd, Nat.reduceMul, Nat.reduceSub, Nat.reducePow, Nat.reduceLT, Nat.reduceLeDiff, Int.reduceNeg, Int.reduceEq, Int.reduceLT, Int.reduceLE, reduceCtorEq]) ?_
      rintro r hs ⟨rfl, rfl, _⟩
      refine ⟨by simp [freeN], ?_⟩
      simp (disch := omega) only [go_sem, ↓reduceIte, Int.reduceToNat, Nat.reduceEqDiff, Nat.reduceAdd, Nat.reduceMul, Nat.reduceSub, Nat.reducePow, Nat.reduceLT, Nat.reduceLeDiff, Int.reduceNeg, Int.reduceEq, Int.reduceLT, Int.reduceLE, reduceCtorEq]
      refine call_open (con_l4mul (l5dS (1) s1 m1) (l5dM (1) m1) (l5dE (1) m1 e1) (l5dS (0) s2 m2) (l5dM (0) m2) (l5dE (0) m2 e2) (by omega) (by omega) (by omega) (by omega)) (by simp (disch := omega) only [go_sem, ↓reduceIte, Int.reduceToNat, Nat.reduceEqDiff, Nat.reduceAdd, Nat.reduceMul, Nat.reduceSub, Nat.reducePow, Nat.reduceLT, Nat.reduceLeDiff, Int.reduceNeg, Int.reduceEq, Int.reduceLT, Int.reduceLE, reduceCtorEq]) ?_
      rintro r hs ⟨rfl, rfl, _⟩
      refine ⟨by simp [freeN], ?_⟩
      simp (disch := omega) only [go_sem, ↓reduceIte, Int.reduceToNat, Nat.reduceEqDiff, Nat.reduceAdd, Nat.reduceMul, Nat.reduceSub, Nat.reducePow, Nat.reduceLT, Nat.reduceLeDiff, Int.reduceNeg, Int.reduceEq, Int.reduceLT, Int.reduceLE, reduceCtorEq]
      have q3 := bl_mulle (l5dM (1) m1) (l5dM (0) m2)
      have q4 := bl_mono (oM_le (l5dM (1) m1 * l5dM (0) m2))
      have q5 := oE_rng (m := l5dM (1) m1 * l5dM (0) m2) (e := l5dE (1) m1 e1 + l5dE (0) m2 e2) (lo := -2148) (hi := 2048) (Nat.le_refl _) (by omega) (by omega) (by omega)
      refine call_closed (con_l5round (oS ((l5dS (1) s1 m1 != l5dS (0) s2 m2) && decide (l5dM (1) m1 * l5dM (0) m2 ≠ 0)) (l5dM (1) m1 * l5dM (0) m2)) (oM (l5dM (1) m1 * l5dM (0) m2)) (oE (l5dM (1) m1 * l5dM (0) m2) (l5dE (1) m1 e1 + l5dE (0) m2 e2)) mode (s1 != s2) (oM_odd _) (oS_z _ _) hmode (by omega) (by omega)) (by simp (disch := omega) only [go_sem, ↓reduceIte, Int.reduceToNat, Nat.reduceEqDiff, Nat.reduceAdd, Nat.reduceMul, Nat.reduceSub, Nat.reducePow, Nat.reduceLT, Nat.reduceLeDiff, Int.reduceNeg, Int.reduceEq, Int.reduceLT, Int.reduceLE, reduceCtorEq]) ?_
      rintro r hs ⟨rfl, rfl, _⟩
      refine ⟨by simp [freeN], ?_⟩
      simp (disch := omega) only [go_sem, ↓reduceIte, Int.reduceToNat, Nat.reduceEqDiff, Nat.reduceAdd, Nat.reduceMul, Nat.reduceSub, Nat.reducePow, Nat.reduceLT, Nat.reduceLeDiff, Int.reduceNeg, Int.reduceEq, Int.reduceLT, Int.reduceLE, reduceCtorEq]
      rw [mc1, mc2]
      refine fin_valc (by simp (disch := omega) only [go_sem, ↓reduceIte, Int.reduceToNat, Nat.reduceEqDiff, Nat.reduceAdd, Nat.reduceMul, Nat.reduceSub, Nat.reducePow, Nat.reduceLT, Nat.reduceLeDiff, Int.reduceNeg, Int.reduceEq, Int.reduceLT, Int.reduceLE, reduceCtorEq]) (by simp (disch := omega) only [go_sem, ↓reduceIte, Int.reduceToNat, Nat.reduceEqDiff, Nat.reduceAdd, Nat.reduceMul, Nat.reduceSub, Nat.reducePow, Nat.reduceLT, Nat.reduceLeDiff, Int.reduceNeg, Int.reduceEq, Int.reduceLT, Int.reduceLE, reduceCtorEq]) ⟨rfl, rfl, rfl⟩
    · refine Con.of_aw Tryd.func27 rfl Tryd.ntmps27 (by simp) (by simp) (by simp) (W.sound ?_)
      show @W Tryd.prog 67 ⟨_⟩ ⟨fun x σ => @retW _ _ _ ⟨_⟩ _ ⟨_⟩ x σ⟩ _ _
      simp (disch := omega) only [go_sem, ↓reduceIte, Int.reduceToNat, Nat.reduceEqDiff, Nat.reduceAdd, Nat.reduceMul, Nat.reduceSub, Nat.reducePow, Nat.reduceLT, Nat.reduceLeDiff, Int.reduceNeg, Int.reduceEq, Int.reduceLT, Int.reduceLE, reduceCtorEq]
      refine draw_of rfl [⟨0, [], []⟩, ⟨2, [0], []⟩, ⟨5, [0, 2], []⟩, ⟨6, [0, 2], []⟩, ⟨1, [2], []⟩, ⟨3, [], []⟩, ⟨4, [], []⟩, ⟨7, [], []⟩, ⟨8, [], []⟩, ⟨9, [], []⟩, ⟨10, [], []⟩, ⟨11, [], []⟩] (by kernel_rfl) ?_
      simp (disch := omega) only [go_sem, ↓reduceIte, Int.reduceToNat, Nat.reduceEqDiff, Nat.reduceAdd, Nat.reduceMul, Nat.reduceSub, Nat.reducePow, Nat.reduceLT, Nat.reduceLeDiff, Int.reduceNeg, Int.reduceEq, Int.reduceLT, Int.reduceLE, reduceCtorEq]
      refine call_open (con_l5dy (1) s1 m1 e1 h1) (by simp (disch := omega) only [go_sem, ↓reduceIte, Int.reduceToNat, Nat.reduceEqDiff, Nat.reduceAdd, Nat.reduceMul, Nat.reduceSub, Nat.reducePow, Nat.reduceLT, Nat.reduceLeDiff, Int.reduceNeg, Int.reduceEq, Int.reduceLT, Int.reduceLE, reduceCtorEq]) ?_
      rintro r hs ⟨rfl, rfl, _⟩
      refine ⟨by simp [freeN], ?_⟩
      simp (disch := omega) only [go_sem, ↓reduceIte, Int.reduceToNat, Nat.reduceEqDiff, Nat.reduceAdd, Nat.reduceMul, Nat.reduceSub, Nat.reducePow, Nat.reduceLT, Nat.reduceLeDiff, Int.reduceNeg, Int.reduceEq, Int.reduceLT, Int.reduceLE, reduceCtorEq]
      refine call_open (con_l5dy (1) s2 m2 e2 h2) (by simp (disch := omega) only [go_sem, ↓reduceIte, Int.reduceToNat, Nat.reduceEqDiff, Nat.reduceAdd, Nat.reduceMul, Nat.reduceSub, Nat.reducePow, Nat.reduceLT, Nat.reduceLeDiff, Int.reduceNeg, Int.reduceEq, Int.reduceLT, Int.reduceLE, reduceCtorEq]) ?_
      rintro r hs ⟨rfl, rfl, _⟩
      refine ⟨by simp [freeN], ?_⟩
      simp (disch := omega) only [go_sem, ↓reduceIte, Int.reduceToNat, Nat.reduceEqDiff, Nat.reduceAdd, Nat.reduceMul, Nat.reduceSub, Nat.reducePow, Nat.reduceLT, Nat.reduceLeDiff, Int.reduceNeg, Int.reduceEq, Int.reduceLT, Int.reduceLE, reduceCtorEq]
      refine call_open (con_l4mul (l5dS (1) s1 m1) (l5dM (1) m1) (l5dE (1) m1 e1) (l5dS (1) s2 m2) (l5dM (1) m2) (l5dE (1) m2 e2) (by omega) (by omega) (by omega) (by omega)) (by simp (disch := omega) only [go_sem, ↓reduceIte, Int.reduceToNat, Nat.reduceEqDiff, Nat.reduceAdd, Nat.reduceMul, Nat.reduceSub, Nat.reducePow, Nat.reduceLT, Nat.reduceLeDiff, Int.reduceNeg, Int.reduceEq, Int.reduceLT, Int.reduceLE, reduceCtorEq]) ?_
      rintro r hs ⟨rfl, rfl, _⟩
      refine ⟨by simp [freeN], ?_⟩
      simp (disch := omega) only [go_sem, ↓reduceIte, Int.reduceToNat, Nat.reduceEqDiff, Nat.reduceAdd, Nat.reduceMul, Nat.reduceSub, Nat.reducePow, Nat.reduceLT, Nat.reduceLeDiff, Int.reduceNeg, Int.reduceEq, Int.reduceLT, Int.reduceLE, reduceCtorEq]
      have q3 := bl_mulle (l5dM (1) m1) (l5dM (1) m2)
      have q4 := bl_mono (oM_le (l5dM (1) m1 * l5dM (1) m2))
      have q5 := oE_rng (m := l5dM (1) m1 * l5dM (1) m2) (e := l5dE (1) m1 e1 + l5dE (1) m2 e2) (lo := -2148) (hi := 2048) (Nat.le_refl _) (by omega) (by omega) (by omega)
      refine call_closed (con_l5round (oS ((l5dS (1) s1 m1 != l5dS (1) s2 m2) && decide (l5dM (1) m1 * l5dM (1) m2 ≠ 0)) (l5dM (1) m1 * l5dM (1) m2)) (oM (l5dM (1) m1 * l5dM (1) m2)) (oE (l5dM (1) m1 * l5dM (1) m2) (l5dE (1) m1 e1 + l5dE (1) m2 e2)) mode (s1 != s2) (oM_odd _) (oS_z _ _) hmode (by omega) (by omega)) (by simp (disch := omega) only [go_sem, ↓reduceIte, Int.reduceToNat, Nat.reduceEqDiff, Nat.reduceAdd, Nat.reduceMul, Nat.reduceSub, Nat.reducePow, Nat.reduceLT, Nat.reduceLeDiff, Int.reduceNeg, Int.reduceEq, Int.reduceLT, Int.reduceLE, reduceCtorEq]) ?_
      rintro r hs ⟨rfl, rfl, _⟩
      refine ⟨by simp [freeN], ?_⟩
      simp (disch := omega) only [go_sem, ↓reduceIte, Int.reduceToNat, Nat.reduceEqDiff, Nat.reduceAdd, Nat.reduceMul, Nat.reduceSub, Nat.reducePow, Nat.reduceLT, Nat.reduceLeDiff, Int.reduceNeg, Int.reduceEq, Int.reduceLT, Int.reduceLE, reduceCtorEq]
      rw [mc1, mc2]
      refine fin_valc (by simp (disch := omega) only [go_sem, ↓reduceIte, Int.reduceToNat, Nat.reduceEqDiff, Nat.reduceAdd, Nat.reduceMul, Nat.reduceSub, Nat.reducePow, Nat.reduceLT, Nat.reduceLeDiff, Int.reduceNeg, Int.reduceEq, Int.reduceLT, Int.reduceLE, reduceCtorEq]) (by simp (disch := omega) only [go_sem, ↓reduceIte, Int.reduceToNat, Nat.reduceEqDiff, Nat.reduceAdd, Nat.reduceMul, Nat.reduceSub, Nat.reducePow, Nat.reduceLT, Nat.reduceLeDiff, Int.reduceNeg, Int.reduceEq, Int.reduceLT, Int.reduceLE, reduceCtorEq]) ⟨rfl, rfl, rfl⟩
    · refine Con.of_aw Tryd.func27 rfl Tryd.ntmps27 (by simp) (by simp) (by simp) (W.sound ?_)
      show @W Tryd.prog 67 ⟨_⟩ ⟨fun x σ => @retW _ _ _ ⟨_⟩ _ ⟨_⟩ x σ⟩ _ _
      simp (disch := omega) only [go_sem, ↓reduceIte, Int.reduceToNat, Nat.reduceEqDiff, Nat.reduceAdd, Nat.reduceMul, Nat.reduceSub, Nat.reducePow, Nat.reduceLT, Nat.reduceLeDiff, Int.reduceNeg, Int.reduceEq, Int.reduceLT, Int.reduceLE, reduceCtorEq]
      refine fin_valc (by simp (disch := omega) only [go_sem, ↓reduceIte, Int.reduceToNat, Nat.reduceEqDiff, Nat.reduceAdd, Nat.reduceMul, Nat.reduceSub, Nat.reducePow, Nat.reduceLT, Nat.reduceLeDiff, Int.reduceNeg, Int.reduceEq, Int.reduceLT, Int.reduceLE, reduceCtorEq]) (by simp (disch := omega) only [go_sem, ↓reduceIte, Int.reduceToNat, Nat.reduceEqDiff, Nat.reduceAdd, Nat.reduceMul, Nat.reduceSub, Nat.reducePow, Nat.reduceLT, Nat.reduceLeDiff, Int.reduceNeg, Int.reduceEq, Int.reduceLT, Int.reduceLE, reduceCtorEq]) ⟨rfl, rfl, rfl⟩
    · refine Con.of_aw Tryd.func27 rfl Tryd.ntmps27 (by simp) (by simp) (by simp) (W.sound ?_)
      show @W Tryd.prog 67 ⟨_⟩ ⟨fun x σ => @retW _ _ _ ⟨_⟩ _ ⟨_⟩ x σ⟩ _ _
      simp (disch := omega) only [go_sem, ↓reduceIte, Int.reduceToNat, Nat.reduceEqDiff, Nat.reduceAdd, Nat.reduceMul, Nat.reduceSub, Nat.reducePow, Nat.reduceLT, Nat.reduceLeDiff, Int.reduceNeg, Int.reduceEq, Int.reduceLT, Int.reduceLE, reduceCtorEq]
      refine call_closed (con_l5nan) (by simp (disch := omega) only [go_sem, ↓reduceIte, Int.reduceToNat, Nat.reduceEqDiff, Nat.reduceAdd, Nat.reduceMul, Nat.reduceSub, Nat.reducePow, Nat.reduceLT, Nat.reduceLeDiff, Int.reduceNeg, Int.reduceEq, Int.reduceLT, Int.reduceLE, reduceCtorEq]) ?_
      rintro r hs ⟨rfl, rfl, _⟩
      refine ⟨by simp [freeN], ?_⟩
      simp (disch := omega) only [go_sem, ↓reduceIte, Int.reduceToNat, Nat.reduceEqDiff, Nat.reduceAdd, Nat.reduceMul, Nat.reduceSub, Nat.reducePow, Nat.reduceLT, Nat.reduceLeDiff, Int.reduceNeg, Int.reduceEq, Int.reduceLT, Int.reduceLE, reduceCtorEq]
      refine fin_valc (by simp (disch := omega) only [go_sem, ↓reduceIte, Int.reduceToNat, Nat.reduceEqDiff, Nat.reduceAdd, Nat.reduceMul, Nat.reduceSub, Nat.reducePow, Nat.reduceLT, Nat.reduceLeDiff, Int.reduceNeg, Int.reduceEq, Int.reduceLT, Int.reduceLE, reduceCtorEq]) (by simp (disch := omega) only [go_sem, ↓reduceIte, Int.reduceToNat, Nat.reduceEqDiff, Nat.reduceAdd, Nat.reduceMul, Nat.reduceSub, Nat.reducePow, Nat.reduceLT, Nat.reduceLeDiff, Int.reduceNeg, Int.reduceEq, Int.reduceLT, Int.reduceLE, reduceCtorEq]) ⟨rfl, rfl, rfl⟩
  · obtain rfl | rfl | rfl | rfl : k2 = 0 ∨ k2 = 1 ∨ k2 = 2 ∨ k2 = 3 := by omega
    · refine Con.of_aw Tryd.func27 rfl Tryd.ntmps27 (by simp) (by simp) (by simp) (W.sound ?_)
      show @W Tryd.prog 67 ⟨_⟩ ⟨fun x σ => @retW _ _ _ ⟨_⟩ _ ⟨_⟩ x σ⟩ _ _
      simp (disch := omega) only [go_sem, ↓reduceIte, Int.reduceToNat, Nat.reduceEqDiff, Nat.reduceAdd, Nat.reduceMul, Nat.reduceSub, Nat.reducePow, Nat.reduceLT, Nat.reduceLeDiff, Int.reduceNeg, Int.reduceEq, Int.reduceLT, Int.reduceLE, reduceCtorEq]
      refine call_closed (con_l5bad) (by simp (disch := omega) only [go_sem, ↓reduceIte, Int.reduceToNat, Nat.reduceEqDiff, Nat.reduceAdd, Nat.reduceMul, Nat.reduceSub, Nat.reducePow, Nat.reduceLT, Nat.reduceLeDiff, Int.reduceNeg, Int.reduceEq, Int.reduceLT, Int.reduceLE, reduceCtorEq]) ?_
      rintro r hs ⟨rfl, rfl, _⟩
      refine ⟨by simp [freeN], ?_⟩
      simp (disch := omega) only [go_sem, ↓reduceIte, Int.reduceToNat, Nat.reduceEqDiff, Nat.reduceAdd, Nat.reduceMul, Nat.reduceSub, Nat.reducePow, Nat.reduceLT, Nat.reduceLeDiff, Int.reduceNeg, Int.reduceEq, Int.reduceLT, Int.reduceLE, reduceCtorEq]
      refine fin_valc (by simp (disch := omega) only [go_sem, ↓reduceIte, Int.reduceToNat, Nat.reduceEqDiff, Nat.reduceAdd, Nat.reduceMul, Nat.reduceSub, Nat.reducePow, Nat.reduceLT, Nat.reduceLeDiff, Int.reduceNeg, Int.reduceEq, Int.reduceLT, Int.reduceLE, reduceCtorEq]) (by simp (disch := omega) only [go_sem, ↓reduceIte, Int.reduceToNat, Nat.reduceEqDiff, Nat.reduceAdd, Nat.reduceMul, Nat.reduceSub, Nat.reducePow, Nat.reduceLT, Nat.reduceLeDiff, Int.reduceNeg, Int.reduceEq, Int.reduceLT, Int.reduceLE, reduceCtorEq]) ⟨rfl, rfl, rfl⟩
    · refine Con.of_aw Tryd.func27 rfl Tryd.ntmps27 (by simp) (by simp) (by simp) (W.sound ?_)
      show @W Tryd.prog 67 ⟨_⟩ ⟨fun x σ => @retW _ _ _ ⟨_⟩ _ ⟨_⟩ x σ⟩ _ _
      simp (disch := omega) only [go_sem, ↓reduceIte, Int.reduceToNat, Nat.reduceEqDiff, Nat.reduceAdd, Nat.reduceMul, Nat.reduceSub, Nat.reducePow, Nat.reduceLT, Nat.reduceLeDiff, Int.reduceNeg, Int.reduceEq, Int.reduceLT, Int.reduceLE, reduceCtorEq]
      refine fin_valc (by simp (disch := omega) only [go_sem, ↓reduceIte, Int.reduceToNat, Nat.reduceEqDiff, Nat.reduceAdd, Nat.reduceMul, Nat.reduceSub, Nat.reducePow, Nat.reduceLT, Nat.reduceLeDiff, Int.reduceNeg, Int.reduceEq, Int.reduceLT, Int.reduceLE, reduceCtorEq]) (by simp (disch := omega) only [go_sem, ↓reduceIte, Int.reduceToNat, Nat.reduceEqDiff, Nat.reduceAdd, Nat.reduceMul, Nat.reduceSub, Nat.reducePow, Nat.reduceLT, Nat.reduceLeDiff, Int.reduceNeg, Int.reduceEq, Int.reduceLT, Int.reduceLE, reduceCtorEq]) ⟨rfl, rfl, rfl⟩
    · refine Con.of_aw Tryd.func27 rfl Tryd.ntmps27 (by simp) (by simp) (by simp) (W.sound ?_)
      show @W Tryd.prog 67 ⟨_⟩ ⟨fun x σ => @retW _ _ _ ⟨_⟩ _ ⟨_⟩ x σ⟩ _ _
      simp (disch := omega) only [go_sem, ↓reduceIte, Int.reduceToNat, Nat.reduceEqDiff, Nat.reduceAdd, Nat.reduceMul, Nat.reduceSub, Nat.reducePow, Nat.reduceLT, Nat.reduceLeDiff, Int.reduceNeg, Int.reduceEq, Int.reduceLT, Int.reduceLE, reduceCtorEq]
      refine fin_valc (by simp (disch := omega) only [go_sem, ↓reduceIte, Int.reduceToNat, Nat.reduceEqDiff, Nat.reduceAdd, Nat.reduceMul, Nat.reduceSub, Nat.reducePow, Nat.reduceLT, Nat.reduceLeDiff, Int.reduceNeg, Int.reduceEq, Int.reduceLT, Int.reduceLE, reduceCtorEq]) (by simp (disch := omega) only [go_sem, ↓reduceIte, Int.reduceToNat, Nat.reduceEqDiff, Nat.reduceAdd, Nat.reduceMul, Nat.reduceSub, Nat.reducePow, Nat.reduceLT, Nat.reduceLeDiff, Int.reduceNeg, Int.reduceEq, Int.reduceLT, Int.reduceLE, reduceCtorEq]) ⟨rfl, rfl, rfl⟩
    · refine Con.of_aw Tryd.func27 rfl Tryd.ntmps27 (by simp) (by simp) (by simp) (W.sound ?_)
      show @W Tryd.prog 67 ⟨_⟩ ⟨fun x σ => @retW _ _ _ ⟨_⟩ _ ⟨_⟩ x σ⟩ _ _
      simp (disch := omega) only [go_sem, ↓reduceIte, Int.reduceToNat, Nat.reduceEqDiff, Nat.reduceAdd, Nat.reduceMul, Nat.reduceSub, Nat.reducePow, Nat.reduceLT, Nat.reduceLeDiff, Int.reduceNeg, Int.reduceEq, Int.reduceLT, Int.reduceLE, reduceCtorEq]
      refine call_closed (con_l5nan) (by simp (disch := omega) only [go_sem, ↓reduceIte, Int.reduceToNat, Nat.reduceEqDiff, Nat.reduceAdd, Nat.reduceMul, Nat.reduceSub, Nat.reducePow, Nat.reduceLT, Nat.reduceLeDiff, Int.reduceNeg, Int.reduceEq, Int.reduceLT, Int.reduceLE, reduceCtorEq]) ?_
      rintro r hs ⟨rfl, rfl, _⟩
      refine ⟨by simp [freeN], ?_⟩
      simp (disch := omega) only [go_sem, ↓reduceIte, Int.reduceToNat, Nat.reduceEqDiff, Nat.reduceAdd, Nat.reduceMul, Nat.reduceSub, Nat.reducePow, Nat.reduceLT, Nat.reduceLeDiff, Int.reduceNeg, Int.reduceEq, Int.reduceLT, Int.reduceLE, reduceCtorEq]
      refine fin_valc (by simp (disch := omega) only [go_sem, ↓reduceIte, Int.reduceToNat, Nat.reduceEqDiff, Nat.reduceAdd, Nat.reduceMul, Nat.reduceSub, Nat.reducePow, Nat.reduceLT, Nat.reduceLeDiff, Int.reduceNeg, Int.reduceEq, Int.reduceLT, Int.reduceLE, reduceCtorEq]) (by simp (disch := omega) only [go_sem, ↓reduceIte, Int.reduceToNat, Nat.reduceEqDiff, Nat.reduceAdd, Nat.reduceMul, Nat.reduceSub, Nat.reducePow, Nat.reduceLT, Nat.reduceLeDiff, Int.reduceNeg, Int.reduceEq, Int.reduceLT, Int.reduceLE, reduceCtorEq]) ⟨rfl, rfl, rfl⟩
  · obtain rfl | rfl | rfl | rfl : k2 = 0 ∨ k2 = 1 ∨ k2 = 2 ∨ k2 = 3 := by omega
    · refine Con.of_aw Tryd.func27 rfl Tryd.ntmps27 (by simp) (by simp) (by simp) (W.sound ?_)
      show @W Tryd.prog 67 ⟨_⟩ ⟨fun x σ => @retW _ _ _ ⟨_⟩ _ ⟨_⟩ x σ⟩ _ _
      simp (disch := omega) only [go_sem, ↓reduceIte, Int.reduceToNat, Nat.reduceEqDiff, Nat.reduceAdd, Nat.reduceMul, Nat.reduceSub, Nat.reducePow, Nat.reduceLT, Nat.reduceLeDiff, Int.reduceNeg, Int.reduceEq, Int.reduceLT, Int.reduceLE, reduceCtorEq]
      refine call_closed (con_l5nan) (by simp (disch := omega) only [go_sem, ↓reduceIte, Int.reduceToNat, Nat.reduceEqDiff, Nat.reduceAdd, Nat.reduceMul, Nat.reduceSub, Nat.reducePow, Nat.reduceLT, Nat.reduceLeDiff, Int.reduceNeg, Int.reduceEq, Int.reduceLT, Int.reduceLE, reduceCtorEq]) ?_
      rintro r hs ⟨rfl, rfl, _⟩
      refine ⟨by simp [freeN], ?_⟩
      simp (disch := omega) only [go_sem, ↓reduceIte, Int.reduceToNat, Nat.reduceEqDiff, Nat.reduceAdd, Nat.reduceMul, Nat.reduceSub, Nat.reducePow, Nat.reduceLT, Nat.reduceLeDiff, Int.reduceNeg, Int.reduceEq, Int.reduceLT, Int.reduceLE, reduceCtorEq]
      refine fin_valc (by simp (disch := omega) only [go_sem, ↓reduceIte, Int.reduceToNat, Nat.reduceEqDiff, Nat.reduceAdd, Nat.reduceMul, Nat.reduceSub, Nat.reducePow, Nat.reduceLT, Nat.reduceLeDiff, Int.reduceNeg, Int.reduceEq, Int.reduceLT, Int.reduceLE, reduceCtorEq]) (by simp (disch := omega) only [go_sem, ↓reduceIte, Int.reduceToNat, Nat.reduceEqDiff, Nat.reduceAdd, Nat.reduceMul, Nat.reduceSub, Nat.reducePow, Nat.reduceLT, Nat.reduceLeDiff, Int.reduceNeg, Int.reduceEq, Int.reduceLT, Int.reduceLE, reduceCtorEq]) ⟨rfl, rfl, rfl⟩
    · refine Con.of_aw Tryd.func27 rfl Tryd.ntmps27 (by simp) (by simp) (by simp) (W.sound ?_)
      show @W Tryd.prog 67 ⟨_⟩ ⟨fun x σ => @retW _ _ _ ⟨_⟩ _ ⟨_⟩ x σ⟩ _ _
      simp (disch := omega) only [go_sem, ↓reduceIte, Int.reduceToNat, Nat.reduceEqDiff, Nat.reduceAdd, Nat.reduceMul, Nat.reduceSub, Nat.reducePow, Nat.reduceLT, Nat.reduceLeDiff, Int.reduceNeg, Int.reduceEq, Int.reduceLT, Int.reduceLE, reduceCtorEq]
      refine call_closed (con_l5nan) (by simp (disch := omega) only [go_sem, ↓reduceIte, Int.reduceToNat, Nat.reduceEqDiff, Nat.reduceAdd, Nat.reduceMul, Nat.reduceSub, Nat.reducePow, Nat.reduceLT, Nat.reduceLeDiff, Int.reduceNeg, Int.reduceEq, Int.reduceLT, Int.reduceLE, reduceCtorEq]) ?_
      rintro r hs ⟨rfl, rfl, _⟩
      refine ⟨by simp [freeN], ?_⟩
      simp (disch := omega) only [go_sem, ↓reduceIte, Int.reduceToNat, Nat.reduceEqDiff, Nat.reduceAdd, Nat.reduceMul, Nat.reduceSub, Nat.reducePow, Nat.reduceLT, Nat.reduceLeDiff, Int.reduceNeg, Int.reduceEq, Int.reduceLT, Int.reduceLE, reduceCtorEq]
      refine fin_valc (by simp (disch := omega) only [go_sem, ↓reduceIte, Int.reduceToNat, Nat.reduceEqDiff, Nat.reduceAdd, Nat.reduceMul, Nat.reduceSub, Nat.reducePow, Nat.reduceLT, Nat.reduceLeDiff, Int.reduceNeg, Int.reduceEq, Int.reduceLT, Int.reduceLE, reduceCtorEq]) (by simp (disch := omega) only [go_sem, ↓reduceIte, Int.reduceToNat, Nat.reduceEqDiff, Nat.reduceAdd, Nat.reduceMul, Nat.reduceSub, Nat.reducePow, Nat.reduceLT, Nat.reduceLeDiff, Int.reduceNeg, Int.reduceEq, Int.reduceLT, Int.reduceLE, reduceCtorEq]) ⟨rfl, rfl, rfl⟩
    · refine Con.of_aw Tryd.func27 rfl Tryd.ntmps27 (by simp) (by simp) (by simp) (W.sound ?_)
      show @W Tryd.prog 67 ⟨_⟩ ⟨fun x σ => @retW _ _ _ ⟨_⟩ _ ⟨_⟩ x σ⟩ _ _
      simp (disch := omega) only [go_sem, ↓reduceIte, Int.reduceToNat, Nat.reduceEqDiff, Nat.reduceAdd, Nat.reduceMul, Nat.reduceSub, Nat.reducePow, Nat.reduceLT, Nat.reduceLeDiff, Int.reduceNeg, Int.reduceEq, Int.reduceLT, Int.reduceLE, reduceCtorEq]
      refine call_closed (con_l5nan) (by simp (disch := omega) only [go_sem, ↓reduceIte, Int.reduceToNat, Nat.reduceEqDiff, Nat.reduceAdd, Nat.reduceMul, Nat.reduceSub, Nat.reducePow, Nat.reduceLT, Nat.reduceLeDiff, Int.reduceNeg, Int.reduceEq, Int.reduceLT, Int.reduceLE, reduceCtorEq]) ?_
      rintro r hs ⟨rfl, rfl, _⟩
      refine ⟨by simp [freeN], ?_⟩
      simp (disch := omega) only [go_sem, ↓reduceIte, Int.reduceToNat, Nat.reduceEqDiff, Nat.reduceAdd, Nat.reduceMul, Nat.reduceSub, Nat.reducePow, Nat.reduceLT, Nat.reduceLeDiff, Int.reduceNeg, Int.reduceEq, Int.reduceLT, Int.reduceLE, reduceCtorEq]
      refine fin_valc (by simp (disch := omega) only [go_sem, ↓reduceIte, Int.reduceToNat, Nat.reduceEqDiff, Nat.reduceAdd, Nat.reduceMul, Nat.reduceSub, Nat.reducePow, Nat.reduceLT, Nat.reduceLeDiff, Int.reduceNeg, Int.reduceEq, Int.reduceLT, Int.reduceLE, reduceCtorEq]) (by simp (disch := omega) only [go_sem, ↓reduceIte, Int.reduceToNat, Nat.reduceEqDiff, Nat.reduceAdd, Nat.reduceMul, Nat.reduceSub, Nat.reducePow, Nat.reduceLT, Nat.reduceLeDiff, Int.reduceNeg, Int.reduceEq, Int.reduceLT, Int.reduceLE, reduceCtorEq]) ⟨rfl, rfl, rfl⟩
    · refine Con.of_aw Tryd.func27 rfl Tryd.ntmps27 (by simp) (by simp) (by simp) (W.sound ?_)
      show @W Tryd.prog 67 ⟨_⟩ ⟨fun x σ => @retW _ _ _ ⟨_⟩ _ ⟨_⟩ x σ⟩ _ _
      simp (disch := omega) only [go_sem, ↓reduceIte, Int.reduceToNat, Nat.reduceEqDiff, Nat.reduceAdd, Nat.reduceMul, Nat.reduceSub, Nat.reducePow, Nat.reduceLT, Nat.reduceLeDiff, Int.reduceNeg, Int.reduceEq, Int.reduceLT, Int.reduceLE, reduceCtorEq]
      refine call_closed (con_l5nan) (by simp (disch := omega) only [go_sem, ↓reduceIte, Int.reduceToNat, Nat.reduceEqDiff, Nat.reduceAdd, Nat.reduceMul, Nat.reduceSub, Nat.reducePow, Nat.reduceLT, Nat.reduceLeDiff, Int.reduceNeg, Int.reduceEq, Int.reduceLT, Int.reduceLE, reduceCtorEq]) ?_
      rintro r hs ⟨rfl, rfl, _⟩
      refine ⟨by simp [freeN], ?_⟩
      simp (disch := omega) only [go_sem, ↓reduceIte, Int.reduceToNat, Nat.reduceEqDiff, Nat.reduceAdd, Nat.reduceMul, Nat.reduceSub, Nat.reducePow, Nat.reduceLT, Nat.reduceLeDiff, Int.reduceNeg, Int.reduceEq, Int.reduceLT, Int.reduceLE, reduceCtorEq]
      refine fin_valc (by simp (disch := omega) only [go_sem, ↓reduceIte, Int.reduceToNat, Nat.reduceEqDiff, Nat.reduceAdd, Nat.reduceMul, Nat.reduceSub, Nat.reducePow, Nat.reduceLT, Nat.reduceLeDiff, Int.reduceNeg, Int.reduceEq, Int.reduceLT, Int.reduceLE, reduceCtorEq]) (by simp (disch := omega) only [go_sem, ↓reduceIte, Int.reduceToNat, Nat.reduceEqDiff, Nat.reduceAdd, Nat.reduceMul, Nat.reduceSub, Nat.reducePow, Nat.reduceLT, Nat.reduceLeDiff, Int.reduceNeg, Int.reduceEq, Int.reduceLT, Int.reduceLE, reduceCtorEq]) ⟨rfl, rfl, rfl⟩

theorem con_FlMulS (k1 : Int) (s1 : Bool) (m1 e1 k2 : Int) (s2 : Bool) (m2 e2 mode : Int) :
    Con Tryd.prog 9 true [.ag [.v (.int .i64 (k1)), .v (.bool (s1)), .v (.int .i64 (m1)), .v (.int .i64 (e1))], .ag [.v (.int .i64 (k2)), .v (.bool (s2)), .v (.int .i64 (m2)), .v (.int .i64 (e2))], .v (.int .i64 mode)] []
      (isA (if (modeB mode && (flB k1 s1 m1 e1 && flB k2 s2 m2 e2)) = true then .tu [.ag [.v (.int .i64 ((mulV k1 s1 m1 e1 k2 s2 m2 e2 mode).k)), .v (.bool ((mulV k1 s1 m1 e1 k2 s2 m2 e2 mode).s)), .v (.int .i64 ((mulV k1 s1 m1 e1 k2 s2 m2 e2 mode).m)), .v (.int .i64 ((mulV k1 s1 m1 e1 k2 s2 m2 e2 mode).e))], .v (.int .i64 (mulG k1 s1 m1 e1 k2 s2 m2 e2 mode))]
        else .tu [.ag [.v (.int .i64 (3)), .v (.bool (false)), .v (.int .i64 (0)), .v (.int .i64 (0))], .v (.int .i64 16)])) := by
  refine Con.of_aw Tryd.func9 rfl Tryd.ntmps9 (by simp) (by simp) (by simp) (W.sound ?_)
  show @W Tryd.prog 22 ⟨_⟩ ⟨fun x σ => @retW _ _ _ ⟨_⟩ _ ⟨_⟩ x σ⟩ _ _
  simp (disch := omega) only [go_sem, ↓reduceIte, Int.reduceToNat, Nat.reduceEqDiff, Nat.reduceAdd, Nat.reduceMul, Nat.reduceSub, Nat.reducePow, Nat.reduceLT, Nat.reduceLeDiff, Int.reduceNeg, Int.reduceEq, Int.reduceLT, Int.reduceLE, reduceCtorEq]
  refine call_closed (con_l5ok k1 s1 m1 e1 k2 s2 m2 e2 mode) (by simp (disch := omega) only [go_sem, ↓reduceIte, Int.reduceToNat, Nat.reduceEqDiff, Nat.reduceAdd, Nat.reduceMul, Nat.reduceSub, Nat.reducePow, Nat.reduceLT, Nat.reduceLeDiff, Int.reduceNeg, Int.reduceEq, Int.reduceLT, Int.reduceLE, reduceCtorEq]) ?_
  rintro r hs ⟨rfl, rfl, _⟩
  refine ⟨by simp [freeN], ?_⟩
  simp (disch := omega) only [go_sem, ↓reduceIte, Int.reduceToNat, Nat.reduceEqDiff, Nat.reduceAdd, Nat.reduceMul, Nat.reduceSub, Nat.reducePow, Nat.reduceLT, Nat.reduceLeDiff, Int.reduceNeg, Int.reduceEq, Int.reduceLT, Int.reduceLE, reduceCtorEq]
  refine ifW_nb (fun h => ?_) (fun h => ?_)
  · simp (disch := omega) only [go_sem, ↓reduceIte, Int.reduceToNat, Nat.reduceEqDiff, Nat.reduceAdd, Nat.reduceMul, Nat.reduceSub, Nat.reducePow, Nat.reduceLT, Nat.reduceLeDiff, Int.reduceNeg, Int.reduceEq, Int.reduceLT, Int.reduceLE, reduceCtorEq, h]
    refine call_closed (con_l5bad) (by simp (disch := omega) only [go_sem, ↓reduceIte, Int.reduceToNat, Nat.reduceEqDiff, Nat.reduceAdd, Nat.reduceMul, Nat.reduceSub, Nat.reducePow, Nat.reduceLT, Nat.reduceLeDiff, Int.reduceNeg, Int.reduceEq, Int.reduceLT, Int.reduceLE, reduceCtorEq]) ?_
    rintro r hs ⟨rfl, rfl, _⟩
    refine ⟨by simp [freeN], ?_⟩
    simp (disch := omega) only [go_sem, ↓reduceIte, Int.reduceToNat, Nat.reduceEqDiff, Nat.reduceAdd, Nat.reduceMul, Nat.reduceSub, Nat.reducePow, Nat.reduceLT, Nat.reduceLeDiff, Int.reduceNeg, Int.reduceEq, Int.reduceLT, Int.reduceLE, reduceCtorEq]
    rw [if_neg (by rw [h]; simp)]
    exact fin_valc (by simp (disch := omega) only [go_sem, ↓reduceIte, Int.reduceToNat, Nat.reduceEqDiff, Nat.reduceAdd, Nat.reduceMul, Nat.reduceSub, Nat.reducePow, Nat.reduceLT, Nat.reduceLeDiff, Int.reduceNeg, Int.reduceEq, Int.reduceLT, Int.reduceLE, reduceCtorEq]) (by simp (disch := omega) only [go_sem, ↓reduceIte, Int.reduceToNat, Nat.reduceEqDiff, Nat.reduceAdd, Nat.reduceMul, Nat.reduceSub, Nat.reducePow, Nat.reduceLT, Nat.reduceLeDiff, Int.reduceNeg, Int.reduceEq, Int.reduceLT, Int.reduceLE, reduceCtorEq]) isA_mk
  · simp (disch := omega) only [go_sem, ↓reduceIte, Int.reduceToNat, Nat.reduceEqDiff, Nat.reduceAdd, Nat.reduceMul, Nat.reduceSub, Nat.reducePow, Nat.reduceLT, Nat.reduceLeDiff, Int.reduceNeg, Int.reduceEq, Int.reduceLT, Int.reduceLE, reduceCtorEq, h]
    have h' := h
    simp only [Bool.and_eq_true, modeB, decide_eq_true_eq] at h'
    refine call_closed (con_l5mul k1 s1 m1 e1 k2 s2 m2 e2 mode h'.2.1 h'.2.2 h'.1) (by simp (disch := omega) only [go_sem, ↓reduceIte, Int.reduceToNat, Nat.reduceEqDiff, Nat.reduceAdd, Nat.reduceMul, Nat.reduceSub, Nat.reducePow, Nat.reduceLT, Nat.reduceLeDiff, Int.reduceNeg, Int.reduceEq, Int.reduceLT, Int.reduceLE, reduceCtorEq]) ?_
    rintro r hs ⟨rfl, rfl, _⟩
    refine ⟨by simp [freeN], ?_⟩
    simp (disch := omega) only [go_sem, ↓reduceIte, Int.reduceToNat, Nat.reduceEqDiff, Nat.reduceAdd, Nat.reduceMul, Nat.reduceSub, Nat.reducePow, Nat.reduceLT, Nat.reduceLeDiff, Int.reduceNeg, Int.reduceEq, Int.reduceLT, Int.reduceLE, reduceCtorEq]
    rw [if_pos h]
    exact fin_valc (by simp (disch := omega) only [go_sem, ↓reduceIte, Int.reduceToNat, Nat.reduceEqDiff, Nat.reduceAdd, Nat.reduceMul, Nat.reduceSub, Nat.reducePow, Nat.reduceLT, Nat.reduceLeDiff, Int.reduceNeg, Int.reduceEq, Int.reduceLT, Int.reduceLE, reduceCtorEq]) (by simp (disch := omega) only [go_sem, ↓reduceIte, Int.reduceToNat, Nat.reduceEqDiff, Nat.reduceAdd, Nat.reduceMul, Nat.reduceSub, Nat.reducePow, Nat.reduceLT, Nat.reduceLeDiff, Int.reduceNeg, Int.reduceEq, Int.reduceLT, Int.reduceLE, reduceCtorEq]) isA_mk
end Go.Ab
namespace Go.Ab
open Go Go.Proofs
set_option linter.unusedVariables false
set_option linter.unusedSimpArgs false

theorem con_toFl (k1 : Int) (s1 : Bool) (m1 e1 : Int) : Con Tryd.prog 10 false [.ag [.v (.int .i64 (k1)), .v (.bool (s1)), .v (.int .i64 (m1)), .v (.int .i64 (e1))]] [] (isA (.ag [.v (.int .i64 (k1)), .v (.bool (s1)), .v (.int .i64 (m1)), .v (.int .i64 (e1))])) := by
  refine Con.frzA ?_
  refine Con.of_aw Tryd.func10 rfl Tryd.ntmps10 (by simp) (by simp) (by simp) (W.sound ?_)
  show @W Tryd.prog 17 ⟨_⟩ ⟨fun x σ => @retW _ _ _ ⟨_⟩ _ ⟨_⟩ x σ⟩ _ _
  simp (disch := omega) only [go_sem, ↓reduceIte, Int.reduceToNat, Nat.reduceEqDiff, Nat.reduceAdd, Nat.reduceMul, Nat.reduceSub, Nat.reducePow, Nat.reduceLT, Nat.reduceLeDiff, Int.reduceNeg, Int.reduceEq, Int.reduceLT, Int.reduceLE, reduceCtorEq]
  refine fin_val (by simp (disch := omega) only [go_sem, ↓reduceIte, Int.reduceToNat, Nat.reduceEqDiff, Nat.reduceAdd, Nat.reduceMul, Nat.reduceSub, Nat.reducePow, Nat.reduceLT, Nat.reduceLeDiff, Int.reduceNeg, Int.reduceEq, Int.reduceLT, Int.reduceLE, reduceCtorEq]) ?_
  show snap _ 6 _ = _
  simp (disch := omega) only [go_sem, ↓reduceIte, Int.reduceToNat, Nat.reduceEqDiff, Nat.reduceAdd, Nat.reduceMul, Nat.reduceSub, Nat.reducePow, Nat.reduceLT, Nat.reduceLeDiff, Int.reduceNeg, Int.reduceEq, Int.reduceLT, Int.reduceLE, reduceCtorEq]

theorem law_FlMul (k1 : Int) (s1 : Bool) (m1 e1 k2 : Int) (s2 : Bool) (m2 e2 mode : Int) : Con Tryd.prog 4 true [.ag [.v (.int .i64 (k1)), .v (.bool (s1)), .v (.int .i64 (m1)), .v (.int .i64 (e1))], .ag [.v (.int .i64 (k2)), .v (.bool (s2)), .v (.int .i64 (m2)), .v (.int .i64 (e2))], .v (.int .i64 mode)] [] (isA (.v (.bool true))) := by
  have c1 := con_FlMulS k1 s1 m1 e1 k2 s2 m2 e2 mode
  have c2 := con_FlMul k1 s1 m1 e1 k2 s2 m2 e2 mode
  generalize mulV k1 s1 m1 e1 k2 s2 m2 e2 mode = V at *
  generalize mulG k1 s1 m1 e1 k2 s2 m2 e2 mode = G at *
  refine Con.of_aw Tryd.func4 rfl Tryd.ntmps4 (by simp) (by simp) (by simp) (W.sound ?_)
  show @W Tryd.prog 38 ⟨_⟩ ⟨fun x σ => @retW _ _ _ ⟨_⟩ _ ⟨_⟩ x σ⟩ _ _
  simp (disch := omega) only [go_sem, ↓reduceIte, Int.reduceToNat, Nat.reduceEqDiff, Nat.reduceAdd, Nat.reduceMul, Nat.reduceSub, Nat.reducePow, Nat.reduceLT, Nat.reduceLeDiff, Int.reduceNeg, Int.reduceEq, Int.reduceLT, Int.reduceLE, reduceCtorEq]
  by_cases hm : (modeB mode && (flB k1 s1 m1 e1 && flB k2 s2 m2 e2)) = true
  · rw [if_pos hm] at c1 c2
    refine draw_of rfl [⟨0, [], []⟩, ⟨2, [0], []⟩, ⟨4, [0, 2], []⟩, ⟨9, [0, 2], []⟩, ⟨1, [2], [90000000]⟩, ⟨3, [], [90000000]⟩, ⟨5, [], [90000000]⟩, ⟨6, [], [90000000]⟩, ⟨7, [], [90000000]⟩, ⟨8, [], [90000000]⟩, ⟨10, [], []⟩, ⟨11, [], []⟩] (by kernel_rfl) ?_
    simp (disch := omega) only [go_sem, ↓reduceIte, Int.reduceToNat, Nat.reduceEqDiff, Nat.reduceAdd, Nat.reduceMul, Nat.reduceSub, Nat.reducePow, Nat.reduceLT, Nat.reduceLeDiff, Int.reduceNeg, Int.reduceEq, Int.reduceLT, Int.reduceLE, reduceCtorEq]
    refine call_open (con_toFl k1 s1 m1 e1) (by simp (disch := omega) only [go_sem, ↓reduceIte, Int.reduceToNat, Nat.reduceEqDiff, Nat.reduceAdd, Nat.reduceMul, Nat.reduceSub, Nat.reducePow, Nat.reduceLT, Nat.reduceLeDiff, Int.reduceNeg, Int.reduceEq, Int.reduceLT, Int.reduceLE, reduceCtorEq]) ?_
    rintro r hs ⟨rfl, rfl, _⟩
    refine ⟨by simp [freeN], ?_⟩
    simp (disch := omega) only [go_sem, ↓reduceIte, Int.reduceToNat, Nat.reduceEqDiff, Nat.reduceAdd, Nat.reduceMul, Nat.reduceSub, Nat.reducePow, Nat.reduceLT, Nat.reduceLeDiff, Int.reduceNeg, Int.reduceEq, Int.reduceLT, Int.reduceLE, reduceCtorEq]
    refine call_open (con_toFl k2 s2 m2 e2) (by simp (disch := omega) only [go_sem, ↓reduceIte, Int.reduceToNat, Nat.reduceEqDiff, Nat.reduceAdd, Nat.reduceMul, Nat.reduceSub, Nat.reducePow, Nat.reduceLT, Nat.reduceLeDiff, Int.reduceNeg, Int.reduceEq, Int.reduceLT, Int.reduceLE, reduceCtorEq]) ?_
    rintro r hs ⟨rfl, rfl, _⟩
    refine ⟨by simp [freeN], ?_⟩
    simp (disch := omega) only [go_sem, ↓reduceIte, Int.reduceToNat, Nat.reduceEqDiff, Nat.reduceAdd, Nat.reduceMul, Nat.reduceSub, Nat.reducePow, Nat.reduceLT, Nat.reduceLeDiff, Int.reduceNeg, Int.reduceEq, Int.reduceLT, Int.reduceLE, reduceCtorEq]
    refine call_closed (c1) (by simp (disch := omega) only [go_sem, ↓reduceIte, Int.reduceToNat, Nat.reduceEqDiff, Nat.reduceAdd, Nat.reduceMul, Nat.reduceSub, Nat.reducePow, Nat.reduceLT, Nat.reduceLeDiff, Int.reduceNeg, Int.reduceEq, Int.reduceLT, Int.reduceLE, reduceCtorEq]) ?_
    rintro r hs ⟨rfl, rfl, _⟩
    refine ⟨by simp [freeN], ?_⟩
    simp (disch := omega) only [go_sem, ↓reduceIte, Int.reduceToNat, Nat.reduceEqDiff, Nat.reduceAdd, Nat.reduceMul, Nat.reduceSub, Nat.reducePow, Nat.reduceLT, Nat.reduceLeDiff, Int.reduceNeg, Int.reduceEq, Int.reduceLT, Int.reduceLE, reduceCtorEq]
    refine draw_of rfl [⟨0, [], []⟩, ⟨2, [0], []⟩, ⟨4, [0, 2], []⟩, ⟨9, [0, 2], []⟩, ⟨1, [2], [110000000]⟩, ⟨3, [], [110000000]⟩, ⟨5, [], [110000000]⟩, ⟨6, [], [110000000]⟩, ⟨7, [], [110000000]⟩, ⟨8, [], [110000000]⟩, ⟨10, [], []⟩, ⟨11, [], []⟩] (by kernel_rfl) ?_
    simp (disch := omega) only [go_sem, ↓reduceIte, Int.reduceToNat, Nat.reduceEqDiff, Nat.reduceAdd, Nat.reduceMul, Nat.reduceSub, Nat.reducePow, Nat.reduceLT, Nat.reduceLeDiff, Int.reduceNeg, Int.reduceEq, Int.reduceLT, Int.reduceLE, reduceCtorEq]
    refine call_open (con_toFl k1 s1 m1 e1) (by simp (disch := omega) only [go_sem, ↓reduceIte, Int.reduceToNat, Nat.reduceEqDiff, Nat.reduceAdd, Nat.reduceMul, Nat.reduceSub, Nat.reducePow, Nat.reduceLT, Nat.reduceLeDiff, Int.reduceNeg, Int.reduceEq, Int.reduceLT, Int.reduceLE, reduceCtorEq]) ?_
    rintro r hs ⟨rfl, rfl, _⟩
    refine ⟨by simp [freeN], ?_⟩
    simp (disch := omega) only [go_sem, ↓reduceIte, Int.reduceToNat, Nat.reduceEqDiff, Nat.reduceAdd, Nat.reduceMul, Nat.reduceSub, Nat.reducePow, Nat.reduceLT, Nat.reduceLeDiff, Int.reduceNeg, Int.reduceEq, Int.reduceLT, Int.reduceLE, reduceCtorEq]
    refine call_open (con_toFl k2 s2 m2 e2) (by simp (disch := omega) only [go_sem, ↓reduceIte, Int.reduceToNat, Nat.reduceEqDiff, Nat.reduceAdd, Nat.reduceMul, Nat.reduceSub, Nat.reducePow, Nat.reduceLT, Nat.reduceLeDiff, Int.reduceNeg, Int.reduceEq, Int.reduceLT, Int.reduceLE, reduceCtorEq]) ?_
    rintro r hs ⟨rfl, rfl, _⟩
    refine ⟨by simp [freeN], ?_⟩
    simp (disch := omega) only [go_sem, ↓reduceIte, Int.reduceToNat, Nat.reduceEqDiff, Nat.reduceAdd, Nat.reduceMul, Nat.reduceSub, Nat.reducePow, Nat.reduceLT, Nat.reduceLeDiff, Int.reduceNeg, Int.reduceEq, Int.reduceLT, Int.reduceLE, reduceCtorEq]
    refine call_closed (c2) (by simp (disch := omega) only [go_sem, ↓reduceIte, Int.reduceToNat, Nat.reduceEqDiff, Nat.reduceAdd, Nat.reduceMul, Nat.reduceSub, Nat.reducePow, Nat.reduceLT, Nat.reduceLeDiff, Int.reduceNeg, Int.reduceEq, Int.reduceLT, Int.reduceLE, reduceCtorEq]) ?_
    rintro r hs ⟨rfl, rfl, _⟩
    refine ⟨by simp [freeN], ?_⟩
    simp (disch := omega) only [go_sem, ↓reduceIte, Int.reduceToNat, Nat.reduceEqDiff, Nat.reduceAdd, Nat.reduceMul, Nat.reduceSub, Nat.reducePow, Nat.reduceLT, Nat.reduceLeDiff, Int.reduceNeg, Int.reduceEq, Int.reduceLT, Int.reduceLE, reduceCtorEq]
    refine call_closed (con_eqFl V.k V.s V.m V.e) (by simp (disch := omega) only [go_sem, ↓reduceIte, Int.reduceToNat, Nat.reduceEqDiff, Nat.reduceAdd, Nat.reduceMul, Nat.reduceSub, Nat.reducePow, Nat.reduceLT, Nat.reduceLeDiff, Int.reduceNeg, Int.reduceEq, Int.reduceLT, Int.reduceLE, reduceCtorEq]) ?_
    rintro r hs ⟨rfl, rfl, _⟩
    refine ⟨by simp [freeN], ?_⟩
    simp (disch := omega) only [go_sem, ↓reduceIte, Int.reduceToNat, Nat.reduceEqDiff, Nat.reduceAdd, Nat.reduceMul, Nat.reduceSub, Nat.reducePow, Nat.reduceLT, Nat.reduceLeDiff, Int.reduceNeg, Int.reduceEq, Int.reduceLT, Int.reduceLE, reduceCtorEq]
    exact fin_valc (by simp (disch := omega) only [go_sem, ↓reduceIte, Int.reduceToNat, Nat.reduceEqDiff, Nat.reduceAdd, Nat.reduceMul, Nat.reduceSub, Nat.reducePow, Nat.reduceLT, Nat.reduceLeDiff, Int.reduceNeg, Int.reduceEq, Int.reduceLT, Int.reduceLE, reduceCtorEq]) (by simp (disch := omega) only [go_sem, ↓reduceIte, Int.reduceToNat, Nat.reduceEqDiff, Nat.reduceAdd, Nat.reduceMul, Nat.reduceSub, Nat.reducePow, Nat.reduceLT, Nat.reduceLeDiff, Int.reduceNeg, Int.reduceEq, Int.reduceLT, Int.reduceLE, reduceCtorEq]) isA_mk
  · rw [if_neg hm] at c1 c2
    refine draw_of rfl [⟨0, [], []⟩, ⟨2, [0], []⟩, ⟨4, [0, 2], []⟩, ⟨9, [0, 2], []⟩, ⟨1, [2], [90000000]⟩, ⟨3, [], [90000000]⟩, ⟨5, [], [90000000]⟩, ⟨6, [], [90000000]⟩, ⟨7, [], [90000000]⟩, ⟨8, [], [90000000]⟩, ⟨10, [], []⟩, ⟨11, [], []⟩] (by kernel_rfl) ?_
    simp (disch := omega) only [go_sem, ↓reduceIte, Int.reduceToNat, Nat.reduceEqDiff, Nat.reduceAdd, Nat.reduceMul, Nat.reduceSub, Nat.reducePow, Nat.reduceLT, Nat.reduceLeDiff, Int.reduceNeg, Int.reduceEq, Int.reduceLT, Int.reduceLE, reduceCtorEq]
    refine call_open (con_toFl k1 s1 m1 e1) (by simp (disch := omega) only [go_sem, ↓reduceIte, Int.reduceToNat, Nat.reduceEqDiff, Nat.reduceAdd, Nat.reduceMul, Nat.reduceSub, Nat.reducePow, Nat.reduceLT, Nat.reduceLeDiff, Int.reduceNeg, Int.reduceEq, Int.reduceLT, Int.reduceLE, reduceCtorEq]) ?_
    rintro r hs ⟨rfl, rfl, _⟩
    refine ⟨by simp [freeN], ?_⟩
    simp (disch := omega) only [go_sem, ↓reduceIte, Int.reduceToNat, Nat.reduceEqDiff, Nat.reduceAdd, Nat.reduceMul, Nat.reduceSub, Nat.reducePow, Nat.reduceLT, Nat.reduceLeDiff, Int.reduceNeg, Int.reduceEq, Int.reduceLT, Int.reduceLE, reduceCtorEq]
    refine call_open (con_toFl k2 s2 m2 e2) (by simp (disch := omega) only [go_sem, ↓reduceIte, Int.reduceToNat, Nat.reduceEqDiff, Nat.reduceAdd, Nat.reduceMul, Nat.reduceSub, Nat.reducePow, Nat.reduceLT, Nat.reduceLeDiff, Int.reduceNeg, Int.reduceEq, Int.reduceLT, Int.reduceLE, reduceCtorEq]) ?_
    rintro r hs ⟨rfl, rfl, _⟩
    refine ⟨by simp [freeN], ?_⟩
    simp (disch := omega) only [go_sem, ↓reduceIte, Int.reduceToNat, Nat.reduceEqDiff, Nat.reduceAdd, Nat.reduceMul, Nat.reduceSub, Nat.reducePow, Nat.reduceLT, Nat.reduceLeDiff, Int.reduceNeg, Int.reduceEq, Int.reduceLT, Int.reduceLE, reduceCtorEq]
    refine call_closed (c1) (by simp (disch := omega) only [go_sem, ↓reduceIte, Int.reduceToNat, Nat.reduceEqDiff, Nat.reduceAdd, Nat.reduceMul, Nat.reduceSub, Nat.reducePow, Nat.reduceLT, Nat.reduceLeDiff, Int.reduceNeg, Int.reduceEq, Int.reduceLT, Int.reduceLE, reduceCtorEq]) ?_
    rintro r hs ⟨rfl, rfl, _⟩
    refine ⟨by simp [freeN], ?_⟩
    simp (disch := omega) only [go_sem, ↓reduceIte, Int.reduceToNat, Nat.reduceEqDiff, Nat.reduceAdd, Nat.reduceMul, Nat.reduceSub, Nat.reducePow, Nat.reduceLT, Nat.reduceLeDiff, Int.reduceNeg, Int.reduceEq, Int.reduceLT, Int.reduceLE, reduceCtorEq]
    refine draw_of rfl [⟨0, [], []⟩, ⟨2, [0], []⟩, ⟨4, [0, 2], []⟩, ⟨9, [0, 2], []⟩, ⟨1, [2], [110000000]⟩, ⟨3, [], [110000000]⟩, ⟨5, [], [110000000]⟩, ⟨6, [], [110000000]⟩, ⟨7, [], [110000000]⟩, ⟨8, [], [110000000]⟩, ⟨10, [], []⟩, ⟨11, [], []⟩] (by kernel_rfl) ?_
    simp (disch := omega) only [go_sem, ↓reduceIte, Int.reduceToNat, Nat.reduceEqDiff, Nat.reduceAdd, Nat.reduceMul, Nat.reduceSub, Nat.reducePow, Nat.reduceLT, Nat.reduceLeDiff, Int.reduceNeg, Int.reduceEq, Int.reduceLT, Int.reduceLE, reduceCtorEq]
    refine call_open (con_toFl k1 s1 m1 e1) (by simp (disch := omega) only [go_sem, ↓reduceIte, Int.reduceToNat, Nat.reduceEqDiff, Nat.reduceAdd, Nat.reduceMul, Nat.reduceSub, Nat.reducePow, Nat.reduceLT, Nat.reduceLeDiff, Int.reduceNeg, Int.reduceEq, Int.reduceLT, Int.reduceLE, reduceCtorEq]) ?_
    rintro r hs ⟨rfl, rfl, _⟩
    refine ⟨by simp [freeN], ?_⟩
    simp (disch := omega) only [go_sem, ↓reduceIte, Int.reduceToNat, Nat.reduceEqDiff, Nat.reduceAdd, Nat.reduceMul, Nat.reduceSub, Nat.reducePow, Nat.reduceLT, Nat.reduceLeDiff, Int.reduceNeg, Int.reduceEq, Int.reduceLT, Int.reduceLE, reduceCtorEq]
    refine call_open (con_toFl k2 s2 m2 e2) (by simp (disch := omega) only [go_sem, ↓reduceIte, Int.reduceToNat, Nat.reduceEqDiff, Nat.reduceAdd, Nat.reduceMul, Nat.reduceSub, Nat.reducePow, Nat.reduceLT, Nat.reduceLeDiff, Int.reduceNeg, Int.reduceEq, Int.reduceLT, Int.reduceLE, reduceCtorEq]) ?_
    rintro r hs ⟨rfl, rfl, _⟩
    refine ⟨by simp [freeN], ?_⟩
    simp (disch := omega) only [go_sem, ↓reduceIte, Int.reduceToNat, Nat.reduceEqDiff, Nat.reduceAdd, Nat.reduceMul, Nat.reduceSub, Nat.reducePow, Nat.reduceLT, Nat.reduceLeDiff, Int.reduceNeg, Int.reduceEq, Int.reduceLT, Int.reduceLE, reduceCtorEq]
    refine call_closed (c2) (by simp (disch := omega) only [go_sem, ↓reduceIte, Int.reduceToNat, Nat.reduceEqDiff, Nat.reduceAdd, Nat.reduceMul, Nat.reduceSub, Nat.reducePow, Nat.reduceLT, Nat.reduceLeDiff, Int.reduceNeg, Int.reduceEq, Int.reduceLT, Int.reduceLE, reduceCtorEq]) ?_
    rintro r hs ⟨rfl, rfl, _⟩
    refine ⟨by simp [freeN], ?_⟩
    simp (disch := omega) only [go_sem, ↓reduceIte, Int.reduceToNat, Nat.reduceEqDiff, Nat.reduceAdd, Nat.reduceMul, Nat.reduceSub, Nat.reducePow, Nat.reduceLT, Nat.reduceLeDiff, Int.reduceNeg, Int.reduceEq, Int.reduceLT, Int.reduceLE, reduceCtorEq]
    refine call_closed (con_eqFl 3 false 0 0) (by simp (disch := omega) only [go_sem, ↓reduceIte, Int.reduceToNat, Nat.reduceEqDiff, Nat.reduceAdd, Nat.reduceMul, Nat.reduceSub, Nat.reducePow, Nat.reduceLT, Nat.reduceLeDiff, Int.reduceNeg, Int.reduceEq, Int.reduceLT, Int.reduceLE, reduceCtorEq]) ?_
    rintro r hs ⟨rfl, rfl, _⟩
    refine ⟨by simp [freeN], ?_⟩
    simp (disch := omega) only [go_sem, ↓reduceIte, Int.reduceToNat, Nat.reduceEqDiff, Nat.reduceAdd, Nat.reduceMul, Nat.reduceSub, Nat.reducePow, Nat.reduceLT, Nat.reduceLeDiff, Int.reduceNeg, Int.reduceEq, Int.reduceLT, Int.reduceLE, reduceCtorEq]
    exact fin_valc (by simp (disch := omega) only [go_sem, ↓reduceIte, Int.reduceToNat, Nat.reduceEqDiff, Nat.reduceAdd, Nat.reduceMul, Nat.reduceSub, Nat.reducePow, Nat.reduceLT, Nat.reduceLeDiff, Int.reduceNeg, Int.reduceEq, Int.reduceLT, Int.reduceLE, reduceCtorEq]) (by simp (disch := omega) only [go_sem, ↓reduceIte, Int.reduceToNat, Nat.reduceEqDiff, Nat.reduceAdd, Nat.reduceMul, Nat.reduceSub, Nat.reducePow, Nat.reduceLT, Nat.reduceLeDiff, Int.reduceNeg, Int.reduceEq, Int.reduceLT, Int.reduceLE, reduceCtorEq]) isA_mk
end Go.Ab
namespace Go.Ab
open Go

theorem bhp_nil (m : Nat) : bhp [] m = .free := by unfold bhp; split <;> simp

/-- From a contract to a walk: called with nothing lent. -/
theorem Con.enter {P : Program} {f : FuncId} {cl : Bool} {args : List AV} {x : Value} (h : Con P f cl args [] (isA (.v x))) (R : Nat → Prop) (w : World) (vs : Array Value)
    (hlt : ∀ b, R b → b < w.heap.size) (hr : RepA R (fun _ => none) w vs args) (ha : AllL (fun m => bhp [] m ≠ .free) args) (hg : Gd w) :
    Calls P f vs w fun e w' => e = .returned x ∧ Ext (fun _ => False) w w' := by
  have hno : ∀ b, ¬ OwnB (bhp []) (fun _ => none) b := fun b ⟨nm, z, cs, B, e, _⟩ => by rw [bhp_nil] at e; cases e
  have hh : HpOk R (fun _ => none) w (bhp []) :=
    ⟨fun nm => (by rw [bhp_nil]; trivial), fun nm z cs B e => absurd e (by rw [bhp_nil]; simp), fun nm nm' z z' cs cs' B B' e => absurd e (by rw [bhp_nil]; simp), fun nm z cs e => absurd e (by rw [bhp_nil]; simp)⟩
  refine (h R (fun _ => none) w vs hlt hr ha hh ⟨hg, fun g l _ => hno g⟩).mono ?_
  rintro e w' ⟨y, r, hs, bs', R', ι', rfl, ⟨rfl, rfl, rfl⟩, hf⟩
  refine ⟨?_, hf.ext.os, hf.ext.tape, hf.ext.output, hf.ext.size, fun b hb _ => hf.ext.block b hb (hno b)⟩
  cases hf.rep with
  | fr _ _ h => cases h; rfl

theorem Ext.kept {w w' : World} (h : Ext (fun _ => False) w w') (may : MemPlace → Prop) : w.keptBut w' may := by
  refine ⟨h.os, h.output, fun i hi => ?_⟩
  rw [h.block i hi (fun h => h)]
  cases w.heap[i]? with
  | none => trivial
  | some o => cases o with
    | cells c t fr => exact ⟨rfl, rfl, rfl, fun _ _ => rfl⟩
    | map es cl => exact .inr ⟨rfl, rfl⟩
    | _ => rfl

theorem Ext.below {w w' : World} (h : Ext (fun _ => False) w w') : RowKit.Below w.heap.size w w' := ⟨h.os, h.tape, h.output, h.size, fun k hk => h.block k hk (fun h => h)⟩

/-- What was read reads so again. -/
theorem Ext.trod {H : Type} {enc : TypeId × Value → H} {P : Program} {t : TypeId} {W W' : World} (hw : Ext (fun _ => False) W W') (hl : laidOutB P = true) (hr : P.readableRec t = true) (hrow : t < P.types.size) {v : Value} {d : DataW H} {ps : List MemPlace}
    (h : DataW.Trod enc P W 0 (fun _ => true) true t v d ps) (hlt : ∀ x ∈ ps, x.block < W.heap.size) : DataW.Trod enc P W' 0 (fun b => decide (b < W.heap.size)) true t v d ps :=
  RowKit.Below.trod hl hr hrow h hw.below hlt

theorem cell_blk {w : World} {a : Addr} {v : Value} (h : w.cell? a = some v) : a.block < w.heap.size := by
  rcases Nat.lt_or_ge a.block w.heap.size with h' | h'
  · exact h'
  · simp [World.cell?, Array.getElem?_eq_none h'] at h

theorem rep_v {R : Nat → Prop} {ι : Nat → Option Blk} {w : World} (x : Value) : Rep R ι w x (.v x) := .fr _ _ (.v x)
theorem repA_two {R : Nat → Prop} {ι : Nat → Option Blk} {w : World} {x y : Value} {a b : AV} (h1 : Rep R ι w x a) (h2 : Rep R ι w y b) : RepA R ι w #[x, y] [a, b] :=
  ⟨rfl, fun i h => match i, h with
    | 0, _ => h1
    | 1, _ => h2⟩
theorem repA_three {R : Nat → Prop} {ι : Nat → Option Blk} {w : World} {x y z : Value} {a b c : AV} (h1 : Rep R ι w x a) (h2 : Rep R ι w y b) (h3 : Rep R ι w z c) : RepA R ι w #[x, y, z] [a, b, c] :=
  ⟨rfl, fun i h => match i, h with
    | 0, _ => h1
    | 1, _ => h2
    | 2, _ => h3⟩
theorem frep_four {R : Nat → Prop} {w : World} (x y z t : Value) : FRep R w (.agg #[x, y, z, t]) (.ag [.v x, .v y, .v z, .v t]) :=
  .ag _ _ rfl (fun i h => match i, h with
    | 0, _ => .v x
    | 1, _ => .v y
    | 2, _ => .v z
    | 3, _ => .v t)
end Go.Ab
namespace Go.Proofs.YthlmpjafbjhafaaDoor
open Go.ChangeShapes Go.WideShapes Go.ChangeAt Go.RowKit Go.Ab

theorem own : ownKnob Tryd.prog.godebug = none := by kernel_rfl
theorem laidOut : laidOutB Tryd.prog = true := by kernel_rfl
theorem tabs_g1 : Tryd.prog.globalNamed "math/bits.deBruijn64tab" = some 1 := by kernel_rfl
theorem tabs_t1 : (Tryd.prog.globals[1]?).map (·.type) = some 131 := by kernel_rfl
theorem tabs_u1 : Tryd.prog.underlying 131 = some (.array 64 5) := by kernel_rfl
theorem tabs_e1 : Tryd.prog.underlying 5 = some (.int .u8) := by kernel_rfl
theorem tabs_c1 : Tryd.prog.cellsOf 5 = 1 := by kernel_rfl
theorem tabs_k1 : Tryd.prog.cellsOf 131 = 64 := by kernel_rfl
noncomputable def laidList : List (String × DataW Unit) := [("math/bits.deBruijn32tab", Rows.laid_math_bits_deBruijn32tab), ("math/bits.deBruijn64tab", Rows.laid_math_bits_deBruijn64tab)]

theorem tabs_gd {W : World} (h : laidMetH Tryd.prog laidList W) : Gd W := by
  have h' : laidMet Tryd.prog laidList W := h
  have h2 : laidMet Tryd.prog [("math/bits.deBruijn64tab", Lib.tabData .u8 (Lib.deBruijn64tab.map Int.ofNat))] W := laidMet.tail h'
  have hT := Lib.tabIs_of_head tabs_g1 tabs_t1 tabs_u1 tabs_e1 tabs_c1 tabs_k1 h2
  intro g l hg
  unfold glb at hg
  split at hg
  · rename_i e
    subst e
    cases hg
    have hc : ∀ i, i < Lib.deBruijn64tab.length → W.cell? ⟨1, i, none⟩ = some (.int .u8 ((Lib.deBruijn64tab.getD i 0 : Nat) : Int)) := fun i hi => by
      have := hT.cell tabs_g1 i (by simpa using hi)
      rw [this]
      simp [List.getD, hi]
    exact ⟨cell_blk (hc 0 (by decide)), hc⟩
  · cases hg

/-- A world that meets the condition: the settled one, the tables laid. -/
noncomputable def laidWorld (os : Os) : World :=
  let w0 := World.holding Tryd.prog os ⟨#[], #[], []⟩
  { w0 with heap := (w0.heap.modify 1 fun
      | .cells _ t frozen => .cells (Lib.deBruijn64tab.map fun z => Value.int .u8 (Int.ofNat z)).toArray t frozen
      | o => o).modify 0 fun
      | .cells _ t frozen => .cells (Lib.deBruijn32tab.map fun z => Value.int .u8 (Int.ofNat z)).toArray t frozen
      | o => o }
theorem laidWorld_met (os : Os) (args : Array Value) : laidMetH Tryd.prog laidList ((laidWorld os).forCall (fun _ _ => 0) ⟨#[], args, []⟩).memory :=
  laidMetH_of_parts (laidMet_of_run' 8 (by kernel_rfl) (by kernel_rfl)) (by kernel_rfl)
end Go.Proofs.YthlmpjafbjhafaaDoor
