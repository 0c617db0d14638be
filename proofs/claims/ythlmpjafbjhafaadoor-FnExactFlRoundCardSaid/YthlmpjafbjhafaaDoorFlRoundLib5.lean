/- What the proof of this claim stands on: the walks of the functions and the plain laws, part 5. -/
import Derived.Test.YthlmpjafbjhafaaDoorFlRoundLib4
namespace Go.Ab
open Go Go.Proofs
set_option linter.unusedVariables false
set_option linter.unusedSimpArgs false

theorem con_divideN (a b : Nat) (hb : b ≠ 0) (la : (lim a).length ≤ 900000) (lb : (lim b).length ≤ 900000) :
    Con Tryd.prog 101 false [.sl (lim (a)).length (ints (lim (a))), .sl (lim (b)).length (ints (lim (b)))] [] (isA (.tu [.sl (lim (a / b)).length (ints (lim (a / b))), .sl (lim (a % b)).length (ints (lim (a % b)))])) := (con_divide a b hb la lb).frzA

theorem con_roundUp (neg odd : Bool) (half mode : Int) : Con Tryd.prog 102 true [.v (.bool neg), .v (.bool odd), .v (.int .i64 half), .v (.int .i64 mode)] [] (isA (.v (.bool (rup neg odd half mode)))) := by
  refine Con.of_aw Tryd.func102 rfl Tryd.ntmps102 (by simp) (by simp) (by simp) (W.sound ?_)
  show @W Tryd.prog 32 ⟨_⟩ ⟨fun x σ => @retW _ _ _ ⟨_⟩ _ ⟨_⟩ x σ⟩ _ _
  simp (disch := omega) only [go_sem, ↓reduceIte, Int.reduceToNat, Nat.reduceEqDiff, Nat.reduceAdd, Nat.reduceMul, Nat.reduceSub, Nat.reducePow, Nat.reduceLT, Nat.reduceLeDiff, Int.reduceNeg, Int.reduceEq, Int.reduceLT, Int.reduceLE, reduceCtorEq]
  refine ifW_dec (fun h1 => ?_) (fun h1 => ?_)
  · simp (disch := omega) only [go_sem, ↓reduceIte, Int.reduceToNat, Nat.reduceEqDiff, Nat.reduceAdd, Nat.reduceMul, Nat.reduceSub, Nat.reducePow, Nat.reduceLT, Nat.reduceLeDiff, Int.reduceNeg, Int.reduceEq, Int.reduceLT, Int.reduceLE, reduceCtorEq, h1]
    exact fin_valc (by simp (disch := omega) only [go_sem, ↓reduceIte, Int.reduceToNat, Nat.reduceEqDiff, Nat.reduceAdd, Nat.reduceMul, Nat.reduceSub, Nat.reducePow, Nat.reduceLT, Nat.reduceLeDiff, Int.reduceNeg, Int.reduceEq, Int.reduceLT, Int.reduceLE, reduceCtorEq]) (by simp (disch := omega) only [go_sem, ↓reduceIte, Int.reduceToNat, Nat.reduceEqDiff, Nat.reduceAdd, Nat.reduceMul, Nat.reduceSub, Nat.reducePow, Nat.reduceLT, Nat.reduceLeDiff, Int.reduceNeg, Int.reduceEq, Int.reduceLT, Int.reduceLE, reduceCtorEq]) ⟨by simp [tupA, rup, h1], rfl, rfl⟩
  · simp (disch := omega) only [go_sem, ↓reduceIte, Int.reduceToNat, Nat.reduceEqDiff, Nat.reduceAdd, Nat.reduceMul, Nat.reduceSub, Nat.reducePow, Nat.reduceLT, Nat.reduceLeDiff, Int.reduceNeg, Int.reduceEq, Int.reduceLT, Int.reduceLE, reduceCtorEq, h1]
    refine ifW_dec (fun h2 => ?_) (fun h2 => ?_)
    · simp (disch := omega) only [go_sem, ↓reduceIte, Int.reduceToNat, Nat.reduceEqDiff, Nat.reduceAdd, Nat.reduceMul, Nat.reduceSub, Nat.reducePow, Nat.reduceLT, Nat.reduceLeDiff, Int.reduceNeg, Int.reduceEq, Int.reduceLT, Int.reduceLE, reduceCtorEq, h2]
      exact fin_valc (by simp (disch := omega) only [go_sem, ↓reduceIte, Int.reduceToNat, Nat.reduceEqDiff, Nat.reduceAdd, Nat.reduceMul, Nat.reduceSub, Nat.reducePow, Nat.reduceLT, Nat.reduceLeDiff, Int.reduceNeg, Int.reduceEq, Int.reduceLT, Int.reduceLE, reduceCtorEq]) (by simp (disch := omega) only [go_sem, ↓reduceIte, Int.reduceToNat, Nat.reduceEqDiff, Nat.reduceAdd, Nat.reduceMul, Nat.reduceSub, Nat.reducePow, Nat.reduceLT, Nat.reduceLeDiff, Int.reduceNeg, Int.reduceEq, Int.reduceLT, Int.reduceLE, reduceCtorEq]) ⟨by simp [tupA, rup, h2], rfl, rfl⟩
    · simp (disch := omega) only [go_sem, ↓reduceIte, Int.reduceToNat, Nat.reduceEqDiff, Nat.reduceAdd, Nat.reduceMul, Nat.reduceSub, Nat.reducePow, Nat.reduceLT, Nat.reduceLeDiff, Int.reduceNeg, Int.reduceEq, Int.reduceLT, Int.reduceLE, reduceCtorEq, h2]
      refine ifW_dec (fun h3 => ?_) (fun h3 => ?_)
      · simp (disch := omega) only [go_sem, ↓reduceIte, Int.reduceToNat, Nat.reduceEqDiff, Nat.reduceAdd, Nat.reduceMul, Nat.reduceSub, Nat.reducePow, Nat.reduceLT, Nat.reduceLeDiff, Int.reduceNeg, Int.reduceEq, Int.reduceLT, Int.reduceLE, reduceCtorEq, h3]
        refine ifW_not (fun h4 => ?_) (fun h4 => ?_)
        · simp (disch := omega) only [go_sem, ↓reduceIte, Int.reduceToNat, Nat.reduceEqDiff, Nat.reduceAdd, Nat.reduceMul, Nat.reduceSub, Nat.reducePow, Nat.reduceLT, Nat.reduceLeDiff, Int.reduceNeg, Int.reduceEq, Int.reduceLT, Int.reduceLE, reduceCtorEq, h4]
          refine ifW_dec (fun h5 => ?_) (fun h5 => ?_)
          · simp (disch := omega) only [go_sem, ↓reduceIte, Int.reduceToNat, Nat.reduceEqDiff, Nat.reduceAdd, Nat.reduceMul, Nat.reduceSub, Nat.reducePow, Nat.reduceLT, Nat.reduceLeDiff, Int.reduceNeg, Int.reduceEq, Int.reduceLT, Int.reduceLE, reduceCtorEq, h5]
            exact fin_valc (by simp (disch := omega) only [go_sem, ↓reduceIte, Int.reduceToNat, Nat.reduceEqDiff, Nat.reduceAdd, Nat.reduceMul, Nat.reduceSub, Nat.reducePow, Nat.reduceLT, Nat.reduceLeDiff, Int.reduceNeg, Int.reduceEq, Int.reduceLT, Int.reduceLE, reduceCtorEq]) (by simp (disch := omega) only [go_sem, ↓reduceIte, Int.reduceToNat, Nat.reduceEqDiff, Nat.reduceAdd, Nat.reduceMul, Nat.reduceSub, Nat.reducePow, Nat.reduceLT, Nat.reduceLeDiff, Int.reduceNeg, Int.reduceEq, Int.reduceLT, Int.reduceLE, reduceCtorEq]) ⟨by simp [tupA, rup, h3, h5], rfl, rfl⟩
          · simp (disch := omega) only [go_sem, ↓reduceIte, Int.reduceToNat, Nat.reduceEqDiff, Nat.reduceAdd, Nat.reduceMul, Nat.reduceSub, Nat.reducePow, Nat.reduceLT, Nat.reduceLeDiff, Int.reduceNeg, Int.reduceEq, Int.reduceLT, Int.reduceLE, reduceCtorEq, h5]
            exact fin_valc (by simp (disch := omega) only [go_sem, ↓reduceIte, Int.reduceToNat, Nat.reduceEqDiff, Nat.reduceAdd, Nat.reduceMul, Nat.reduceSub, Nat.reducePow, Nat.reduceLT, Nat.reduceLeDiff, Int.reduceNeg, Int.reduceEq, Int.reduceLT, Int.reduceLE, reduceCtorEq]) (by simp (disch := omega) only [go_sem, ↓reduceIte, Int.reduceToNat, Nat.reduceEqDiff, Nat.reduceAdd, Nat.reduceMul, Nat.reduceSub, Nat.reducePow, Nat.reduceLT, Nat.reduceLeDiff, Int.reduceNeg, Int.reduceEq, Int.reduceLT, Int.reduceLE, reduceCtorEq]) ⟨by simp [tupA, rup, h3, h4, h5], rfl, rfl⟩
        · simp (disch := omega) only [go_sem, ↓reduceIte, Int.reduceToNat, Nat.reduceEqDiff, Nat.reduceAdd, Nat.reduceMul, Nat.reduceSub, Nat.reducePow, Nat.reduceLT, Nat.reduceLeDiff, Int.reduceNeg, Int.reduceEq, Int.reduceLT, Int.reduceLE, reduceCtorEq, h4]
          exact fin_valc (by simp (disch := omega) only [go_sem, ↓reduceIte, Int.reduceToNat, Nat.reduceEqDiff, Nat.reduceAdd, Nat.reduceMul, Nat.reduceSub, Nat.reducePow, Nat.reduceLT, Nat.reduceLeDiff, Int.reduceNeg, Int.reduceEq, Int.reduceLT, Int.reduceLE, reduceCtorEq]) (by simp (disch := omega) only [go_sem, ↓reduceIte, Int.reduceToNat, Nat.reduceEqDiff, Nat.reduceAdd, Nat.reduceMul, Nat.reduceSub, Nat.reducePow, Nat.reduceLT, Nat.reduceLeDiff, Int.reduceNeg, Int.reduceEq, Int.reduceLT, Int.reduceLE, reduceCtorEq]) ⟨by simp [tupA, rup, h3, h4], rfl, rfl⟩
      · simp (disch := omega) only [go_sem, ↓reduceIte, Int.reduceToNat, Nat.reduceEqDiff, Nat.reduceAdd, Nat.reduceMul, Nat.reduceSub, Nat.reducePow, Nat.reduceLT, Nat.reduceLeDiff, Int.reduceNeg, Int.reduceEq, Int.reduceLT, Int.reduceLE, reduceCtorEq, h3]
        refine ifW_dec (fun h4 => ?_) (fun h4 => ?_)
        · simp (disch := omega) only [go_sem, ↓reduceIte, Int.reduceToNat, Nat.reduceEqDiff, Nat.reduceAdd, Nat.reduceMul, Nat.reduceSub, Nat.reducePow, Nat.reduceLT, Nat.reduceLeDiff, Int.reduceNeg, Int.reduceEq, Int.reduceLT, Int.reduceLE, reduceCtorEq, h4]
          exact fin_valc (by simp (disch := omega) only [go_sem, ↓reduceIte, Int.reduceToNat, Nat.reduceEqDiff, Nat.reduceAdd, Nat.reduceMul, Nat.reduceSub, Nat.reducePow, Nat.reduceLT, Nat.reduceLeDiff, Int.reduceNeg, Int.reduceEq, Int.reduceLT, Int.reduceLE, reduceCtorEq]) (by simp (disch := omega) only [go_sem, ↓reduceIte, Int.reduceToNat, Nat.reduceEqDiff, Nat.reduceAdd, Nat.reduceMul, Nat.reduceSub, Nat.reducePow, Nat.reduceLT, Nat.reduceLeDiff, Int.reduceNeg, Int.reduceEq, Int.reduceLT, Int.reduceLE, reduceCtorEq]) ⟨by simp [tupA, rup, h4], rfl, rfl⟩
        · simp (disch := omega) only [go_sem, ↓reduceIte, Int.reduceToNat, Nat.reduceEqDiff, Nat.reduceAdd, Nat.reduceMul, Nat.reduceSub, Nat.reducePow, Nat.reduceLT, Nat.reduceLeDiff, Int.reduceNeg, Int.reduceEq, Int.reduceLT, Int.reduceLE, reduceCtorEq, h4]
          exact fin_valc (by simp (disch := omega) only [go_sem, ↓reduceIte, Int.reduceToNat, Nat.reduceEqDiff, Nat.reduceAdd, Nat.reduceMul, Nat.reduceSub, Nat.reducePow, Nat.reduceLT, Nat.reduceLeDiff, Int.reduceNeg, Int.reduceEq, Int.reduceLT, Int.reduceLE, reduceCtorEq]) (by simp (disch := omega) only [go_sem, ↓reduceIte, Int.reduceToNat, Nat.reduceEqDiff, Nat.reduceAdd, Nat.reduceMul, Nat.reduceSub, Nat.reducePow, Nat.reduceLT, Nat.reduceLeDiff, Int.reduceNeg, Int.reduceEq, Int.reduceLT, Int.reduceLE, reduceCtorEq]) ⟨by simp [tupA, rup, h1, h2, h3, h4], rfl, rfl⟩

theorem con_isMode (mode : Int) : Con Tryd.prog 22 true [.v (.int .i64 mode)] [] (isA (.v (.bool (decide (0 ≤ mode) && decide (mode ≤ 4))))) := by
  refine Con.of_aw Tryd.func22 rfl Tryd.ntmps22 (by simp) (by simp) (by simp) (W.sound ?_)
  show @W Tryd.prog 5 ⟨_⟩ ⟨fun x σ => @retW _ _ _ ⟨_⟩ _ ⟨_⟩ x σ⟩ _ _
  simp (disch := omega) only [go_sem, ↓reduceIte, Int.reduceToNat, Nat.reduceEqDiff, Nat.reduceAdd, Nat.reduceMul, Nat.reduceSub, Nat.reducePow, Nat.reduceLT, Nat.reduceLeDiff, Int.reduceNeg, Int.reduceEq, Int.reduceLT, Int.reduceLE, reduceCtorEq]
  refine call_closed ((con_within mode 0 4).mono fun r hs bs h => (⟨h.1, h.2, trivial⟩ : _ ∧ _ ∧ True)) (by simp (disch := omega) only [go_sem, ↓reduceIte, Int.reduceToNat, Nat.reduceEqDiff, Nat.reduceAdd, Nat.reduceMul, Nat.reduceSub, Nat.reducePow, Nat.reduceLT, Nat.reduceLeDiff, Int.reduceNeg, Int.reduceEq, Int.reduceLT, Int.reduceLE, reduceCtorEq]) ?_
  rintro r hs ⟨rfl, rfl, _⟩
  refine ⟨by simp [freeN], ?_⟩
  simp (disch := omega) only [go_sem, ↓reduceIte, Int.reduceToNat, Nat.reduceEqDiff, Nat.reduceAdd, Nat.reduceMul, Nat.reduceSub, Nat.reducePow, Nat.reduceLT, Nat.reduceLeDiff, Int.reduceNeg, Int.reduceEq, Int.reduceLT, Int.reduceLE, reduceCtorEq]
  exact fin_valc (by simp (disch := omega) only [go_sem, ↓reduceIte, Int.reduceToNat, Nat.reduceEqDiff, Nat.reduceAdd, Nat.reduceMul, Nat.reduceSub, Nat.reducePow, Nat.reduceLT, Nat.reduceLeDiff, Int.reduceNeg, Int.reduceEq, Int.reduceLT, Int.reduceLE, reduceCtorEq]) (by simp (disch := omega) only [go_sem, ↓reduceIte, Int.reduceToNat, Nat.reduceEqDiff, Nat.reduceAdd, Nat.reduceMul, Nat.reduceSub, Nat.reducePow, Nat.reduceLT, Nat.reduceLeDiff, Int.reduceNeg, Int.reduceEq, Int.reduceLT, Int.reduceLE, reduceCtorEq]) isA_mk

theorem con_roundQuotient (neg : Bool) (a b : Nat) (mode : Int) (hb : b ≠ 0) (la : bl a ≤ 8000000) (lb : bl b ≤ 8000000) :
    Con Tryd.prog 94 false [.v (.bool neg), .sl (lim (a)).length (ints (lim (a))), .sl (lim (b)).length (ints (lim (b))), .v (.int .i64 mode)] [] (isA (.tu [.sl (lim (rq neg a b mode)).length (ints (lim (rq neg a b mode))), .v (.bool (decide (a % b = 0)))])) := by
  refine Con.of_aw Tryd.func94 rfl Tryd.ntmps94 (by simp) (by simp) (by simp) (W.sound ?_)
  show @W Tryd.prog 36 ⟨_⟩ ⟨fun x σ => @retW _ _ _ ⟨_⟩ _ ⟨_⟩ x σ⟩ _ _
  simp (disch := omega) only [go_sem, ↓reduceIte, Int.reduceToNat, Nat.reduceEqDiff, Nat.reduceAdd, Nat.reduceMul, Nat.reduceSub, Nat.reducePow, Nat.reduceLT, Nat.reduceLeDiff, Int.reduceNeg, Int.reduceEq, Int.reduceLT, Int.reduceLE, reduceCtorEq]
  have lla := len_bl la
  have llb := len_bl lb
  refine call_open (con_divideN a b hb (by omega) (by omega)) (by simp (disch := omega) only [go_sem, ↓reduceIte, Int.reduceToNat, Nat.reduceEqDiff, Nat.reduceAdd, Nat.reduceMul, Nat.reduceSub, Nat.reducePow, Nat.reduceLT, Nat.reduceLeDiff, Int.reduceNeg, Int.reduceEq, Int.reduceLT, Int.reduceLE, reduceCtorEq]) ?_
  rintro r hs ⟨rfl, rfl, _⟩
  refine ⟨by simp [freeN], ?_⟩
  simp (disch := omega) only [go_sem, ↓reduceIte, Int.reduceToNat, Nat.reduceEqDiff, Nat.reduceAdd, Nat.reduceMul, Nat.reduceSub, Nat.reducePow, Nat.reduceLT, Nat.reduceLeDiff, Int.reduceNeg, Int.reduceEq, Int.reduceLT, Int.reduceLE, reduceCtorEq]
  have hmb : a % b < b := Nat.mod_lt _ (by omega)
  have llr := len_bl (Nat.le_trans (bl_mono (Nat.le_of_lt hmb)) lb)
  have llq := len_bl (Nat.le_trans (bl_divle a b) la)
  refine ifW_dec (fun h1 => ?_) (fun h1 => ?_)
  · simp (disch := omega) only [go_sem, ↓reduceIte, Int.reduceToNat, Nat.reduceEqDiff, Nat.reduceAdd, Nat.reduceMul, Nat.reduceSub, Nat.reducePow, Nat.reduceLT, Nat.reduceLeDiff, Int.reduceNeg, Int.reduceEq, Int.reduceLT, Int.reduceLE, reduceCtorEq, h1]
    have h0 : a % b = 0 := lim_eq_nil.1 (List.length_eq_zero_iff.1 (by omega))
    refine fin_val (by simp (disch := omega) only [go_sem, ↓reduceIte, Int.reduceToNat, Nat.reduceEqDiff, Nat.reduceAdd, Nat.reduceMul, Nat.reduceSub, Nat.reducePow, Nat.reduceLT, Nat.reduceLeDiff, Int.reduceNeg, Int.reduceEq, Int.reduceLT, Int.reduceLE, reduceCtorEq]) ⟨?_, rfl, rfl⟩
    simp [tupA, rq, h0]
  · simp (disch := omega) only [go_sem, ↓reduceIte, Int.reduceToNat, Nat.reduceEqDiff, Nat.reduceAdd, Nat.reduceMul, Nat.reduceSub, Nat.reducePow, Nat.reduceLT, Nat.reduceLeDiff, Int.reduceNeg, Int.reduceEq, Int.reduceLT, Int.reduceLE, reduceCtorEq, h1]
    have h0 : a % b ≠ 0 := fun e => h1 (by rw [e, lim_zero]; rfl)
    refine call_closed (con_bitOf (a / b) 0 (by omega) (by omega) (by omega)) (by simp (disch := omega) only [go_sem, ↓reduceIte, Int.reduceToNat, Nat.reduceEqDiff, Nat.reduceAdd, Nat.reduceMul, Nat.reduceSub, Nat.reducePow, Nat.reduceLT, Nat.reduceLeDiff, Int.reduceNeg, Int.reduceEq, Int.reduceLT, Int.reduceLE, reduceCtorEq]) ?_
    rintro r hs ⟨rfl, rfl, _⟩
    refine ⟨by simp [freeN], ?_⟩
    simp (disch := omega) only [go_sem, ↓reduceIte, Int.reduceToNat, Nat.reduceEqDiff, Nat.reduceAdd, Nat.reduceMul, Nat.reduceSub, Nat.reducePow, Nat.reduceLT, Nat.reduceLeDiff, Int.reduceNeg, Int.reduceEq, Int.reduceLT, Int.reduceLE, reduceCtorEq]
    refine call_open (con_upN (a % b) 1 (by omega) (by omega)) (by simp (disch := omega) only [go_sem, ↓reduceIte, Int.reduceToNat, Nat.reduceEqDiff, Nat.reduceAdd, Nat.reduceMul, Nat.reduceSub, Nat.reducePow, Nat.reduceLT, Nat.reduceLeDiff, Int.reduceNeg, Int.reduceEq, Int.reduceLT, Int.reduceLE, reduceCtorEq]) ?_
    rintro r hs ⟨rfl, rfl, _⟩
    refine ⟨by simp [freeN], ?_⟩
    simp (disch := omega) only [go_sem, ↓reduceIte, Int.reduceToNat, Nat.reduceEqDiff, Nat.reduceAdd, Nat.reduceMul, Nat.reduceSub, Nat.reducePow, Nat.reduceLT, Nat.reduceLeDiff, Int.reduceNeg, Int.reduceEq, Int.reduceLT, Int.reduceLE, reduceCtorEq]
    have llu := len_bl (Nat.le_trans (bl_up (a % b) 1) (Nat.add_le_add_right (Nat.le_trans (bl_mono (Nat.le_of_lt hmb)) lb) 1))
    refine call_closed (con_compare (a % b * 2 ^ 1) b (by omega) (by omega)) (by simp (disch := omega) only [go_sem, ↓reduceIte, Int.reduceToNat, Nat.reduceEqDiff, Nat.reduceAdd, Nat.reduceMul, Nat.reduceSub, Nat.reducePow, Nat.reduceLT, Nat.reduceLeDiff, Int.reduceNeg, Int.reduceEq, Int.reduceLT, Int.reduceLE, reduceCtorEq]) ?_
    rintro r hs ⟨rfl, rfl, _⟩
    refine ⟨by simp [freeN], ?_⟩
    simp (disch := omega) only [go_sem, ↓reduceIte, Int.reduceToNat, Nat.reduceEqDiff, Nat.reduceAdd, Nat.reduceMul, Nat.reduceSub, Nat.reducePow, Nat.reduceLT, Nat.reduceLeDiff, Int.reduceNeg, Int.reduceEq, Int.reduceLT, Int.reduceLE, reduceCtorEq]
    have e1 : (decide (((a / b / 1 % 2 : Nat) : Int) = 1)) = decide (a / b % 2 = 1) := by
      simp; omega
    refine call_closed (con_roundUp neg (decide (a / b % 2 = 1)) (cmpI ((a % b * 2 ^ 1 : Nat) : Int) (b : Int)) mode) (by simp (disch := omega) only [go_sem, ↓reduceIte, Int.reduceToNat, Nat.reduceEqDiff, Nat.reduceAdd, Nat.reduceMul, Nat.reduceSub, Nat.reducePow, Nat.reduceLT, Nat.reduceLeDiff, Int.reduceNeg, Int.reduceEq, Int.reduceLT, Int.reduceLE, reduceCtorEq, e1, Int.toNat_zero, Nat.pow_zero]) ?_
    rintro r hs ⟨rfl, rfl, _⟩
    refine ⟨by simp [freeN], ?_⟩
    simp (disch := omega) only [go_sem, ↓reduceIte, Int.reduceToNat, Nat.reduceEqDiff, Nat.reduceAdd, Nat.reduceMul, Nat.reduceSub, Nat.reducePow, Nat.reduceLT, Nat.reduceLeDiff, Int.reduceNeg, Int.reduceEq, Int.reduceLT, Int.reduceLE, reduceCtorEq]
    refine ifW_b (fun h2 => ?_) (fun h2 => ?_)
    · simp (disch := omega) only [go_sem, ↓reduceIte, Int.reduceToNat, Nat.reduceEqDiff, Nat.reduceAdd, Nat.reduceMul, Nat.reduceSub, Nat.reducePow, Nat.reduceLT, Nat.reduceLeDiff, Int.reduceNeg, Int.reduceEq, Int.reduceLT, Int.reduceLE, reduceCtorEq, h2]
      refine call_open (con_smallN 1 (by omega)) (by simp (disch := omega) only [go_sem, ↓reduceIte, Int.reduceToNat, Nat.reduceEqDiff, Nat.reduceAdd, Nat.reduceMul, Nat.reduceSub, Nat.reducePow, Nat.reduceLT, Nat.reduceLeDiff, Int.reduceNeg, Int.reduceEq, Int.reduceLT, Int.reduceLE, reduceCtorEq]) ?_
      rintro r hs ⟨rfl, rfl, _⟩
      refine ⟨by simp [freeN], ?_⟩
      simp (disch := omega) only [go_sem, ↓reduceIte, Int.reduceToNat, Nat.reduceEqDiff, Nat.reduceAdd, Nat.reduceMul, Nat.reduceSub, Nat.reducePow, Nat.reduceLT, Nat.reduceLeDiff, Int.reduceNeg, Int.reduceEq, Int.reduceLT, Int.reduceLE, reduceCtorEq]
      have l1 : (lim 1).length ≤ 2000000 := by have := len_bl (m := 1) (B := 1) (by decide); omega
      refine call_open (con_plusN (a / b) 1 (by omega) l1) (by simp (disch := omega) only [go_sem, ↓reduceIte, Int.reduceToNat, Nat.reduceEqDiff, Nat.reduceAdd, Nat.reduceMul, Nat.reduceSub, Nat.reducePow, Nat.reduceLT, Nat.reduceLeDiff, Int.reduceNeg, Int.reduceEq, Int.reduceLT, Int.reduceLE, reduceCtorEq]) ?_
      rintro r hs ⟨rfl, rfl, _⟩
      refine ⟨by simp [freeN], ?_⟩
      simp (disch := omega) only [go_sem, ↓reduceIte, Int.reduceToNat, Nat.reduceEqDiff, Nat.reduceAdd, Nat.reduceMul, Nat.reduceSub, Nat.reducePow, Nat.reduceLT, Nat.reduceLeDiff, Int.reduceNeg, Int.reduceEq, Int.reduceLT, Int.reduceLE, reduceCtorEq]
      refine fin_val (by simp (disch := omega) only [go_sem, ↓reduceIte, Int.reduceToNat, Nat.reduceEqDiff, Nat.reduceAdd, Nat.reduceMul, Nat.reduceSub, Nat.reducePow, Nat.reduceLT, Nat.reduceLeDiff, Int.reduceNeg, Int.reduceEq, Int.reduceLT, Int.reduceLE, reduceCtorEq]) ⟨?_, rfl, rfl⟩
      have e : rq neg a b mode = a / b + 1 := by unfold rq; rw [if_neg h0, if_pos h2]
      rw [e]; simp [tupA, h0]
    · simp (disch := omega) only [go_sem, ↓reduceIte, Int.reduceToNat, Nat.reduceEqDiff, Nat.reduceAdd, Nat.reduceMul, Nat.reduceSub, Nat.reducePow, Nat.reduceLT, Nat.reduceLeDiff, Int.reduceNeg, Int.reduceEq, Int.reduceLT, Int.reduceLE, reduceCtorEq, h2]
      refine fin_val (by simp (disch := omega) only [go_sem, ↓reduceIte, Int.reduceToNat, Nat.reduceEqDiff, Nat.reduceAdd, Nat.reduceMul, Nat.reduceSub, Nat.reducePow, Nat.reduceLT, Nat.reduceLeDiff, Int.reduceNeg, Int.reduceEq, Int.reduceLT, Int.reduceLE, reduceCtorEq]) ⟨?_, rfl, rfl⟩
      have e : rq neg a b mode = a / b := by unfold rq; rw [if_neg h0, if_neg (by rw [h2]; simp)]
      rw [e]; simp [tupA, h0]
end Go.Ab
namespace Go.Ab
open Go Go.Proofs
set_option linter.unusedVariables false
set_option linter.unusedSimpArgs false

theorem con_isZero (s : Bool) (m : Nat) (e : Int) : Con Tryd.prog 50 true [.ag [.v (.bool (s)), .sl (lim (m)).length (ints (lim (m))), .v (.int .i64 (e))]] [] (isA (.v (.bool (decide (m = 0))))) := by
  refine Con.of_aw Tryd.func50 rfl Tryd.ntmps50 (by simp) (by simp) (by simp) (W.sound ?_)
  show @W Tryd.prog 7 ⟨_⟩ ⟨fun x σ => @retW _ _ _ ⟨_⟩ _ ⟨_⟩ x σ⟩ _ _
  simp (disch := omega) only [go_sem, ↓reduceIte, Int.reduceToNat, Nat.reduceEqDiff, Nat.reduceAdd, Nat.reduceMul, Nat.reduceSub, Nat.reducePow, Nat.reduceLT, Nat.reduceLeDiff, Int.reduceNeg, Int.reduceEq, Int.reduceLT, Int.reduceLE, reduceCtorEq]
  refine fin_valc (by simp (disch := omega) only [go_sem, ↓reduceIte, Int.reduceToNat, Nat.reduceEqDiff, Nat.reduceAdd, Nat.reduceMul, Nat.reduceSub, Nat.reducePow, Nat.reduceLT, Nat.reduceLeDiff, Int.reduceNeg, Int.reduceEq, Int.reduceLT, Int.reduceLE, reduceCtorEq]) (by simp (disch := omega) only [go_sem, ↓reduceIte, Int.reduceToNat, Nat.reduceEqDiff, Nat.reduceAdd, Nat.reduceMul, Nat.reduceSub, Nat.reducePow, Nat.reduceLT, Nat.reduceLeDiff, Int.reduceNeg, Int.reduceEq, Int.reduceLT, Int.reduceLE, reduceCtorEq]) ⟨?_, rfl, rfl⟩
  have : decide (((lim m).length : Int) = 0) = decide (m = 0) := by
    rw [decide_eq_decide]
    exact ⟨fun h => lim_eq_nil.1 (List.length_eq_zero_iff.1 (by omega)), fun h => by rw [h, lim_zero]; rfl⟩
  rw [this]; rfl

theorem con_topX (s : Bool) (m : Nat) (e : Int) (hm : (lim m).length ≤ 2 ^ 40) (he : -2 ^ 40 ≤ e ∧ e ≤ 2 ^ 40) : Con Tryd.prog 53 true [.ag [.v (.bool (s)), .sl (lim (m)).length (ints (lim (m))), .v (.int .i64 (e))]] [] (isA (.v (.int .i64 (if m = 0 then 0 else (bl m : Int) + e)))) := by
  refine Con.of_aw Tryd.func53 rfl Tryd.ntmps53 (by simp) (by simp) (by simp) (W.sound ?_)
  show @W Tryd.prog 13 ⟨_⟩ ⟨fun x σ => @retW _ _ _ ⟨_⟩ _ ⟨_⟩ x σ⟩ _ _
  simp (disch := omega) only [go_sem, ↓reduceIte, Int.reduceToNat, Nat.reduceEqDiff, Nat.reduceAdd, Nat.reduceMul, Nat.reduceSub, Nat.reducePow, Nat.reduceLT, Nat.reduceLeDiff, Int.reduceNeg, Int.reduceEq, Int.reduceLT, Int.reduceLE, reduceCtorEq]
  refine ifW_dec (fun h1 => ?_) (fun h1 => ?_)
  · simp (disch := omega) only [go_sem, ↓reduceIte, Int.reduceToNat, Nat.reduceEqDiff, Nat.reduceAdd, Nat.reduceMul, Nat.reduceSub, Nat.reducePow, Nat.reduceLT, Nat.reduceLeDiff, Int.reduceNeg, Int.reduceEq, Int.reduceLT, Int.reduceLE, reduceCtorEq, h1]
    have h0 : m = 0 := lim_eq_nil.1 (List.length_eq_zero_iff.1 (by omega))
    rw [if_pos h0]
    exact fin_valc (by simp (disch := omega) only [go_sem, ↓reduceIte, Int.reduceToNat, Nat.reduceEqDiff, Nat.reduceAdd, Nat.reduceMul, Nat.reduceSub, Nat.reducePow, Nat.reduceLT, Nat.reduceLeDiff, Int.reduceNeg, Int.reduceEq, Int.reduceLT, Int.reduceLE, reduceCtorEq]) (by simp (disch := omega) only [go_sem, ↓reduceIte, Int.reduceToNat, Nat.reduceEqDiff, Nat.reduceAdd, Nat.reduceMul, Nat.reduceSub, Nat.reducePow, Nat.reduceLT, Nat.reduceLeDiff, Int.reduceNeg, Int.reduceEq, Int.reduceLT, Int.reduceLE, reduceCtorEq]) isA_mk
  · have h0 : m ≠ 0 := fun e => h1 (by rw [e, lim_zero]; rfl)
    have := bl_len (m := m)
    simp (disch := omega) only [go_sem, ↓reduceIte, Int.reduceToNat, Nat.reduceEqDiff, Nat.reduceAdd, Nat.reduceMul, Nat.reduceSub, Nat.reducePow, Nat.reduceLT, Nat.reduceLeDiff, Int.reduceNeg, Int.reduceEq, Int.reduceLT, Int.reduceLE, reduceCtorEq, h1]
    refine draw_of rfl [⟨0, [], []⟩, ⟨1, [], []⟩, ⟨3, [1], []⟩, ⟨4, [1], []⟩, ⟨2, [4], []⟩, ⟨5, [], []⟩, ⟨6, [], []⟩] (by kernel_rfl) ?_
    simp (disch := omega) only [go_sem, ↓reduceIte, Int.reduceToNat, Nat.reduceEqDiff, Nat.reduceAdd, Nat.reduceMul, Nat.reduceSub, Nat.reducePow, Nat.reduceLT, Nat.reduceLeDiff, Int.reduceNeg, Int.reduceEq, Int.reduceLT, Int.reduceLE, reduceCtorEq]
    refine call_closed (con_bitsOf m hm) (by simp (disch := omega) only [go_sem, ↓reduceIte, Int.reduceToNat, Nat.reduceEqDiff, Nat.reduceAdd, Nat.reduceMul, Nat.reduceSub, Nat.reducePow, Nat.reduceLT, Nat.reduceLeDiff, Int.reduceNeg, Int.reduceEq, Int.reduceLT, Int.reduceLE, reduceCtorEq]) ?_
    rintro r hs ⟨rfl, rfl, _⟩
    refine ⟨by simp [freeN], ?_⟩
    simp (disch := omega) only [go_sem, ↓reduceIte, Int.reduceToNat, Nat.reduceEqDiff, Nat.reduceAdd, Nat.reduceMul, Nat.reduceSub, Nat.reducePow, Nat.reduceLT, Nat.reduceLeDiff, Int.reduceNeg, Int.reduceEq, Int.reduceLT, Int.reduceLE, reduceCtorEq]
    rw [if_neg h0]
    exact fin_valc (by simp (disch := omega) only [go_sem, ↓reduceIte, Int.reduceToNat, Nat.reduceEqDiff, Nat.reduceAdd, Nat.reduceMul, Nat.reduceSub, Nat.reducePow, Nat.reduceLT, Nat.reduceLeDiff, Int.reduceNeg, Int.reduceEq, Int.reduceLT, Int.reduceLE, reduceCtorEq]) (by simp (disch := omega) only [go_sem, ↓reduceIte, Int.reduceToNat, Nat.reduceEqDiff, Nat.reduceAdd, Nat.reduceMul, Nat.reduceSub, Nat.reducePow, Nat.reduceLT, Nat.reduceLeDiff, Int.reduceNeg, Int.reduceEq, Int.reduceLT, Int.reduceLE, reduceCtorEq]) isA_mk

theorem con_odd (s : Bool) (m : Nat) (e : Int) (hm : bl m ≤ 10000000) (he : -2 ^ 40 ≤ e ∧ e ≤ 2 ^ 40) : Con Tryd.prog 78 false [.ag [.v (.bool (s)), .sl (lim (m)).length (ints (lim (m))), .v (.int .i64 (e))]] [] (isA (.ag [.v (.bool (oS s m)), .sl (lim (oM m)).length (ints (lim (oM m))), .v (.int .i64 (oE m e))])) := by
  refine Con.frzA ?_
  refine Con.of_aw Tryd.func78 rfl Tryd.ntmps78 (by simp) (by simp) (by simp) (W.sound ?_)
  show @W Tryd.prog 23 ⟨_⟩ ⟨fun x σ => @retW _ _ _ ⟨_⟩ _ ⟨_⟩ x σ⟩ _ _
  simp (disch := omega) only [go_sem, ↓reduceIte, Int.reduceToNat, Nat.reduceEqDiff, Nat.reduceAdd, Nat.reduceMul, Nat.reduceSub, Nat.reducePow, Nat.reduceLT, Nat.reduceLeDiff, Int.reduceNeg, Int.reduceEq, Int.reduceLT, Int.reduceLE, reduceCtorEq]
  have hl := len_bl hm
  refine ifW_dec (fun h1 => ?_) (fun h1 => ?_)
  · simp (disch := omega) only [go_sem, ↓reduceIte, Int.reduceToNat, Nat.reduceEqDiff, Nat.reduceAdd, Nat.reduceMul, Nat.reduceSub, Nat.reducePow, Nat.reduceLT, Nat.reduceLeDiff, Int.reduceNeg, Int.reduceEq, Int.reduceLT, Int.reduceLE, reduceCtorEq, h1]
    have h0 : m = 0 := lim_eq_nil.1 (List.length_eq_zero_iff.1 (by omega))
    subst h0
    refine fin_val (by simp (disch := omega) only [go_sem, ↓reduceIte, Int.reduceToNat, Nat.reduceEqDiff, Nat.reduceAdd, Nat.reduceMul, Nat.reduceSub, Nat.reducePow, Nat.reduceLT, Nat.reduceLeDiff, Int.reduceNeg, Int.reduceEq, Int.reduceLT, Int.reduceLE, reduceCtorEq]) ?_
    show snap _ 6 _ = _
    simp only [oS, oM_zero, oE, lim_zero, if_true]
    simp (disch := omega) only [go_sem, ↓reduceIte, Int.reduceToNat, Nat.reduceEqDiff, Nat.reduceAdd, Nat.reduceMul, Nat.reduceSub, Nat.reducePow, Nat.reduceLT, Nat.reduceLeDiff, Int.reduceNeg, Int.reduceEq, Int.reduceLT, Int.reduceLE, reduceCtorEq]
  · have h0 : m ≠ 0 := fun e => h1 (by rw [e, lim_zero]; rfl)
    have ht := tz_lt_bl h0
    simp (disch := omega) only [go_sem, ↓reduceIte, Int.reduceToNat, Nat.reduceEqDiff, Nat.reduceAdd, Nat.reduceMul, Nat.reduceSub, Nat.reducePow, Nat.reduceLT, Nat.reduceLeDiff, Int.reduceNeg, Int.reduceEq, Int.reduceLT, Int.reduceLE, reduceCtorEq, h1]
    refine call_closed (con_trailOf m (by omega)) (by simp (disch := omega) only [go_sem, ↓reduceIte, Int.reduceToNat, Nat.reduceEqDiff, Nat.reduceAdd, Nat.reduceMul, Nat.reduceSub, Nat.reducePow, Nat.reduceLT, Nat.reduceLeDiff, Int.reduceNeg, Int.reduceEq, Int.reduceLT, Int.reduceLE, reduceCtorEq]) ?_
    rintro r hs ⟨rfl, rfl, _⟩
    refine ⟨by simp [freeN], ?_⟩
    simp (disch := omega) only [go_sem, ↓reduceIte, Int.reduceToNat, Nat.reduceEqDiff, Nat.reduceAdd, Nat.reduceMul, Nat.reduceSub, Nat.reducePow, Nat.reduceLT, Nat.reduceLeDiff, Int.reduceNeg, Int.reduceEq, Int.reduceLT, Int.reduceLE, reduceCtorEq]
    refine draw_of rfl [⟨0, [], []⟩, ⟨1, [], []⟩, ⟨2, [1], []⟩, ⟨3, [1], []⟩, ⟨4, [1, 3], []⟩, ⟨6, [1, 3], []⟩, ⟨7, [1, 3], []⟩, ⟨8, [1, 3, 7], []⟩, ⟨9, [1, 3], []⟩, ⟨5, [1, 7], []⟩, ⟨10, [], []⟩, ⟨11, [], []⟩] (by kernel_rfl) ?_
    simp (disch := omega) only [go_sem, ↓reduceIte, Int.reduceToNat, Nat.reduceEqDiff, Nat.reduceAdd, Nat.reduceMul, Nat.reduceSub, Nat.reducePow, Nat.reduceLT, Nat.reduceLeDiff, Int.reduceNeg, Int.reduceEq, Int.reduceLT, Int.reduceLE, reduceCtorEq]
    refine call_open (con_downN m (tz m) (by omega) (by omega)) (by simp (disch := omega) only [go_sem, ↓reduceIte, Int.reduceToNat, Nat.reduceEqDiff, Nat.reduceAdd, Nat.reduceMul, Nat.reduceSub, Nat.reducePow, Nat.reduceLT, Nat.reduceLeDiff, Int.reduceNeg, Int.reduceEq, Int.reduceLT, Int.reduceLE, reduceCtorEq]) ?_
    rintro r hs ⟨rfl, rfl, _⟩
    refine ⟨by simp [freeN], ?_⟩
    simp (disch := omega) only [go_sem, ↓reduceIte, Int.reduceToNat, Nat.reduceEqDiff, Nat.reduceAdd, Nat.reduceMul, Nat.reduceSub, Nat.reducePow, Nat.reduceLT, Nat.reduceLeDiff, Int.reduceNeg, Int.reduceEq, Int.reduceLT, Int.reduceLE, reduceCtorEq]
    refine fin_val (by simp (disch := omega) only [go_sem, ↓reduceIte, Int.reduceToNat, Nat.reduceEqDiff, Nat.reduceAdd, Nat.reduceMul, Nat.reduceSub, Nat.reducePow, Nat.reduceLT, Nat.reduceLeDiff, Int.reduceNeg, Int.reduceEq, Int.reduceLT, Int.reduceLE, reduceCtorEq]) ?_
    show snap _ 6 _ = _
    simp only [oS, oM, oE, if_neg h0]
    simp (disch := omega) only [go_sem, ↓reduceIte, Int.reduceToNat, Nat.reduceEqDiff, Nat.reduceAdd, Nat.reduceMul, Nat.reduceSub, Nat.reducePow, Nat.reduceLT, Nat.reduceLeDiff, Int.reduceNeg, Int.reduceEq, Int.reduceLT, Int.reduceLE, reduceCtorEq]

/-- What a quotient of two numbers is, rounded to a multiple of a power of two: its magnitude, and whether it is exact. -/
def ovA (m1 : Nat) (k : Int) : Nat := m1 * 2 ^ k.toNat
def ovQ (s : Bool) (m1 : Nat) (e1 : Int) (m2 : Nat) (e2 low mode : Int) : Nat := rq s (ovA m1 (e1 - e2 - low)) (ovA m2 (-(e1 - e2 - low))) mode
def ovX (m1 : Nat) (e1 : Int) (m2 : Nat) (e2 low : Int) : Bool := decide (ovA m1 (e1 - e2 - low) % ovA m2 (-(e1 - e2 - low)) = 0)

theorem bl_ovA {m B : Nat} {k : Int} {C : Nat} (h : bl m ≤ B) (hk : k ≤ C) : bl (ovA m k) ≤ B + C := by
  have := bl_up m k.toNat
  unfold ovA; omega
theorem ovA_ne {m : Nat} {k : Int} (h : m ≠ 0) : ovA m k ≠ 0 := by
  unfold ovA
  have : 0 < 2 ^ k.toNat := Nat.pow_pos (by omega)
  have := Nat.mul_pos (show 0 < m by omega) this
  omega

theorem con_over (s1 : Bool) (m1 : Nat) (e1 : Int) (s2 : Bool) (m2 : Nat) (e2 low mode : Int) (h2 : m2 ≠ 0) (hm1 : bl m1 ≤ 4000000) (hm2 : bl m2 ≤ 4000000) (hk : -4000000 ≤ e1 - e2 - low ∧ e1 - e2 - low ≤ 4000000)
    (he1 : -2 ^ 40 ≤ e1 ∧ e1 ≤ 2 ^ 40) (he2 : -2 ^ 40 ≤ e2 ∧ e2 ≤ 2 ^ 40) (hlo : -2 ^ 40 ≤ low ∧ low ≤ 2 ^ 40) :
    Con Tryd.prog 81 false [.ag [.v (.bool (s1)), .sl (lim (m1)).length (ints (lim (m1))), .v (.int .i64 (e1))], .ag [.v (.bool (s2)), .sl (lim (m2)).length (ints (lim (m2))), .v (.int .i64 (e2))], .v (.int .i64 low), .v (.int .i64 mode)] []
      (isA (.tu [.ag [.v (.bool ((s1 != s2) && decide (ovQ (s1 != s2) m1 e1 m2 e2 low mode ≠ 0))), .sl (lim (ovQ (s1 != s2) m1 e1 m2 e2 low mode)).length (ints (lim (ovQ (s1 != s2) m1 e1 m2 e2 low mode))), .v (.int .i64 (low))], .v (.bool (ovX m1 e1 m2 e2 low))])) := by
  refine Con.frzA ?_
  refine Con.of_aw Tryd.func81 rfl Tryd.ntmps81 (by simp) (by simp) (by simp) (W.sound ?_)
  show @W Tryd.prog 53 ⟨_⟩ ⟨fun x σ => @retW _ _ _ ⟨_⟩ _ ⟨_⟩ x σ⟩ _ _
  have l1 := len_bl hm1
  have l2 := len_bl hm2
  generalize hsh : e1 - e2 - low = sh at *
  have eq1 : ovQ (s1 != s2) m1 e1 m2 e2 low mode = rq (s1 != s2) (ovA m1 sh) (ovA m2 (-sh)) mode := by unfold ovQ; rw [hsh]
  have eq2 : ovX m1 e1 m2 e2 low = decide (ovA m1 sh % ovA m2 (-sh) = 0) := by unfold ovX; rw [hsh]
  rw [eq1, eq2]
  simp (disch := omega) only [go_sem, ↓reduceIte, Int.reduceToNat, Nat.reduceEqDiff, Nat.reduceAdd, Nat.reduceMul, Nat.reduceSub, Nat.reducePow, Nat.reduceLT, Nat.reduceLeDiff, Int.reduceNeg, Int.reduceEq, Int.reduceLT, Int.reduceLE, reduceCtorEq, hsh]
  refine draw_of rfl [⟨0, [], []⟩, ⟨1, [], []⟩, ⟨2, [], []⟩, ⟨3, [2], []⟩, ⟨4, [2], []⟩, ⟨6, [2], []⟩, ⟨7, [2], []⟩, ⟨8, [2, 7], []⟩, ⟨9, [2, 7], []⟩, ⟨10, [2, 7], []⟩, ⟨12, [2, 7], []⟩, ⟨5, [7], []⟩, ⟨11, [], []⟩, ⟨13, [], []⟩, ⟨14, [], []⟩, ⟨15, [], []⟩, ⟨16, [], []⟩, ⟨17, [], []⟩, ⟨18, [], []⟩] (by kernel_rfl) ?_
  have ex1 : (if 0 > sh then 0 else sh) = ((sh.toNat : Nat) : Int) := by split <;> omega
  have ex2 : (if 0 > 0 - sh then 0 else 0 - sh) = (((-sh).toNat : Nat) : Int) := by split <;> omega
  simp (disch := omega) only [go_sem, ↓reduceIte, Int.reduceToNat, Nat.reduceEqDiff, Nat.reduceAdd, Nat.reduceMul, Nat.reduceSub, Nat.reducePow, Nat.reduceLT, Nat.reduceLeDiff, Int.reduceNeg, Int.reduceEq, Int.reduceLT, Int.reduceLE, reduceCtorEq, ex1, ex2]
  refine call_open (con_upN m1 sh.toNat (by omega) (by omega)) (by simp (disch := omega) only [go_sem, ↓reduceIte, Int.reduceToNat, Nat.reduceEqDiff, Nat.reduceAdd, Nat.reduceMul, Nat.reduceSub, Nat.reducePow, Nat.reduceLT, Nat.reduceLeDiff, Int.reduceNeg, Int.reduceEq, Int.reduceLT, Int.reduceLE, reduceCtorEq]) ?_
  rintro r hs ⟨rfl, rfl, _⟩
  refine ⟨by simp [freeN], ?_⟩
  simp (disch := omega) only [go_sem, ↓reduceIte, Int.reduceToNat, Nat.reduceEqDiff, Nat.reduceAdd, Nat.reduceMul, Nat.reduceSub, Nat.reducePow, Nat.reduceLT, Nat.reduceLeDiff, Int.reduceNeg, Int.reduceEq, Int.reduceLT, Int.reduceLE, reduceCtorEq]
  refine call_open (con_upN m2 (-sh).toNat (by omega) (by omega)) (by simp (disch := omega) only [go_sem, ↓reduceIte, Int.reduceToNat, Nat.reduceEqDiff, Nat.reduceAdd, Nat.reduceMul, Nat.reduceSub, Nat.reducePow, Nat.reduceLT, Nat.reduceLeDiff, Int.reduceNeg, Int.reduceEq, Int.reduceLT, Int.reduceLE, reduceCtorEq]) ?_
  rintro r hs ⟨rfl, rfl, _⟩
  refine ⟨by simp [freeN], ?_⟩
  simp (disch := omega) only [go_sem, ↓reduceIte, Int.reduceToNat, Nat.reduceEqDiff, Nat.reduceAdd, Nat.reduceMul, Nat.reduceSub, Nat.reducePow, Nat.reduceLT, Nat.reduceLeDiff, Int.reduceNeg, Int.reduceEq, Int.reduceLT, Int.reduceLE, reduceCtorEq]
  refine call_open (con_roundQuotient (s1 != s2) (ovA m1 sh) (ovA m2 (-sh)) mode (ovA_ne h2) (bl_ovA (C := 4000000) hm1 (by omega)) (bl_ovA (C := 4000000) hm2 (by omega))) (by simp (disch := omega) only [go_sem, ↓reduceIte, Int.reduceToNat, Nat.reduceEqDiff, Nat.reduceAdd, Nat.reduceMul, Nat.reduceSub, Nat.reducePow, Nat.reduceLT, Nat.reduceLeDiff, Int.reduceNeg, Int.reduceEq, Int.reduceLT, Int.reduceLE, reduceCtorEq, ovA]) ?_
  rintro r hs ⟨rfl, rfl, _⟩
  refine ⟨by simp [freeN], ?_⟩
  simp (disch := omega) only [go_sem, ↓reduceIte, Int.reduceToNat, Nat.reduceEqDiff, Nat.reduceAdd, Nat.reduceMul, Nat.reduceSub, Nat.reducePow, Nat.reduceLT, Nat.reduceLeDiff, Int.reduceNeg, Int.reduceEq, Int.reduceLT, Int.reduceLE, reduceCtorEq]
  generalize rq (s1 != s2) (ovA m1 sh) (ovA m2 (-sh)) mode = q
  generalize decide (ovA m1 sh % ovA m2 (-sh) = 0) = b
  have hq : decide ((0 : Int) < ((lim q).length : Int)) = decide (q ≠ 0) := by
    rw [decide_eq_decide]
    exact ⟨fun h e => by rw [e, lim_zero] at h; simp at h, fun h => by have := lim_ne h; omega⟩
  refine ifW_b (fun h3 => ?_) (fun h3 => ?_)
  · simp (disch := omega) only [go_sem, ↓reduceIte, Int.reduceToNat, Nat.reduceEqDiff, Nat.reduceAdd, Nat.reduceMul, Nat.reduceSub, Nat.reducePow, Nat.reduceLT, Nat.reduceLeDiff, Int.reduceNeg, Int.reduceEq, Int.reduceLT, Int.reduceLE, reduceCtorEq, h3, hq]
    refine fin_val (by simp (disch := omega) only [go_sem, ↓reduceIte, Int.reduceToNat, Nat.reduceEqDiff, Nat.reduceAdd, Nat.reduceMul, Nat.reduceSub, Nat.reducePow, Nat.reduceLT, Nat.reduceLeDiff, Int.reduceNeg, Int.reduceEq, Int.reduceLT, Int.reduceLE, reduceCtorEq]) ?_
    show snap _ 6 _ = _
    simp (disch := omega) only [go_sem, ↓reduceIte, Int.reduceToNat, Nat.reduceEqDiff, Nat.reduceAdd, Nat.reduceMul, Nat.reduceSub, Nat.reducePow, Nat.reduceLT, Nat.reduceLeDiff, Int.reduceNeg, Int.reduceEq, Int.reduceLT, Int.reduceLE, reduceCtorEq, h3, Bool.true_and]
  · simp (disch := omega) only [go_sem, ↓reduceIte, Int.reduceToNat, Nat.reduceEqDiff, Nat.reduceAdd, Nat.reduceMul, Nat.reduceSub, Nat.reducePow, Nat.reduceLT, Nat.reduceLeDiff, Int.reduceNeg, Int.reduceEq, Int.reduceLT, Int.reduceLE, reduceCtorEq, h3]
    refine fin_val (by simp (disch := omega) only [go_sem, ↓reduceIte, Int.reduceToNat, Nat.reduceEqDiff, Nat.reduceAdd, Nat.reduceMul, Nat.reduceSub, Nat.reducePow, Nat.reduceLT, Nat.reduceLeDiff, Int.reduceNeg, Int.reduceEq, Int.reduceLT, Int.reduceLE, reduceCtorEq]) ?_
    show snap _ 6 _ = _
    simp (disch := omega) only [go_sem, ↓reduceIte, Int.reduceToNat, Nat.reduceEqDiff, Nat.reduceAdd, Nat.reduceMul, Nat.reduceSub, Nat.reducePow, Nat.reduceLT, Nat.reduceLeDiff, Int.reduceNeg, Int.reduceEq, Int.reduceLT, Int.reduceLE, reduceCtorEq, h3, Bool.false_and]

/-- A number, rounded to a multiple of a power of two. -/
def roM (s : Bool) (m : Nat) (e low mode : Int) : Nat := if low ≤ e ∨ m = 0 then m else rq s m (2 ^ (low - e).toNat) mode
def roE (m : Nat) (e low : Int) : Int := if low ≤ e ∨ m = 0 then e else low
def roX (m : Nat) (e low : Int) : Bool := if low ≤ e ∨ m = 0 then true else decide (m % 2 ^ (low - e).toNat = 0)
def roS (s : Bool) (m : Nat) (e low mode : Int) : Bool := if low ≤ e ∨ m = 0 then s else s && decide (rq s m (2 ^ (low - e).toNat) mode ≠ 0)

theorem con_rounded (s : Bool) (m : Nat) (e low mode : Int) (hm : bl m ≤ 4000000) (he : -1000000 ≤ e ∧ e ≤ 1000000) (hlo : -1000000 ≤ low ∧ low ≤ 1000000) :
    Con Tryd.prog 55 false [.ag [.v (.bool (s)), .sl (lim (m)).length (ints (lim (m))), .v (.int .i64 (e))], .v (.int .i64 low), .v (.int .i64 mode)] []
      (isA (.tu [.ag [.v (.bool (roS s m e low mode)), .sl (lim (roM s m e low mode)).length (ints (lim (roM s m e low mode))), .v (.int .i64 (roE m e low))], .v (.bool (roX m e low))])) := by
  refine Con.frzA ?_
  refine Con.of_aw Tryd.func55 rfl Tryd.ntmps55 (by simp) (by simp) (by simp) (W.sound ?_)
  show @W Tryd.prog 25 ⟨_⟩ ⟨fun x σ => @retW _ _ _ ⟨_⟩ _ ⟨_⟩ x σ⟩ _ _
  simp (disch := omega) only [go_sem, ↓reduceIte, Int.reduceToNat, Nat.reduceEqDiff, Nat.reduceAdd, Nat.reduceMul, Nat.reduceSub, Nat.reducePow, Nat.reduceLT, Nat.reduceLeDiff, Int.reduceNeg, Int.reduceEq, Int.reduceLT, Int.reduceLE, reduceCtorEq]
  refine ifW_not (fun h1 => ?_) (fun h1 => ?_)
  · simp (disch := omega) only [go_sem, ↓reduceIte, Int.reduceToNat, Nat.reduceEqDiff, Nat.reduceAdd, Nat.reduceMul, Nat.reduceSub, Nat.reducePow, Nat.reduceLT, Nat.reduceLeDiff, Int.reduceNeg, Int.reduceEq, Int.reduceLT, Int.reduceLE, reduceCtorEq, h1]
    refine call_closed (con_isZero s m e) (by simp (disch := omega) only [go_sem, ↓reduceIte, Int.reduceToNat, Nat.reduceEqDiff, Nat.reduceAdd, Nat.reduceMul, Nat.reduceSub, Nat.reducePow, Nat.reduceLT, Nat.reduceLeDiff, Int.reduceNeg, Int.reduceEq, Int.reduceLT, Int.reduceLE, reduceCtorEq]) ?_
    rintro r hs ⟨rfl, rfl, _⟩
    refine ⟨by simp [freeN], ?_⟩
    simp (disch := omega) only [go_sem, ↓reduceIte, Int.reduceToNat, Nat.reduceEqDiff, Nat.reduceAdd, Nat.reduceMul, Nat.reduceSub, Nat.reducePow, Nat.reduceLT, Nat.reduceLeDiff, Int.reduceNeg, Int.reduceEq, Int.reduceLT, Int.reduceLE, reduceCtorEq]
    refine ifW_dec (fun h2 => ?_) (fun h2 => ?_)
    · simp (disch := omega) only [go_sem, ↓reduceIte, Int.reduceToNat, Nat.reduceEqDiff, Nat.reduceAdd, Nat.reduceMul, Nat.reduceSub, Nat.reducePow, Nat.reduceLT, Nat.reduceLeDiff, Int.reduceNeg, Int.reduceEq, Int.reduceLT, Int.reduceLE, reduceCtorEq, h2]
      refine fin_val (by simp (disch := omega) only [go_sem, ↓reduceIte, Int.reduceToNat, Nat.reduceEqDiff, Nat.reduceAdd, Nat.reduceMul, Nat.reduceSub, Nat.reducePow, Nat.reduceLT, Nat.reduceLeDiff, Int.reduceNeg, Int.reduceEq, Int.reduceLT, Int.reduceLE, reduceCtorEq]) ?_
      show snap _ 6 _ = _
      simp only [roS, roM, roE, roX, h2, or_true, if_true]
      simp (disch := omega) only [go_sem, ↓reduceIte, Int.reduceToNat, Nat.reduceEqDiff, Nat.reduceAdd, Nat.reduceMul, Nat.reduceSub, Nat.reducePow, Nat.reduceLT, Nat.reduceLeDiff, Int.reduceNeg, Int.reduceEq, Int.reduceLT, Int.reduceLE, reduceCtorEq]
    · simp (disch := omega) only [go_sem, ↓reduceIte, Int.reduceToNat, Nat.reduceEqDiff, Nat.reduceAdd, Nat.reduceMul, Nat.reduceSub, Nat.reducePow, Nat.reduceLT, Nat.reduceLeDiff, Int.reduceNeg, Int.reduceEq, Int.reduceLT, Int.reduceLE, reduceCtorEq, h2]
      refine draw_of rfl [⟨0, [], []⟩, ⟨3, [0], []⟩, ⟨4, [0], []⟩, ⟨1, [0], []⟩, ⟨2, [0], []⟩, ⟨5, [], []⟩, ⟨6, [], []⟩, ⟨7, [], []⟩, ⟨8, [], []⟩, ⟨9, [], []⟩] (by kernel_rfl) ?_
      simp (disch := omega) only [go_sem, ↓reduceIte, Int.reduceToNat, Nat.reduceEqDiff, Nat.reduceAdd, Nat.reduceMul, Nat.reduceSub, Nat.reducePow, Nat.reduceLT, Nat.reduceLeDiff, Int.reduceNeg, Int.reduceEq, Int.reduceLT, Int.reduceLE, reduceCtorEq]
      refine call_open (con_smallN 1 (by omega)) (by simp (disch := omega) only [go_sem, ↓reduceIte, Int.reduceToNat, Nat.reduceEqDiff, Nat.reduceAdd, Nat.reduceMul, Nat.reduceSub, Nat.reducePow, Nat.reduceLT, Nat.reduceLeDiff, Int.reduceNeg, Int.reduceEq, Int.reduceLT, Int.reduceLE, reduceCtorEq]) ?_
      rintro r hs ⟨rfl, rfl, _⟩
      refine ⟨by simp [freeN], ?_⟩
      simp (disch := omega) only [go_sem, ↓reduceIte, Int.reduceToNat, Nat.reduceEqDiff, Nat.reduceAdd, Nat.reduceMul, Nat.reduceSub, Nat.reducePow, Nat.reduceLT, Nat.reduceLeDiff, Int.reduceNeg, Int.reduceEq, Int.reduceLT, Int.reduceLE, reduceCtorEq]
      refine call_open (con_over s m e false 1 0 low mode (by omega) hm (by decide) (by omega) (by omega) (by omega) (by omega)) (by simp (disch := omega) only [go_sem, ↓reduceIte, Int.reduceToNat, Nat.reduceEqDiff, Nat.reduceAdd, Nat.reduceMul, Nat.reduceSub, Nat.reducePow, Nat.reduceLT, Nat.reduceLeDiff, Int.reduceNeg, Int.reduceEq, Int.reduceLT, Int.reduceLE, reduceCtorEq]) ?_
      rintro r hs ⟨rfl, rfl, _⟩
      refine ⟨by simp [freeN], ?_⟩
      simp (disch := omega) only [go_sem, ↓reduceIte, Int.reduceToNat, Nat.reduceEqDiff, Nat.reduceAdd, Nat.reduceMul, Nat.reduceSub, Nat.reducePow, Nat.reduceLT, Nat.reduceLeDiff, Int.reduceNeg, Int.reduceEq, Int.reduceLT, Int.reduceLE, reduceCtorEq]
      refine fin_val (by simp (disch := omega) only [go_sem, ↓reduceIte, Int.reduceToNat, Nat.reduceEqDiff, Nat.reduceAdd, Nat.reduceMul, Nat.reduceSub, Nat.reducePow, Nat.reduceLT, Nat.reduceLeDiff, Int.reduceNeg, Int.reduceEq, Int.reduceLT, Int.reduceLE, reduceCtorEq]) ?_
      show snap _ 6 _ = _
      have hc : ¬ (low ≤ e ∨ m = 0) := by omega
      have e1 : ovA m (e - 0 - low) = m := by unfold ovA; rw [show (e - 0 - low).toNat = 0 by omega]; simp
      have e2 : ovA 1 (-(e - 0 - low)) = 2 ^ (low - e).toNat := by unfold ovA; rw [show (-(e - 0 - low)).toNat = (low - e).toNat by omega]; simp
      have e3 : (s != false) = s := by cases s <;> rfl
      simp only [roS, roM, roE, roX, if_neg hc, ovQ, ovX, e1, e2, e3]
      simp (disch := omega) only [go_sem, ↓reduceIte, Int.reduceToNat, Nat.reduceEqDiff, Nat.reduceAdd, Nat.reduceMul, Nat.reduceSub, Nat.reducePow, Nat.reduceLT, Nat.reduceLeDiff, Int.reduceNeg, Int.reduceEq, Int.reduceLT, Int.reduceLE, reduceCtorEq]
  · simp (disch := omega) only [go_sem, ↓reduceIte, Int.reduceToNat, Nat.reduceEqDiff, Nat.reduceAdd, Nat.reduceMul, Nat.reduceSub, Nat.reducePow, Nat.reduceLT, Nat.reduceLeDiff, Int.reduceNeg, Int.reduceEq, Int.reduceLT, Int.reduceLE, reduceCtorEq, h1]
    refine fin_val (by simp (disch := omega) only [go_sem, ↓reduceIte, Int.reduceToNat, Nat.reduceEqDiff, Nat.reduceAdd, Nat.reduceMul, Nat.reduceSub, Nat.reducePow, Nat.reduceLT, Nat.reduceLeDiff, Int.reduceNeg, Int.reduceEq, Int.reduceLT, Int.reduceLE, reduceCtorEq]) ?_
    show snap _ 6 _ = _
    simp only [roS, roM, roE, roX, h1, true_or, if_true]
    simp (disch := omega) only [go_sem, ↓reduceIte, Int.reduceToNat, Nat.reduceEqDiff, Nat.reduceAdd, Nat.reduceMul, Nat.reduceSub, Nat.reducePow, Nat.reduceLT, Nat.reduceLeDiff, Int.reduceNeg, Int.reduceEq, Int.reduceLT, Int.reduceLE, reduceCtorEq]
end Go.Ab
namespace Go.Ab
open Go Go.Proofs
set_option linter.unusedVariables false
set_option linter.unusedSimpArgs false

/-- What a function tells of a number. -/
def boolR (b : Bool) : AV → List Ob → List Ob → Prop := fun r hs bs => r = .v (.bool b) ∧ hs = []

theorem con_natok1 (x : Int) : Con Tryd.prog 97 true [.v (.int .i64 x)] [] (boolR (decide (0 ≤ x) && decide (x ≤ 65535))) := by
  refine Con.of_aw Tryd.func97 rfl Tryd.ntmps97 (by simp) (by simp) (by simp) (W.sound ?_)
  show @W Tryd.prog 5 ⟨_⟩ ⟨fun x σ => @retW _ _ _ ⟨_⟩ _ ⟨_⟩ x σ⟩ _ _
  simp (disch := omega) only [go_sem, ↓reduceIte, Int.reduceToNat, Nat.reduceEqDiff, Nat.reduceAdd, Nat.reduceMul, Nat.reduceSub, Nat.reducePow, Nat.reduceLT, Nat.reduceLeDiff, Int.reduceNeg, Int.reduceEq, Int.reduceLT, Int.reduceLE, reduceCtorEq]
  refine call_closed (con_within x 0 65535) (by simp (disch := omega) only [go_sem, ↓reduceIte, Int.reduceToNat, Nat.reduceEqDiff, Nat.reduceAdd, Nat.reduceMul, Nat.reduceSub, Nat.reducePow, Nat.reduceLT, Nat.reduceLeDiff, Int.reduceNeg, Int.reduceEq, Int.reduceLT, Int.reduceLE, reduceCtorEq]) ?_
  rintro r hs ⟨rfl, rfl⟩
  refine ⟨by simp [freeN], ?_⟩
  simp (disch := omega) only [go_sem, ↓reduceIte, Int.reduceToNat, Nat.reduceEqDiff, Nat.reduceAdd, Nat.reduceMul, Nat.reduceSub, Nat.reducePow, Nat.reduceLT, Nat.reduceLeDiff, Int.reduceNeg, Int.reduceEq, Int.reduceLT, Int.reduceLE, reduceCtorEq]
  refine fin_intro [] [] [] [.v (.bool (decide (0 ≤ x) && decide (x ≤ 65535)))] rfl (by simp (disch := omega) only [go_sem, ↓reduceIte, Int.reduceToNat, Nat.reduceEqDiff, Nat.reduceAdd, Nat.reduceMul, Nat.reduceSub, Nat.reducePow, Nat.reduceLT, Nat.reduceLeDiff, Int.reduceNeg, Int.reduceEq, Int.reduceLT, Int.reduceLE, reduceCtorEq]) (by simp (disch := omega) only [go_sem, ↓reduceIte, Int.reduceToNat, Nat.reduceEqDiff, Nat.reduceAdd, Nat.reduceMul, Nat.reduceSub, Nat.reducePow, Nat.reduceLT, Nat.reduceLeDiff, Int.reduceNeg, Int.reduceEq, Int.reduceLT, Int.reduceLE, reduceCtorEq]) (by simp) (by simp [AV.pu, tupA]) ⟨rfl, rfl⟩

theorem con_areall1 (g : Nat) (p : Int → Bool) (x : Int) (hf : Con Tryd.prog g true [.v (.int .i64 x)] [] (boolR (p x))) (hg : fnOk Tryd.prog g) :
    Con Tryd.prog 106 true [.v (.int .i64 x), .fp [.fn g []] 0] [] (boolR (!p x)) := by
  refine Con.of_aw Tryd.func106 rfl Tryd.ntmps106 (by simp) (by simp) (by simp) (W.sound ?_)
  show @W Tryd.prog 8 ⟨_⟩ ⟨fun x σ => @retW _ _ _ ⟨_⟩ _ ⟨_⟩ x σ⟩ _ _
  simp (disch := omega) only [go_sem, ↓reduceIte, Int.reduceToNat, Nat.reduceEqDiff, Nat.reduceAdd, Nat.reduceMul, Nat.reduceSub, Nat.reducePow, Nat.reduceLT, Nat.reduceLeDiff, Int.reduceNeg, Int.reduceEq, Int.reduceLT, Int.reduceLE, reduceCtorEq]
  refine ⟨hg, call_closed hf (by simp (disch := omega) only [go_sem, ↓reduceIte, Int.reduceToNat, Nat.reduceEqDiff, Nat.reduceAdd, Nat.reduceMul, Nat.reduceSub, Nat.reducePow, Nat.reduceLT, Nat.reduceLeDiff, Int.reduceNeg, Int.reduceEq, Int.reduceLT, Int.reduceLE, reduceCtorEq]) ?_⟩
  rintro r hs ⟨rfl, rfl⟩
  refine ⟨by simp [freeN], ?_⟩
  simp (disch := omega) only [go_sem, ↓reduceIte, Int.reduceToNat, Nat.reduceEqDiff, Nat.reduceAdd, Nat.reduceMul, Nat.reduceSub, Nat.reducePow, Nat.reduceLT, Nat.reduceLeDiff, Int.reduceNeg, Int.reduceEq, Int.reduceLT, Int.reduceLE, reduceCtorEq]
  refine fin_intro [] [] [] [.v (.bool (!p x))] rfl (by simp (disch := omega) only [go_sem, ↓reduceIte, Int.reduceToNat, Nat.reduceEqDiff, Nat.reduceAdd, Nat.reduceMul, Nat.reduceSub, Nat.reducePow, Nat.reduceLT, Nat.reduceLeDiff, Int.reduceNeg, Int.reduceEq, Int.reduceLT, Int.reduceLE, reduceCtorEq]) (by simp (disch := omega) only [go_sem, ↓reduceIte, Int.reduceToNat, Nat.reduceEqDiff, Nat.reduceAdd, Nat.reduceMul, Nat.reduceSub, Nat.reducePow, Nat.reduceLT, Nat.reduceLeDiff, Int.reduceNeg, Int.reduceEq, Int.reduceLT, Int.reduceLE, reduceCtorEq]) (by simp) (by simp [AV.pu, tupA]) ⟨rfl, rfl⟩

theorem con_index1 (f : Nat) (caps : List AV) (p : Int → Bool) (xs : List Int) (hl : xs.length ≤ 2 ^ 40) (hf : ∀ x, Con Tryd.prog f true (.v (.int .i64 x) :: caps) [] (boolR (p x))) (hg : fnOk Tryd.prog f)
    (hc : ∀ h : Nat → Ob, caps.map (snap h 6) = caps) (hc5 : ∀ h : Nat → Ob, caps.map (snap h 5) = caps) (hn : ∀ ks, AllL (memK ks) caps) (hr : ∀ ρ, renL ρ caps = caps) :
    Con Tryd.prog 115 true [.sl xs.length (ints xs), .fn f caps] [] (fun r hs bs => ∃ i : Int, r = .v (.int .i64 i) ∧ hs = [] ∧ (0 ≤ i ↔ ∃ x ∈ xs, p x = true)) := by
  refine Con.of_aw Tryd.func115 rfl Tryd.ntmps115 (by simp) (by simp) (by simp) (W.sound ?_)
  show @W Tryd.prog 19 ⟨_⟩ ⟨fun x σ => @retW _ _ _ ⟨_⟩ _ ⟨_⟩ x σ⟩ _ _
  simp (disch := omega) only [go_sem, ↓reduceIte, Int.reduceToNat, Nat.reduceEqDiff, Nat.reduceAdd, Nat.reduceMul, Nat.reduceSub, Nat.reducePow, Nat.reduceLT, Nat.reduceLeDiff, Int.reduceNeg, Int.reduceEq, Int.reduceLT, Int.reduceLE, reduceCtorEq]
  refine loop_intro (fun i : Nat => [(0, .sl xs.length (ints xs)), (1, .fn f caps), (6, .sl xs.length (ints xs)), (7, .v (.int .i64 xs.length)), (8, .v (.int .i64 i))])
    (fun _ => []) (fun i => i ≤ xs.length ∧ ∀ j, j < i → p (xs.getD j 0) = false) (fun i => xs.length - i) 0 ⟨by omega, fun j hj => by omega⟩ (Le.lst [] _ _ rfl (by simp (disch := omega) only [go_sem, ↓reduceIte, Int.reduceToNat, Nat.reduceEqDiff, Nat.reduceAdd, Nat.reduceMul, Nat.reduceSub, Nat.reducePow, Nat.reduceLT, Nat.reduceLeDiff, Int.reduceNeg, Int.reduceEq, Int.reduceLT, Int.reduceLE, reduceCtorEq, hr, hn]) (by simp (disch := omega) only [go_sem, ↓reduceIte, Int.reduceToNat, Nat.reduceEqDiff, Nat.reduceAdd, Nat.reduceMul, Nat.reduceSub, Nat.reducePow, Nat.reduceLT, Nat.reduceLeDiff, Int.reduceNeg, Int.reduceEq, Int.reduceLT, Int.reduceLE, reduceCtorEq])) ?_
  rintro i ⟨hi, hp⟩
  simp (disch := omega) only [go_sem, ↓reduceIte, Int.reduceToNat, Nat.reduceEqDiff, Nat.reduceAdd, Nat.reduceMul, Nat.reduceSub, Nat.reducePow, Nat.reduceLT, Nat.reduceLeDiff, Int.reduceNeg, Int.reduceEq, Int.reduceLT, Int.reduceLE, reduceCtorEq]
  refine ifW_dec (fun h1 => ?_) (fun h1 => ?_)
  · simp (disch := omega) only [go_sem, ↓reduceIte, Int.reduceToNat, Nat.reduceEqDiff, Nat.reduceAdd, Nat.reduceMul, Nat.reduceSub, Nat.reducePow, Nat.reduceLT, Nat.reduceLeDiff, Int.reduceNeg, Int.reduceEq, Int.reduceLT, Int.reduceLE, reduceCtorEq, h1]
    refine ⟨by omega, by omega, hg, call_closed (hf (xs.getD i 0)) (by simp (disch := omega) only [go_sem, ↓reduceIte, Int.reduceToNat, Nat.reduceEqDiff, Nat.reduceAdd, Nat.reduceMul, Nat.reduceSub, Nat.reducePow, Nat.reduceLT, Nat.reduceLeDiff, Int.reduceNeg, Int.reduceEq, Int.reduceLT, Int.reduceLE, reduceCtorEq, hc, hc5]) ?_⟩
    rintro r hs ⟨rfl, rfl⟩
    refine ⟨by simp [freeN], ?_⟩
    simp (disch := omega) only [go_sem, ↓reduceIte, Int.reduceToNat, Nat.reduceEqDiff, Nat.reduceAdd, Nat.reduceMul, Nat.reduceSub, Nat.reducePow, Nat.reduceLT, Nat.reduceLeDiff, Int.reduceNeg, Int.reduceEq, Int.reduceLT, Int.reduceLE, reduceCtorEq]
    refine ifW_b (fun h2 => ?_) (fun h2 => ?_)
    · simp (disch := omega) only [go_sem, ↓reduceIte, Int.reduceToNat, Nat.reduceEqDiff, Nat.reduceAdd, Nat.reduceMul, Nat.reduceSub, Nat.reducePow, Nat.reduceLT, Nat.reduceLeDiff, Int.reduceNeg, Int.reduceEq, Int.reduceLT, Int.reduceLE, reduceCtorEq, h2]
      refine fin_intro [] [] [] [.v (.int .i64 i)] rfl (by simp (disch := omega) only [go_sem, ↓reduceIte, Int.reduceToNat, Nat.reduceEqDiff, Nat.reduceAdd, Nat.reduceMul, Nat.reduceSub, Nat.reducePow, Nat.reduceLT, Nat.reduceLeDiff, Int.reduceNeg, Int.reduceEq, Int.reduceLT, Int.reduceLE, reduceCtorEq]) (by simp (disch := omega) only [go_sem, ↓reduceIte, Int.reduceToNat, Nat.reduceEqDiff, Nat.reduceAdd, Nat.reduceMul, Nat.reduceSub, Nat.reducePow, Nat.reduceLT, Nat.reduceLeDiff, Int.reduceNeg, Int.reduceEq, Int.reduceLT, Int.reduceLE, reduceCtorEq]) (by simp) (by simp [AV.pu, tupA]) ⟨i, rfl, rfl, ?_⟩
      refine ⟨fun _ => ⟨xs.getD i 0, ?_, h2⟩, fun _ => by omega⟩
      rw [List.getD_eq_getElem?_getD, List.getElem?_eq_getElem (by omega)]; exact List.getElem_mem _
    · simp (disch := omega) only [go_sem, ↓reduceIte, Int.reduceToNat, Nat.reduceEqDiff, Nat.reduceAdd, Nat.reduceMul, Nat.reduceSub, Nat.reducePow, Nat.reduceLT, Nat.reduceLeDiff, Int.reduceNeg, Int.reduceEq, Int.reduceLT, Int.reduceLE, reduceCtorEq, h2]
      refine next_intro (i + 1) [] ⟨by omega, fun j hj => ?_⟩ (by show xs.length - (i + 1) < xs.length - i; omega) rfl (by simp (disch := omega) only [go_sem, ↓reduceIte, Int.reduceToNat, Nat.reduceEqDiff, Nat.reduceAdd, Nat.reduceMul, Nat.reduceSub, Nat.reducePow, Nat.reduceLT, Nat.reduceLeDiff, Int.reduceNeg, Int.reduceEq, Int.reduceLT, Int.reduceLE, reduceCtorEq, hr, hn]; try omega) (by simp (disch := omega) only [go_sem, ↓reduceIte, Int.reduceToNat, Nat.reduceEqDiff, Nat.reduceAdd, Nat.reduceMul, Nat.reduceSub, Nat.reducePow, Nat.reduceLT, Nat.reduceLeDiff, Int.reduceNeg, Int.reduceEq, Int.reduceLT, Int.reduceLE, reduceCtorEq])
      rcases (by omega : j < i ∨ j = i) with h | h
      · exact hp j h
      · subst h; exact h2
  · simp (disch := omega) only [go_sem, ↓reduceIte, Int.reduceToNat, Nat.reduceEqDiff, Nat.reduceAdd, Nat.reduceMul, Nat.reduceSub, Nat.reducePow, Nat.reduceLT, Nat.reduceLeDiff, Int.reduceNeg, Int.reduceEq, Int.reduceLT, Int.reduceLE, reduceCtorEq, h1]
    refine fin_intro [] [] [] [.v (.int .i64 (-1))] rfl (by simp (disch := omega) only [go_sem, ↓reduceIte, Int.reduceToNat, Nat.reduceEqDiff, Nat.reduceAdd, Nat.reduceMul, Nat.reduceSub, Nat.reducePow, Nat.reduceLT, Nat.reduceLeDiff, Int.reduceNeg, Int.reduceEq, Int.reduceLT, Int.reduceLE, reduceCtorEq]) (by simp (disch := omega) only [go_sem, ↓reduceIte, Int.reduceToNat, Nat.reduceEqDiff, Nat.reduceAdd, Nat.reduceMul, Nat.reduceSub, Nat.reducePow, Nat.reduceLT, Nat.reduceLeDiff, Int.reduceNeg, Int.reduceEq, Int.reduceLT, Int.reduceLE, reduceCtorEq]) (by simp) (by simp [AV.pu, tupA]) ⟨-1, rfl, rfl, ?_⟩
    refine ⟨fun h => by omega, fun ⟨x, hx, hpx⟩ => ?_⟩
    obtain ⟨j, hj, rfl⟩ := List.getElem_of_mem hx
    have := hp j (by omega)
    rw [List.getD_eq_getElem?_getD, List.getElem?_eq_getElem hj] at this
    simp only [Option.getD_some] at this
    rw [this] at hpx; cases hpx
theorem con_contains1 (f : Nat) (caps : List AV) (p : Int → Bool) (xs : List Int) (hl : xs.length ≤ 2 ^ 40) (hf : ∀ x, Con Tryd.prog f true (.v (.int .i64 x) :: caps) [] (boolR (p x))) (hg : fnOk Tryd.prog f)
    (hc : ∀ h : Nat → Ob, caps.map (snap h 6) = caps) (hc5 : ∀ h : Nat → Ob, caps.map (snap h 5) = caps) (hn : ∀ ks, AllL (memK ks) caps) (hr : ∀ ρ, renL ρ caps = caps) :
    Con Tryd.prog 105 true [.sl xs.length (ints xs), .fn f caps] [] (boolR (xs.any p)) := by
  refine Con.of_aw Tryd.func105 rfl Tryd.ntmps105 (by simp) (by simp) (by simp) (W.sound ?_)
  show @W Tryd.prog 9 ⟨_⟩ ⟨fun x σ => @retW _ _ _ ⟨_⟩ _ ⟨_⟩ x σ⟩ _ _
  simp (disch := omega) only [go_sem, ↓reduceIte, Int.reduceToNat, Nat.reduceEqDiff, Nat.reduceAdd, Nat.reduceMul, Nat.reduceSub, Nat.reducePow, Nat.reduceLT, Nat.reduceLeDiff, Int.reduceNeg, Int.reduceEq, Int.reduceLT, Int.reduceLE, reduceCtorEq]
  refine call_closed (con_index1 f caps p xs hl hf hg hc hc5 hn hr) (by simp (disch := omega) only [go_sem, ↓reduceIte, Int.reduceToNat, Nat.reduceEqDiff, Nat.reduceAdd, Nat.reduceMul, Nat.reduceSub, Nat.reducePow, Nat.reduceLT, Nat.reduceLeDiff, Int.reduceNeg, Int.reduceEq, Int.reduceLT, Int.reduceLE, reduceCtorEq, hc, hc5]) ?_
  rintro r hs ⟨i, rfl, rfl, hi⟩
  refine ⟨by simp [freeN], ?_⟩
  simp (disch := omega) only [go_sem, ↓reduceIte, Int.reduceToNat, Nat.reduceEqDiff, Nat.reduceAdd, Nat.reduceMul, Nat.reduceSub, Nat.reducePow, Nat.reduceLT, Nat.reduceLeDiff, Int.reduceNeg, Int.reduceEq, Int.reduceLT, Int.reduceLE, reduceCtorEq]
  refine fin_intro [] [] [] [.v (.bool (decide (0 ≤ i)))] rfl (by simp (disch := omega) only [go_sem, ↓reduceIte, Int.reduceToNat, Nat.reduceEqDiff, Nat.reduceAdd, Nat.reduceMul, Nat.reduceSub, Nat.reducePow, Nat.reduceLT, Nat.reduceLeDiff, Int.reduceNeg, Int.reduceEq, Int.reduceLT, Int.reduceLE, reduceCtorEq]) (by simp (disch := omega) only [go_sem, ↓reduceIte, Int.reduceToNat, Nat.reduceEqDiff, Nat.reduceAdd, Nat.reduceMul, Nat.reduceSub, Nat.reducePow, Nat.reduceLT, Nat.reduceLeDiff, Int.reduceNeg, Int.reduceEq, Int.reduceLT, Int.reduceLE, reduceCtorEq]) (by simp) (by simp [AV.pu, tupA]) ⟨?_, rfl⟩
  have : decide (0 ≤ i) = xs.any p := by rw [Bool.eq_iff_iff, decide_eq_true_eq, hi, List.any_eq_true]
  rw [this]; rfl

theorem con_areall (g : Nat) (p : Int → Bool) (xs : List Int) (hl : xs.length ≤ 2 ^ 40) (hf : ∀ x, Con Tryd.prog g true [.v (.int .i64 x)] [] (boolR (p x))) (hg : fnOk Tryd.prog g) :
    Con Tryd.prog 96 true [.sl xs.length (ints xs), .fn g []] [] (boolR (xs.all p)) := by
  refine Con.of_aw Tryd.func96 rfl Tryd.ntmps96 (by simp) (by simp) (by simp) (W.sound ?_)
  show @W Tryd.prog 9 ⟨_⟩ ⟨fun x σ => @retW _ _ _ ⟨_⟩ _ ⟨_⟩ x σ⟩ _ _
  simp (disch := omega) only [go_sem, ↓reduceIte, Int.reduceToNat, Nat.reduceEqDiff, Nat.reduceAdd, Nat.reduceMul, Nat.reduceSub, Nat.reducePow, Nat.reduceLT, Nat.reduceLeDiff, Int.reduceNeg, Int.reduceEq, Int.reduceLT, Int.reduceLE, reduceCtorEq]
  refine call_closed (con_contains1 106 [.fp [.fn g []] 0] (fun x => !p x) xs hl (fun x => con_areall1 g p x (hf x) hg) (by simp (disch := omega) only [go_sem, ↓reduceIte, Int.reduceToNat, Nat.reduceEqDiff, Nat.reduceAdd, Nat.reduceMul, Nat.reduceSub, Nat.reducePow, Nat.reduceLT, Nat.reduceLeDiff, Int.reduceNeg, Int.reduceEq, Int.reduceLT, Int.reduceLE, reduceCtorEq]) (fun h => rfl) (fun h => rfl) (fun ks => by simp (disch := omega) only [go_sem, ↓reduceIte, Int.reduceToNat, Nat.reduceEqDiff, Nat.reduceAdd, Nat.reduceMul, Nat.reduceSub, Nat.reducePow, Nat.reduceLT, Nat.reduceLeDiff, Int.reduceNeg, Int.reduceEq, Int.reduceLT, Int.reduceLE, reduceCtorEq]) (fun ρ => rfl)) (by simp (disch := omega) only [go_sem, ↓reduceIte, Int.reduceToNat, Nat.reduceEqDiff, Nat.reduceAdd, Nat.reduceMul, Nat.reduceSub, Nat.reducePow, Nat.reduceLT, Nat.reduceLeDiff, Int.reduceNeg, Int.reduceEq, Int.reduceLT, Int.reduceLE, reduceCtorEq]) ?_
  rintro r hs ⟨rfl, rfl⟩
  refine ⟨by simp [freeN], ?_⟩
  simp (disch := omega) only [go_sem, ↓reduceIte, Int.reduceToNat, Nat.reduceEqDiff, Nat.reduceAdd, Nat.reduceMul, Nat.reduceSub, Nat.reducePow, Nat.reduceLT, Nat.reduceLeDiff, Int.reduceNeg, Int.reduceEq, Int.reduceLT, Int.reduceLE, reduceCtorEq]
  refine fin_intro [] [] [] [.v (.bool (!xs.any fun x => !p x))] rfl (by simp (disch := omega) only [go_sem, ↓reduceIte, Int.reduceToNat, Nat.reduceEqDiff, Nat.reduceAdd, Nat.reduceMul, Nat.reduceSub, Nat.reducePow, Nat.reduceLT, Nat.reduceLeDiff, Int.reduceNeg, Int.reduceEq, Int.reduceLT, Int.reduceLE, reduceCtorEq]) (by simp (disch := omega) only [go_sem, ↓reduceIte, Int.reduceToNat, Nat.reduceEqDiff, Nat.reduceAdd, Nat.reduceMul, Nat.reduceSub, Nat.reducePow, Nat.reduceLT, Nat.reduceLeDiff, Int.reduceNeg, Int.reduceEq, Int.reduceLT, Int.reduceLE, reduceCtorEq]) (by simp) (by simp [AV.pu, tupA]) ⟨?_, rfl⟩
  have : (!xs.any fun x => !p x) = xs.all p := by rw [List.all_eq_not_any_not]
  rw [this]; rfl
end Go.Ab
namespace Go.Ab
open Go Go.Proofs
set_option linter.unusedVariables false
set_option linter.unusedSimpArgs false

theorem con_natok (xs : List Int) (hl : xs.length ≤ 2 ^ 40) : Con Tryd.prog 89 true [.ag [.sl xs.length (ints xs)]] [] (boolR (natB xs)) := by
  refine Con.of_aw Tryd.func89 rfl Tryd.ntmps89 (by simp) (by simp) (by simp) (W.sound ?_)
  show @W Tryd.prog 29 ⟨_⟩ ⟨fun x σ => @retW _ _ _ ⟨_⟩ _ ⟨_⟩ x σ⟩ _ _
  have en : ((xs.length : Int) - 1).toNat = xs.length - 1 := by omega
  simp (disch := omega) only [go_sem, ↓reduceIte, Int.reduceToNat, Nat.reduceEqDiff, Nat.reduceAdd, Nat.reduceMul, Nat.reduceSub, Nat.reducePow, Nat.reduceLT, Nat.reduceLeDiff, Int.reduceNeg, Int.reduceEq, Int.reduceLT, Int.reduceLE, reduceCtorEq]
  refine ifW_dec (fun h1 => ?_) (fun h1 => ?_)
  · simp (disch := omega) only [go_sem, ↓reduceIte, Int.reduceToNat, Nat.reduceEqDiff, Nat.reduceAdd, Nat.reduceMul, Nat.reduceSub, Nat.reducePow, Nat.reduceLT, Nat.reduceLeDiff, Int.reduceNeg, Int.reduceEq, Int.reduceLT, Int.reduceLE, reduceCtorEq, h1]
    refine call_closed (con_areall 97 (fun x => decide (0 ≤ x) && decide (x ≤ 65535)) xs hl con_natok1 (by simp (disch := omega) only [go_sem, ↓reduceIte, Int.reduceToNat, Nat.reduceEqDiff, Nat.reduceAdd, Nat.reduceMul, Nat.reduceSub, Nat.reducePow, Nat.reduceLT, Nat.reduceLeDiff, Int.reduceNeg, Int.reduceEq, Int.reduceLT, Int.reduceLE, reduceCtorEq])) (by simp (disch := omega) only [go_sem, ↓reduceIte, Int.reduceToNat, Nat.reduceEqDiff, Nat.reduceAdd, Nat.reduceMul, Nat.reduceSub, Nat.reducePow, Nat.reduceLT, Nat.reduceLeDiff, Int.reduceNeg, Int.reduceEq, Int.reduceLT, Int.reduceLE, reduceCtorEq]) ?_
    rintro r hs ⟨rfl, rfl⟩
    refine ⟨by simp [freeN], ?_⟩
    simp (disch := omega) only [go_sem, ↓reduceIte, Int.reduceToNat, Nat.reduceEqDiff, Nat.reduceAdd, Nat.reduceMul, Nat.reduceSub, Nat.reducePow, Nat.reduceLT, Nat.reduceLeDiff, Int.reduceNeg, Int.reduceEq, Int.reduceLT, Int.reduceLE, reduceCtorEq]
    refine ifW_b (fun h2 => ?_) (fun h2 => ?_)
    · simp (disch := omega) only [go_sem, ↓reduceIte, Int.reduceToNat, Nat.reduceEqDiff, Nat.reduceAdd, Nat.reduceMul, Nat.reduceSub, Nat.reducePow, Nat.reduceLT, Nat.reduceLeDiff, Int.reduceNeg, Int.reduceEq, Int.reduceLT, Int.reduceLE, reduceCtorEq, h2]
      refine ifW_not (fun h3 => ?_) (fun h3 => ?_)
      · simp (disch := omega) only [go_sem, ↓reduceIte, Int.reduceToNat, Nat.reduceEqDiff, Nat.reduceAdd, Nat.reduceMul, Nat.reduceSub, Nat.reducePow, Nat.reduceLT, Nat.reduceLeDiff, Int.reduceNeg, Int.reduceEq, Int.reduceLT, Int.reduceLE, reduceCtorEq, h3, en]
        refine ⟨by omega, by omega, ?_⟩
        refine fin_valc (by simp (disch := omega) only [go_sem, ↓reduceIte, Int.reduceToNat, Nat.reduceEqDiff, Nat.reduceAdd, Nat.reduceMul, Nat.reduceSub, Nat.reducePow, Nat.reduceLT, Nat.reduceLeDiff, Int.reduceNeg, Int.reduceEq, Int.reduceLT, Int.reduceLE, reduceCtorEq]) (by simp (disch := omega) only [go_sem, ↓reduceIte, Int.reduceToNat, Nat.reduceEqDiff, Nat.reduceAdd, Nat.reduceMul, Nat.reduceSub, Nat.reducePow, Nat.reduceLT, Nat.reduceLeDiff, Int.reduceNeg, Int.reduceEq, Int.reduceLT, Int.reduceLE, reduceCtorEq]) ⟨?_, rfl⟩
        have e1 : decide (xs.length ≤ 100) = true := by simp; omega
        have e2 : decide (xs.length = 0) = false := by simp; intro h; subst h; simp at h3
        show AV.v (.bool _) = AV.v (.bool _)
        unfold natB
        rw [e1, h2, e2]
        simp
      · simp (disch := omega) only [go_sem, ↓reduceIte, Int.reduceToNat, Nat.reduceEqDiff, Nat.reduceAdd, Nat.reduceMul, Nat.reduceSub, Nat.reducePow, Nat.reduceLT, Nat.reduceLeDiff, Int.reduceNeg, Int.reduceEq, Int.reduceLT, Int.reduceLE, reduceCtorEq, h3]
        refine fin_valc (by simp (disch := omega) only [go_sem, ↓reduceIte, Int.reduceToNat, Nat.reduceEqDiff, Nat.reduceAdd, Nat.reduceMul, Nat.reduceSub, Nat.reducePow, Nat.reduceLT, Nat.reduceLeDiff, Int.reduceNeg, Int.reduceEq, Int.reduceLT, Int.reduceLE, reduceCtorEq]) (by simp (disch := omega) only [go_sem, ↓reduceIte, Int.reduceToNat, Nat.reduceEqDiff, Nat.reduceAdd, Nat.reduceMul, Nat.reduceSub, Nat.reducePow, Nat.reduceLT, Nat.reduceLeDiff, Int.reduceNeg, Int.reduceEq, Int.reduceLT, Int.reduceLE, reduceCtorEq]) ⟨?_, rfl⟩
        have e1 : decide (xs.length ≤ 100) = true := by simp; omega
        have e2 : decide (xs.length = 0) = true := by simp; exact List.length_eq_zero_iff.1 (by omega)
        show AV.v (.bool _) = AV.v (.bool _)
        unfold natB
        rw [e1, h2, e2]
        simp
    · simp (disch := omega) only [go_sem, ↓reduceIte, Int.reduceToNat, Nat.reduceEqDiff, Nat.reduceAdd, Nat.reduceMul, Nat.reduceSub, Nat.reducePow, Nat.reduceLT, Nat.reduceLeDiff, Int.reduceNeg, Int.reduceEq, Int.reduceLT, Int.reduceLE, reduceCtorEq, h2]
      refine fin_valc (by simp (disch := omega) only [go_sem, ↓reduceIte, Int.reduceToNat, Nat.reduceEqDiff, Nat.reduceAdd, Nat.reduceMul, Nat.reduceSub, Nat.reducePow, Nat.reduceLT, Nat.reduceLeDiff, Int.reduceNeg, Int.reduceEq, Int.reduceLT, Int.reduceLE, reduceCtorEq]) (by simp (disch := omega) only [go_sem, ↓reduceIte, Int.reduceToNat, Nat.reduceEqDiff, Nat.reduceAdd, Nat.reduceMul, Nat.reduceSub, Nat.reducePow, Nat.reduceLT, Nat.reduceLeDiff, Int.reduceNeg, Int.reduceEq, Int.reduceLT, Int.reduceLE, reduceCtorEq]) ⟨?_, rfl⟩
      show AV.v (.bool _) = AV.v (.bool _)
      unfold natB
      rw [h2]; simp
  · simp (disch := omega) only [go_sem, ↓reduceIte, Int.reduceToNat, Nat.reduceEqDiff, Nat.reduceAdd, Nat.reduceMul, Nat.reduceSub, Nat.reducePow, Nat.reduceLT, Nat.reduceLeDiff, Int.reduceNeg, Int.reduceEq, Int.reduceLT, Int.reduceLE, reduceCtorEq, h1]
    exact fin_valc (by simp (disch := omega) only [go_sem, ↓reduceIte, Int.reduceToNat, Nat.reduceEqDiff, Nat.reduceAdd, Nat.reduceMul, Nat.reduceSub, Nat.reducePow, Nat.reduceLT, Nat.reduceLeDiff, Int.reduceNeg, Int.reduceEq, Int.reduceLT, Int.reduceLE, reduceCtorEq]) (by simp (disch := omega) only [go_sem, ↓reduceIte, Int.reduceToNat, Nat.reduceEqDiff, Nat.reduceAdd, Nat.reduceMul, Nat.reduceSub, Nat.reducePow, Nat.reduceLT, Nat.reduceLeDiff, Int.reduceNeg, Int.reduceEq, Int.reduceLT, Int.reduceLE, reduceCtorEq]) ⟨by simp [natB, tupA]; omega, rfl⟩
end Go.Ab
namespace Go.Ab
open Go Go.Proofs
set_option linter.unusedVariables false
set_option linter.unusedSimpArgs false

theorem Con.boolI {P : Program} {f : FuncId} {args : List AV} {b : Bool} (h : Con P f true args [] (boolR b)) : Con P f true args [] (isA (.v (.bool b))) :=
  (Con.len h).mono fun r hs bs ⟨⟨h1, h2⟩, h3⟩ => ⟨h1, h2, h3⟩

theorem con_withinI (n lo hi : Int) : Con Tryd.prog 47 true [.v (.int .i64 n), .v (.int .i64 lo), .v (.int .i64 hi)] [] (isA (.v (.bool (decide (lo ≤ n) && decide (n ≤ hi))))) :=
  Con.boolI (con_within n lo hi)

theorem con_natokI (xs : List Int) (hl : xs.length ≤ 2 ^ 40) : Con Tryd.prog 89 true [.ag [.sl xs.length (ints xs)]] [] (isA (.v (.bool (natB xs)))) := Con.boolI (con_natok xs hl)

theorem con_wholeok (s : Bool) (xs : List Int) (hl : xs.length ≤ 2 ^ 40) : Con Tryd.prog 69 true [.ag [.v (.bool s), .sl xs.length (ints xs)]] [] (isA (.v (.bool (wholeB s xs)))) := by
  refine Con.of_aw Tryd.func69 rfl Tryd.ntmps69 (by simp) (by simp) (by simp) (W.sound ?_)
  show @W Tryd.prog 18 ⟨_⟩ ⟨fun x σ => @retW _ _ _ ⟨_⟩ _ ⟨_⟩ x σ⟩ _ _
  simp (disch := omega) only [go_sem, ↓reduceIte, Int.reduceToNat, Nat.reduceEqDiff, Nat.reduceAdd, Nat.reduceMul, Nat.reduceSub, Nat.reducePow, Nat.reduceLT, Nat.reduceLeDiff, Int.reduceNeg, Int.reduceEq, Int.reduceLT, Int.reduceLE, reduceCtorEq]
  refine call_closed (con_natokI xs hl) (by simp (disch := omega) only [go_sem, ↓reduceIte, Int.reduceToNat, Nat.reduceEqDiff, Nat.reduceAdd, Nat.reduceMul, Nat.reduceSub, Nat.reducePow, Nat.reduceLT, Nat.reduceLeDiff, Int.reduceNeg, Int.reduceEq, Int.reduceLT, Int.reduceLE, reduceCtorEq]) ?_
  rintro r hs ⟨rfl, rfl, _⟩
  refine ⟨by simp [freeN], ?_⟩
  simp (disch := omega) only [go_sem, ↓reduceIte, Int.reduceToNat, Nat.reduceEqDiff, Nat.reduceAdd, Nat.reduceMul, Nat.reduceSub, Nat.reducePow, Nat.reduceLT, Nat.reduceLeDiff, Int.reduceNeg, Int.reduceEq, Int.reduceLT, Int.reduceLE, reduceCtorEq]
  repeat' first
    | simp (disch := omega) only [go_sem, ↓reduceIte, Int.reduceToNat, Nat.reduceEqDiff, Nat.reduceAdd, Nat.reduceMul, Nat.reduceSub, Nat.reducePow, Nat.reduceLT, Nat.reduceLeDiff, Int.reduceNeg, Int.reduceEq, Int.reduceLT, Int.reduceLE, reduceCtorEq, *]
    | (with_reducible refine ifW_dec (fun _ => ?_) (fun _ => ?_))
    | (with_reducible refine ifW_not (fun _ => ?_) (fun _ => ?_))
    | (with_reducible refine ifW_nb (fun _ => ?_) (fun _ => ?_))
    | (with_reducible refine ifW_b (fun _ => ?_) (fun _ => ?_))
  all_goals exact fin_valc (by simp (disch := omega) only [go_sem, ↓reduceIte, Int.reduceToNat, Nat.reduceEqDiff, Nat.reduceAdd, Nat.reduceMul, Nat.reduceSub, Nat.reducePow, Nat.reduceLT, Nat.reduceLeDiff, Int.reduceNeg, Int.reduceEq, Int.reduceLT, Int.reduceLE, reduceCtorEq]) (by simp (disch := omega) only [go_sem, ↓reduceIte, Int.reduceToNat, Nat.reduceEqDiff, Nat.reduceAdd, Nat.reduceMul, Nat.reduceSub, Nat.reducePow, Nat.reduceLT, Nat.reduceLeDiff, Int.reduceNeg, Int.reduceEq, Int.reduceLT, Int.reduceLE, reduceCtorEq]) ⟨by simp_all [tupA, wholeB] <;> omega, rfl, rfl⟩

theorem con_hasKind (k ka ma ea kb mb eb : Int) (sa sb : Bool) : Con Tryd.prog 61 true [.v (.int .i64 k), .ag [.v (.int .i64 (ka)), .v (.bool (sa)), .v (.int .i64 (ma)), .v (.int .i64 (ea))], .ag [.v (.int .i64 (kb)), .v (.bool (sb)), .v (.int .i64 (mb)), .v (.int .i64 (eb))]] [] (isA (.v (.bool (decide (ka = k) || decide (kb = k))))) := by
  refine Con.of_aw Tryd.func61 rfl Tryd.ntmps61 (by simp) (by simp) (by simp) (W.sound ?_)
  show @W Tryd.prog 17 ⟨_⟩ ⟨fun x σ => @retW _ _ _ ⟨_⟩ _ ⟨_⟩ x σ⟩ _ _
  simp (disch := omega) only [go_sem, ↓reduceIte, Int.reduceToNat, Nat.reduceEqDiff, Nat.reduceAdd, Nat.reduceMul, Nat.reduceSub, Nat.reducePow, Nat.reduceLT, Nat.reduceLeDiff, Int.reduceNeg, Int.reduceEq, Int.reduceLT, Int.reduceLE, reduceCtorEq]
  repeat' first
    | simp (disch := omega) only [go_sem, ↓reduceIte, Int.reduceToNat, Nat.reduceEqDiff, Nat.reduceAdd, Nat.reduceMul, Nat.reduceSub, Nat.reducePow, Nat.reduceLT, Nat.reduceLeDiff, Int.reduceNeg, Int.reduceEq, Int.reduceLT, Int.reduceLE, reduceCtorEq, *]
    | (with_reducible refine ifW_dec (fun _ => ?_) (fun _ => ?_))
    | (with_reducible refine ifW_not (fun _ => ?_) (fun _ => ?_))
    | (with_reducible refine ifW_nb (fun _ => ?_) (fun _ => ?_))
    | (with_reducible refine ifW_b (fun _ => ?_) (fun _ => ?_))
  all_goals exact fin_valc (by simp (disch := omega) only [go_sem, ↓reduceIte, Int.reduceToNat, Nat.reduceEqDiff, Nat.reduceAdd, Nat.reduceMul, Nat.reduceSub, Nat.reducePow, Nat.reduceLT, Nat.reduceLeDiff, Int.reduceNeg, Int.reduceEq, Int.reduceLT, Int.reduceLE, reduceCtorEq]) (by simp (disch := omega) only [go_sem, ↓reduceIte, Int.reduceToNat, Nat.reduceEqDiff, Nat.reduceAdd, Nat.reduceMul, Nat.reduceSub, Nat.reducePow, Nat.reduceLT, Nat.reduceLeDiff, Int.reduceNeg, Int.reduceEq, Int.reduceLT, Int.reduceLE, reduceCtorEq]) ⟨by simp_all [tupA] <;> omega, rfl, rfl⟩

theorem con_nan : Con Tryd.prog 23 true [] [] (isA (.ag [.v (.int .i64 (3)), .v (.bool (false)), .v (.int .i64 (0)), .v (.int .i64 (0))])) := by
  refine Con.of_aw Tryd.func23 rfl Tryd.ntmps23 (by simp) (by simp) (by simp) (W.sound ?_)
  show @W Tryd.prog 2 ⟨_⟩ ⟨fun x σ => @retW _ _ _ ⟨_⟩ _ ⟨_⟩ x σ⟩ _ _
  simp (disch := omega) only [go_sem, ↓reduceIte, Int.reduceToNat, Nat.reduceEqDiff, Nat.reduceAdd, Nat.reduceMul, Nat.reduceSub, Nat.reducePow, Nat.reduceLT, Nat.reduceLeDiff, Int.reduceNeg, Int.reduceEq, Int.reduceLT, Int.reduceLE, reduceCtorEq]
  exact fin_valc (by simp (disch := omega) only [go_sem, ↓reduceIte, Int.reduceToNat, Nat.reduceEqDiff, Nat.reduceAdd, Nat.reduceMul, Nat.reduceSub, Nat.reducePow, Nat.reduceLT, Nat.reduceLeDiff, Int.reduceNeg, Int.reduceEq, Int.reduceLT, Int.reduceLE, reduceCtorEq]) (by simp (disch := omega) only [go_sem, ↓reduceIte, Int.reduceToNat, Nat.reduceEqDiff, Nat.reduceAdd, Nat.reduceMul, Nat.reduceSub, Nat.reducePow, Nat.reduceLT, Nat.reduceLeDiff, Int.reduceNeg, Int.reduceEq, Int.reduceLT, Int.reduceLE, reduceCtorEq]) isA_mk

theorem con_zero (s : Bool) : Con Tryd.prog 51 true [.v (.bool s)] [] (isA (.ag [.v (.int .i64 (0)), .v (.bool (s)), .v (.int .i64 (0)), .v (.int .i64 (0))])) := by
  refine Con.of_aw Tryd.func51 rfl Tryd.ntmps51 (by simp) (by simp) (by simp) (W.sound ?_)
  show @W Tryd.prog 5 ⟨_⟩ ⟨fun x σ => @retW _ _ _ ⟨_⟩ _ ⟨_⟩ x σ⟩ _ _
  simp (disch := omega) only [go_sem, ↓reduceIte, Int.reduceToNat, Nat.reduceEqDiff, Nat.reduceAdd, Nat.reduceMul, Nat.reduceSub, Nat.reducePow, Nat.reduceLT, Nat.reduceLeDiff, Int.reduceNeg, Int.reduceEq, Int.reduceLT, Int.reduceLE, reduceCtorEq]
  exact fin_valc (by simp (disch := omega) only [go_sem, ↓reduceIte, Int.reduceToNat, Nat.reduceEqDiff, Nat.reduceAdd, Nat.reduceMul, Nat.reduceSub, Nat.reducePow, Nat.reduceLT, Nat.reduceLeDiff, Int.reduceNeg, Int.reduceEq, Int.reduceLT, Int.reduceLE, reduceCtorEq]) (by simp (disch := omega) only [go_sem, ↓reduceIte, Int.reduceToNat, Nat.reduceEqDiff, Nat.reduceAdd, Nat.reduceMul, Nat.reduceSub, Nat.reducePow, Nat.reduceLT, Nat.reduceLeDiff, Int.reduceNeg, Int.reduceEq, Int.reduceLT, Int.reduceLE, reduceCtorEq]) isA_mk

theorem con_infinity (s : Bool) : Con Tryd.prog 62 true [.v (.bool s)] [] (isA (.ag [.v (.int .i64 (2)), .v (.bool (s)), .v (.int .i64 (0)), .v (.int .i64 (0))])) := by
  refine Con.of_aw Tryd.func62 rfl Tryd.ntmps62 (by simp) (by simp) (by simp) (W.sound ?_)
  show @W Tryd.prog 5 ⟨_⟩ ⟨fun x σ => @retW _ _ _ ⟨_⟩ _ ⟨_⟩ x σ⟩ _ _
  simp (disch := omega) only [go_sem, ↓reduceIte, Int.reduceToNat, Nat.reduceEqDiff, Nat.reduceAdd, Nat.reduceMul, Nat.reduceSub, Nat.reducePow, Nat.reduceLT, Nat.reduceLeDiff, Int.reduceNeg, Int.reduceEq, Int.reduceLT, Int.reduceLE, reduceCtorEq]
  exact fin_valc (by simp (disch := omega) only [go_sem, ↓reduceIte, Int.reduceToNat, Nat.reduceEqDiff, Nat.reduceAdd, Nat.reduceMul, Nat.reduceSub, Nat.reducePow, Nat.reduceLT, Nat.reduceLeDiff, Int.reduceNeg, Int.reduceEq, Int.reduceLT, Int.reduceLE, reduceCtorEq]) (by simp (disch := omega) only [go_sem, ↓reduceIte, Int.reduceToNat, Nat.reduceEqDiff, Nat.reduceAdd, Nat.reduceMul, Nat.reduceSub, Nat.reducePow, Nat.reduceLT, Nat.reduceLeDiff, Int.reduceNeg, Int.reduceEq, Int.reduceLT, Int.reduceLE, reduceCtorEq]) isA_mk

/-- What is too great is the greatest number: else it has no end. -/
def ovB (s : Bool) (mode : Int) : Bool := decide (mode = 1) || ((decide (mode = 2) && s) || (decide (mode = 3) && !s))

theorem con_overflow (s : Bool) (mode : Int) : Con Tryd.prog 79 true [.v (.bool s), .v (.int .i64 mode)] [] (isA (.tu [.ag [.v (.int .i64 (if ovB s mode then 1 else 2)), .v (.bool s), .v (.int .i64 (if ovB s mode then 9007199254740991 else 0)), .v (.int .i64 (if ovB s mode then 971 else 0))], .v (.int .i64 3)])) := by
  refine Con.of_aw Tryd.func79 rfl Tryd.ntmps79 (by simp) (by simp) (by simp) (W.sound ?_)
  show @W Tryd.prog 29 ⟨_⟩ ⟨fun x σ => @retW _ _ _ ⟨_⟩ _ ⟨_⟩ x σ⟩ _ _
  simp (disch := omega) only [go_sem, ↓reduceIte, Int.reduceToNat, Nat.reduceEqDiff, Nat.reduceAdd, Nat.reduceMul, Nat.reduceSub, Nat.reducePow, Nat.reduceLT, Nat.reduceLeDiff, Int.reduceNeg, Int.reduceEq, Int.reduceLT, Int.reduceLE, reduceCtorEq]
  refine call_closed (con_infinity s) (by simp (disch := omega) only [go_sem, ↓reduceIte, Int.reduceToNat, Nat.reduceEqDiff, Nat.reduceAdd, Nat.reduceMul, Nat.reduceSub, Nat.reducePow, Nat.reduceLT, Nat.reduceLeDiff, Int.reduceNeg, Int.reduceEq, Int.reduceLT, Int.reduceLE, reduceCtorEq]) ?_
  rintro r hs ⟨rfl, rfl, _⟩
  refine ⟨by simp [freeN], ?_⟩
  simp (disch := omega) only [go_sem, ↓reduceIte, Int.reduceToNat, Nat.reduceEqDiff, Nat.reduceAdd, Nat.reduceMul, Nat.reduceSub, Nat.reducePow, Nat.reduceLT, Nat.reduceLeDiff, Int.reduceNeg, Int.reduceEq, Int.reduceLT, Int.reduceLE, reduceCtorEq]
  repeat' first
    | simp (disch := omega) only [go_sem, ↓reduceIte, Int.reduceToNat, Nat.reduceEqDiff, Nat.reduceAdd, Nat.reduceMul, Nat.reduceSub, Nat.reducePow, Nat.reduceLT, Nat.reduceLeDiff, Int.reduceNeg, Int.reduceEq, Int.reduceLT, Int.reduceLE, reduceCtorEq, *]
    | (with_reducible refine ifW_dec (fun _ => ?_) (fun _ => ?_))
    | (with_reducible refine ifW_not (fun _ => ?_) (fun _ => ?_))
    | (with_reducible refine ifW_nb (fun _ => ?_) (fun _ => ?_))
    | (with_reducible refine ifW_b (fun _ => ?_) (fun _ => ?_))
  all_goals exact fin_valc (by simp (disch := omega) only [go_sem, ↓reduceIte, Int.reduceToNat, Nat.reduceEqDiff, Nat.reduceAdd, Nat.reduceMul, Nat.reduceSub, Nat.reducePow, Nat.reduceLT, Nat.reduceLeDiff, Int.reduceNeg, Int.reduceEq, Int.reduceLT, Int.reduceLE, reduceCtorEq]) (by simp (disch := omega) only [go_sem, ↓reduceIte, Int.reduceToNat, Nat.reduceEqDiff, Nat.reduceAdd, Nat.reduceMul, Nat.reduceSub, Nat.reducePow, Nat.reduceLT, Nat.reduceLeDiff, Int.reduceNeg, Int.reduceEq, Int.reduceLT, Int.reduceLE, reduceCtorEq]) ⟨by simp_all [tupA, ovB] <;> omega, rfl, rfl⟩

def flB (k : Int) (s : Bool) (m e : Int) : Bool :=
  if k = 1 then (decide (-1074 ≤ e) && decide (e ≤ 971)) && ((decide (4503599627370496 ≤ m) && decide (m ≤ 9007199254740991)) || ((decide (1 ≤ m) && decide (m ≤ 4503599627370495)) && decide (e = -1074)))
  else if k = 0 ∨ k = 2 then decide (m = 0) && decide (e = 0) else ((decide (k = 3) && decide (m = 0)) && decide (e = 0)) && !s

theorem con_flok (k : Int) (s : Bool) (m e : Int) : Con Tryd.prog 60 true [.ag [.v (.int .i64 (k)), .v (.bool (s)), .v (.int .i64 (m)), .v (.int .i64 (e))]] [] (isA (.v (.bool (flB k s m e)))) := by
  refine Con.of_aw Tryd.func60 rfl Tryd.ntmps60 (by simp) (by simp) (by simp) (W.sound ?_)
  show @W Tryd.prog 54 ⟨_⟩ ⟨fun x σ => @retW _ _ _ ⟨_⟩ _ ⟨_⟩ x σ⟩ _ _
  simp (disch := omega) only [go_sem, ↓reduceIte, Int.reduceToNat, Nat.reduceEqDiff, Nat.reduceAdd, Nat.reduceMul, Nat.reduceSub, Nat.reducePow, Nat.reduceLT, Nat.reduceLeDiff, Int.reduceNeg, Int.reduceEq, Int.reduceLT, Int.reduceLE, reduceCtorEq]
  refine ifW_dec (fun h1 => ?_) (fun h1 => ?_)
  · simp (disch := omega) only [go_sem, ↓reduceIte, Int.reduceToNat, Nat.reduceEqDiff, Nat.reduceAdd, Nat.reduceMul, Nat.reduceSub, Nat.reducePow, Nat.reduceLT, Nat.reduceLeDiff, Int.reduceNeg, Int.reduceEq, Int.reduceLT, Int.reduceLE, reduceCtorEq, h1]
    refine call_closed (con_withinI e (-1074) 971) (by simp (disch := omega) only [go_sem, ↓reduceIte, Int.reduceToNat, Nat.reduceEqDiff, Nat.reduceAdd, Nat.reduceMul, Nat.reduceSub, Nat.reducePow, Nat.reduceLT, Nat.reduceLeDiff, Int.reduceNeg, Int.reduceEq, Int.reduceLT, Int.reduceLE, reduceCtorEq]) ?_
    rintro r hs ⟨rfl, rfl, _⟩
    refine ⟨by simp [freeN], ?_⟩
    simp (disch := omega) only [go_sem, ↓reduceIte, Int.reduceToNat, Nat.reduceEqDiff, Nat.reduceAdd, Nat.reduceMul, Nat.reduceSub, Nat.reducePow, Nat.reduceLT, Nat.reduceLeDiff, Int.reduceNeg, Int.reduceEq, Int.reduceLT, Int.reduceLE, reduceCtorEq]
    refine ifW_b (fun h2 => ?_) (fun h2 => ?_)
    · simp (disch := omega) only [go_sem, ↓reduceIte, Int.reduceToNat, Nat.reduceEqDiff, Nat.reduceAdd, Nat.reduceMul, Nat.reduceSub, Nat.reducePow, Nat.reduceLT, Nat.reduceLeDiff, Int.reduceNeg, Int.reduceEq, Int.reduceLT, Int.reduceLE, reduceCtorEq, h2]
      refine call_closed (con_withinI m 4503599627370496 9007199254740991) (by simp (disch := omega) only [go_sem, ↓reduceIte, Int.reduceToNat, Nat.reduceEqDiff, Nat.reduceAdd, Nat.reduceMul, Nat.reduceSub, Nat.reducePow, Nat.reduceLT, Nat.reduceLeDiff, Int.reduceNeg, Int.reduceEq, Int.reduceLT, Int.reduceLE, reduceCtorEq]) ?_
      rintro r hs ⟨rfl, rfl, _⟩
      refine ⟨by simp [freeN], ?_⟩
      simp (disch := omega) only [go_sem, ↓reduceIte, Int.reduceToNat, Nat.reduceEqDiff, Nat.reduceAdd, Nat.reduceMul, Nat.reduceSub, Nat.reducePow, Nat.reduceLT, Nat.reduceLeDiff, Int.reduceNeg, Int.reduceEq, Int.reduceLT, Int.reduceLE, reduceCtorEq]
      refine ifW_nb (fun h3 => ?_) (fun h3 => ?_)
      · simp (disch := omega) only [go_sem, ↓reduceIte, Int.reduceToNat, Nat.reduceEqDiff, Nat.reduceAdd, Nat.reduceMul, Nat.reduceSub, Nat.reducePow, Nat.reduceLT, Nat.reduceLeDiff, Int.reduceNeg, Int.reduceEq, Int.reduceLT, Int.reduceLE, reduceCtorEq, h3]
        refine call_closed (con_withinI m 1 4503599627370495) (by simp (disch := omega) only [go_sem, ↓reduceIte, Int.reduceToNat, Nat.reduceEqDiff, Nat.reduceAdd, Nat.reduceMul, Nat.reduceSub, Nat.reducePow, Nat.reduceLT, Nat.reduceLeDiff, Int.reduceNeg, Int.reduceEq, Int.reduceLT, Int.reduceLE, reduceCtorEq]) ?_
        rintro r hs ⟨rfl, rfl, _⟩
        refine ⟨by simp [freeN], ?_⟩
        simp (disch := omega) only [go_sem, ↓reduceIte, Int.reduceToNat, Nat.reduceEqDiff, Nat.reduceAdd, Nat.reduceMul, Nat.reduceSub, Nat.reducePow, Nat.reduceLT, Nat.reduceLeDiff, Int.reduceNeg, Int.reduceEq, Int.reduceLT, Int.reduceLE, reduceCtorEq]
        refine ifW_b (fun h4 => ?_) (fun h4 => ?_)
        · simp (disch := omega) only [go_sem, ↓reduceIte, Int.reduceToNat, Nat.reduceEqDiff, Nat.reduceAdd, Nat.reduceMul, Nat.reduceSub, Nat.reducePow, Nat.reduceLT, Nat.reduceLeDiff, Int.reduceNeg, Int.reduceEq, Int.reduceLT, Int.reduceLE, reduceCtorEq, h4]
          refine fin_valc (by simp (disch := omega) only [go_sem, ↓reduceIte, Int.reduceToNat, Nat.reduceEqDiff, Nat.reduceAdd, Nat.reduceMul, Nat.reduceSub, Nat.reducePow, Nat.reduceLT, Nat.reduceLeDiff, Int.reduceNeg, Int.reduceEq, Int.reduceLT, Int.reduceLE, reduceCtorEq]) (by simp (disch := omega) only [go_sem, ↓reduceIte, Int.reduceToNat, Nat.reduceEqDiff, Nat.reduceAdd, Nat.reduceMul, Nat.reduceSub, Nat.reducePow, Nat.reduceLT, Nat.reduceLeDiff, Int.reduceNeg, Int.reduceEq, Int.reduceLT, Int.reduceLE, reduceCtorEq]) ⟨?_, rfl, rfl⟩
          show AV.v (.bool _) = AV.v (.bool _)
          unfold flB; rw [if_pos h1, h2, h3, h4]; rfl
        · simp (disch := omega) only [go_sem, ↓reduceIte, Int.reduceToNat, Nat.reduceEqDiff, Nat.reduceAdd, Nat.reduceMul, Nat.reduceSub, Nat.reducePow, Nat.reduceLT, Nat.reduceLeDiff, Int.reduceNeg, Int.reduceEq, Int.reduceLT, Int.reduceLE, reduceCtorEq, h4]
          refine fin_valc (by simp (disch := omega) only [go_sem, ↓reduceIte, Int.reduceToNat, Nat.reduceEqDiff, Nat.reduceAdd, Nat.reduceMul, Nat.reduceSub, Nat.reducePow, Nat.reduceLT, Nat.reduceLeDiff, Int.reduceNeg, Int.reduceEq, Int.reduceLT, Int.reduceLE, reduceCtorEq]) (by simp (disch := omega) only [go_sem, ↓reduceIte, Int.reduceToNat, Nat.reduceEqDiff, Nat.reduceAdd, Nat.reduceMul, Nat.reduceSub, Nat.reducePow, Nat.reduceLT, Nat.reduceLeDiff, Int.reduceNeg, Int.reduceEq, Int.reduceLT, Int.reduceLE, reduceCtorEq]) ⟨?_, rfl, rfl⟩
          show AV.v (.bool _) = AV.v (.bool _)
          unfold flB; rw [if_pos h1, h2, h3, h4]; rfl
      · simp (disch := omega) only [go_sem, ↓reduceIte, Int.reduceToNat, Nat.reduceEqDiff, Nat.reduceAdd, Nat.reduceMul, Nat.reduceSub, Nat.reducePow, Nat.reduceLT, Nat.reduceLeDiff, Int.reduceNeg, Int.reduceEq, Int.reduceLT, Int.reduceLE, reduceCtorEq, h3]
        refine fin_valc (by simp (disch := omega) only [go_sem, ↓reduceIte, Int.reduceToNat, Nat.reduceEqDiff, Nat.reduceAdd, Nat.reduceMul, Nat.reduceSub, Nat.reducePow, Nat.reduceLT, Nat.reduceLeDiff, Int.reduceNeg, Int.reduceEq, Int.reduceLT, Int.reduceLE, reduceCtorEq]) (by simp (disch := omega) only [go_sem, ↓reduceIte, Int.reduceToNat, Nat.reduceEqDiff, Nat.reduceAdd, Nat.reduceMul, Nat.reduceSub, Nat.reducePow, Nat.reduceLT, Nat.reduceLeDiff, Int.reduceNeg, Int.reduceEq, Int.reduceLT, Int.reduceLE, reduceCtorEq]) ⟨?_, rfl, rfl⟩
        show AV.v (.bool _) = AV.v (.bool _)
        unfold flB; rw [if_pos h1, h2, h3]; rfl
    · simp (disch := omega) only [go_sem, ↓reduceIte, Int.reduceToNat, Nat.reduceEqDiff, Nat.reduceAdd, Nat.reduceMul, Nat.reduceSub, Nat.reducePow, Nat.reduceLT, Nat.reduceLeDiff, Int.reduceNeg, Int.reduceEq, Int.reduceLT, Int.reduceLE, reduceCtorEq, h2]
      refine fin_valc (by simp (disch := omega) only [go_sem, ↓reduceIte, Int.reduceToNat, Nat.reduceEqDiff, Nat.reduceAdd, Nat.reduceMul, Nat.reduceSub, Nat.reducePow, Nat.reduceLT, Nat.reduceLeDiff, Int.reduceNeg, Int.reduceEq, Int.reduceLT, Int.reduceLE, reduceCtorEq]) (by simp (disch := omega) only [go_sem, ↓reduceIte, Int.reduceToNat, Nat.reduceEqDiff, Nat.reduceAdd, Nat.reduceMul, Nat.reduceSub, Nat.reducePow, Nat.reduceLT, Nat.reduceLeDiff, Int.reduceNeg, Int.reduceEq, Int.reduceLT, Int.reduceLE, reduceCtorEq]) ⟨?_, rfl, rfl⟩
      show AV.v (.bool _) = AV.v (.bool _)
      unfold flB; rw [if_pos h1, h2]; rfl
  · repeat' first
      | simp (disch := omega) only [go_sem, ↓reduceIte, Int.reduceToNat, Nat.reduceEqDiff, Nat.reduceAdd, Nat.reduceMul, Nat.reduceSub, Nat.reducePow, Nat.reduceLT, Nat.reduceLeDiff, Int.reduceNeg, Int.reduceEq, Int.reduceLT, Int.reduceLE, reduceCtorEq, *]
      | (with_reducible refine ifW_dec (fun _ => ?_) (fun _ => ?_))
      | (with_reducible refine ifW_not (fun _ => ?_) (fun _ => ?_))
      | (with_reducible refine ifW_nb (fun _ => ?_) (fun _ => ?_))
      | (with_reducible refine ifW_b (fun _ => ?_) (fun _ => ?_))
    all_goals exact fin_valc (by simp (disch := omega) only [go_sem, ↓reduceIte, Int.reduceToNat, Nat.reduceEqDiff, Nat.reduceAdd, Nat.reduceMul, Nat.reduceSub, Nat.reducePow, Nat.reduceLT, Nat.reduceLeDiff, Int.reduceNeg, Int.reduceEq, Int.reduceLT, Int.reduceLE, reduceCtorEq]) (by simp (disch := omega) only [go_sem, ↓reduceIte, Int.reduceToNat, Nat.reduceEqDiff, Nat.reduceAdd, Nat.reduceMul, Nat.reduceSub, Nat.reducePow, Nat.reduceLT, Nat.reduceLeDiff, Int.reduceNeg, Int.reduceEq, Int.reduceLT, Int.reduceLE, reduceCtorEq]) ⟨by simp_all [tupA, flB] <;> omega, rfl, rfl⟩
end Go.Ab
namespace Go.Ab
open Go Go.Proofs
set_option linter.unusedVariables false
set_option linter.unusedSimpArgs false

def flLow (top : Int) : Int := if -1074 > top - 53 then -1074 else top - 53
def flE (rm : Nat) (re : Int) : Int := flLow ((bl rm : Int) + re)
def flM (rm : Nat) (re : Int) : Nat := oM rm * 2 ^ (oE rm re - flE rm re).toNat
def flFlags (top : Int) (same : Bool) : Int := if same then 0 else if top ≤ -1022 then 5 else 1

/-- The float of what was rounded. -/
def flK (s : Bool) (mode : Int) (rm : Nat) (re : Int) : Int := if rm = 0 then 0 else if 1024 < (bl rm : Int) + re then (if ovB s mode then 1 else 2) else 1
def flMm (s : Bool) (mode : Int) (rm : Nat) (re : Int) : Int := if rm = 0 then 0 else if 1024 < (bl rm : Int) + re then (if ovB s mode then 9007199254740991 else 0) else (flM rm re : Int)
def flEe (s : Bool) (mode : Int) (rm : Nat) (re : Int) : Int := if rm = 0 then 0 else if 1024 < (bl rm : Int) + re then (if ovB s mode then 971 else 0) else flE rm re
def flFl (top : Int) (same : Bool) (rm : Nat) (re : Int) : Int := if rm ≠ 0 ∧ 1024 < (bl rm : Int) + re then 3 else flFlags top same

theorem or_add {a b k : Nat} (h : a < 2 ^ k) : a ||| b * 2 ^ k = a + b * 2 ^ k := by
  have := Nat.two_pow_add_eq_or_of_lt h b
  rw [Nat.or_comm, Nat.mul_comm b, ← this, Nat.add_comm]

theorem flM_lt {rm : Nat} {re : Int} (h0 : rm ≠ 0) (he : flE rm re ≤ oE rm re) : bl (flM rm re) ≤ 53 := by
  have h1 : oM rm ≠ 0 := fun e => h0 (oM_eq_zero.1 e)
  have h2 := bl_oM h0
  unfold flM
  rw [bl_mul_pow h1]
  unfold flE flLow oE at *
  rw [if_neg h0] at *
  split at he <;> split <;> omega

set_option maxRecDepth 100000 in
theorem con_floatOf (s : Bool) (top mode : Int) (f : Nat) (caps : List AV) (rs same : Bool) (rm : Nat) (re : Int) (ht : -1000000 ≤ top ∧ top ≤ 1000000) (hf : Con Tryd.prog f false (.v (.int .i64 (flLow top)) :: caps) [] (isA (.tu [.ag [.v (.bool (rs)), .sl (lim (rm)).length (ints (lim (rm))), .v (.int .i64 (re))], .v (.bool same)]))) (hg : fnOk Tryd.prog f = True)
    (hc : ∀ h : Nat → Ob, caps.map (snap h 6) = caps) (hm : bl rm ≤ 4000000) (hre : -1000000 ≤ re ∧ re ≤ 1000000) (he : rm ≠ 0 → (bl rm : Int) + re ≤ 1024 → flE rm re ≤ oE rm re) :
    Con Tryd.prog 52 true [.v (.bool s), .v (.int .i64 top), .v (.int .i64 mode), .fn f caps] []
      (isA (.tu [.ag [.v (.int .i64 (flK s mode rm re)), .v (.bool (s)), .v (.int .i64 (flMm s mode rm re)), .v (.int .i64 (flEe s mode rm re))], .v (.int .i64 (flFl top same rm re))])) := by
  refine Con.of_aw Tryd.func52 rfl Tryd.ntmps52 (by simp) (by simp) (by simp) (W.sound ?_)
  show @W Tryd.prog 77 ⟨_⟩ ⟨fun x σ => @retW _ _ _ ⟨_⟩ _ ⟨_⟩ x σ⟩ _ _
  have elow : (if -1074 > top - 53 then (-1074 : Int) else top - 53) = flLow top := rfl
  have elow2 : -2000000 ≤ flLow top ∧ flLow top ≤ 2000000 := by unfold flLow; split <;> omega
  simp (disch := omega) only [go_sem, ↓reduceIte, Int.reduceToNat, Nat.reduceEqDiff, Nat.reduceAdd, Nat.reduceMul, Nat.reduceSub, Nat.reducePow, Nat.reduceLT, Nat.reduceLeDiff, Int.reduceNeg, Int.reduceEq, Int.reduceLT, Int.reduceLE, reduceCtorEq, elow, hg]
  refine call_open hf (by simp (disch := omega) only [go_sem, ↓reduceIte, Int.reduceToNat, Nat.reduceEqDiff, Nat.reduceAdd, Nat.reduceMul, Nat.reduceSub, Nat.reducePow, Nat.reduceLT, Nat.reduceLeDiff, Int.reduceNeg, Int.reduceEq, Int.reduceLT, Int.reduceLE, reduceCtorEq, hc]) ?_
  rintro r hs ⟨rfl, rfl, _⟩
  refine ⟨by simp [freeN], ?_⟩
  simp (disch := omega) only [go_sem, ↓reduceIte, Int.reduceToNat, Nat.reduceEqDiff, Nat.reduceAdd, Nat.reduceMul, Nat.reduceSub, Nat.reducePow, Nat.reduceLT, Nat.reduceLeDiff, Int.reduceNeg, Int.reduceEq, Int.reduceLT, Int.reduceLE, reduceCtorEq]
  refine ifW_nb (fun h1 => ?_) (fun h1 => ?_)
  · simp (disch := omega) only [go_sem, ↓reduceIte, Int.reduceToNat, Nat.reduceEqDiff, Nat.reduceAdd, Nat.reduceMul, Nat.reduceSub, Nat.reducePow, Nat.reduceLT, Nat.reduceLeDiff, Int.reduceNeg, Int.reduceEq, Int.reduceLT, Int.reduceLE, reduceCtorEq, h1]
    refine ifW_dec (fun h2 => ?_) (fun h2 => ?_)
    · have hfl : flFlags top same = 5 := by unfold flFlags; rw [h1, if_pos h2]; rfl
      have e5 : ((1 ||| 4 : Nat) : Int) = 5 := rfl
      simp (disch := omega) only [go_sem, ↓reduceIte, Int.reduceToNat, Nat.reduceEqDiff, Nat.reduceAdd, Nat.reduceMul, Nat.reduceSub, Nat.reducePow, Nat.reduceLT, Nat.reduceLeDiff, Int.reduceNeg, Int.reduceEq, Int.reduceLT, Int.reduceLE, reduceCtorEq, h2, e5]
      refine call_open (con_odd rs rm re (by omega) (by omega)) (by simp (disch := omega) only [go_sem, ↓reduceIte, Int.reduceToNat, Nat.reduceEqDiff, Nat.reduceAdd, Nat.reduceMul, Nat.reduceSub, Nat.reducePow, Nat.reduceLT, Nat.reduceLeDiff, Int.reduceNeg, Int.reduceEq, Int.reduceLT, Int.reduceLE, reduceCtorEq]) ?_
      rintro r hs ⟨rfl, rfl, _⟩
      refine ⟨by simp [freeN], ?_⟩
      simp (disch := omega) only [go_sem, ↓reduceIte, Int.reduceToNat, Nat.reduceEqDiff, Nat.reduceAdd, Nat.reduceMul, Nat.reduceSub, Nat.reducePow, Nat.reduceLT, Nat.reduceLeDiff, Int.reduceNeg, Int.reduceEq, Int.reduceLT, Int.reduceLE, reduceCtorEq]
      refine call_closed (con_isZero (oS rs rm) (oM rm) (oE rm re)) (by simp (disch := omega) only [go_sem, ↓reduceIte, Int.reduceToNat, Nat.reduceEqDiff, Nat.reduceAdd, Nat.reduceMul, Nat.reduceSub, Nat.reducePow, Nat.reduceLT, Nat.reduceLeDiff, Int.reduceNeg, Int.reduceEq, Int.reduceLT, Int.reduceLE, reduceCtorEq]) ?_
      rintro r hs ⟨rfl, rfl, _⟩
      refine ⟨by simp [freeN], ?_⟩
      simp (disch := omega) only [go_sem, ↓reduceIte, Int.reduceToNat, Nat.reduceEqDiff, Nat.reduceAdd, Nat.reduceMul, Nat.reduceSub, Nat.reducePow, Nat.reduceLT, Nat.reduceLeDiff, Int.reduceNeg, Int.reduceEq, Int.reduceLT, Int.reduceLE, reduceCtorEq]
      refine ifW_dec (fun h3 => ?_) (fun h3 => ?_)
      · have h0 : rm = 0 := oM_eq_zero.1 h3
        simp (disch := omega) only [go_sem, ↓reduceIte, Int.reduceToNat, Nat.reduceEqDiff, Nat.reduceAdd, Nat.reduceMul, Nat.reduceSub, Nat.reducePow, Nat.reduceLT, Nat.reduceLeDiff, Int.reduceNeg, Int.reduceEq, Int.reduceLT, Int.reduceLE, reduceCtorEq, h3]
        refine call_closed (con_zero s) (by simp (disch := omega) only [go_sem, ↓reduceIte, Int.reduceToNat, Nat.reduceEqDiff, Nat.reduceAdd, Nat.reduceMul, Nat.reduceSub, Nat.reducePow, Nat.reduceLT, Nat.reduceLeDiff, Int.reduceNeg, Int.reduceEq, Int.reduceLT, Int.reduceLE, reduceCtorEq]) ?_
        rintro r hs ⟨rfl, rfl, _⟩
        refine ⟨by simp [freeN], ?_⟩
        simp (disch := omega) only [go_sem, ↓reduceIte, Int.reduceToNat, Nat.reduceEqDiff, Nat.reduceAdd, Nat.reduceMul, Nat.reduceSub, Nat.reducePow, Nat.reduceLT, Nat.reduceLeDiff, Int.reduceNeg, Int.reduceEq, Int.reduceLT, Int.reduceLE, reduceCtorEq]
        refine fin_valc (by simp (disch := omega) only [go_sem, ↓reduceIte, Int.reduceToNat, Nat.reduceEqDiff, Nat.reduceAdd, Nat.reduceMul, Nat.reduceSub, Nat.reducePow, Nat.reduceLT, Nat.reduceLeDiff, Int.reduceNeg, Int.reduceEq, Int.reduceLT, Int.reduceLE, reduceCtorEq]) (by simp (disch := omega) only [go_sem, ↓reduceIte, Int.reduceToNat, Nat.reduceEqDiff, Nat.reduceAdd, Nat.reduceMul, Nat.reduceSub, Nat.reducePow, Nat.reduceLT, Nat.reduceLeDiff, Int.reduceNeg, Int.reduceEq, Int.reduceLT, Int.reduceLE, reduceCtorEq]) ⟨?_, rfl, rfl⟩
        simp [tupA, flK, flMm, flEe, flFl, h0, hfl]
      · have h0 : rm ≠ 0 := fun e => h3 (by rw [e]; exact oM_zero)
        have hlo : (lim (oM rm)).length ≤ 2 ^ 40 := by have := len_bl (Nat.le_trans (bl_mono (oM_le rm)) hm); omega
        have hblo := bl_oM h0
        have hoE : oE rm re = re + tz rm := by unfold oE; rw [if_neg h0]
        have etop : (if oM rm = 0 then (0 : Int) else (bl (oM rm) : Int) + oE rm re) = (bl rm : Int) + re := by rw [if_neg h3, hoE]; omega
        simp (disch := omega) only [go_sem, ↓reduceIte, Int.reduceToNat, Nat.reduceEqDiff, Nat.reduceAdd, Nat.reduceMul, Nat.reduceSub, Nat.reducePow, Nat.reduceLT, Nat.reduceLeDiff, Int.reduceNeg, Int.reduceEq, Int.reduceLT, Int.reduceLE, reduceCtorEq, h3]
        refine call_closed (con_topX (oS rs rm) (oM rm) (oE rm re) hlo (by omega)) (by simp (disch := omega) only [go_sem, ↓reduceIte, Int.reduceToNat, Nat.reduceEqDiff, Nat.reduceAdd, Nat.reduceMul, Nat.reduceSub, Nat.reducePow, Nat.reduceLT, Nat.reduceLeDiff, Int.reduceNeg, Int.reduceEq, Int.reduceLT, Int.reduceLE, reduceCtorEq]) ?_
        rintro r hs ⟨rfl, rfl, _⟩
        refine ⟨by simp [freeN], ?_⟩
        simp (disch := omega) only [go_sem, ↓reduceIte, Int.reduceToNat, Nat.reduceEqDiff, Nat.reduceAdd, Nat.reduceMul, Nat.reduceSub, Nat.reducePow, Nat.reduceLT, Nat.reduceLeDiff, Int.reduceNeg, Int.reduceEq, Int.reduceLT, Int.reduceLE, reduceCtorEq]
        refine ifW_dec (fun h4 => ?_) (fun h4 => ?_)
        · simp (disch := omega) only [go_sem, ↓reduceIte, Int.reduceToNat, Nat.reduceEqDiff, Nat.reduceAdd, Nat.reduceMul, Nat.reduceSub, Nat.reducePow, Nat.reduceLT, Nat.reduceLeDiff, Int.reduceNeg, Int.reduceEq, Int.reduceLT, Int.reduceLE, reduceCtorEq, h4, etop]
          refine call_closed (con_overflow s mode) (by simp (disch := omega) only [go_sem, ↓reduceIte, Int.reduceToNat, Nat.reduceEqDiff, Nat.reduceAdd, Nat.reduceMul, Nat.reduceSub, Nat.reducePow, Nat.reduceLT, Nat.reduceLeDiff, Int.reduceNeg, Int.reduceEq, Int.reduceLT, Int.reduceLE, reduceCtorEq]) ?_
          rintro r hs ⟨rfl, rfl, _⟩
          refine ⟨by simp [freeN], ?_⟩
          simp (disch := omega) only [go_sem, ↓reduceIte, Int.reduceToNat, Nat.reduceEqDiff, Nat.reduceAdd, Nat.reduceMul, Nat.reduceSub, Nat.reducePow, Nat.reduceLT, Nat.reduceLeDiff, Int.reduceNeg, Int.reduceEq, Int.reduceLT, Int.reduceLE, reduceCtorEq]
          rw [etop] at h4
          refine fin_valc (by simp (disch := omega) only [go_sem, ↓reduceIte, Int.reduceToNat, Nat.reduceEqDiff, Nat.reduceAdd, Nat.reduceMul, Nat.reduceSub, Nat.reducePow, Nat.reduceLT, Nat.reduceLeDiff, Int.reduceNeg, Int.reduceEq, Int.reduceLT, Int.reduceLE, reduceCtorEq]) (by simp (disch := omega) only [go_sem, ↓reduceIte, Int.reduceToNat, Nat.reduceEqDiff, Nat.reduceAdd, Nat.reduceMul, Nat.reduceSub, Nat.reducePow, Nat.reduceLT, Nat.reduceLeDiff, Int.reduceNeg, Int.reduceEq, Int.reduceLT, Int.reduceLE, reduceCtorEq]) ⟨?_, rfl, rfl⟩
          simp [tupA, flK, flMm, flEe, flFl, h0, h4]
        · rw [etop] at h4
          have he' := he h0 (by omega)
          have hM := flM_lt h0 he'
          have eE : (if -1074 > (bl rm : Int) + re - 53 then (-1074 : Int) else (bl rm : Int) + re - 53) = flE rm re := rfl
          have eE2 : -2000000 ≤ flE rm re ∧ flE rm re ≤ 2000000 := by unfold flE flLow; split <;> omega
          have ek : oE rm re - flE rm re = (((oE rm re - flE rm re).toNat : Nat) : Int) := by omega
          have hML := len_bl hM
          simp (disch := omega) only [go_sem, ↓reduceIte, Int.reduceToNat, Nat.reduceEqDiff, Nat.reduceAdd, Nat.reduceMul, Nat.reduceSub, Nat.reducePow, Nat.reduceLT, Nat.reduceLeDiff, Int.reduceNeg, Int.reduceEq, Int.reduceLT, Int.reduceLE, reduceCtorEq, h4, etop]
          refine call_closed (con_topX (oS rs rm) (oM rm) (oE rm re) hlo (by omega)) (by simp (disch := omega) only [go_sem, ↓reduceIte, Int.reduceToNat, Nat.reduceEqDiff, Nat.reduceAdd, Nat.reduceMul, Nat.reduceSub, Nat.reducePow, Nat.reduceLT, Nat.reduceLeDiff, Int.reduceNeg, Int.reduceEq, Int.reduceLT, Int.reduceLE, reduceCtorEq]) ?_
          rintro r hs ⟨rfl, rfl, _⟩
          refine ⟨by simp [freeN], ?_⟩
          simp (disch := omega) only [go_sem, ↓reduceIte, Int.reduceToNat, Nat.reduceEqDiff, Nat.reduceAdd, Nat.reduceMul, Nat.reduceSub, Nat.reducePow, Nat.reduceLT, Nat.reduceLeDiff, Int.reduceNeg, Int.reduceEq, Int.reduceLT, Int.reduceLE, reduceCtorEq]
          simp (disch := omega) only [go_sem, ↓reduceIte, Int.reduceToNat, Nat.reduceEqDiff, Nat.reduceAdd, Nat.reduceMul, Nat.reduceSub, Nat.reducePow, Nat.reduceLT, Nat.reduceLeDiff, Int.reduceNeg, Int.reduceEq, Int.reduceLT, Int.reduceLE, reduceCtorEq, etop, eE]
          refine call_open (con_upN (oM rm) (oE rm re - flE rm re).toNat (by have := len_bl (Nat.le_trans (bl_mono (oM_le rm)) hm); omega) (by omega)) (by simp (disch := omega) only [go_sem, ↓reduceIte, Int.reduceToNat, Nat.reduceEqDiff, Nat.reduceAdd, Nat.reduceMul, Nat.reduceSub, Nat.reducePow, Nat.reduceLT, Nat.reduceLeDiff, Int.reduceNeg, Int.reduceEq, Int.reduceLT, Int.reduceLE, reduceCtorEq, etop, eE, ← ek]) ?_
          rintro r hs ⟨rfl, rfl, _⟩
          refine ⟨by simp [freeN], ?_⟩
          simp (disch := omega) only [go_sem, ↓reduceIte, Int.reduceToNat, Nat.reduceEqDiff, Nat.reduceAdd, Nat.reduceMul, Nat.reduceSub, Nat.reducePow, Nat.reduceLT, Nat.reduceLeDiff, Int.reduceNeg, Int.reduceEq, Int.reduceLT, Int.reduceLE, reduceCtorEq]
          generalize hLM : flM rm re = M at *
          have eM : oM rm * 2 ^ (oE rm re - flE rm re).toNat = M := hLM
          have hM6 : M < 2 ^ 53 := Nat.lt_of_lt_of_le (bl_lt M) (Nat.pow_le_pow_right (by omega) hM)
          have htk : ∀ i, i ≤ (lim M).length → 0 ≤ vl ((lim M).take i) ∧ vl ((lim M).take i) < 2 ^ 53 := fun i hi => by
            have h1 := vl_nonneg (gd_take (gd_lim M) i)
            have h2 := vl_take_drop (lim M) i hi
            have hp : (0 : Int) < 65536 ^ i := Int.pow_pos (by omega)
            have h3 := Int.mul_nonneg (Int.le_of_lt hp) (vl_nonneg (gd_drop (gd_lim M) i))
            rw [vl_lim] at h2
            omega
          refine loop_intro (fun i : Nat => [(0, .v (.bool s)), (8, .pt 100000000 0), (12, .v (.int .i64 5)), (13, .v (.int .i64 (flE rm re))), (14, .v (.int .i64 (vl ((lim M).take i)))), (58, .sl (lim M).length (ints (lim M))), (59, .v (.int .i64 (lim M).length)), (60, .v (.int .i64 i))])
            (fun _ => [(100000000, .own 0 [.v (.int .i64 0), .v (.bool false), .v (.int .i64 0), .v (.int .i64 0)])]) (fun i => i ≤ (lim M).length) (fun i => (lim M).length - i) 0 (by omega)
            (Le.lst [] _ _ rfl (by simp (disch := omega) only [go_sem, ↓reduceIte, Int.reduceToNat, Nat.reduceEqDiff, Nat.reduceAdd, Nat.reduceMul, Nat.reduceSub, Nat.reducePow, Nat.reduceLT, Nat.reduceLeDiff, Int.reduceNeg, Int.reduceEq, Int.reduceLT, Int.reduceLE, reduceCtorEq, etop, eE, eM, vl, List.take_zero, e5]; try omega) (by simp (disch := omega) only [go_sem, ↓reduceIte, Int.reduceToNat, Nat.reduceEqDiff, Nat.reduceAdd, Nat.reduceMul, Nat.reduceSub, Nat.reducePow, Nat.reduceLT, Nat.reduceLeDiff, Int.reduceNeg, Int.reduceEq, Int.reduceLT, Int.reduceLE, reduceCtorEq])) ?_
          intro i hi
          have hti := htk i hi
          simp (disch := omega) only [go_sem, ↓reduceIte, Int.reduceToNat, Nat.reduceEqDiff, Nat.reduceAdd, Nat.reduceMul, Nat.reduceSub, Nat.reducePow, Nat.reduceLT, Nat.reduceLeDiff, Int.reduceNeg, Int.reduceEq, Int.reduceLT, Int.reduceLE, reduceCtorEq]
          refine ifW_dec (fun h5 => ?_) (fun h5 => ?_)
          · have hti2 := htk (i + 1) (by omega)
            have hx := gd_getD (gd_lim M) i
            have hts := vl_take_succ (l := lim M) (i := i) (by omega)
            have hi3 : i ≤ 3 := by omega
            have es : (min ((16 : Int) * (i : Int)).toNat 64) = 16 * i := by omega
            have ep : (2 : Int) ^ (16 * i) = 65536 ^ i := by rw [Int.pow_mul]; rfl
            have hp : (0 : Int) < 65536 ^ i := Int.pow_pos (by omega)
            have hnn := Int.mul_nonneg (Int.le_of_lt hp) hx.1
            have hcm : (lim M).getD i 0 * 65536 ^ i = 65536 ^ i * (lim M).getD i 0 := Int.mul_comm _ _
            have hmul : 0 ≤ (lim M).getD i 0 * 65536 ^ i ∧ (lim M).getD i 0 * 65536 ^ i < 2 ^ 53 := by omega
            have eor : (((vl ((lim M).take i)).toNat ||| ((lim M).getD i 0 * 65536 ^ i).toNat : Nat) : Int) = vl ((lim M).take (i + 1)) := by
              obtain ⟨a, ha⟩ := Int.eq_ofNat_of_zero_le hti.1
              obtain ⟨b, hb⟩ := Int.eq_ofNat_of_zero_le hx.1
              have hlt := vl_lt (gd_take (gd_lim M) i)
              rw [List.length_take, Nat.min_eq_left hi] at hlt
              rw [hts, ← hcm, ha, hb]
              have e1 : (b : Int) * 65536 ^ i = ((b * 2 ^ (16 * i) : Nat) : Int) := by rw [← pow16, Int.natCast_mul, Int.natCast_pow]; rfl
              rw [e1, Int.toNat_natCast, Int.toNat_natCast, or_add, Int.natCast_add]
              rw [ha, show ((65536 : Int) ^ i) = ((2 ^ (16 * i) : Nat) : Int) by rw [← pow16, Int.natCast_pow]; rfl] at hlt
              omega
            simp (disch := omega) only [go_sem, ↓reduceIte, Int.reduceToNat, Nat.reduceEqDiff, Nat.reduceAdd, Nat.reduceMul, Nat.reduceSub, Nat.reducePow, Nat.reduceLT, Nat.reduceLeDiff, Int.reduceNeg, Int.reduceEq, Int.reduceLT, Int.reduceLE, reduceCtorEq, h5]
            simp (disch := omega) only [go_sem, ↓reduceIte, Int.reduceToNat, Nat.reduceEqDiff, Nat.reduceAdd, Nat.reduceMul, Nat.reduceSub, Nat.reducePow, Nat.reduceLT, Nat.reduceLeDiff, Int.reduceNeg, Int.reduceEq, Int.reduceLT, Int.reduceLE, reduceCtorEq, es, ep, wrap_id]
            simp (disch := omega) only [go_sem, ↓reduceIte, Int.reduceToNat, Nat.reduceEqDiff, Nat.reduceAdd, Nat.reduceMul, Nat.reduceSub, Nat.reducePow, Nat.reduceLT, Nat.reduceLeDiff, Int.reduceNeg, Int.reduceEq, Int.reduceLT, Int.reduceLE, reduceCtorEq, eor]
            refine ⟨by omega, by omega, by omega, next_intro (i + 1) [] (by show i + 1 ≤ _; omega) (by show (lim M).length - (i + 1) < (lim M).length - i; omega) rfl (by simp (disch := omega) only [go_sem, ↓reduceIte, Int.reduceToNat, Nat.reduceEqDiff, Nat.reduceAdd, Nat.reduceMul, Nat.reduceSub, Nat.reducePow, Nat.reduceLT, Nat.reduceLeDiff, Int.reduceNeg, Int.reduceEq, Int.reduceLT, Int.reduceLE, reduceCtorEq]; try omega) (by simp (disch := omega) only [go_sem, ↓reduceIte, Int.reduceToNat, Nat.reduceEqDiff, Nat.reduceAdd, Nat.reduceMul, Nat.reduceSub, Nat.reducePow, Nat.reduceLT, Nat.reduceLeDiff, Int.reduceNeg, Int.reduceEq, Int.reduceLT, Int.reduceLE, reduceCtorEq])⟩
          · have : i = (lim M).length := by omega
            subst this
            have evl : vl ((lim M).take (lim M).length) = (M : Int) := by rw [List.take_length, vl_lim]
            simp (disch := omega) only [go_sem, ↓reduceIte, Int.reduceToNat, Nat.reduceEqDiff, Nat.reduceAdd, Nat.reduceMul, Nat.reduceSub, Nat.reducePow, Nat.reduceLT, Nat.reduceLeDiff, Int.reduceNeg, Int.reduceEq, Int.reduceLT, Int.reduceLE, reduceCtorEq, h5, evl]
            refine fin_valc (by simp (disch := omega) only [go_sem, ↓reduceIte, Int.reduceToNat, Nat.reduceEqDiff, Nat.reduceAdd, Nat.reduceMul, Nat.reduceSub, Nat.reducePow, Nat.reduceLT, Nat.reduceLeDiff, Int.reduceNeg, Int.reduceEq, Int.reduceLT, Int.reduceLE, reduceCtorEq]) (by simp (disch := omega) only [go_sem, ↓reduceIte, Int.reduceToNat, Nat.reduceEqDiff, Nat.reduceAdd, Nat.reduceMul, Nat.reduceSub, Nat.reducePow, Nat.reduceLT, Nat.reduceLeDiff, Int.reduceNeg, Int.reduceEq, Int.reduceLT, Int.reduceLE, reduceCtorEq]) ⟨?_, rfl, rfl⟩
            simp [tupA, flK, flMm, flEe, flFl, h0, h4, hfl, hLM, vl_lim]
    · have hfl : flFlags top same = 1 := by unfold flFlags; rw [h1, if_neg h2]; rfl
      have e5 := (rfl : (0 : Nat) = 0)
      simp (disch := omega) only [go_sem, ↓reduceIte, Int.reduceToNat, Nat.reduceEqDiff, Nat.reduceAdd, Nat.reduceMul, Nat.reduceSub, Nat.reducePow, Nat.reduceLT, Nat.reduceLeDiff, Int.reduceNeg, Int.reduceEq, Int.reduceLT, Int.reduceLE, reduceCtorEq, h2]
      refine call_open (con_odd rs rm re (by omega) (by omega)) (by simp (disch := omega) only [go_sem, ↓reduceIte, Int.reduceToNat, Nat.reduceEqDiff, Nat.reduceAdd, Nat.reduceMul, Nat.reduceSub, Nat.reducePow, Nat.reduceLT, Nat.reduceLeDiff, Int.reduceNeg, Int.reduceEq, Int.reduceLT, Int.reduceLE, reduceCtorEq]) ?_
      rintro r hs ⟨rfl, rfl, _⟩
      refine ⟨by simp [freeN], ?_⟩
      simp (disch := omega) only [go_sem, ↓reduceIte, Int.reduceToNat, Nat.reduceEqDiff, Nat.reduceAdd, Nat.reduceMul, Nat.reduceSub, Nat.reducePow, Nat.reduceLT, Nat.reduceLeDiff, Int.reduceNeg, Int.reduceEq, Int.reduceLT, Int.reduceLE, reduceCtorEq]
      refine call_closed (con_isZero (oS rs rm) (oM rm) (oE rm re)) (by simp (disch := omega) only [go_sem, ↓reduceIte, Int.reduceToNat, Nat.reduceEqDiff, Nat.reduceAdd, Nat.reduceMul, Nat.reduceSub, Nat.reducePow, Nat.reduceLT, Nat.reduceLeDiff, Int.reduceNeg, Int.reduceEq, Int.reduceLT, Int.reduceLE, reduceCtorEq]) ?_
      rintro r hs ⟨rfl, rfl, _⟩
      refine ⟨by simp [freeN], ?_⟩
      simp (disch := omega) only [go_sem, ↓reduceIte, Int.reduceToNat, Nat.reduceEqDiff, Nat.reduceAdd, Nat.reduceMul, Nat.reduceSub, Nat.reducePow, Nat.reduceLT, Nat.reduceLeDiff, Int.reduceNeg, Int.reduceEq, Int.reduceLT, Int.reduceLE, reduceCtorEq]
      refine ifW_dec (fun h3 => ?_) (fun h3 => ?_)
      · have h0 : rm = 0 := oM_eq_zero.1 h3
        simp (disch := omega) only [go_sem, ↓reduceIte, Int.reduceToNat, Nat.reduceEqDiff, Nat.reduceAdd, Nat.reduceMul, Nat.reduceSub, Nat.reducePow, Nat.reduceLT, Nat.reduceLeDiff, Int.reduceNeg, Int.reduceEq, Int.reduceLT, Int.reduceLE, reduceCtorEq, h3]
        refine call_closed (con_zero s) (by simp (disch := omega) only [go_sem, ↓reduceIte, Int.reduceToNat, Nat.reduceEqDiff, Nat.reduceAdd, Nat.reduceMul, Nat.reduceSub, Nat.reducePow, Nat.reduceLT, Nat.reduceLeDiff, Int.reduceNeg, Int.reduceEq, Int.reduceLT, Int.reduceLE, reduceCtorEq]) ?_
        rintro r hs ⟨rfl, rfl, _⟩
        refine ⟨by simp [freeN], ?_⟩
        simp (disch := omega) only [go_sem, ↓reduceIte, Int.reduceToNat, Nat.reduceEqDiff, Nat.reduceAdd, Nat.reduceMul, Nat.reduceSub, Nat.reducePow, Nat.reduceLT, Nat.reduceLeDiff, Int.reduceNeg, Int.reduceEq, Int.reduceLT, Int.reduceLE, reduceCtorEq]
        refine fin_valc (by simp (disch := omega) only [go_sem, ↓reduceIte, Int.reduceToNat, Nat.reduceEqDiff, Nat.reduceAdd, Nat.reduceMul, Nat.reduceSub, Nat.reducePow, Nat.reduceLT, Nat.reduceLeDiff, Int.reduceNeg, Int.reduceEq, Int.reduceLT, Int.reduceLE, reduceCtorEq]) (by simp (disch := omega) only [go_sem, ↓reduceIte, Int.reduceToNat, Nat.reduceEqDiff, Nat.reduceAdd, Nat.reduceMul, Nat.reduceSub, Nat.reducePow, Nat.reduceLT, Nat.reduceLeDiff, Int.reduceNeg, Int.reduceEq, Int.reduceLT, Int.reduceLE, reduceCtorEq]) ⟨?_, rfl, rfl⟩
        simp [tupA, flK, flMm, flEe, flFl, h0, hfl]
      · have h0 : rm ≠ 0 := fun e => h3 (by rw [e]; exact oM_zero)
        have hlo : (lim (oM rm)).length ≤ 2 ^ 40 := by have := len_bl (Nat.le_trans (bl_mono (oM_le rm)) hm); omega
        have hblo := bl_oM h0
        have hoE : oE rm re = re + tz rm := by unfold oE; rw [if_neg h0]
        have etop : (if oM rm = 0 then (0 : Int) else (bl (oM rm) : Int) + oE rm re) = (bl rm : Int) + re := by rw [if_neg h3, hoE]; omega
        simp (disch := omega) only [go_sem, ↓reduceIte, Int.reduceToNat, Nat.reduceEqDiff, Nat.reduceAdd, Nat.reduceMul, Nat.reduceSub, Nat.reducePow, Nat.reduceLT, Nat.reduceLeDiff, Int.reduceNeg, Int.reduceEq, Int.reduceLT, Int.reduceLE, reduceCtorEq, h3]
        refine call_closed (con_topX (oS rs rm) (oM rm) (oE rm re) hlo (by omega)) (by simp (disch := omega) only [go_sem, ↓reduceIte, Int.reduceToNat, Nat.reduceEqDiff, Nat.reduceAdd, Nat.reduceMul, Nat.reduceSub, Nat.reducePow, Nat.reduceLT, Nat.reduceLeDiff, Int.reduceNeg, Int.reduceEq, Int.reduceLT, Int.reduceLE, reduceCtorEq]) ?_
        rintro r hs ⟨rfl, rfl, _⟩
        refine ⟨by simp [freeN], ?_⟩
        simp (disch := omega) only [go_sem, ↓reduceIte, Int.reduceToNat, Nat.reduceEqDiff, Nat.reduceAdd, Nat.reduceMul, Nat.reduceSub, Nat.reducePow, Nat.reduceLT, Nat.reduceLeDiff, Int.reduceNeg, Int.reduceEq, Int.reduceLT, Int.reduceLE, reduceCtorEq]
        refine ifW_dec (fun h4 => ?_) (fun h4 => ?_)
        · simp (disch := omega) only [go_sem, ↓reduceIte, Int.reduceToNat, Nat.reduceEqDiff, Nat.reduceAdd, Nat.reduceMul, Nat.reduceSub, Nat.reducePow, Nat.reduceLT, Nat.reduceLeDiff, Int.reduceNeg, Int.reduceEq, Int.reduceLT, Int.reduceLE, reduceCtorEq, h4, etop]
          refine call_closed (con_overflow s mode) (by simp (disch := omega) only [go_sem, ↓reduceIte, Int.reduceToNat, Nat.reduceEqDiff, Nat.reduceAdd, Nat.reduceMul, Nat.reduceSub, Nat.reducePow, Nat.reduceLT, Nat.reduceLeDiff, Int.reduceNeg, Int.reduceEq, Int.reduceLT, Int.reduceLE, reduceCtorEq]) ?_
          rintro r hs ⟨rfl, rfl, _⟩
          refine ⟨by simp [freeN], ?_⟩
          simp (disch := omega) only [go_sem, ↓reduceIte, Int.reduceToNat, Nat.reduceEqDiff, Nat.reduceAdd, Nat.reduceMul, Nat.reduceSub, Nat.reducePow, Nat.reduceLT, Nat.reduceLeDiff, Int.reduceNeg, Int.reduceEq, Int.reduceLT, Int.reduceLE, reduceCtorEq]
          rw [etop] at h4
          refine fin_valc (by simp (disch := omega) only [go_sem, ↓reduceIte, Int.reduceToNat, Nat.reduceEqDiff, Nat.reduceAdd, Nat.reduceMul, Nat.reduceSub, Nat.reducePow, Nat.reduceLT, Nat.reduceLeDiff, Int.reduceNeg, Int.reduceEq, Int.reduceLT, Int.reduceLE, reduceCtorEq]) (by simp (disch := omega) only [go_sem, ↓reduceIte, Int.reduceToNat, Nat.reduceEqDiff, Nat.reduceAdd, Nat.reduceMul, Nat.reduceSub, Nat.reducePow, Nat.reduceLT, Nat.reduceLeDiff, Int.reduceNeg, Int.reduceEq, Int.reduceLT, Int.reduceLE, reduceCtorEq]) ⟨?_, rfl, rfl⟩
          simp [tupA, flK, flMm, flEe, flFl, h0, h4]
        · rw [etop] at h4
          have he' := he h0 (by omega)
          have hM := flM_lt h0 he'
          have eE : (if -1074 > (bl rm : Int) + re - 53 then (-1074 : Int) else (bl rm : Int) + re - 53) = flE rm re := rfl
          have eE2 : -2000000 ≤ flE rm re ∧ flE rm re ≤ 2000000 := by unfold flE flLow; split <;> omega
          have ek : oE rm re - flE rm re = (((oE rm re - flE rm re).toNat : Nat) : Int) := by omega
          have hML := len_bl hM
          simp (disch := omega) only [go_sem, ↓reduceIte, Int.reduceToNat, Nat.reduceEqDiff, Nat.reduceAdd, Nat.reduceMul, Nat.reduceSub, Nat.reducePow, Nat.reduceLT, Nat.reduceLeDiff, Int.reduceNeg, Int.reduceEq, Int.reduceLT, Int.reduceLE, reduceCtorEq, h4, etop]
          refine call_closed (con_topX (oS rs rm) (oM rm) (oE rm re) hlo (by omega)) (by simp (disch := omega) only [go_sem, ↓reduceIte, Int.reduceToNat, Nat.reduceEqDiff, Nat.reduceAdd, Nat.reduceMul, Nat.reduceSub, Nat.reducePow, Nat.reduceLT, Nat.reduceLeDiff, Int.reduceNeg, Int.reduceEq, Int.reduceLT, Int.reduceLE, reduceCtorEq]) ?_
          rintro r hs ⟨rfl, rfl, _⟩
          refine ⟨by simp [freeN], ?_⟩
          simp (disch := omega) only [go_sem, ↓reduceIte, Int.reduceToNat, Nat.reduceEqDiff, Nat.reduceAdd, Nat.reduceMul, Nat.reduceSub, Nat.reducePow, Nat.reduceLT, Nat.reduceLeDiff, Int.reduceNeg, Int.reduceEq, Int.reduceLT, Int.reduceLE, reduceCtorEq]
          simp (disch := omega) only [go_sem, ↓reduceIte, Int.reduceToNat, Nat.reduceEqDiff, Nat.reduceAdd, Nat.reduceMul, Nat.reduceSub, Nat.reducePow, Nat.reduceLT, Nat.reduceLeDiff, Int.reduceNeg, Int.reduceEq, Int.reduceLT, Int.reduceLE, reduceCtorEq, etop, eE]
          refine call_open (con_upN (oM rm) (oE rm re - flE rm re).toNat (by have := len_bl (Nat.le_trans (bl_mono (oM_le rm)) hm); omega) (by omega)) (by simp (disch := omega) only [go_sem, ↓reduceIte, Int.reduceToNat, Nat.reduceEqDiff, Nat.reduceAdd, Nat.reduceMul, Nat.reduceSub, Nat.reducePow, Nat.reduceLT, Nat.reduceLeDiff, Int.reduceNeg, Int.reduceEq, Int.reduceLT, Int.reduceLE, reduceCtorEq, etop, eE, ← ek]) ?_
          rintro r hs ⟨rfl, rfl, _⟩
          refine ⟨by simp [freeN], ?_⟩
          simp (disch := omega) only [go_sem, ↓reduceIte, Int.reduceToNat, Nat.reduceEqDiff, Nat.reduceAdd, Nat.reduceMul, Nat.reduceSub, Nat.reducePow, Nat.reduceLT, Nat.reduceLeDiff, Int.reduceNeg, Int.reduceEq, Int.reduceLT, Int.reduceLE, reduceCtorEq]
          generalize hLM : flM rm re = M at *
          have eM : oM rm * 2 ^ (oE rm re - flE rm re).toNat = M := hLM
          have hM6 : M < 2 ^ 53 := Nat.lt_of_lt_of_le (bl_lt M) (Nat.pow_le_pow_right (by omega) hM)
          have htk : ∀ i, i ≤ (lim M).length → 0 ≤ vl ((lim M).take i) ∧ vl ((lim M).take i) < 2 ^ 53 := fun i hi => by
            have h1 := vl_nonneg (gd_take (gd_lim M) i)
            have h2 := vl_take_drop (lim M) i hi
            have hp : (0 : Int) < 65536 ^ i := Int.pow_pos (by omega)
            have h3 := Int.mul_nonneg (Int.le_of_lt hp) (vl_nonneg (gd_drop (gd_lim M) i))
            rw [vl_lim] at h2
            omega
          refine loop_intro (fun i : Nat => [(0, .v (.bool s)), (8, .pt 100000000 0), (12, .v (.int .i64 1)), (13, .v (.int .i64 (flE rm re))), (14, .v (.int .i64 (vl ((lim M).take i)))), (58, .sl (lim M).length (ints (lim M))), (59, .v (.int .i64 (lim M).length)), (60, .v (.int .i64 i))])
            (fun _ => [(100000000, .own 0 [.v (.int .i64 0), .v (.bool false), .v (.int .i64 0), .v (.int .i64 0)])]) (fun i => i ≤ (lim M).length) (fun i => (lim M).length - i) 0 (by omega)
            (Le.lst [] _ _ rfl (by simp (disch := omega) only [go_sem, ↓reduceIte, Int.reduceToNat, Nat.reduceEqDiff, Nat.reduceAdd, Nat.reduceMul, Nat.reduceSub, Nat.reducePow, Nat.reduceLT, Nat.reduceLeDiff, Int.reduceNeg, Int.reduceEq, Int.reduceLT, Int.reduceLE, reduceCtorEq, etop, eE, eM, vl, List.take_zero, e5]; try omega) (by simp (disch := omega) only [go_sem, ↓reduceIte, Int.reduceToNat, Nat.reduceEqDiff, Nat.reduceAdd, Nat.reduceMul, Nat.reduceSub, Nat.reducePow, Nat.reduceLT, Nat.reduceLeDiff, Int.reduceNeg, Int.reduceEq, Int.reduceLT, Int.reduceLE, reduceCtorEq])) ?_
          intro i hi
          have hti := htk i hi
          simp (disch := omega) only [go_sem, ↓reduceIte, Int.reduceToNat, Nat.reduceEqDiff, Nat.reduceAdd, Nat.reduceMul, Nat.reduceSub, Nat.reducePow, Nat.reduceLT, Nat.reduceLeDiff, Int.reduceNeg, Int.reduceEq, Int.reduceLT, Int.reduceLE, reduceCtorEq]
          refine ifW_dec (fun h5 => ?_) (fun h5 => ?_)
          · have hti2 := htk (i + 1) (by omega)
            have hx := gd_getD (gd_lim M) i
            have hts := vl_take_succ (l := lim M) (i := i) (by omega)
            have hi3 : i ≤ 3 := by omega
            have es : (min ((16 : Int) * (i : Int)).toNat 64) = 16 * i := by omega
            have ep : (2 : Int) ^ (16 * i) = 65536 ^ i := by rw [Int.pow_mul]; rfl
            have hp : (0 : Int) < 65536 ^ i := Int.pow_pos (by omega)
            have hnn := Int.mul_nonneg (Int.le_of_lt hp) hx.1
            have hcm : (lim M).getD i 0 * 65536 ^ i = 65536 ^ i * (lim M).getD i 0 := Int.mul_comm _ _
            have hmul : 0 ≤ (lim M).getD i 0 * 65536 ^ i ∧ (lim M).getD i 0 * 65536 ^ i < 2 ^ 53 := by omega
            have eor : (((vl ((lim M).take i)).toNat ||| ((lim M).getD i 0 * 65536 ^ i).toNat : Nat) : Int) = vl ((lim M).take (i + 1)) := by
              obtain ⟨a, ha⟩ := Int.eq_ofNat_of_zero_le hti.1
              obtain ⟨b, hb⟩ := Int.eq_ofNat_of_zero_le hx.1
              have hlt := vl_lt (gd_take (gd_lim M) i)
              rw [List.length_take, Nat.min_eq_left hi] at hlt
              rw [hts, ← hcm, ha, hb]
              have e1 : (b : Int) * 65536 ^ i = ((b * 2 ^ (16 * i) : Nat) : Int) := by rw [← pow16, Int.natCast_mul, Int.natCast_pow]; rfl
              rw [e1, Int.toNat_natCast, Int.toNat_natCast, or_add, Int.natCast_add]
              rw [ha, show ((65536 : Int) ^ i) = ((2 ^ (16 * i) : Nat) : Int) by rw [← pow16, Int.natCast_pow]; rfl] at hlt
              omega
            simp (disch := omega) only [go_sem, ↓reduceIte, Int.reduceToNat, Nat.reduceEqDiff, Nat.reduceAdd, Nat.reduceMul, Nat.reduceSub, Nat.reducePow, Nat.reduceLT, Nat.reduceLeDiff, Int.reduceNeg, Int.reduceEq, Int.reduceLT, Int.reduceLE, reduceCtorEq, h5]
            simp (disch := omega) only [go_sem, ↓reduceIte, Int.reduceToNat, Nat.reduceEqDiff, Nat.reduceAdd, Nat.reduceMul, Nat.reduceSub, Nat.reducePow, Nat.reduceLT, Nat.reduceLeDiff, Int.reduceNeg, Int.reduceEq, Int.reduceLT, Int.reduceLE, reduceCtorEq, es, ep, wrap_id]
            simp (disch := omega) only [go_sem, ↓reduceIte, Int.reduceToNat, Nat.reduceEqDiff, Nat.reduceAdd, Nat.reduceMul, Nat.reduceSub, Nat.reducePow, Nat.reduceLT, Nat.reduceLeDiff, Int.reduceNeg, Int.reduceEq, Int.reduceLT, Int.reduceLE, reduceCtorEq, eor]
            refine ⟨by omega, by omega, by omega, next_intro (i + 1) [] (by show i + 1 ≤ _; omega) (by show (lim M).length - (i + 1) < (lim M).length - i; omega) rfl (by simp (disch := omega) only [go_sem, ↓reduceIte, Int.reduceToNat, Nat.reduceEqDiff, Nat.reduceAdd, Nat.reduceMul, Nat.reduceSub, Nat.reducePow, Nat.reduceLT, Nat.reduceLeDiff, Int.reduceNeg, Int.reduceEq, Int.reduceLT, Int.reduceLE, reduceCtorEq]; try omega) (by simp (disch := omega) only [go_sem, ↓reduceIte, Int.reduceToNat, Nat.reduceEqDiff, Nat.reduceAdd, Nat.reduceMul, Nat.reduceSub, Nat.reducePow, Nat.reduceLT, Nat.reduceLeDiff, Int.reduceNeg, Int.reduceEq, Int.reduceLT, Int.reduceLE, reduceCtorEq])⟩
          · have : i = (lim M).length := by omega
            subst this
            have evl : vl ((lim M).take (lim M).length) = (M : Int) := by rw [List.take_length, vl_lim]
            simp (disch := omega) only [go_sem, ↓reduceIte, Int.reduceToNat, Nat.reduceEqDiff, Nat.reduceAdd, Nat.reduceMul, Nat.reduceSub, Nat.reducePow, Nat.reduceLT, Nat.reduceLeDiff, Int.reduceNeg, Int.reduceEq, Int.reduceLT, Int.reduceLE, reduceCtorEq, h5, evl]
            refine fin_valc (by simp (disch := omega) only [go_sem, ↓reduceIte, Int.reduceToNat, Nat.reduceEqDiff, Nat.reduceAdd, Nat.reduceMul, Nat.reduceSub, Nat.reducePow, Nat.reduceLT, Nat.reduceLeDiff, Int.reduceNeg, Int.reduceEq, Int.reduceLT, Int.reduceLE, reduceCtorEq]) (by simp (disch := omega) only [go_sem, ↓reduceIte, Int.reduceToNat, Nat.reduceEqDiff, Nat.reduceAdd, Nat.reduceMul, Nat.reduceSub, Nat.reducePow, Nat.reduceLT, Nat.reduceLeDiff, Int.reduceNeg, Int.reduceEq, Int.reduceLT, Int.reduceLE, reduceCtorEq]) ⟨?_, rfl, rfl⟩
            simp [tupA, flK, flMm, flEe, flFl, h0, h4, hfl, hLM, vl_lim]
  · have hfl : flFlags top same = 0 := by unfold flFlags; rw [h1, if_pos rfl]
    have e5 := (rfl : (0 : Nat) = 0)
    simp (disch := omega) only [go_sem, ↓reduceIte, Int.reduceToNat, Nat.reduceEqDiff, Nat.reduceAdd, Nat.reduceMul, Nat.reduceSub, Nat.reducePow, Nat.reduceLT, Nat.reduceLeDiff, Int.reduceNeg, Int.reduceEq, Int.reduceLT, Int.reduceLE, reduceCtorEq, h1]
    refine call_open (con_odd rs rm re (by omega) (by omega)) (by simp (disch := omega) only [go_sem, ↓reduceIte, Int.reduceToNat, Nat.reduceEqDiff, Nat.reduceAdd, Nat.reduceMul, Nat.reduceSub, Nat.reducePow, Nat.reduceLT, Nat.reduceLeDiff, Int.reduceNeg, Int.reduceEq, Int.reduceLT, Int.reduceLE, reduceCtorEq]) ?_
    rintro r hs ⟨rfl, rfl, _⟩
    refine ⟨by simp [freeN], ?_⟩
    simp (disch := omega) only [go_sem, ↓reduceIte, Int.reduceToNat, Nat.reduceEqDiff, Nat.reduceAdd, Nat.reduceMul, Nat.reduceSub, Nat.reducePow, Nat.reduceLT, Nat.reduceLeDiff, Int.reduceNeg, Int.reduceEq, Int.reduceLT, Int.reduceLE, reduceCtorEq]
    refine call_closed (con_isZero (oS rs rm) (oM rm) (oE rm re)) (by simp (disch := omega) only [go_sem, ↓reduceIte, Int.reduceToNat, Nat.reduceEqDiff, Nat.reduceAdd, Nat.reduceMul, Nat.reduceSub, Nat.reducePow, Nat.reduceLT, Nat.reduceLeDiff, Int.reduceNeg, Int.reduceEq, Int.reduceLT, Int.reduceLE, reduceCtorEq]) ?_
    rintro r hs ⟨rfl, rfl, _⟩
    refine ⟨by simp [freeN], ?_⟩
    simp (disch := omega) only [go_sem, ↓reduceIte, Int.reduceToNat, Nat.reduceEqDiff, Nat.reduceAdd, Nat.reduceMul, Nat.reduceSub, Nat.reducePow, Nat.reduceLT, Nat.reduceLeDiff, Int.reduceNeg, Int.reduceEq, Int.reduceLT, Int.reduceLE, reduceCtorEq]
    refine ifW_dec (fun h3 => ?_) (fun h3 => ?_)
    · have h0 : rm = 0 := oM_eq_zero.1 h3
      simp (disch := omega) only [go_sem, ↓reduceIte, Int.reduceToNat, Nat.reduceEqDiff, Nat.reduceAdd, Nat.reduceMul, Nat.reduceSub, Nat.reducePow, Nat.reduceLT, Nat.reduceLeDiff, Int.reduceNeg, Int.reduceEq, Int.reduceLT, Int.reduceLE, reduceCtorEq, h3]
      refine call_closed (con_zero s) (by simp (disch := omega) only [go_sem, ↓reduceIte, Int.reduceToNat, Nat.reduceEqDiff, Nat.reduceAdd, Nat.reduceMul, Nat.reduceSub, Nat.reducePow, Nat.reduceLT, Nat.reduceLeDiff, Int.reduceNeg, Int.reduceEq, Int.reduceLT, Int.reduceLE, reduceCtorEq]) ?_
      rintro r hs ⟨rfl, rfl, _⟩
      refine ⟨by simp [freeN], ?_⟩
      simp (disch := omega) only [go_sem, ↓reduceIte, Int.reduceToNat, Nat.reduceEqDiff, Nat.reduceAdd, Nat.reduceMul, Nat.reduceSub, Nat.reducePow, Nat.reduceLT, Nat.reduceLeDiff, Int.reduceNeg, Int.reduceEq, Int.reduceLT, Int.reduceLE, reduceCtorEq]
      refine fin_valc (by simp (disch := omega) only [go_sem, ↓reduceIte, Int.reduceToNat, Nat.reduceEqDiff, Nat.reduceAdd, Nat.reduceMul, Nat.reduceSub, Nat.reducePow, Nat.reduceLT, Nat.reduceLeDiff, Int.reduceNeg, Int.reduceEq, Int.reduceLT, Int.reduceLE, reduceCtorEq]) (by simp (disch := omega) only [go_sem, ↓reduceIte, Int.reduceToNat, Nat.reduceEqDiff, Nat.reduceAdd, Nat.reduceMul, Nat.reduceSub, Nat.reducePow, Nat.reduceLT, Nat.reduceLeDiff, Int.reduceNeg, Int.reduceEq, Int.reduceLT, Int.reduceLE, reduceCtorEq]) ⟨?_, rfl, rfl⟩
      simp [tupA, flK, flMm, flEe, flFl, h0, hfl]
    · have h0 : rm ≠ 0 := fun e => h3 (by rw [e]; exact oM_zero)
      have hlo : (lim (oM rm)).length ≤ 2 ^ 40 := by have := len_bl (Nat.le_trans (bl_mono (oM_le rm)) hm); omega
      have hblo := bl_oM h0
      have hoE : oE rm re = re + tz rm := by unfold oE; rw [if_neg h0]
      have etop : (if oM rm = 0 then (0 : Int) else (bl (oM rm) : Int) + oE rm re) = (bl rm : Int) + re := by rw [if_neg h3, hoE]; omega
      simp (disch := omega) only [go_sem, ↓reduceIte, Int.reduceToNat, Nat.reduceEqDiff, Nat.reduceAdd, Nat.reduceMul, Nat.reduceSub, Nat.reducePow, Nat.reduceLT, Nat.reduceLeDiff, Int.reduceNeg, Int.reduceEq, Int.reduceLT, Int.reduceLE, reduceCtorEq, h3]
      refine call_closed (con_topX (oS rs rm) (oM rm) (oE rm re) hlo (by omega)) (by simp (disch := omega) only [go_sem, ↓reduceIte, Int.reduceToNat, Nat.reduceEqDiff, Nat.reduceAdd, Nat.reduceMul, Nat.reduceSub, Nat.reducePow, Nat.reduceLT, Nat.reduceLeDiff, Int.reduceNeg, Int.reduceEq, Int.reduceLT, Int.reduceLE, reduceCtorEq]) ?_
      rintro r hs ⟨rfl, rfl, _⟩
      refine ⟨by simp [freeN], ?_⟩
      simp (disch := omega) only [go_sem, ↓reduceIte, Int.reduceToNat, Nat.reduceEqDiff, Nat.reduceAdd, Nat.reduceMul, Nat.reduceSub, Nat.reducePow, Nat.reduceLT, Nat.reduceLeDiff, Int.reduceNeg, Int.reduceEq, Int.reduceLT, Int.reduceLE, reduceCtorEq]
      refine ifW_dec (fun h4 => ?_) (fun h4 => ?_)
      · simp (disch := omega) only [go_sem, ↓reduceIte, Int.reduceToNat, Nat.reduceEqDiff, Nat.reduceAdd, Nat.reduceMul, Nat.reduceSub, Nat.reducePow, Nat.reduceLT, Nat.reduceLeDiff, Int.reduceNeg, Int.reduceEq, Int.reduceLT, Int.reduceLE, reduceCtorEq, h4, etop]
        refine call_closed (con_overflow s mode) (by simp (disch := omega) only [go_sem, ↓reduceIte, Int.reduceToNat, Nat.reduceEqDiff, Nat.reduceAdd, Nat.reduceMul, Nat.reduceSub, Nat.reducePow, Nat.reduceLT, Nat.reduceLeDiff, Int.reduceNeg, Int.reduceEq, Int.reduceLT, Int.reduceLE, reduceCtorEq]) ?_
        rintro r hs ⟨rfl, rfl, _⟩
        refine ⟨by simp [freeN], ?_⟩
        simp (disch := omega) only [go_sem, ↓reduceIte, Int.reduceToNat, Nat.reduceEqDiff, Nat.reduceAdd, Nat.reduceMul, Nat.reduceSub, Nat.reducePow, Nat.reduceLT, Nat.reduceLeDiff, Int.reduceNeg, Int.reduceEq, Int.reduceLT, Int.reduceLE, reduceCtorEq]
        rw [etop] at h4
        refine fin_valc (by simp (disch := omega) only [go_sem, ↓reduceIte, Int.reduceToNat, Nat.reduceEqDiff, Nat.reduceAdd, Nat.reduceMul, Nat.reduceSub, Nat.reducePow, Nat.reduceLT, Nat.reduceLeDiff, Int.reduceNeg, Int.reduceEq, Int.reduceLT, Int.reduceLE, reduceCtorEq]) (by simp (disch := omega) only [go_sem, ↓reduceIte, Int.reduceToNat, Nat.reduceEqDiff, Nat.reduceAdd, Nat.reduceMul, Nat.reduceSub, Nat.reducePow, Nat.reduceLT, Nat.reduceLeDiff, Int.reduceNeg, Int.reduceEq, Int.reduceLT, Int.reduceLE, reduceCtorEq]) ⟨?_, rfl, rfl⟩
        simp [tupA, flK, flMm, flEe, flFl, h0, h4]
      · rw [etop] at h4
        have he' := he h0 (by omega)
        have hM := flM_lt h0 he'
        have eE : (if -1074 > (bl rm : Int) + re - 53 then (-1074 : Int) else (bl rm : Int) + re - 53) = flE rm re := rfl
        have eE2 : -2000000 ≤ flE rm re ∧ flE rm re ≤ 2000000 := by unfold flE flLow; split <;> omega
        have ek : oE rm re - flE rm re = (((oE rm re - flE rm re).toNat : Nat) : Int) := by omega
        have hML := len_bl hM
        simp (disch := omega) only [go_sem, ↓reduceIte, Int.reduceToNat, Nat.reduceEqDiff, Nat.reduceAdd, Nat.reduceMul, Nat.reduceSub, Nat.reducePow, Nat.reduceLT, Nat.reduceLeDiff, Int.reduceNeg, Int.reduceEq, Int.reduceLT, Int.reduceLE, reduceCtorEq, h4, etop]
        refine call_closed (con_topX (oS rs rm) (oM rm) (oE rm re) hlo (by omega)) (by simp (disch := omega) only [go_sem, ↓reduceIte, Int.reduceToNat, Nat.reduceEqDiff, Nat.reduceAdd, Nat.reduceMul, Nat.reduceSub, Nat.reducePow, Nat.reduceLT, Nat.reduceLeDiff, Int.reduceNeg, Int.reduceEq, Int.reduceLT, Int.reduceLE, reduceCtorEq]) ?_
        rintro r hs ⟨rfl, rfl, _⟩
        refine ⟨by simp [freeN], ?_⟩
        simp (disch := omega) only [go_sem, ↓reduceIte, Int.reduceToNat, Nat.reduceEqDiff, Nat.reduceAdd, Nat.reduceMul, Nat.reduceSub, Nat.reducePow, Nat.reduceLT, Nat.reduceLeDiff, Int.reduceNeg, Int.reduceEq, Int.reduceLT, Int.reduceLE, reduceCtorEq]
        simp (disch := omega) only [go_sem, ↓reduceIte, Int.reduceToNat, Nat.reduceEqDiff, Nat.reduceAdd, Nat.reduceMul, Nat.reduceSub, Nat.reducePow, Nat.reduceLT, Nat.reduceLeDiff, Int.reduceNeg, Int.reduceEq, Int.reduceLT, Int.reduceLE, reduceCtorEq, etop, eE]
        refine call_open (con_upN (oM rm) (oE rm re - flE rm re).toNat (by have := len_bl (Nat.le_trans (bl_mono (oM_le rm)) hm); omega) (by omega)) (by simp (disch := omega) only [go_sem, ↓reduceIte, Int.reduceToNat, Nat.reduceEqDiff, Nat.reduceAdd, Nat.reduceMul, Nat.reduceSub, Nat.reducePow, Nat.reduceLT, Nat.reduceLeDiff, Int.reduceNeg, Int.reduceEq, Int.reduceLT, Int.reduceLE, reduceCtorEq, etop, eE, ← ek]) ?_
        rintro r hs ⟨rfl, rfl, _⟩
        refine ⟨by simp [freeN], ?_⟩
        simp (disch := omega) only [go_sem, ↓reduceIte, Int.reduceToNat, Nat.reduceEqDiff, Nat.reduceAdd, Nat.reduceMul, Nat.reduceSub, Nat.reducePow, Nat.reduceLT, Nat.reduceLeDiff, Int.reduceNeg, Int.reduceEq, Int.reduceLT, Int.reduceLE, reduceCtorEq]
        generalize hLM : flM rm re = M at *
        have eM : oM rm * 2 ^ (oE rm re - flE rm re).toNat = M := hLM
        have hM6 : M < 2 ^ 53 := Nat.lt_of_lt_of_le (bl_lt M) (Nat.pow_le_pow_right (by omega) hM)
        have htk : ∀ i, i ≤ (lim M).length → 0 ≤ vl ((lim M).take i) ∧ vl ((lim M).take i) < 2 ^ 53 := fun i hi => by
          have h1 := vl_nonneg (gd_take (gd_lim M) i)
          have h2 := vl_take_drop (lim M) i hi
          have hp : (0 : Int) < 65536 ^ i := Int.pow_pos (by omega)
          have h3 := Int.mul_nonneg (Int.le_of_lt hp) (vl_nonneg (gd_drop (gd_lim M) i))
          rw [vl_lim] at h2
          omega
        refine loop_intro (fun i : Nat => [(0, .v (.bool s)), (8, .pt 100000000 0), (12, .v (.int .i64 0)), (13, .v (.int .i64 (flE rm re))), (14, .v (.int .i64 (vl ((lim M).take i)))), (58, .sl (lim M).length (ints (lim M))), (59, .v (.int .i64 (lim M).length)), (60, .v (.int .i64 i))])
          (fun _ => [(100000000, .own 0 [.v (.int .i64 0), .v (.bool false), .v (.int .i64 0), .v (.int .i64 0)])]) (fun i => i ≤ (lim M).length) (fun i => (lim M).length - i) 0 (by omega)
          (Le.lst [] _ _ rfl (by simp (disch := omega) only [go_sem, ↓reduceIte, Int.reduceToNat, Nat.reduceEqDiff, Nat.reduceAdd, Nat.reduceMul, Nat.reduceSub, Nat.reducePow, Nat.reduceLT, Nat.reduceLeDiff, Int.reduceNeg, Int.reduceEq, Int.reduceLT, Int.reduceLE, reduceCtorEq, etop, eE, eM, vl, List.take_zero, e5]; try omega) (by simp (disch := omega) only [go_sem, ↓reduceIte, Int.reduceToNat, Nat.reduceEqDiff, Nat.reduceAdd, Nat.reduceMul, Nat.reduceSub, Nat.reducePow, Nat.reduceLT, Nat.reduceLeDiff, Int.reduceNeg, Int.reduceEq, Int.reduceLT, Int.reduceLE, reduceCtorEq])) ?_
        intro i hi
        have hti := htk i hi
        simp (disch := omega) only [go_sem, ↓reduceIte, Int.reduceToNat, Nat.reduceEqDiff, Nat.reduceAdd, Nat.reduceMul, Nat.reduceSub, Nat.reducePow, Nat.reduceLT, Nat.reduceLeDiff, Int.reduceNeg, Int.reduceEq, Int.reduceLT, Int.reduceLE, reduceCtorEq]
        refine ifW_dec (fun h5 => ?_) (fun h5 => ?_)
        · have hti2 := htk (i + 1) (by omega)
          have hx := gd_getD (gd_lim M) i
          have hts := vl_take_succ (l := lim M) (i := i) (by omega)
          have hi3 : i ≤ 3 := by omega
          have es : (min ((16 : Int) * (i : Int)).toNat 64) = 16 * i := by omega
          have ep : (2 : Int) ^ (16 * i) = 65536 ^ i := by rw [Int.pow_mul]; rfl
          have hp : (0 : Int) < 65536 ^ i := Int.pow_pos (by omega)
          have hnn := Int.mul_nonneg (Int.le_of_lt hp) hx.1
          have hcm : (lim M).getD i 0 * 65536 ^ i = 65536 ^ i * (lim M).getD i 0 := Int.mul_comm _ _
          have hmul : 0 ≤ (lim M).getD i 0 * 65536 ^ i ∧ (lim M).getD i 0 * 65536 ^ i < 2 ^ 53 := by omega
          have eor : (((vl ((lim M).take i)).toNat ||| ((lim M).getD i 0 * 65536 ^ i).toNat : Nat) : Int) = vl ((lim M).take (i + 1)) := by
            obtain ⟨a, ha⟩ := Int.eq_ofNat_of_zero_le hti.1
            obtain ⟨b, hb⟩ := Int.eq_ofNat_of_zero_le hx.1
            have hlt := vl_lt (gd_take (gd_lim M) i)
            rw [List.length_take, Nat.min_eq_left hi] at hlt
            rw [hts, ← hcm, ha, hb]
            have e1 : (b : Int) * 65536 ^ i = ((b * 2 ^ (16 * i) : Nat) : Int) := by rw [← pow16, Int.natCast_mul, Int.natCast_pow]; rfl
            rw [e1, Int.toNat_natCast, Int.toNat_natCast, or_add, Int.natCast_add]
            rw [ha, show ((65536 : Int) ^ i) = ((2 ^ (16 * i) : Nat) : Int) by rw [← pow16, Int.natCast_pow]; rfl] at hlt
            omega
          simp (disch := omega) only [go_sem, ↓reduceIte, Int.reduceToNat, Nat.reduceEqDiff, Nat.reduceAdd, Nat.reduceMul, Nat.reduceSub, Nat.reducePow, Nat.reduceLT, Nat.reduceLeDiff, Int.reduceNeg, Int.reduceEq, Int.reduceLT, Int.reduceLE, reduceCtorEq, h5]
          simp (disch := omega) only [go_sem, ↓reduceIte, Int.reduceToNat, Nat.reduceEqDiff, Nat.reduceAdd, Nat.reduceMul, Nat.reduceSub, Nat.reducePow, Nat.reduceLT, Nat.reduceLeDiff, Int.reduceNeg, Int.reduceEq, Int.reduceLT, Int.reduceLE, reduceCtorEq, es, ep, wrap_id]
          simp (disch := omega) only [go_sem, ↓reduceIte, Int.reduceToNat, Nat.reduceEqDiff, Nat.reduceAdd, Nat.reduceMul, Nat.reduceSub, Nat.reducePow, Nat.reduceLT, Nat.reduceLeDiff, Int.reduceNeg, Int.reduceEq, Int.reduceLT, Int.reduceLE, reduceCtorEq, eor]
          refine ⟨by omega, by omega, by omega, next_intro (i + 1) [] (by show i + 1 ≤ _; omega) (by show (lim M).length - (i + 1) < (lim M).length - i; omega) rfl (by simp (disch := omega) only [go_sem, ↓reduceIte, Int.reduceToNat, Nat.reduceEqDiff, Nat.reduceAdd, Nat.reduceMul, Nat.reduceSub, Nat.reducePow, Nat.reduceLT, Nat.reduceLeDiff, Int.reduceNeg, Int.reduceEq, Int.reduceLT, Int.reduceLE, reduceCtorEq]; try omega) (by simp (disch := omega) only [go_sem, ↓reduceIte, Int.reduceToNat, Nat.reduceEqDiff, Nat.reduceAdd, Nat.reduceMul, Nat.reduceSub, Nat.reducePow, Nat.reduceLT, Nat.reduceLeDiff, Int.reduceNeg, Int.reduceEq, Int.reduceLT, Int.reduceLE, reduceCtorEq])⟩
        · have : i = (lim M).length := by omega
          subst this
          have evl : vl ((lim M).take (lim M).length) = (M : Int) := by rw [List.take_length, vl_lim]
          simp (disch := omega) only [go_sem, ↓reduceIte, Int.reduceToNat, Nat.reduceEqDiff, Nat.reduceAdd, Nat.reduceMul, Nat.reduceSub, Nat.reducePow, Nat.reduceLT, Nat.reduceLeDiff, Int.reduceNeg, Int.reduceEq, Int.reduceLT, Int.reduceLE, reduceCtorEq, h5, evl]
          refine fin_valc (by simp (disch := omega) only [go_sem, ↓reduceIte, Int.reduceToNat, Nat.reduceEqDiff, Nat.reduceAdd, Nat.reduceMul, Nat.reduceSub, Nat.reducePow, Nat.reduceLT, Nat.reduceLeDiff, Int.reduceNeg, Int.reduceEq, Int.reduceLT, Int.reduceLE, reduceCtorEq]) (by simp (disch := omega) only [go_sem, ↓reduceIte, Int.reduceToNat, Nat.reduceEqDiff, Nat.reduceAdd, Nat.reduceMul, Nat.reduceSub, Nat.reducePow, Nat.reduceLT, Nat.reduceLeDiff, Int.reduceNeg, Int.reduceEq, Int.reduceLT, Int.reduceLE, reduceCtorEq]) ⟨?_, rfl, rfl⟩
          simp [tupA, flK, flMm, flEe, flFl, h0, h4, hfl, hLM, vl_lim]
end Go.Ab
namespace Go.Ab
open Go
set_option linter.unusedVariables false

/-- Rows of things of several cells. -/
def rowA {X : Type} (f : X → List AV) (l : List X) : List AV := (l.map f).flatten

section
variable {X : Type} {f : X → List AV} {z : Nat} {l : List X}

theorem row_nil : rowA f [] = [] := by simp [rowA]
theorem row_cons {x : X} : rowA f (x :: l) = f x ++ rowA f l := by simp [rowA]
theorem row_len (hz : ∀ x, (f x).length = z) : (rowA f l).length = l.length * z := by
  induction l with
  | nil => simp [rowA]
  | cons x r ih => rw [row_cons, List.length_append, hz, ih, List.length_cons, Nat.add_mul, Nat.one_mul, Nat.add_comm]
theorem row_drop (hz : ∀ x, (f x).length = z) (i : Nat) : (rowA f l).drop (i * z) = rowA f (l.drop i) := by
  induction l generalizing i with
  | nil => simp [rowA]
  | cons x r ih =>
    cases i with
    | zero => simp
    | succ i =>
      rw [row_cons, List.drop_succ_cons, ← ih, Nat.add_mul, Nat.one_mul, Nat.add_comm, ← List.drop_drop, List.drop_left' (hz x)]
theorem row_take (hz : ∀ x, (f x).length = z) (i : Nat) : (rowA f l).take (i * z) = rowA f (l.take i) := by
  induction l generalizing i with
  | nil => simp [rowA]
  | cons x r ih =>
    cases i with
    | zero => simp [row_nil]
    | succ i =>
      rw [row_cons, List.take_succ_cons, row_cons, ← ih, Nat.add_mul, Nat.one_mul, Nat.add_comm, ← hz x, List.take_length_add_append]
theorem row_cut (hz : ∀ x, (f x).length = z) (o n : Nat) : cut (rowA f l) (o * z) (n * z) = rowA f ((l.drop o).take n) := by
  rw [cut, row_drop hz, row_take hz]
theorem row_get (hz : ∀ x, (f x).length = z) {i : Nat} (hi : i < l.length) (d : X) : cut (rowA f l) (i * z) z = f (l.getD i d) := by
  have h := row_cut (l := l) hz i 1
  rw [Nat.one_mul] at h
  have e : (l.drop i).take 1 = [l.getD i d] := by
    rw [List.drop_eq_getElem_cons hi, List.getD_eq_getElem?_getD, List.getElem?_eq_getElem hi]; rfl
  rw [h, e, row_cons, row_nil, List.append_nil]
theorem row_ren {ρ : Nat → Nat} (h : ∀ x, renL ρ (f x) = f x) : renL ρ (rowA f l) = rowA f l := by
  induction l with
  | nil => rfl
  | cons x r ih =>
    rw [row_cons]
    have : ∀ a b : List AV, renL ρ (a ++ b) = renL ρ a ++ renL ρ b := fun a b => by simp [renL_map]
    rw [this, h, ih]
theorem row_snap {hp : Nat → Ob} {k : Nat} (h : ∀ x, (f x).map (snap hp k) = f x) : (rowA f l).map (snap hp k) = rowA f l := by
  induction l with
  | nil => rfl
  | cons x r ih => rw [row_cons, List.map_append, h, ih]
theorem row_all {p : Nat → Prop} (h : ∀ x, AllL p (f x)) : AllL p (rowA f l) := by
  induction l with
  | nil => simp [rowA, AllL]
  | cons x r ih => rw [row_cons]; exact AllL.append (h x) ih
theorem load_row {h : Nat → Ob} {sz o : Nat} {K : AV → Prop} : @loadW true sz h (.fp (rowA f l) o) ⟨K⟩ = (o + sz ≤ (rowA f l).length ∧ K (.ag (cut (rowA f l) o sz))) := _root_.id rfl
theorem row_app {l' : List X} : rowA f l ++ rowA f l' = rowA f (l ++ l') := by simp [rowA]
end

/-- A float, as it stands in memory. -/
structure FlV where
  k : Int
  s : Bool
  m : Int
  e : Int

def FlV.cs (x : FlV) : List AV := [.v (.int .i64 x.k), .v (.bool x.s), .v (.int .i64 x.m), .v (.int .i64 x.e)]
theorem fl_cs4 (x : FlV) : x.cs.length = 4 := rfl
theorem fl_ren {ρ : Nat → Nat} (x : FlV) : renL ρ x.cs = x.cs := rfl
theorem fl_snap {hp : Nat → Ob} {k : Nat} (x : FlV) : x.cs.map (snap hp (k + 1)) = x.cs := rfl
theorem fl_all {p : Nat → Prop} (x : FlV) : AllL p x.cs := by simp [FlV.cs, AllL, AV.All]

theorem fls_len {l : List FlV} : (rowA FlV.cs l).length = l.length * 4 := row_len fl_cs4
theorem fls_ren {ρ : Nat → Nat} {l : List FlV} : renL ρ (rowA FlV.cs l) = rowA FlV.cs l := row_ren fl_ren
theorem fls_snap {hp : Nat → Ob} {k : Nat} {l : List FlV} : (rowA FlV.cs l).map (snap hp (k + 1)) = rowA FlV.cs l := row_snap fl_snap
theorem fls_all {p : Nat → Prop} {l : List FlV} : AllL p (rowA FlV.cs l) = True := eq_true (row_all fl_all)
theorem fls_all' {p : Nat → Prop} {x : FlV} : AllL p x.cs = True := eq_true (fl_all x)

attribute [go_sem] load_row fls_len fls_ren fls_snap fls_all fls_all' fl_ren fl_snap
end Go.Ab
namespace Go.Ab
open Go Go.Proofs
set_option linter.unusedVariables false
set_option linter.unusedSimpArgs false

section
variable (g : Nat) (p : FlV → Bool)

theorem con_allFl1 (x : FlV) (hf : Con Tryd.prog g true [.ag x.cs] [] (isA (.v (.bool (p x))))) (hg : fnOk Tryd.prog g = True) :
    Con Tryd.prog 84 true [.ag x.cs, .fp [.fn g []] 0] [] (isA (.v (.bool (!p x)))) := by
  unfold FlV.cs at hf ⊢
  refine Con.of_aw Tryd.func84 rfl Tryd.ntmps84 (by simp) (by simp) (by simp) (W.sound ?_)
  show @W Tryd.prog 8 ⟨_⟩ ⟨fun x σ => @retW _ _ _ ⟨_⟩ _ ⟨_⟩ x σ⟩ _ _
  simp (disch := omega) only [go_sem, ↓reduceIte, Int.reduceToNat, Nat.reduceEqDiff, Nat.reduceAdd, Nat.reduceMul, Nat.reduceSub, Nat.reducePow, Nat.reduceLT, Nat.reduceLeDiff, Int.reduceNeg, Int.reduceEq, Int.reduceLT, Int.reduceLE, reduceCtorEq, hg]
  refine call_closed hf (by simp (disch := omega) only [go_sem, ↓reduceIte, Int.reduceToNat, Nat.reduceEqDiff, Nat.reduceAdd, Nat.reduceMul, Nat.reduceSub, Nat.reducePow, Nat.reduceLT, Nat.reduceLeDiff, Int.reduceNeg, Int.reduceEq, Int.reduceLT, Int.reduceLE, reduceCtorEq]) ?_
  rintro r hs ⟨rfl, rfl, _⟩
  refine ⟨by simp [freeN], ?_⟩
  simp (disch := omega) only [go_sem, ↓reduceIte, Int.reduceToNat, Nat.reduceEqDiff, Nat.reduceAdd, Nat.reduceMul, Nat.reduceSub, Nat.reducePow, Nat.reduceLT, Nat.reduceLeDiff, Int.reduceNeg, Int.reduceEq, Int.reduceLT, Int.reduceLE, reduceCtorEq]
  exact fin_valc (by simp (disch := omega) only [go_sem, ↓reduceIte, Int.reduceToNat, Nat.reduceEqDiff, Nat.reduceAdd, Nat.reduceMul, Nat.reduceSub, Nat.reducePow, Nat.reduceLT, Nat.reduceLeDiff, Int.reduceNeg, Int.reduceEq, Int.reduceLT, Int.reduceLE, reduceCtorEq]) (by simp (disch := omega) only [go_sem, ↓reduceIte, Int.reduceToNat, Nat.reduceEqDiff, Nat.reduceAdd, Nat.reduceMul, Nat.reduceSub, Nat.reducePow, Nat.reduceLT, Nat.reduceLeDiff, Int.reduceNeg, Int.reduceEq, Int.reduceLT, Int.reduceLE, reduceCtorEq]) isA_mk

theorem con_indexFl (f : Nat) (caps : List AV) (xs : List FlV) (hl : xs.length ≤ 2 ^ 40) (hf : ∀ x : FlV, Con Tryd.prog f true (.ag x.cs :: caps) [] (isA (.v (.bool (p x))))) (hg : fnOk Tryd.prog f = True)
    (hc : ∀ h : Nat → Ob, caps.map (snap h 6) = caps) (hc5 : ∀ h : Nat → Ob, caps.map (snap h 5) = caps) (hn : ∀ ks, AllL (memK ks) caps) (hr : ∀ ρ, renL ρ caps = caps) :
    Con Tryd.prog 95 true [.sl xs.length (rowA FlV.cs xs), .fn f caps] [] (fun r hs bs => ∃ i : Int, r = .v (.int .i64 i) ∧ hs = [] ∧ (0 ≤ i ↔ ∃ x ∈ xs, p x = true)) := by
  refine Con.of_aw Tryd.func95 rfl Tryd.ntmps95 (by simp) (by simp) (by simp) (W.sound ?_)
  show @W Tryd.prog 19 ⟨_⟩ ⟨fun x σ => @retW _ _ _ ⟨_⟩ _ ⟨_⟩ x σ⟩ _ _
  simp (disch := omega) only [go_sem, ↓reduceIte, Int.reduceToNat, Nat.reduceEqDiff, Nat.reduceAdd, Nat.reduceMul, Nat.reduceSub, Nat.reducePow, Nat.reduceLT, Nat.reduceLeDiff, Int.reduceNeg, Int.reduceEq, Int.reduceLT, Int.reduceLE, reduceCtorEq]
  refine loop_intro (fun i : Nat => [(0, .sl xs.length (rowA FlV.cs xs)), (1, .fn f caps), (6, .sl xs.length (rowA FlV.cs xs)), (7, .v (.int .i64 xs.length)), (8, .v (.int .i64 i))])
    (fun _ => []) (fun i => i ≤ xs.length ∧ ∀ j, j < i → p (xs.getD j ⟨0, false, 0, 0⟩) = false) (fun i => xs.length - i) 0 ⟨by omega, fun j hj => by omega⟩ (Le.lst [] _ _ rfl (by simp (disch := omega) only [go_sem, ↓reduceIte, Int.reduceToNat, Nat.reduceEqDiff, Nat.reduceAdd, Nat.reduceMul, Nat.reduceSub, Nat.reducePow, Nat.reduceLT, Nat.reduceLeDiff, Int.reduceNeg, Int.reduceEq, Int.reduceLT, Int.reduceLE, reduceCtorEq, hr, hn]) (by simp (disch := omega) only [go_sem, ↓reduceIte, Int.reduceToNat, Nat.reduceEqDiff, Nat.reduceAdd, Nat.reduceMul, Nat.reduceSub, Nat.reducePow, Nat.reduceLT, Nat.reduceLeDiff, Int.reduceNeg, Int.reduceEq, Int.reduceLT, Int.reduceLE, reduceCtorEq])) ?_
  rintro i ⟨hi, hp⟩
  simp (disch := omega) only [go_sem, ↓reduceIte, Int.reduceToNat, Nat.reduceEqDiff, Nat.reduceAdd, Nat.reduceMul, Nat.reduceSub, Nat.reducePow, Nat.reduceLT, Nat.reduceLeDiff, Int.reduceNeg, Int.reduceEq, Int.reduceLT, Int.reduceLE, reduceCtorEq]
  refine ifW_dec (fun h1 => ?_) (fun h1 => ?_)
  · have hcut := row_get (l := xs) fl_cs4 (i := i) (by omega) ⟨0, false, 0, 0⟩
    simp (disch := omega) only [go_sem, ↓reduceIte, Int.reduceToNat, Nat.reduceEqDiff, Nat.reduceAdd, Nat.reduceMul, Nat.reduceSub, Nat.reducePow, Nat.reduceLT, Nat.reduceLeDiff, Int.reduceNeg, Int.reduceEq, Int.reduceLT, Int.reduceLE, reduceCtorEq, h1, hcut, hg]
    refine ⟨by omega, by omega, call_closed (hf (xs.getD i ⟨0, false, 0, 0⟩)) (by simp (disch := omega) only [go_sem, ↓reduceIte, Int.reduceToNat, Nat.reduceEqDiff, Nat.reduceAdd, Nat.reduceMul, Nat.reduceSub, Nat.reducePow, Nat.reduceLT, Nat.reduceLeDiff, Int.reduceNeg, Int.reduceEq, Int.reduceLT, Int.reduceLE, reduceCtorEq, hc, hc5]) ?_⟩
    rintro r hs ⟨rfl, rfl, _⟩
    refine ⟨by simp [freeN], ?_⟩
    simp (disch := omega) only [go_sem, ↓reduceIte, Int.reduceToNat, Nat.reduceEqDiff, Nat.reduceAdd, Nat.reduceMul, Nat.reduceSub, Nat.reducePow, Nat.reduceLT, Nat.reduceLeDiff, Int.reduceNeg, Int.reduceEq, Int.reduceLT, Int.reduceLE, reduceCtorEq]
    refine ifW_b (fun h2 => ?_) (fun h2 => ?_)
    · simp (disch := omega) only [go_sem, ↓reduceIte, Int.reduceToNat, Nat.reduceEqDiff, Nat.reduceAdd, Nat.reduceMul, Nat.reduceSub, Nat.reducePow, Nat.reduceLT, Nat.reduceLeDiff, Int.reduceNeg, Int.reduceEq, Int.reduceLT, Int.reduceLE, reduceCtorEq, h2]
      refine fin_valc (by simp (disch := omega) only [go_sem, ↓reduceIte, Int.reduceToNat, Nat.reduceEqDiff, Nat.reduceAdd, Nat.reduceMul, Nat.reduceSub, Nat.reducePow, Nat.reduceLT, Nat.reduceLeDiff, Int.reduceNeg, Int.reduceEq, Int.reduceLT, Int.reduceLE, reduceCtorEq]) (by simp (disch := omega) only [go_sem, ↓reduceIte, Int.reduceToNat, Nat.reduceEqDiff, Nat.reduceAdd, Nat.reduceMul, Nat.reduceSub, Nat.reducePow, Nat.reduceLT, Nat.reduceLeDiff, Int.reduceNeg, Int.reduceEq, Int.reduceLT, Int.reduceLE, reduceCtorEq]) ⟨i, rfl, rfl, ?_⟩
      refine ⟨fun _ => ⟨_, ?_, h2⟩, fun _ => by omega⟩
      rw [List.getD_eq_getElem?_getD, List.getElem?_eq_getElem (by omega)]; exact List.getElem_mem _
    · simp (disch := omega) only [go_sem, ↓reduceIte, Int.reduceToNat, Nat.reduceEqDiff, Nat.reduceAdd, Nat.reduceMul, Nat.reduceSub, Nat.reducePow, Nat.reduceLT, Nat.reduceLeDiff, Int.reduceNeg, Int.reduceEq, Int.reduceLT, Int.reduceLE, reduceCtorEq, h2]
      refine next_intro (i + 1) [] ⟨by omega, fun j hj => ?_⟩ (by show xs.length - (i + 1) < xs.length - i; omega) rfl (by simp (disch := omega) only [go_sem, ↓reduceIte, Int.reduceToNat, Nat.reduceEqDiff, Nat.reduceAdd, Nat.reduceMul, Nat.reduceSub, Nat.reducePow, Nat.reduceLT, Nat.reduceLeDiff, Int.reduceNeg, Int.reduceEq, Int.reduceLT, Int.reduceLE, reduceCtorEq, hr, hn]; try omega) (by simp (disch := omega) only [go_sem, ↓reduceIte, Int.reduceToNat, Nat.reduceEqDiff, Nat.reduceAdd, Nat.reduceMul, Nat.reduceSub, Nat.reducePow, Nat.reduceLT, Nat.reduceLeDiff, Int.reduceNeg, Int.reduceEq, Int.reduceLT, Int.reduceLE, reduceCtorEq])
      rcases (by omega : j < i ∨ j = i) with h | h
      · exact hp j h
      · subst h; exact h2
  · simp (disch := omega) only [go_sem, ↓reduceIte, Int.reduceToNat, Nat.reduceEqDiff, Nat.reduceAdd, Nat.reduceMul, Nat.reduceSub, Nat.reducePow, Nat.reduceLT, Nat.reduceLeDiff, Int.reduceNeg, Int.reduceEq, Int.reduceLT, Int.reduceLE, reduceCtorEq, h1]
    refine fin_valc (by simp (disch := omega) only [go_sem, ↓reduceIte, Int.reduceToNat, Nat.reduceEqDiff, Nat.reduceAdd, Nat.reduceMul, Nat.reduceSub, Nat.reducePow, Nat.reduceLT, Nat.reduceLeDiff, Int.reduceNeg, Int.reduceEq, Int.reduceLT, Int.reduceLE, reduceCtorEq]) (by simp (disch := omega) only [go_sem, ↓reduceIte, Int.reduceToNat, Nat.reduceEqDiff, Nat.reduceAdd, Nat.reduceMul, Nat.reduceSub, Nat.reducePow, Nat.reduceLT, Nat.reduceLeDiff, Int.reduceNeg, Int.reduceEq, Int.reduceLT, Int.reduceLE, reduceCtorEq]) ⟨-1, rfl, rfl, ?_⟩
    refine ⟨fun h => by omega, fun ⟨x, hx, hpx⟩ => ?_⟩
    obtain ⟨j, hj, rfl⟩ := List.getElem_of_mem hx
    have := hp j (by omega)
    rw [List.getD_eq_getElem?_getD, List.getElem?_eq_getElem hj] at this
    simp only [Option.getD_some] at this
    rw [this] at hpx; cases hpx

theorem con_containsFl (f : Nat) (caps : List AV) (xs : List FlV) (hl : xs.length ≤ 2 ^ 40) (hf : ∀ x : FlV, Con Tryd.prog f true (.ag x.cs :: caps) [] (isA (.v (.bool (p x))))) (hg : fnOk Tryd.prog f = True)
    (hc : ∀ h : Nat → Ob, caps.map (snap h 6) = caps) (hc5 : ∀ h : Nat → Ob, caps.map (snap h 5) = caps) (hn : ∀ ks, AllL (memK ks) caps) (hr : ∀ ρ, renL ρ caps = caps) :
    Con Tryd.prog 83 true [.sl xs.length (rowA FlV.cs xs), .fn f caps] [] (isA (.v (.bool (xs.any p)))) := by
  refine Con.of_aw Tryd.func83 rfl Tryd.ntmps83 (by simp) (by simp) (by simp) (W.sound ?_)
  show @W Tryd.prog 9 ⟨_⟩ ⟨fun x σ => @retW _ _ _ ⟨_⟩ _ ⟨_⟩ x σ⟩ _ _
  simp (disch := omega) only [go_sem, ↓reduceIte, Int.reduceToNat, Nat.reduceEqDiff, Nat.reduceAdd, Nat.reduceMul, Nat.reduceSub, Nat.reducePow, Nat.reduceLT, Nat.reduceLeDiff, Int.reduceNeg, Int.reduceEq, Int.reduceLT, Int.reduceLE, reduceCtorEq]
  refine call_closed (con_indexFl p f caps xs hl hf hg hc hc5 hn hr) (by simp (disch := omega) only [go_sem, ↓reduceIte, Int.reduceToNat, Nat.reduceEqDiff, Nat.reduceAdd, Nat.reduceMul, Nat.reduceSub, Nat.reducePow, Nat.reduceLT, Nat.reduceLeDiff, Int.reduceNeg, Int.reduceEq, Int.reduceLT, Int.reduceLE, reduceCtorEq, hc, hc5]) ?_
  rintro r hs ⟨i, rfl, rfl, hi⟩
  refine ⟨by simp [freeN], ?_⟩
  simp (disch := omega) only [go_sem, ↓reduceIte, Int.reduceToNat, Nat.reduceEqDiff, Nat.reduceAdd, Nat.reduceMul, Nat.reduceSub, Nat.reducePow, Nat.reduceLT, Nat.reduceLeDiff, Int.reduceNeg, Int.reduceEq, Int.reduceLT, Int.reduceLE, reduceCtorEq]
  refine fin_valc (by simp (disch := omega) only [go_sem, ↓reduceIte, Int.reduceToNat, Nat.reduceEqDiff, Nat.reduceAdd, Nat.reduceMul, Nat.reduceSub, Nat.reducePow, Nat.reduceLT, Nat.reduceLeDiff, Int.reduceNeg, Int.reduceEq, Int.reduceLT, Int.reduceLE, reduceCtorEq]) (by simp (disch := omega) only [go_sem, ↓reduceIte, Int.reduceToNat, Nat.reduceEqDiff, Nat.reduceAdd, Nat.reduceMul, Nat.reduceSub, Nat.reducePow, Nat.reduceLT, Nat.reduceLeDiff, Int.reduceNeg, Int.reduceEq, Int.reduceLT, Int.reduceLE, reduceCtorEq]) ⟨?_, rfl, rfl⟩
  have : decide (0 ≤ i) = xs.any p := by rw [Bool.eq_iff_iff, decide_eq_true_eq, hi, List.any_eq_true]
  rw [this]; rfl

theorem con_allFl (xs : List FlV) (hl : xs.length ≤ 2 ^ 40) (hf : ∀ x : FlV, Con Tryd.prog g true [.ag x.cs] [] (isA (.v (.bool (p x))))) (hg : fnOk Tryd.prog g = True) :
    Con Tryd.prog 59 true [.sl xs.length (rowA FlV.cs xs), .fn g []] [] (isA (.v (.bool (xs.all p)))) := by
  refine Con.of_aw Tryd.func59 rfl Tryd.ntmps59 (by simp) (by simp) (by simp) (W.sound ?_)
  show @W Tryd.prog 9 ⟨_⟩ ⟨fun x σ => @retW _ _ _ ⟨_⟩ _ ⟨_⟩ x σ⟩ _ _
  simp (disch := omega) only [go_sem, ↓reduceIte, Int.reduceToNat, Nat.reduceEqDiff, Nat.reduceAdd, Nat.reduceMul, Nat.reduceSub, Nat.reducePow, Nat.reduceLT, Nat.reduceLeDiff, Int.reduceNeg, Int.reduceEq, Int.reduceLT, Int.reduceLE, reduceCtorEq]
  refine call_closed (con_containsFl (fun x => !p x) 84 [.fp [.fn g []] 0] xs hl (fun x => con_allFl1 g p x (hf x) hg) (by simp (disch := omega) only [go_sem, ↓reduceIte, Int.reduceToNat, Nat.reduceEqDiff, Nat.reduceAdd, Nat.reduceMul, Nat.reduceSub, Nat.reducePow, Nat.reduceLT, Nat.reduceLeDiff, Int.reduceNeg, Int.reduceEq, Int.reduceLT, Int.reduceLE, reduceCtorEq]) (fun h => rfl) (fun h => rfl) (fun ks => by simp (disch := omega) only [go_sem, ↓reduceIte, Int.reduceToNat, Nat.reduceEqDiff, Nat.reduceAdd, Nat.reduceMul, Nat.reduceSub, Nat.reducePow, Nat.reduceLT, Nat.reduceLeDiff, Int.reduceNeg, Int.reduceEq, Int.reduceLT, Int.reduceLE, reduceCtorEq]) (fun ρ => rfl)) (by simp (disch := omega) only [go_sem, ↓reduceIte, Int.reduceToNat, Nat.reduceEqDiff, Nat.reduceAdd, Nat.reduceMul, Nat.reduceSub, Nat.reducePow, Nat.reduceLT, Nat.reduceLeDiff, Int.reduceNeg, Int.reduceEq, Int.reduceLT, Int.reduceLE, reduceCtorEq]) ?_
  rintro r hs ⟨rfl, rfl, _⟩
  refine ⟨by simp [freeN], ?_⟩
  simp (disch := omega) only [go_sem, ↓reduceIte, Int.reduceToNat, Nat.reduceEqDiff, Nat.reduceAdd, Nat.reduceMul, Nat.reduceSub, Nat.reducePow, Nat.reduceLT, Nat.reduceLeDiff, Int.reduceNeg, Int.reduceEq, Int.reduceLT, Int.reduceLE, reduceCtorEq]
  refine fin_valc (by simp (disch := omega) only [go_sem, ↓reduceIte, Int.reduceToNat, Nat.reduceEqDiff, Nat.reduceAdd, Nat.reduceMul, Nat.reduceSub, Nat.reducePow, Nat.reduceLT, Nat.reduceLeDiff, Int.reduceNeg, Int.reduceEq, Int.reduceLT, Int.reduceLE, reduceCtorEq]) (by simp (disch := omega) only [go_sem, ↓reduceIte, Int.reduceToNat, Nat.reduceEqDiff, Nat.reduceAdd, Nat.reduceMul, Nat.reduceSub, Nat.reducePow, Nat.reduceLT, Nat.reduceLeDiff, Int.reduceNeg, Int.reduceEq, Int.reduceLT, Int.reduceLE, reduceCtorEq]) ⟨?_, rfl, rfl⟩
  have : (!xs.any fun x => !p x) = xs.all p := by rw [List.all_eq_not_any_not]
  rw [this]; rfl
end

def flBV (x : FlV) : Bool := flB x.k x.s x.m x.e

theorem con_areFloats (mode : Int) (xs : List FlV) (hl : xs.length ≤ 2 ^ 40) :
    Con Tryd.prog 28 true [.v (.int .i64 mode), .sl xs.length (rowA FlV.cs xs)] [] (isA (.v (.bool ((decide (0 ≤ mode) && decide (mode ≤ 4)) && xs.all flBV)))) := by
  refine Con.of_aw Tryd.func28 rfl Tryd.ntmps28 (by simp) (by simp) (by simp) (W.sound ?_)
  show @W Tryd.prog 11 ⟨_⟩ ⟨fun x σ => @retW _ _ _ ⟨_⟩ _ ⟨_⟩ x σ⟩ _ _
  simp (disch := omega) only [go_sem, ↓reduceIte, Int.reduceToNat, Nat.reduceEqDiff, Nat.reduceAdd, Nat.reduceMul, Nat.reduceSub, Nat.reducePow, Nat.reduceLT, Nat.reduceLeDiff, Int.reduceNeg, Int.reduceEq, Int.reduceLT, Int.reduceLE, reduceCtorEq]
  refine call_closed (con_isMode mode) (by simp (disch := omega) only [go_sem, ↓reduceIte, Int.reduceToNat, Nat.reduceEqDiff, Nat.reduceAdd, Nat.reduceMul, Nat.reduceSub, Nat.reducePow, Nat.reduceLT, Nat.reduceLeDiff, Int.reduceNeg, Int.reduceEq, Int.reduceLT, Int.reduceLE, reduceCtorEq]) ?_
  rintro r hs ⟨rfl, rfl, _⟩
  refine ⟨by simp [freeN], ?_⟩
  simp (disch := omega) only [go_sem, ↓reduceIte, Int.reduceToNat, Nat.reduceEqDiff, Nat.reduceAdd, Nat.reduceMul, Nat.reduceSub, Nat.reducePow, Nat.reduceLT, Nat.reduceLeDiff, Int.reduceNeg, Int.reduceEq, Int.reduceLT, Int.reduceLE, reduceCtorEq]
  refine ifW_b (fun h1 => ?_) (fun h1 => ?_)
  · simp (disch := omega) only [go_sem, ↓reduceIte, Int.reduceToNat, Nat.reduceEqDiff, Nat.reduceAdd, Nat.reduceMul, Nat.reduceSub, Nat.reducePow, Nat.reduceLT, Nat.reduceLeDiff, Int.reduceNeg, Int.reduceEq, Int.reduceLT, Int.reduceLE, reduceCtorEq, h1]
    refine call_closed (con_allFl 60 flBV xs hl (fun x => con_flok x.k x.s x.m x.e) (by simp (disch := omega) only [go_sem, ↓reduceIte, Int.reduceToNat, Nat.reduceEqDiff, Nat.reduceAdd, Nat.reduceMul, Nat.reduceSub, Nat.reducePow, Nat.reduceLT, Nat.reduceLeDiff, Int.reduceNeg, Int.reduceEq, Int.reduceLT, Int.reduceLE, reduceCtorEq])) (by simp (disch := omega) only [go_sem, ↓reduceIte, Int.reduceToNat, Nat.reduceEqDiff, Nat.reduceAdd, Nat.reduceMul, Nat.reduceSub, Nat.reducePow, Nat.reduceLT, Nat.reduceLeDiff, Int.reduceNeg, Int.reduceEq, Int.reduceLT, Int.reduceLE, reduceCtorEq]) ?_
    rintro r hs ⟨rfl, rfl, _⟩
    refine ⟨by simp [freeN], ?_⟩
    simp (disch := omega) only [go_sem, ↓reduceIte, Int.reduceToNat, Nat.reduceEqDiff, Nat.reduceAdd, Nat.reduceMul, Nat.reduceSub, Nat.reducePow, Nat.reduceLT, Nat.reduceLeDiff, Int.reduceNeg, Int.reduceEq, Int.reduceLT, Int.reduceLE, reduceCtorEq]
    refine fin_valc (by simp (disch := omega) only [go_sem, ↓reduceIte, Int.reduceToNat, Nat.reduceEqDiff, Nat.reduceAdd, Nat.reduceMul, Nat.reduceSub, Nat.reducePow, Nat.reduceLT, Nat.reduceLeDiff, Int.reduceNeg, Int.reduceEq, Int.reduceLT, Int.reduceLE, reduceCtorEq]) (by simp (disch := omega) only [go_sem, ↓reduceIte, Int.reduceToNat, Nat.reduceEqDiff, Nat.reduceAdd, Nat.reduceMul, Nat.reduceSub, Nat.reducePow, Nat.reduceLT, Nat.reduceLeDiff, Int.reduceNeg, Int.reduceEq, Int.reduceLT, Int.reduceLE, reduceCtorEq]) ⟨?_, rfl, rfl⟩
    show AV.v (.bool _) = AV.v (.bool _)
    rw [h1]; rfl
  · simp (disch := omega) only [go_sem, ↓reduceIte, Int.reduceToNat, Nat.reduceEqDiff, Nat.reduceAdd, Nat.reduceMul, Nat.reduceSub, Nat.reducePow, Nat.reduceLT, Nat.reduceLeDiff, Int.reduceNeg, Int.reduceEq, Int.reduceLT, Int.reduceLE, reduceCtorEq, h1]
    refine fin_valc (by simp (disch := omega) only [go_sem, ↓reduceIte, Int.reduceToNat, Nat.reduceEqDiff, Nat.reduceAdd, Nat.reduceMul, Nat.reduceSub, Nat.reducePow, Nat.reduceLT, Nat.reduceLeDiff, Int.reduceNeg, Int.reduceEq, Int.reduceLT, Int.reduceLE, reduceCtorEq]) (by simp (disch := omega) only [go_sem, ↓reduceIte, Int.reduceToNat, Nat.reduceEqDiff, Nat.reduceAdd, Nat.reduceMul, Nat.reduceSub, Nat.reducePow, Nat.reduceLT, Nat.reduceLeDiff, Int.reduceNeg, Int.reduceEq, Int.reduceLT, Int.reduceLE, reduceCtorEq]) ⟨?_, rfl, rfl⟩
    show AV.v (.bool _) = AV.v (.bool _)
    rw [h1]; rfl
end Go.Ab
namespace Go.Ab
open Go Go.Proofs
set_option linter.unusedVariables false
set_option linter.unusedSimpArgs false

theorem con_float1 (s : Bool) (m : Nat) (e low mode : Int) (hm : bl m ≤ 4000000) (he : -1000000 ≤ e ∧ e ≤ 1000000) (hlo : -1000000 ≤ low ∧ low ≤ 1000000) :
    Con Tryd.prog 54 false [.v (.int .i64 low), .fp [.v (.bool s), .sl (lim (m)).length (ints (lim (m))), .v (.int .i64 e)] 0, .fp [.v (.int .i64 mode)] 0] []
      (isA (.tu [.ag [.v (.bool (roS s m e low mode)), .sl (lim (roM s m e low mode)).length (ints (lim (roM s m e low mode))), .v (.int .i64 (roE m e low))], .v (.bool (roX m e low))])) := by
  refine Con.frzA ?_
  refine Con.of_aw Tryd.func54 rfl Tryd.ntmps54 (by simp) (by simp) (by simp) (W.sound ?_)
  show @W Tryd.prog 12 ⟨_⟩ ⟨fun x σ => @retW _ _ _ ⟨_⟩ _ ⟨_⟩ x σ⟩ _ _
  simp (disch := omega) only [go_sem, ↓reduceIte, Int.reduceToNat, Nat.reduceEqDiff, Nat.reduceAdd, Nat.reduceMul, Nat.reduceSub, Nat.reducePow, Nat.reduceLT, Nat.reduceLeDiff, Int.reduceNeg, Int.reduceEq, Int.reduceLT, Int.reduceLE, reduceCtorEq]
  refine call_open (con_rounded s m e low mode hm he hlo) (by simp (disch := omega) only [go_sem, ↓reduceIte, Int.reduceToNat, Nat.reduceEqDiff, Nat.reduceAdd, Nat.reduceMul, Nat.reduceSub, Nat.reducePow, Nat.reduceLT, Nat.reduceLeDiff, Int.reduceNeg, Int.reduceEq, Int.reduceLT, Int.reduceLE, reduceCtorEq]) ?_
  rintro r hs ⟨rfl, rfl, _⟩
  refine ⟨by simp [freeN], ?_⟩
  simp (disch := omega) only [go_sem, ↓reduceIte, Int.reduceToNat, Nat.reduceEqDiff, Nat.reduceAdd, Nat.reduceMul, Nat.reduceSub, Nat.reducePow, Nat.reduceLT, Nat.reduceLeDiff, Int.reduceNeg, Int.reduceEq, Int.reduceLT, Int.reduceLE, reduceCtorEq]
  refine fin_val (by simp (disch := omega) only [go_sem, ↓reduceIte, Int.reduceToNat, Nat.reduceEqDiff, Nat.reduceAdd, Nat.reduceMul, Nat.reduceSub, Nat.reducePow, Nat.reduceLT, Nat.reduceLeDiff, Int.reduceNeg, Int.reduceEq, Int.reduceLT, Int.reduceLE, reduceCtorEq]) ?_
  show snap _ 6 _ = _
  simp (disch := omega) only [go_sem, ↓reduceIte, Int.reduceToNat, Nat.reduceEqDiff, Nat.reduceAdd, Nat.reduceMul, Nat.reduceSub, Nat.reducePow, Nat.reduceLT, Nat.reduceLeDiff, Int.reduceNeg, Int.reduceEq, Int.reduceLT, Int.reduceLE, reduceCtorEq]

/-- The float of a number, and its flags; z is the sign of a zero. -/
def flV (s : Bool) (m : Nat) (e mode : Int) (z : Bool) : FlV :=
  if m = 0 then ⟨0, z, 0, 0⟩ else
    ⟨flK s mode (roM s m e (flLow (bl m + e)) mode) (roE m e (flLow (bl m + e))), s, flMm s mode (roM s m e (flLow (bl m + e)) mode) (roE m e (flLow (bl m + e))), flEe s mode (roM s m e (flLow (bl m + e)) mode) (roE m e (flLow (bl m + e)))⟩
def flG (s : Bool) (m : Nat) (e mode : Int) : Int :=
  if m = 0 then 0 else flFl (bl m + e) (roX m e (flLow (bl m + e))) (roM s m e (flLow (bl m + e)) mode) (roE m e (flLow (bl m + e)))

theorem ro_form {s : Bool} {m : Nat} {e mode : Int} (h0 : m ≠ 0) :
    roM s m e (flLow (bl m + e)) mode ≠ 0 → flE (roM s m e (flLow (bl m + e)) mode) (roE m e (flLow (bl m + e))) ≤ oE (roM s m e (flLow (bl m + e)) mode) (roE m e (flLow (bl m + e))) := by
  intro hr
  unfold oE
  rw [if_neg hr]
  unfold roM roE at *
  by_cases h : flLow (bl m + e) ≤ e ∨ m = 0
  · rw [if_pos h, if_pos h]
    have : flLow (bl m + e) ≤ e := h.resolve_right h0
    unfold flE; omega
  · rw [if_neg h, if_neg h]
    have hlt : e < flLow (bl m + e) := by omega
    have h1 : bl m ≤ 53 + (flLow (bl m + e) - e).toNat := by unfold flLow at *; split at hlt <;> split <;> omega
    have h2 := rnd_form (s := s) (mode := mode) h1
    generalize rq s m (2 ^ (flLow (bl m + e) - e).toNat) mode = q at *
    unfold flE flLow
    split
    · split <;> omega
    · split <;> omega

theorem ro_bl {s : Bool} {m : Nat} {e low mode : Int} {B : Nat} (h : bl m ≤ B) : bl (roM s m e low mode) ≤ B + 1 := by
  unfold roM
  split
  · omega
  · have h1 := bl_mono (rq_le s m (2 ^ (low - e).toNat) mode)
    have h2 := bl_succ (m / 2 ^ (low - e).toNat)
    have h3 := bl_divle m (2 ^ (low - e).toNat)
    omega

theorem con_float (s : Bool) (m : Nat) (e mode : Int) (z : Bool) (hm : bl m ≤ 100000) (he : -100000 ≤ e ∧ e ≤ 100000) :
    Con Tryd.prog 25 true [.ag [.v (.bool (s)), .sl (lim (m)).length (ints (lim (m))), .v (.int .i64 (e))], .v (.int .i64 mode), .v (.bool z)] []
      (isA (.tu [.ag [.v (.int .i64 ((flV s m e mode z).k)), .v (.bool ((flV s m e mode z).s)), .v (.int .i64 ((flV s m e mode z).m)), .v (.int .i64 ((flV s m e mode z).e))], .v (.int .i64 (flG s m e mode))])) := by
  refine Con.of_aw Tryd.func25 rfl Tryd.ntmps25 (by simp) (by simp) (by simp) (W.sound ?_)
  show @W Tryd.prog 21 ⟨_⟩ ⟨fun x σ => @retW _ _ _ ⟨_⟩ _ ⟨_⟩ x σ⟩ _ _
  simp (disch := omega) only [go_sem, ↓reduceIte, Int.reduceToNat, Nat.reduceEqDiff, Nat.reduceAdd, Nat.reduceMul, Nat.reduceSub, Nat.reducePow, Nat.reduceLT, Nat.reduceLeDiff, Int.reduceNeg, Int.reduceEq, Int.reduceLT, Int.reduceLE, reduceCtorEq]
  refine call_closed (con_isZero s m e) (by simp (disch := omega) only [go_sem, ↓reduceIte, Int.reduceToNat, Nat.reduceEqDiff, Nat.reduceAdd, Nat.reduceMul, Nat.reduceSub, Nat.reducePow, Nat.reduceLT, Nat.reduceLeDiff, Int.reduceNeg, Int.reduceEq, Int.reduceLT, Int.reduceLE, reduceCtorEq]) ?_
  rintro r hs ⟨rfl, rfl, _⟩
  refine ⟨by simp [freeN], ?_⟩
  simp (disch := omega) only [go_sem, ↓reduceIte, Int.reduceToNat, Nat.reduceEqDiff, Nat.reduceAdd, Nat.reduceMul, Nat.reduceSub, Nat.reducePow, Nat.reduceLT, Nat.reduceLeDiff, Int.reduceNeg, Int.reduceEq, Int.reduceLT, Int.reduceLE, reduceCtorEq]
  refine ifW_dec (fun h1 => ?_) (fun h1 => ?_)
  · simp (disch := omega) only [go_sem, ↓reduceIte, Int.reduceToNat, Nat.reduceEqDiff, Nat.reduceAdd, Nat.reduceMul, Nat.reduceSub, Nat.reducePow, Nat.reduceLT, Nat.reduceLeDiff, Int.reduceNeg, Int.reduceEq, Int.reduceLT, Int.reduceLE, reduceCtorEq, h1]
    refine call_closed (con_zero z) (by simp (disch := omega) only [go_sem, ↓reduceIte, Int.reduceToNat, Nat.reduceEqDiff, Nat.reduceAdd, Nat.reduceMul, Nat.reduceSub, Nat.reducePow, Nat.reduceLT, Nat.reduceLeDiff, Int.reduceNeg, Int.reduceEq, Int.reduceLT, Int.reduceLE, reduceCtorEq]) ?_
    rintro r hs ⟨rfl, rfl, _⟩
    refine ⟨by simp [freeN], ?_⟩
    simp (disch := omega) only [go_sem, ↓reduceIte, Int.reduceToNat, Nat.reduceEqDiff, Nat.reduceAdd, Nat.reduceMul, Nat.reduceSub, Nat.reducePow, Nat.reduceLT, Nat.reduceLeDiff, Int.reduceNeg, Int.reduceEq, Int.reduceLT, Int.reduceLE, reduceCtorEq]
    refine fin_valc (by simp (disch := omega) only [go_sem, ↓reduceIte, Int.reduceToNat, Nat.reduceEqDiff, Nat.reduceAdd, Nat.reduceMul, Nat.reduceSub, Nat.reducePow, Nat.reduceLT, Nat.reduceLeDiff, Int.reduceNeg, Int.reduceEq, Int.reduceLT, Int.reduceLE, reduceCtorEq]) (by simp (disch := omega) only [go_sem, ↓reduceIte, Int.reduceToNat, Nat.reduceEqDiff, Nat.reduceAdd, Nat.reduceMul, Nat.reduceSub, Nat.reducePow, Nat.reduceLT, Nat.reduceLeDiff, Int.reduceNeg, Int.reduceEq, Int.reduceLT, Int.reduceLE, reduceCtorEq]) ⟨?_, rfl, rfl⟩
    simp only [tupA, flV, flG, h1, if_true]
  · simp (disch := omega) only [go_sem, ↓reduceIte, Int.reduceToNat, Nat.reduceEqDiff, Nat.reduceAdd, Nat.reduceMul, Nat.reduceSub, Nat.reducePow, Nat.reduceLT, Nat.reduceLeDiff, Int.reduceNeg, Int.reduceEq, Int.reduceLT, Int.reduceLE, reduceCtorEq, h1]
    have hl := len_bl hm
    refine draw_of rfl [⟨0, [], []⟩, ⟨1, [], []⟩, ⟨2, [1], []⟩, ⟨4, [1, 2], []⟩, ⟨5, [1, 2, 4], []⟩, ⟨3, [1, 4], []⟩, ⟨6, [], []⟩, ⟨7, [], []⟩, ⟨8, [], []⟩, ⟨9, [], []⟩, ⟨10, [], []⟩] (by kernel_rfl) ?_
    simp (disch := omega) only [go_sem, ↓reduceIte, Int.reduceToNat, Nat.reduceEqDiff, Nat.reduceAdd, Nat.reduceMul, Nat.reduceSub, Nat.reducePow, Nat.reduceLT, Nat.reduceLeDiff, Int.reduceNeg, Int.reduceEq, Int.reduceLT, Int.reduceLE, reduceCtorEq]
    have etop : (if m = 0 then (0 : Int) else (bl m : Int) + e) = (bl m : Int) + e := if_neg h1
    refine call_closed (con_topX s m e (by omega) (by omega)) (by simp (disch := omega) only [go_sem, ↓reduceIte, Int.reduceToNat, Nat.reduceEqDiff, Nat.reduceAdd, Nat.reduceMul, Nat.reduceSub, Nat.reducePow, Nat.reduceLT, Nat.reduceLeDiff, Int.reduceNeg, Int.reduceEq, Int.reduceLT, Int.reduceLE, reduceCtorEq]) ?_
    rintro r hs ⟨rfl, rfl, _⟩
    refine ⟨by simp [freeN], ?_⟩
    simp (disch := omega) only [go_sem, ↓reduceIte, Int.reduceToNat, Nat.reduceEqDiff, Nat.reduceAdd, Nat.reduceMul, Nat.reduceSub, Nat.reducePow, Nat.reduceLT, Nat.reduceLeDiff, Int.reduceNeg, Int.reduceEq, Int.reduceLT, Int.reduceLE, reduceCtorEq]
    have hlow : -1000000 ≤ flLow (bl m + e) ∧ flLow (bl m + e) ≤ 1000000 := by unfold flLow; split <;> omega
    refine call_closed (con_floatOf s ((bl m : Int) + e) mode 54 [.fp [.v (.bool s), .sl (lim (m)).length (ints (lim (m))), .v (.int .i64 e)] 0, .fp [.v (.int .i64 mode)] 0] (roS s m e (flLow (bl m + e)) mode) (roX m e (flLow (bl m + e))) (roM s m e (flLow (bl m + e)) mode) (roE m e (flLow (bl m + e))) (by omega) (con_float1 s m e (flLow (bl m + e)) mode (by omega) (by omega) hlow) (by simp (disch := omega) only [go_sem, ↓reduceIte, Int.reduceToNat, Nat.reduceEqDiff, Nat.reduceAdd, Nat.reduceMul, Nat.reduceSub, Nat.reducePow, Nat.reduceLT, Nat.reduceLeDiff, Int.reduceNeg, Int.reduceEq, Int.reduceLT, Int.reduceLE, reduceCtorEq]) (fun h => rfl) (by have := ro_bl (s := s) (e := e) (low := flLow (bl m + e)) (mode := mode) hm; omega) (by unfold roE; split <;> omega) (fun h _ => ro_form h1 h)) (by simp (disch := omega) only [go_sem, ↓reduceIte, Int.reduceToNat, Nat.reduceEqDiff, Nat.reduceAdd, Nat.reduceMul, Nat.reduceSub, Nat.reducePow, Nat.reduceLT, Nat.reduceLeDiff, Int.reduceNeg, Int.reduceEq, Int.reduceLT, Int.reduceLE, reduceCtorEq, etop]) ?_
    rintro r hs ⟨rfl, rfl, _⟩
    refine ⟨by simp [freeN], ?_⟩
    simp (disch := omega) only [go_sem, ↓reduceIte, Int.reduceToNat, Nat.reduceEqDiff, Nat.reduceAdd, Nat.reduceMul, Nat.reduceSub, Nat.reducePow, Nat.reduceLT, Nat.reduceLeDiff, Int.reduceNeg, Int.reduceEq, Int.reduceLT, Int.reduceLE, reduceCtorEq]
    refine fin_valc (by simp (disch := omega) only [go_sem, ↓reduceIte, Int.reduceToNat, Nat.reduceEqDiff, Nat.reduceAdd, Nat.reduceMul, Nat.reduceSub, Nat.reducePow, Nat.reduceLT, Nat.reduceLeDiff, Int.reduceNeg, Int.reduceEq, Int.reduceLT, Int.reduceLE, reduceCtorEq]) (by simp (disch := omega) only [go_sem, ↓reduceIte, Int.reduceToNat, Nat.reduceEqDiff, Nat.reduceAdd, Nat.reduceMul, Nat.reduceSub, Nat.reducePow, Nat.reduceLT, Nat.reduceLeDiff, Int.reduceNeg, Int.reduceEq, Int.reduceLT, Int.reduceLE, reduceCtorEq]) ⟨?_, rfl, rfl⟩
    simp only [tupA, flV, flG, h1, if_false]

theorem con_timesX (s1 : Bool) (m1 : Nat) (e1 : Int) (s2 : Bool) (m2 : Nat) (e2 : Int) (h1 : bl m1 ≤ 4000000) (h2 : bl m2 ≤ 4000000) (he1 : -2 ^ 40 ≤ e1 ∧ e1 ≤ 2 ^ 40) (he2 : -2 ^ 40 ≤ e2 ∧ e2 ≤ 2 ^ 40) :
    Con Tryd.prog 64 false [.ag [.v (.bool (s1)), .sl (lim (m1)).length (ints (lim (m1))), .v (.int .i64 (e1))], .ag [.v (.bool (s2)), .sl (lim (m2)).length (ints (lim (m2))), .v (.int .i64 (e2))]] [] (isA (.ag [.v (.bool ((s1 != s2) && decide (m1 * m2 ≠ 0))), .sl (lim (m1 * m2)).length (ints (lim (m1 * m2))), .v (.int .i64 (e1 + e2))])) := by
  refine Con.frzA ?_
  refine Con.of_aw Tryd.func64 rfl Tryd.ntmps64 (by simp) (by simp) (by simp) (W.sound ?_)
  show @W Tryd.prog 28 ⟨_⟩ ⟨fun x σ => @retW _ _ _ ⟨_⟩ _ ⟨_⟩ x σ⟩ _ _
  simp (disch := omega) only [go_sem, ↓reduceIte, Int.reduceToNat, Nat.reduceEqDiff, Nat.reduceAdd, Nat.reduceMul, Nat.reduceSub, Nat.reducePow, Nat.reduceLT, Nat.reduceLeDiff, Int.reduceNeg, Int.reduceEq, Int.reduceLT, Int.reduceLE, reduceCtorEq]
  have l1 := len_bl h1
  have l2 := len_bl h2
  refine call_open (con_timesN m1 m2 (by omega) (by omega)) (by simp (disch := omega) only [go_sem, ↓reduceIte, Int.reduceToNat, Nat.reduceEqDiff, Nat.reduceAdd, Nat.reduceMul, Nat.reduceSub, Nat.reducePow, Nat.reduceLT, Nat.reduceLeDiff, Int.reduceNeg, Int.reduceEq, Int.reduceLT, Int.reduceLE, reduceCtorEq]) ?_
  rintro r hs ⟨rfl, rfl, _⟩
  refine ⟨by simp [freeN], ?_⟩
  simp (disch := omega) only [go_sem, ↓reduceIte, Int.reduceToNat, Nat.reduceEqDiff, Nat.reduceAdd, Nat.reduceMul, Nat.reduceSub, Nat.reducePow, Nat.reduceLT, Nat.reduceLeDiff, Int.reduceNeg, Int.reduceEq, Int.reduceLT, Int.reduceLE, reduceCtorEq]
  have hl : (lim (m1 * m2)).length ≤ 2000000 := by have := len_bl (Nat.le_trans (bl_mulle m1 m2) (Nat.add_le_add h1 h2)); omega
  have hq : decide ((0 : Int) < ((lim (m1 * m2)).length : Int)) = decide (m1 * m2 ≠ 0) := by
    rw [decide_eq_decide]
    exact ⟨fun h e => by rw [e, lim_zero] at h; simp at h, fun h => by have := lim_ne h; omega⟩
  refine ifW_b (fun h3 => ?_) (fun h3 => ?_)
  · simp (disch := omega) only [go_sem, ↓reduceIte, Int.reduceToNat, Nat.reduceEqDiff, Nat.reduceAdd, Nat.reduceMul, Nat.reduceSub, Nat.reducePow, Nat.reduceLT, Nat.reduceLeDiff, Int.reduceNeg, Int.reduceEq, Int.reduceLT, Int.reduceLE, reduceCtorEq, h3, hq]
    refine fin_val (by simp (disch := omega) only [go_sem, ↓reduceIte, Int.reduceToNat, Nat.reduceEqDiff, Nat.reduceAdd, Nat.reduceMul, Nat.reduceSub, Nat.reducePow, Nat.reduceLT, Nat.reduceLeDiff, Int.reduceNeg, Int.reduceEq, Int.reduceLT, Int.reduceLE, reduceCtorEq]) ?_
    show snap _ 6 _ = _
    simp (disch := omega) only [go_sem, ↓reduceIte, Int.reduceToNat, Nat.reduceEqDiff, Nat.reduceAdd, Nat.reduceMul, Nat.reduceSub, Nat.reducePow, Nat.reduceLT, Nat.reduceLeDiff, Int.reduceNeg, Int.reduceEq, Int.reduceLT, Int.reduceLE, reduceCtorEq, h3, Bool.true_and]
  · simp (disch := omega) only [go_sem, ↓reduceIte, Int.reduceToNat, Nat.reduceEqDiff, Nat.reduceAdd, Nat.reduceMul, Nat.reduceSub, Nat.reducePow, Nat.reduceLT, Nat.reduceLeDiff, Int.reduceNeg, Int.reduceEq, Int.reduceLT, Int.reduceLE, reduceCtorEq, h3]
    refine fin_val (by simp (disch := omega) only [go_sem, ↓reduceIte, Int.reduceToNat, Nat.reduceEqDiff, Nat.reduceAdd, Nat.reduceMul, Nat.reduceSub, Nat.reducePow, Nat.reduceLT, Nat.reduceLeDiff, Int.reduceNeg, Int.reduceEq, Int.reduceLT, Int.reduceLE, reduceCtorEq]) ?_
    show snap _ 6 _ = _
    simp (disch := omega) only [go_sem, ↓reduceIte, Int.reduceToNat, Nat.reduceEqDiff, Nat.reduceAdd, Nat.reduceMul, Nat.reduceSub, Nat.reducePow, Nat.reduceLT, Nat.reduceLeDiff, Int.reduceNeg, Int.reduceEq, Int.reduceLT, Int.reduceLE, reduceCtorEq, h3, Bool.false_and]

theorem con_flexact (k : Int) (s : Bool) (m : Nat) (e : Int) (hm : m < 2 ^ 63) : Con Tryd.prog 63 false [.ag [.v (.int .i64 (k)), .v (.bool (s)), .v (.int .i64 ((m : Int))), .v (.int .i64 (e))]] [] (isA (.ag [.v (.bool (s && decide (k = 1))), .sl (lim (m)).length (ints (lim (m))), .v (.int .i64 (e))])) := by
  refine Con.frzA ?_
  refine Con.of_aw Tryd.func63 rfl Tryd.ntmps63 (by simp) (by simp) (by simp) (W.sound ?_)
  show @W Tryd.prog 16 ⟨_⟩ ⟨fun x σ => @retW _ _ _ ⟨_⟩ _ ⟨_⟩ x σ⟩ _ _
  simp (disch := omega) only [go_sem, ↓reduceIte, Int.reduceToNat, Nat.reduceEqDiff, Nat.reduceAdd, Nat.reduceMul, Nat.reduceSub, Nat.reducePow, Nat.reduceLT, Nat.reduceLeDiff, Int.reduceNeg, Int.reduceEq, Int.reduceLT, Int.reduceLE, reduceCtorEq]
  refine draw_of rfl [⟨0, [], []⟩, ⟨1, [], []⟩, ⟨2, [], []⟩, ⟨3, [], []⟩, ⟨4, [], []⟩, ⟨5, [], []⟩, ⟨6, [], []⟩, ⟨7, [1, 4], []⟩, ⟨8, [1, 4], []⟩, ⟨10, [1, 4, 8], []⟩, ⟨11, [1, 4, 8], []⟩, ⟨9, [4, 11], []⟩, ⟨12, [], []⟩, ⟨13, [], []⟩] (by kernel_rfl) ?_
  simp (disch := omega) only [go_sem, ↓reduceIte, Int.reduceToNat, Nat.reduceEqDiff, Nat.reduceAdd, Nat.reduceMul, Nat.reduceSub, Nat.reducePow, Nat.reduceLT, Nat.reduceLeDiff, Int.reduceNeg, Int.reduceEq, Int.reduceLT, Int.reduceLE, reduceCtorEq]
  refine ifW_b (fun h3 => ?_) (fun h3 => ?_)
  · simp (disch := omega) only [go_sem, ↓reduceIte, Int.reduceToNat, Nat.reduceEqDiff, Nat.reduceAdd, Nat.reduceMul, Nat.reduceSub, Nat.reducePow, Nat.reduceLT, Nat.reduceLeDiff, Int.reduceNeg, Int.reduceEq, Int.reduceLT, Int.reduceLE, reduceCtorEq, h3]
    refine call_open (con_smallN m hm) (by simp (disch := omega) only [go_sem, ↓reduceIte, Int.reduceToNat, Nat.reduceEqDiff, Nat.reduceAdd, Nat.reduceMul, Nat.reduceSub, Nat.reducePow, Nat.reduceLT, Nat.reduceLeDiff, Int.reduceNeg, Int.reduceEq, Int.reduceLT, Int.reduceLE, reduceCtorEq]) ?_
    rintro r hs ⟨rfl, rfl, _⟩
    refine ⟨by simp [freeN], ?_⟩
    simp (disch := omega) only [go_sem, ↓reduceIte, Int.reduceToNat, Nat.reduceEqDiff, Nat.reduceAdd, Nat.reduceMul, Nat.reduceSub, Nat.reducePow, Nat.reduceLT, Nat.reduceLeDiff, Int.reduceNeg, Int.reduceEq, Int.reduceLT, Int.reduceLE, reduceCtorEq]
    refine fin_val (by simp (disch := omega) only [go_sem, ↓reduceIte, Int.reduceToNat, Nat.reduceEqDiff, Nat.reduceAdd, Nat.reduceMul, Nat.reduceSub, Nat.reducePow, Nat.reduceLT, Nat.reduceLeDiff, Int.reduceNeg, Int.reduceEq, Int.reduceLT, Int.reduceLE, reduceCtorEq]) ?_
    show snap _ 6 _ = _
    simp (disch := omega) only [go_sem, ↓reduceIte, Int.reduceToNat, Nat.reduceEqDiff, Nat.reduceAdd, Nat.reduceMul, Nat.reduceSub, Nat.reducePow, Nat.reduceLT, Nat.reduceLeDiff, Int.reduceNeg, Int.reduceEq, Int.reduceLT, Int.reduceLE, reduceCtorEq, h3, Bool.true_and]
  · simp (disch := omega) only [go_sem, ↓reduceIte, Int.reduceToNat, Nat.reduceEqDiff, Nat.reduceAdd, Nat.reduceMul, Nat.reduceSub, Nat.reducePow, Nat.reduceLT, Nat.reduceLeDiff, Int.reduceNeg, Int.reduceEq, Int.reduceLT, Int.reduceLE, reduceCtorEq, h3]
    refine call_open (con_smallN m hm) (by simp (disch := omega) only [go_sem, ↓reduceIte, Int.reduceToNat, Nat.reduceEqDiff, Nat.reduceAdd, Nat.reduceMul, Nat.reduceSub, Nat.reducePow, Nat.reduceLT, Nat.reduceLeDiff, Int.reduceNeg, Int.reduceEq, Int.reduceLT, Int.reduceLE, reduceCtorEq]) ?_
    rintro r hs ⟨rfl, rfl, _⟩
    refine ⟨by simp [freeN], ?_⟩
    simp (disch := omega) only [go_sem, ↓reduceIte, Int.reduceToNat, Nat.reduceEqDiff, Nat.reduceAdd, Nat.reduceMul, Nat.reduceSub, Nat.reducePow, Nat.reduceLT, Nat.reduceLeDiff, Int.reduceNeg, Int.reduceEq, Int.reduceLT, Int.reduceLE, reduceCtorEq]
    refine fin_val (by simp (disch := omega) only [go_sem, ↓reduceIte, Int.reduceToNat, Nat.reduceEqDiff, Nat.reduceAdd, Nat.reduceMul, Nat.reduceSub, Nat.reducePow, Nat.reduceLT, Nat.reduceLeDiff, Int.reduceNeg, Int.reduceEq, Int.reduceLT, Int.reduceLE, reduceCtorEq]) ?_
    show snap _ 6 _ = _
    simp (disch := omega) only [go_sem, ↓reduceIte, Int.reduceToNat, Nat.reduceEqDiff, Nat.reduceAdd, Nat.reduceMul, Nat.reduceSub, Nat.reducePow, Nat.reduceLT, Nat.reduceLeDiff, Int.reduceNeg, Int.reduceEq, Int.reduceLT, Int.reduceLE, reduceCtorEq, h3, Bool.false_and]
end Go.Ab
namespace Go.Ab
open Go Go.Proofs
set_option linter.unusedVariables false
set_option linter.unusedSimpArgs false

theorem lenpos (m : Nat) : decide ((0 : Int) < ((lim m).length : Int)) = decide (m ≠ 0) := by
  rw [decide_eq_decide]
  exact ⟨fun h e => by rw [e, lim_zero] at h; simp at h, fun h => by have := lim_ne h; omega⟩
theorem lenzero (m : Nat) : decide (((lim m).length : Int) = 0) = decide (m = 0) := by
  rw [decide_eq_decide]
  exact ⟨fun h => lim_eq_nil.1 (List.length_eq_zero_iff.1 (by omega)), fun h => by rw [h, lim_zero]; rfl⟩

theorem con_l2normF (m : Nat) (hl : (lim m).length ≤ 2 ^ 39) : Con Tryd.prog 75 false [.sl (lim (m)).length (ints (lim (m)))] [] (isA (.ag [.sl (lim (m)).length (ints (lim (m)))])) := (con_l2norm false (lim m) m hl (gd_lim m) (vl_lim m)).natF
theorem con_l2ofF (n : Nat) (hn : n < 2 ^ 63) : Con Tryd.prog 46 false [.v (.int .i64 n)] [] (isA (.ag [.sl (lim (n)).length (ints (lim (n)))])) := (con_l2of false n hn).natF
theorem con_l2addF (a b : Nat) (la : (lim a).length ≤ 2000000) (lb : (lim b).length ≤ 2000000) : Con Tryd.prog 45 false [.ag [.sl (lim (a)).length (ints (lim (a)))], .ag [.sl (lim (b)).length (ints (lim (b)))]] [] (isA (.ag [.sl (lim (a + b)).length (ints (lim (a + b)))])) := (con_l2add false a b la lb).natF
theorem con_l2mulF (a b : Nat) (la : (lim a).length ≤ 1000000) (lb : (lim b).length ≤ 1000000) : Con Tryd.prog 74 false [.ag [.sl (lim (a)).length (ints (lim (a)))], .ag [.sl (lim (b)).length (ints (lim (b)))]] [] (isA (.ag [.sl (lim (a * b)).length (ints (lim (a * b)))])) := (con_l2mul false a b la lb).natF
theorem con_l2shlF (a k : Nat) (la : (lim a).length ≤ 400000) (hk : k ≤ 5000000) : Con Tryd.prog 41 false [.ag [.sl (lim (a)).length (ints (lim (a)))], .v (.int .i64 k)] [] (isA (.ag [.sl (lim (a * 2 ^ k)).length (ints (lim (a * 2 ^ k)))])) := (con_l2shl false a k la hk).natF

theorem con_l3make (s : Bool) (m : Nat) (hl : (lim m).length ≤ 2 ^ 39) : Con Tryd.prog 43 false [.v (.bool s), .ag [.sl (lim (m)).length (ints (lim (m)))]] [] (isA (.ag [.v (.bool (s && decide (m ≠ 0))), .sl (lim (m)).length (ints (lim (m)))])) := by
  refine Con.frzA ?_
  refine Con.of_aw Tryd.func43 rfl Tryd.ntmps43 (by simp) (by simp) (by simp) (W.sound ?_)
  show @W Tryd.prog 16 ⟨_⟩ ⟨fun x σ => @retW _ _ _ ⟨_⟩ _ ⟨_⟩ x σ⟩ _ _
  simp (disch := omega) only [go_sem, ↓reduceIte, Int.reduceToNat, Nat.reduceEqDiff, Nat.reduceAdd, Nat.reduceMul, Nat.reduceSub, Nat.reducePow, Nat.reduceLT, Nat.reduceLeDiff, Int.reduceNeg, Int.reduceEq, Int.reduceLT, Int.reduceLE, reduceCtorEq]
  refine draw_of rfl [⟨0, [], []⟩, ⟨1, [], []⟩, ⟨2, [], []⟩, ⟨3, [], []⟩, ⟨4, [], []⟩, ⟨5, [], []⟩, ⟨6, [], []⟩, ⟨7, [3], []⟩, ⟨8, [3], []⟩, ⟨9, [3], []⟩, ⟨10, [], []⟩, ⟨11, [], []⟩] (by kernel_rfl) ?_
  simp (disch := omega) only [go_sem, ↓reduceIte, Int.reduceToNat, Nat.reduceEqDiff, Nat.reduceAdd, Nat.reduceMul, Nat.reduceSub, Nat.reducePow, Nat.reduceLT, Nat.reduceLeDiff, Int.reduceNeg, Int.reduceEq, Int.reduceLT, Int.reduceLE, reduceCtorEq]
  refine ifW_b (fun h1 => ?_) (fun h1 => ?_)
  · simp (disch := omega) only [go_sem, ↓reduceIte, Int.reduceToNat, Nat.reduceEqDiff, Nat.reduceAdd, Nat.reduceMul, Nat.reduceSub, Nat.reducePow, Nat.reduceLT, Nat.reduceLeDiff, Int.reduceNeg, Int.reduceEq, Int.reduceLT, Int.reduceLE, reduceCtorEq, h1, lenpos]
    refine call_open (con_l2normF m hl) (by simp (disch := omega) only [go_sem, ↓reduceIte, Int.reduceToNat, Nat.reduceEqDiff, Nat.reduceAdd, Nat.reduceMul, Nat.reduceSub, Nat.reducePow, Nat.reduceLT, Nat.reduceLeDiff, Int.reduceNeg, Int.reduceEq, Int.reduceLT, Int.reduceLE, reduceCtorEq]) ?_
    rintro r hs ⟨rfl, rfl, _⟩
    refine ⟨by simp [freeN], ?_⟩
    simp (disch := omega) only [go_sem, ↓reduceIte, Int.reduceToNat, Nat.reduceEqDiff, Nat.reduceAdd, Nat.reduceMul, Nat.reduceSub, Nat.reducePow, Nat.reduceLT, Nat.reduceLeDiff, Int.reduceNeg, Int.reduceEq, Int.reduceLT, Int.reduceLE, reduceCtorEq]
    refine fin_val (by simp (disch := omega) only [go_sem, ↓reduceIte, Int.reduceToNat, Nat.reduceEqDiff, Nat.reduceAdd, Nat.reduceMul, Nat.reduceSub, Nat.reducePow, Nat.reduceLT, Nat.reduceLeDiff, Int.reduceNeg, Int.reduceEq, Int.reduceLT, Int.reduceLE, reduceCtorEq]) ?_
    show snap _ 6 _ = _
    simp (disch := omega) only [go_sem, ↓reduceIte, Int.reduceToNat, Nat.reduceEqDiff, Nat.reduceAdd, Nat.reduceMul, Nat.reduceSub, Nat.reducePow, Nat.reduceLT, Nat.reduceLeDiff, Int.reduceNeg, Int.reduceEq, Int.reduceLT, Int.reduceLE, reduceCtorEq, h1, Bool.true_and]
  · simp (disch := omega) only [go_sem, ↓reduceIte, Int.reduceToNat, Nat.reduceEqDiff, Nat.reduceAdd, Nat.reduceMul, Nat.reduceSub, Nat.reducePow, Nat.reduceLT, Nat.reduceLeDiff, Int.reduceNeg, Int.reduceEq, Int.reduceLT, Int.reduceLE, reduceCtorEq, h1]
    refine call_open (con_l2normF m hl) (by simp (disch := omega) only [go_sem, ↓reduceIte, Int.reduceToNat, Nat.reduceEqDiff, Nat.reduceAdd, Nat.reduceMul, Nat.reduceSub, Nat.reducePow, Nat.reduceLT, Nat.reduceLeDiff, Int.reduceNeg, Int.reduceEq, Int.reduceLT, Int.reduceLE, reduceCtorEq]) ?_
    rintro r hs ⟨rfl, rfl, _⟩
    refine ⟨by simp [freeN], ?_⟩
    simp (disch := omega) only [go_sem, ↓reduceIte, Int.reduceToNat, Nat.reduceEqDiff, Nat.reduceAdd, Nat.reduceMul, Nat.reduceSub, Nat.reducePow, Nat.reduceLT, Nat.reduceLeDiff, Int.reduceNeg, Int.reduceEq, Int.reduceLT, Int.reduceLE, reduceCtorEq]
    refine fin_val (by simp (disch := omega) only [go_sem, ↓reduceIte, Int.reduceToNat, Nat.reduceEqDiff, Nat.reduceAdd, Nat.reduceMul, Nat.reduceSub, Nat.reducePow, Nat.reduceLT, Nat.reduceLeDiff, Int.reduceNeg, Int.reduceEq, Int.reduceLT, Int.reduceLE, reduceCtorEq]) ?_
    show snap _ 6 _ = _
    simp (disch := omega) only [go_sem, ↓reduceIte, Int.reduceToNat, Nat.reduceEqDiff, Nat.reduceAdd, Nat.reduceMul, Nat.reduceSub, Nat.reducePow, Nat.reduceLT, Nat.reduceLeDiff, Int.reduceNeg, Int.reduceEq, Int.reduceLT, Int.reduceLE, reduceCtorEq, h1, Bool.false_and]

theorem con_l3of (n : Int) (h : -9223372036854775808 ≤ n ∧ n < 9223372036854775808) : Con Tryd.prog 21 false [.v (.int .i64 n)] [] (isA (.ag [.v (.bool (decide (n < 0))), .sl (lim (n.natAbs)).length (ints (lim (n.natAbs)))])) := by
  refine Con.frzA ?_
  refine Con.of_aw Tryd.func21 rfl Tryd.ntmps21 (by simp) (by simp) (by simp) (W.sound ?_)
  show @W Tryd.prog 15 ⟨_⟩ ⟨fun x σ => @retW _ _ _ ⟨_⟩ _ ⟨_⟩ x σ⟩ _ _
  simp (disch := omega) only [go_sem, ↓reduceIte, Int.reduceToNat, Nat.reduceEqDiff, Nat.reduceAdd, Nat.reduceMul, Nat.reduceSub, Nat.reducePow, Nat.reduceLT, Nat.reduceLeDiff, Int.reduceNeg, Int.reduceEq, Int.reduceLT, Int.reduceLE, reduceCtorEq]
  refine ifW_dec (fun h1 => ?_) (fun h1 => ?_)
  · simp (disch := omega) only [go_sem, ↓reduceIte, Int.reduceToNat, Nat.reduceEqDiff, Nat.reduceAdd, Nat.reduceMul, Nat.reduceSub, Nat.reducePow, Nat.reduceLT, Nat.reduceLeDiff, Int.reduceNeg, Int.reduceEq, Int.reduceLT, Int.reduceLE, reduceCtorEq, h1]
    have e1 : 0 - (n + 1) = (((0 - (n + 1)).toNat : Nat) : Int) := by omega
    refine call_open (con_l2ofF (0 - (n + 1)).toNat (by omega)) (by simp (disch := omega) only [go_sem, ↓reduceIte, Int.reduceToNat, Nat.reduceEqDiff, Nat.reduceAdd, Nat.reduceMul, Nat.reduceSub, Nat.reducePow, Nat.reduceLT, Nat.reduceLeDiff, Int.reduceNeg, Int.reduceEq, Int.reduceLT, Int.reduceLE, reduceCtorEq, ← e1]) ?_
    rintro r hs ⟨rfl, rfl, _⟩
    refine ⟨by simp [freeN], ?_⟩
    simp (disch := omega) only [go_sem, ↓reduceIte, Int.reduceToNat, Nat.reduceEqDiff, Nat.reduceAdd, Nat.reduceMul, Nat.reduceSub, Nat.reducePow, Nat.reduceLT, Nat.reduceLeDiff, Int.reduceNeg, Int.reduceEq, Int.reduceLT, Int.reduceLE, reduceCtorEq]
    refine call_open (con_l2ofF 1 (by omega)) (by simp (disch := omega) only [go_sem, ↓reduceIte, Int.reduceToNat, Nat.reduceEqDiff, Nat.reduceAdd, Nat.reduceMul, Nat.reduceSub, Nat.reducePow, Nat.reduceLT, Nat.reduceLeDiff, Int.reduceNeg, Int.reduceEq, Int.reduceLT, Int.reduceLE, reduceCtorEq]) ?_
    rintro r hs ⟨rfl, rfl, _⟩
    refine ⟨by simp [freeN], ?_⟩
    simp (disch := omega) only [go_sem, ↓reduceIte, Int.reduceToNat, Nat.reduceEqDiff, Nat.reduceAdd, Nat.reduceMul, Nat.reduceSub, Nat.reducePow, Nat.reduceLT, Nat.reduceLeDiff, Int.reduceNeg, Int.reduceEq, Int.reduceLT, Int.reduceLE, reduceCtorEq]
    have l1 := len_bl (m := (0 - (n + 1)).toNat) (B := 64) (bl_le.2 (by omega))
    have l2 := len_bl (m := 1) (B := 64) (by decide)
    refine call_open (con_l2addF (0 - (n + 1)).toNat 1 (by omega) (by omega)) (by simp (disch := omega) only [go_sem, ↓reduceIte, Int.reduceToNat, Nat.reduceEqDiff, Nat.reduceAdd, Nat.reduceMul, Nat.reduceSub, Nat.reducePow, Nat.reduceLT, Nat.reduceLeDiff, Int.reduceNeg, Int.reduceEq, Int.reduceLT, Int.reduceLE, reduceCtorEq]) ?_
    rintro r hs ⟨rfl, rfl, _⟩
    refine ⟨by simp [freeN], ?_⟩
    simp (disch := omega) only [go_sem, ↓reduceIte, Int.reduceToNat, Nat.reduceEqDiff, Nat.reduceAdd, Nat.reduceMul, Nat.reduceSub, Nat.reducePow, Nat.reduceLT, Nat.reduceLeDiff, Int.reduceNeg, Int.reduceEq, Int.reduceLT, Int.reduceLE, reduceCtorEq]
    have e2 : (0 - (n + 1)).toNat + 1 = n.natAbs := by omega
    have l3 := len_bl (m := (0 - (n + 1)).toNat + 1) (B := 64) (bl_le.2 (by omega))
    refine call_open (con_l3make true ((0 - (n + 1)).toNat + 1) (by omega)) (by simp (disch := omega) only [go_sem, ↓reduceIte, Int.reduceToNat, Nat.reduceEqDiff, Nat.reduceAdd, Nat.reduceMul, Nat.reduceSub, Nat.reducePow, Nat.reduceLT, Nat.reduceLeDiff, Int.reduceNeg, Int.reduceEq, Int.reduceLT, Int.reduceLE, reduceCtorEq]) ?_
    rintro r hs ⟨rfl, rfl, _⟩
    refine ⟨by simp [freeN], ?_⟩
    simp (disch := omega) only [go_sem, ↓reduceIte, Int.reduceToNat, Nat.reduceEqDiff, Nat.reduceAdd, Nat.reduceMul, Nat.reduceSub, Nat.reducePow, Nat.reduceLT, Nat.reduceLeDiff, Int.reduceNeg, Int.reduceEq, Int.reduceLT, Int.reduceLE, reduceCtorEq]
    refine fin_val (by simp (disch := omega) only [go_sem, ↓reduceIte, Int.reduceToNat, Nat.reduceEqDiff, Nat.reduceAdd, Nat.reduceMul, Nat.reduceSub, Nat.reducePow, Nat.reduceLT, Nat.reduceLeDiff, Int.reduceNeg, Int.reduceEq, Int.reduceLT, Int.reduceLE, reduceCtorEq]) ?_
    show snap _ 6 _ = _
    have e3 : decide (n.natAbs ≠ 0) = true := by simp; omega
    rw [e2]
    simp (disch := omega) only [go_sem, ↓reduceIte, Int.reduceToNat, Nat.reduceEqDiff, Nat.reduceAdd, Nat.reduceMul, Nat.reduceSub, Nat.reducePow, Nat.reduceLT, Nat.reduceLeDiff, Int.reduceNeg, Int.reduceEq, Int.reduceLT, Int.reduceLE, reduceCtorEq, e3, h1, Bool.true_and]
  · simp (disch := omega) only [go_sem, ↓reduceIte, Int.reduceToNat, Nat.reduceEqDiff, Nat.reduceAdd, Nat.reduceMul, Nat.reduceSub, Nat.reducePow, Nat.reduceLT, Nat.reduceLeDiff, Int.reduceNeg, Int.reduceEq, Int.reduceLT, Int.reduceLE, reduceCtorEq, h1]
    have e1 : n = ((n.natAbs : Nat) : Int) := by omega
    refine call_open (con_l2ofF n.natAbs (by omega)) (by simp (disch := omega) only [go_sem, ↓reduceIte, Int.reduceToNat, Nat.reduceEqDiff, Nat.reduceAdd, Nat.reduceMul, Nat.reduceSub, Nat.reducePow, Nat.reduceLT, Nat.reduceLeDiff, Int.reduceNeg, Int.reduceEq, Int.reduceLT, Int.reduceLE, reduceCtorEq, ← e1]) ?_
    rintro r hs ⟨rfl, rfl, _⟩
    refine ⟨by simp [freeN], ?_⟩
    simp (disch := omega) only [go_sem, ↓reduceIte, Int.reduceToNat, Nat.reduceEqDiff, Nat.reduceAdd, Nat.reduceMul, Nat.reduceSub, Nat.reducePow, Nat.reduceLT, Nat.reduceLeDiff, Int.reduceNeg, Int.reduceEq, Int.reduceLT, Int.reduceLE, reduceCtorEq]
    have l3 := len_bl (m := n.natAbs) (B := 64) (bl_le.2 (by omega))
    refine call_open (con_l3make false n.natAbs (by omega)) (by simp (disch := omega) only [go_sem, ↓reduceIte, Int.reduceToNat, Nat.reduceEqDiff, Nat.reduceAdd, Nat.reduceMul, Nat.reduceSub, Nat.reducePow, Nat.reduceLT, Nat.reduceLeDiff, Int.reduceNeg, Int.reduceEq, Int.reduceLT, Int.reduceLE, reduceCtorEq]) ?_
    rintro r hs ⟨rfl, rfl, _⟩
    refine ⟨by simp [freeN], ?_⟩
    simp (disch := omega) only [go_sem, ↓reduceIte, Int.reduceToNat, Nat.reduceEqDiff, Nat.reduceAdd, Nat.reduceMul, Nat.reduceSub, Nat.reducePow, Nat.reduceLT, Nat.reduceLeDiff, Int.reduceNeg, Int.reduceEq, Int.reduceLT, Int.reduceLE, reduceCtorEq]
    refine fin_val (by simp (disch := omega) only [go_sem, ↓reduceIte, Int.reduceToNat, Nat.reduceEqDiff, Nat.reduceAdd, Nat.reduceMul, Nat.reduceSub, Nat.reducePow, Nat.reduceLT, Nat.reduceLeDiff, Int.reduceNeg, Int.reduceEq, Int.reduceLT, Int.reduceLE, reduceCtorEq]) ?_
    show snap _ 6 _ = _
    simp (disch := omega) only [go_sem, ↓reduceIte, Int.reduceToNat, Nat.reduceEqDiff, Nat.reduceAdd, Nat.reduceMul, Nat.reduceSub, Nat.reducePow, Nat.reduceLT, Nat.reduceLeDiff, Int.reduceNeg, Int.reduceEq, Int.reduceLT, Int.reduceLE, reduceCtorEq, h1, Bool.false_and]

theorem con_l3mul (s1 : Bool) (m1 : Nat) (s2 : Bool) (m2 : Nat) (h1 : bl m1 ≤ 4000000) (h2 : bl m2 ≤ 4000000) : Con Tryd.prog 82 false [.ag [.v (.bool (s1)), .sl (lim (m1)).length (ints (lim (m1)))], .ag [.v (.bool (s2)), .sl (lim (m2)).length (ints (lim (m2)))]] [] (isA (.ag [.v (.bool ((s1 != s2) && decide (m1 * m2 ≠ 0))), .sl (lim (m1 * m2)).length (ints (lim (m1 * m2)))])) := by
  refine Con.frzA ?_
  refine Con.of_aw Tryd.func82 rfl Tryd.ntmps82 (by simp) (by simp) (by simp) (W.sound ?_)
  show @W Tryd.prog 16 ⟨_⟩ ⟨fun x σ => @retW _ _ _ ⟨_⟩ _ ⟨_⟩ x σ⟩ _ _
  simp (disch := omega) only [go_sem, ↓reduceIte, Int.reduceToNat, Nat.reduceEqDiff, Nat.reduceAdd, Nat.reduceMul, Nat.reduceSub, Nat.reducePow, Nat.reduceLT, Nat.reduceLeDiff, Int.reduceNeg, Int.reduceEq, Int.reduceLT, Int.reduceLE, reduceCtorEq]
  have l1 := len_bl h1
  have l2 := len_bl h2
  refine draw_of rfl [⟨0, [], []⟩, ⟨1, [], []⟩, ⟨2, [1], []⟩, ⟨3, [1], []⟩, ⟨4, [], []⟩, ⟨5, [1, 3], []⟩, ⟨6, [1, 3], []⟩, ⟨7, [1, 3, 6], []⟩, ⟨8, [1, 3, 6], []⟩, ⟨9, [1, 3], []⟩, ⟨10, [], []⟩, ⟨11, [], []⟩] (by kernel_rfl) ?_
  simp (disch := omega) only [go_sem, ↓reduceIte, Int.reduceToNat, Nat.reduceEqDiff, Nat.reduceAdd, Nat.reduceMul, Nat.reduceSub, Nat.reducePow, Nat.reduceLT, Nat.reduceLeDiff, Int.reduceNeg, Int.reduceEq, Int.reduceLT, Int.reduceLE, reduceCtorEq]
  refine call_open (con_l2mulF m1 m2 (by omega) (by omega)) (by simp (disch := omega) only [go_sem, ↓reduceIte, Int.reduceToNat, Nat.reduceEqDiff, Nat.reduceAdd, Nat.reduceMul, Nat.reduceSub, Nat.reducePow, Nat.reduceLT, Nat.reduceLeDiff, Int.reduceNeg, Int.reduceEq, Int.reduceLT, Int.reduceLE, reduceCtorEq]) ?_
  rintro r hs ⟨rfl, rfl, _⟩
  refine ⟨by simp [freeN], ?_⟩
  simp (disch := omega) only [go_sem, ↓reduceIte, Int.reduceToNat, Nat.reduceEqDiff, Nat.reduceAdd, Nat.reduceMul, Nat.reduceSub, Nat.reducePow, Nat.reduceLT, Nat.reduceLeDiff, Int.reduceNeg, Int.reduceEq, Int.reduceLT, Int.reduceLE, reduceCtorEq]
  have l3 := len_bl (Nat.le_trans (bl_mulle m1 m2) (Nat.add_le_add h1 h2))
  refine call_open (con_l3make (s1 != s2) (m1 * m2) (by omega)) (by simp (disch := omega) only [go_sem, ↓reduceIte, Int.reduceToNat, Nat.reduceEqDiff, Nat.reduceAdd, Nat.reduceMul, Nat.reduceSub, Nat.reducePow, Nat.reduceLT, Nat.reduceLeDiff, Int.reduceNeg, Int.reduceEq, Int.reduceLT, Int.reduceLE, reduceCtorEq]) ?_
  rintro r hs ⟨rfl, rfl, _⟩
  refine ⟨by simp [freeN], ?_⟩
  simp (disch := omega) only [go_sem, ↓reduceIte, Int.reduceToNat, Nat.reduceEqDiff, Nat.reduceAdd, Nat.reduceMul, Nat.reduceSub, Nat.reducePow, Nat.reduceLT, Nat.reduceLeDiff, Int.reduceNeg, Int.reduceEq, Int.reduceLT, Int.reduceLE, reduceCtorEq]
  refine fin_val (by simp (disch := omega) only [go_sem, ↓reduceIte, Int.reduceToNat, Nat.reduceEqDiff, Nat.reduceAdd, Nat.reduceMul, Nat.reduceSub, Nat.reducePow, Nat.reduceLT, Nat.reduceLeDiff, Int.reduceNeg, Int.reduceEq, Int.reduceLT, Int.reduceLE, reduceCtorEq]) ?_
  show snap _ 6 _ = _
  simp (disch := omega) only [go_sem, ↓reduceIte, Int.reduceToNat, Nat.reduceEqDiff, Nat.reduceAdd, Nat.reduceMul, Nat.reduceSub, Nat.reducePow, Nat.reduceLT, Nat.reduceLeDiff, Int.reduceNeg, Int.reduceEq, Int.reduceLT, Int.reduceLE, reduceCtorEq]

theorem con_l4make (s : Bool) (m : Nat) (e : Int) (hm : bl m ≤ 8000000) (he : -2 ^ 40 ≤ e ∧ e ≤ 2 ^ 40) : Con Tryd.prog 20 false [.ag [.v (.bool (s)), .sl (lim (m)).length (ints (lim (m)))], .v (.int .i64 e)] [] (isA (.ag [.v (.bool (oS s m)), .sl (lim (oM m)).length (ints (lim (oM m))), .v (.int .i64 (oE m e))])) := by
  refine Con.frzA ?_
  refine Con.of_aw Tryd.func20 rfl Tryd.ntmps20 (by simp) (by simp) (by simp) (W.sound ?_)
  show @W Tryd.prog 26 ⟨_⟩ ⟨fun x σ => @retW _ _ _ ⟨_⟩ _ ⟨_⟩ x σ⟩ _ _
  simp (disch := omega) only [go_sem, ↓reduceIte, Int.reduceToNat, Nat.reduceEqDiff, Nat.reduceAdd, Nat.reduceMul, Nat.reduceSub, Nat.reducePow, Nat.reduceLT, Nat.reduceLeDiff, Int.reduceNeg, Int.reduceEq, Int.reduceLT, Int.reduceLE, reduceCtorEq]
  have hl := len_bl hm
  refine ifW_dec (fun h1 => ?_) (fun h1 => ?_)
  · simp (disch := omega) only [go_sem, ↓reduceIte, Int.reduceToNat, Nat.reduceEqDiff, Nat.reduceAdd, Nat.reduceMul, Nat.reduceSub, Nat.reducePow, Nat.reduceLT, Nat.reduceLeDiff, Int.reduceNeg, Int.reduceEq, Int.reduceLT, Int.reduceLE, reduceCtorEq, h1]
    have h0 : m = 0 := lim_eq_nil.1 (List.length_eq_zero_iff.1 (by omega))
    subst h0
    refine fin_val (by simp (disch := omega) only [go_sem, ↓reduceIte, Int.reduceToNat, Nat.reduceEqDiff, Nat.reduceAdd, Nat.reduceMul, Nat.reduceSub, Nat.reducePow, Nat.reduceLT, Nat.reduceLeDiff, Int.reduceNeg, Int.reduceEq, Int.reduceLT, Int.reduceLE, reduceCtorEq]) ?_
    show snap _ 6 _ = _
    simp only [oS, oM_zero, oE, lim_zero, if_true]
    simp (disch := omega) only [go_sem, ↓reduceIte, Int.reduceToNat, Nat.reduceEqDiff, Nat.reduceAdd, Nat.reduceMul, Nat.reduceSub, Nat.reducePow, Nat.reduceLT, Nat.reduceLeDiff, Int.reduceNeg, Int.reduceEq, Int.reduceLT, Int.reduceLE, reduceCtorEq]
  · have h0 : m ≠ 0 := fun e => h1 (by rw [e, lim_zero]; rfl)
    have ht := tz_lt_bl h0
    simp (disch := omega) only [go_sem, ↓reduceIte, Int.reduceToNat, Nat.reduceEqDiff, Nat.reduceAdd, Nat.reduceMul, Nat.reduceSub, Nat.reducePow, Nat.reduceLT, Nat.reduceLeDiff, Int.reduceNeg, Int.reduceEq, Int.reduceLT, Int.reduceLE, reduceCtorEq, h1]
    refine call_closed (con_l2trail m (by omega)) (by simp (disch := omega) only [go_sem, ↓reduceIte, Int.reduceToNat, Nat.reduceEqDiff, Nat.reduceAdd, Nat.reduceMul, Nat.reduceSub, Nat.reducePow, Nat.reduceLT, Nat.reduceLeDiff, Int.reduceNeg, Int.reduceEq, Int.reduceLT, Int.reduceLE, reduceCtorEq]) ?_
    rintro r hs ⟨rfl, rfl, _⟩
    refine ⟨by simp [freeN], ?_⟩
    simp (disch := omega) only [go_sem, ↓reduceIte, Int.reduceToNat, Nat.reduceEqDiff, Nat.reduceAdd, Nat.reduceMul, Nat.reduceSub, Nat.reducePow, Nat.reduceLT, Nat.reduceLeDiff, Int.reduceNeg, Int.reduceEq, Int.reduceLT, Int.reduceLE, reduceCtorEq]
    refine draw_of rfl [⟨0, [], []⟩, ⟨1, [], []⟩, ⟨2, [1], []⟩, ⟨3, [1], []⟩, ⟨4, [1, 3], []⟩, ⟨7, [1, 3], []⟩, ⟨8, [1, 3], []⟩, ⟨9, [1, 3], []⟩, ⟨5, [1], []⟩, ⟨6, [], []⟩, ⟨10, [], []⟩, ⟨11, [], []⟩] (by kernel_rfl) ?_
    simp (disch := omega) only [go_sem, ↓reduceIte, Int.reduceToNat, Nat.reduceEqDiff, Nat.reduceAdd, Nat.reduceMul, Nat.reduceSub, Nat.reducePow, Nat.reduceLT, Nat.reduceLeDiff, Int.reduceNeg, Int.reduceEq, Int.reduceLT, Int.reduceLE, reduceCtorEq]
    refine call_open (con_l2shr m (tz m) (by omega) (by omega)) (by simp (disch := omega) only [go_sem, ↓reduceIte, Int.reduceToNat, Nat.reduceEqDiff, Nat.reduceAdd, Nat.reduceMul, Nat.reduceSub, Nat.reducePow, Nat.reduceLT, Nat.reduceLeDiff, Int.reduceNeg, Int.reduceEq, Int.reduceLT, Int.reduceLE, reduceCtorEq]) ?_
    rintro r hs ⟨rfl, rfl, _⟩
    refine ⟨by simp [freeN], ?_⟩
    simp (disch := omega) only [go_sem, ↓reduceIte, Int.reduceToNat, Nat.reduceEqDiff, Nat.reduceAdd, Nat.reduceMul, Nat.reduceSub, Nat.reducePow, Nat.reduceLT, Nat.reduceLeDiff, Int.reduceNeg, Int.reduceEq, Int.reduceLT, Int.reduceLE, reduceCtorEq]
    have l3 := len_bl (Nat.le_trans (bl_divle m (2 ^ tz m)) hm)
    refine call_open (con_l3make s (m / 2 ^ tz m) (by omega)) (by simp (disch := omega) only [go_sem, ↓reduceIte, Int.reduceToNat, Nat.reduceEqDiff, Nat.reduceAdd, Nat.reduceMul, Nat.reduceSub, Nat.reducePow, Nat.reduceLT, Nat.reduceLeDiff, Int.reduceNeg, Int.reduceEq, Int.reduceLT, Int.reduceLE, reduceCtorEq]) ?_
    rintro r hs ⟨rfl, rfl, _⟩
    refine ⟨by simp [freeN], ?_⟩
    simp (disch := omega) only [go_sem, ↓reduceIte, Int.reduceToNat, Nat.reduceEqDiff, Nat.reduceAdd, Nat.reduceMul, Nat.reduceSub, Nat.reducePow, Nat.reduceLT, Nat.reduceLeDiff, Int.reduceNeg, Int.reduceEq, Int.reduceLT, Int.reduceLE, reduceCtorEq]
    refine fin_val (by simp (disch := omega) only [go_sem, ↓reduceIte, Int.reduceToNat, Nat.reduceEqDiff, Nat.reduceAdd, Nat.reduceMul, Nat.reduceSub, Nat.reducePow, Nat.reduceLT, Nat.reduceLeDiff, Int.reduceNeg, Int.reduceEq, Int.reduceLT, Int.reduceLE, reduceCtorEq]) ?_
    show snap _ 6 _ = _
    have h3 : decide (m / 2 ^ tz m ≠ 0) = true := by
      have := (odd_part h0).1
      simp only [decide_eq_true_eq]; omega
    simp only [oS, oM, oE, if_neg h0]
    simp (disch := omega) only [go_sem, ↓reduceIte, Int.reduceToNat, Nat.reduceEqDiff, Nat.reduceAdd, Nat.reduceMul, Nat.reduceSub, Nat.reducePow, Nat.reduceLT, Nat.reduceLeDiff, Int.reduceNeg, Int.reduceEq, Int.reduceLT, Int.reduceLE, reduceCtorEq, h3, Bool.and_true]

theorem con_l4mul (s1 : Bool) (m1 : Nat) (e1 : Int) (s2 : Bool) (m2 : Nat) (e2 : Int) (h1 : bl m1 ≤ 4000000) (h2 : bl m2 ≤ 4000000) (he1 : -2 ^ 39 ≤ e1 ∧ e1 ≤ 2 ^ 39) (he2 : -2 ^ 39 ≤ e2 ∧ e2 ≤ 2 ^ 39) :
    Con Tryd.prog 57 false [.ag [.v (.bool (s1)), .sl (lim (m1)).length (ints (lim (m1))), .v (.int .i64 (e1))], .ag [.v (.bool (s2)), .sl (lim (m2)).length (ints (lim (m2))), .v (.int .i64 (e2))]] [] (isA (.ag [.v (.bool (oS ((s1 != s2) && decide (m1 * m2 ≠ 0)) (m1 * m2))), .sl (lim (oM (m1 * m2))).length (ints (lim (oM (m1 * m2)))), .v (.int .i64 (oE (m1 * m2) (e1 + e2)))])) := by
  refine Con.frzA ?_
  refine Con.of_aw Tryd.func57 rfl Tryd.ntmps57 (by simp) (by simp) (by simp) (W.sound ?_)
  show @W Tryd.prog 16 ⟨_⟩ ⟨fun x σ => @retW _ _ _ ⟨_⟩ _ ⟨_⟩ x σ⟩ _ _
  simp (disch := omega) only [go_sem, ↓reduceIte, Int.reduceToNat, Nat.reduceEqDiff, Nat.reduceAdd, Nat.reduceMul, Nat.reduceSub, Nat.reducePow, Nat.reduceLT, Nat.reduceLeDiff, Int.reduceNeg, Int.reduceEq, Int.reduceLT, Int.reduceLE, reduceCtorEq]
  refine draw_of rfl [⟨0, [], []⟩, ⟨1, [], []⟩, ⟨2, [1], []⟩, ⟨3, [1], []⟩, ⟨5, [1, 3], []⟩, ⟨6, [1, 3], []⟩, ⟨7, [1, 3, 6], []⟩, ⟨8, [1, 3, 6], []⟩, ⟨9, [1, 3], []⟩, ⟨4, [6, 8], []⟩, ⟨10, [], []⟩, ⟨11, [], []⟩] (by kernel_rfl) ?_
  simp (disch := omega) only [go_sem, ↓reduceIte, Int.reduceToNat, Nat.reduceEqDiff, Nat.reduceAdd, Nat.reduceMul, Nat.reduceSub, Nat.reducePow, Nat.reduceLT, Nat.reduceLeDiff, Int.reduceNeg, Int.reduceEq, Int.reduceLT, Int.reduceLE, reduceCtorEq]
  refine call_open (con_l3mul s1 m1 s2 m2 h1 h2) (by simp (disch := omega) only [go_sem, ↓reduceIte, Int.reduceToNat, Nat.reduceEqDiff, Nat.reduceAdd, Nat.reduceMul, Nat.reduceSub, Nat.reducePow, Nat.reduceLT, Nat.reduceLeDiff, Int.reduceNeg, Int.reduceEq, Int.reduceLT, Int.reduceLE, reduceCtorEq]) ?_
  rintro r hs ⟨rfl, rfl, _⟩
  refine ⟨by simp [freeN], ?_⟩
  simp (disch := omega) only [go_sem, ↓reduceIte, Int.reduceToNat, Nat.reduceEqDiff, Nat.reduceAdd, Nat.reduceMul, Nat.reduceSub, Nat.reducePow, Nat.reduceLT, Nat.reduceLeDiff, Int.reduceNeg, Int.reduceEq, Int.reduceLT, Int.reduceLE, reduceCtorEq]
  have h3 := Nat.le_trans (bl_mulle m1 m2) (Nat.add_le_add h1 h2)
  refine call_open (con_l4make ((s1 != s2) && decide (m1 * m2 ≠ 0)) (m1 * m2) (e1 + e2) (by omega) (by omega)) (by simp (disch := omega) only [go_sem, ↓reduceIte, Int.reduceToNat, Nat.reduceEqDiff, Nat.reduceAdd, Nat.reduceMul, Nat.reduceSub, Nat.reducePow, Nat.reduceLT, Nat.reduceLeDiff, Int.reduceNeg, Int.reduceEq, Int.reduceLT, Int.reduceLE, reduceCtorEq]) ?_
  rintro r hs ⟨rfl, rfl, _⟩
  refine ⟨by simp [freeN], ?_⟩
  simp (disch := omega) only [go_sem, ↓reduceIte, Int.reduceToNat, Nat.reduceEqDiff, Nat.reduceAdd, Nat.reduceMul, Nat.reduceSub, Nat.reducePow, Nat.reduceLT, Nat.reduceLeDiff, Int.reduceNeg, Int.reduceEq, Int.reduceLT, Int.reduceLE, reduceCtorEq]
  refine fin_val (by simp (disch := omega) only [go_sem, ↓reduceIte, Int.reduceToNat, Nat.reduceEqDiff, Nat.reduceAdd, Nat.reduceMul, Nat.reduceSub, Nat.reducePow, Nat.reduceLT, Nat.reduceLeDiff, Int.reduceNeg, Int.reduceEq, Int.reduceLT, Int.reduceLE, reduceCtorEq]) ?_
  show snap _ 6 _ = _
  simp (disch := omega) only [go_sem, ↓reduceIte, Int.reduceToNat, Nat.reduceEqDiff, Nat.reduceAdd, Nat.reduceMul, Nat.reduceSub, Nat.reducePow, Nat.reduceLT, Nat.reduceLeDiff, Int.reduceNeg, Int.reduceEq, Int.reduceLT, Int.reduceLE, reduceCtorEq]

theorem con_l4top (s : Bool) (m : Nat) (e : Int) (hm : (lim m).length ≤ 2 ^ 40) (he : -2 ^ 40 ≤ e ∧ e ≤ 2 ^ 40) : Con Tryd.prog 37 true [.ag [.v (.bool (s)), .sl (lim (m)).length (ints (lim (m))), .v (.int .i64 (e))]] [] (isA (.v (.int .i64 (if m = 0 then 0 else e + (bl m : Int))))) := by
  refine Con.of_aw Tryd.func37 rfl Tryd.ntmps37 (by simp) (by simp) (by simp) (W.sound ?_)
  show @W Tryd.prog 16 ⟨_⟩ ⟨fun x σ => @retW _ _ _ ⟨_⟩ _ ⟨_⟩ x σ⟩ _ _
  simp (disch := omega) only [go_sem, ↓reduceIte, Int.reduceToNat, Nat.reduceEqDiff, Nat.reduceAdd, Nat.reduceMul, Nat.reduceSub, Nat.reducePow, Nat.reduceLT, Nat.reduceLeDiff, Int.reduceNeg, Int.reduceEq, Int.reduceLT, Int.reduceLE, reduceCtorEq]
  refine ifW_dec (fun h1 => ?_) (fun h1 => ?_)
  · simp (disch := omega) only [go_sem, ↓reduceIte, Int.reduceToNat, Nat.reduceEqDiff, Nat.reduceAdd, Nat.reduceMul, Nat.reduceSub, Nat.reducePow, Nat.reduceLT, Nat.reduceLeDiff, Int.reduceNeg, Int.reduceEq, Int.reduceLT, Int.reduceLE, reduceCtorEq, h1]
    have h0 : m = 0 := lim_eq_nil.1 (List.length_eq_zero_iff.1 (by omega))
    rw [if_pos h0]
    exact fin_valc (by simp (disch := omega) only [go_sem, ↓reduceIte, Int.reduceToNat, Nat.reduceEqDiff, Nat.reduceAdd, Nat.reduceMul, Nat.reduceSub, Nat.reducePow, Nat.reduceLT, Nat.reduceLeDiff, Int.reduceNeg, Int.reduceEq, Int.reduceLT, Int.reduceLE, reduceCtorEq]) (by simp (disch := omega) only [go_sem, ↓reduceIte, Int.reduceToNat, Nat.reduceEqDiff, Nat.reduceAdd, Nat.reduceMul, Nat.reduceSub, Nat.reducePow, Nat.reduceLT, Nat.reduceLeDiff, Int.reduceNeg, Int.reduceEq, Int.reduceLT, Int.reduceLE, reduceCtorEq]) isA_mk
  · have h0 : m ≠ 0 := fun e => h1 (by rw [e, lim_zero]; rfl)
    have := bl_len (m := m)
    simp (disch := omega) only [go_sem, ↓reduceIte, Int.reduceToNat, Nat.reduceEqDiff, Nat.reduceAdd, Nat.reduceMul, Nat.reduceSub, Nat.reducePow, Nat.reduceLT, Nat.reduceLeDiff, Int.reduceNeg, Int.reduceEq, Int.reduceLT, Int.reduceLE, reduceCtorEq, h1]
    refine draw_of rfl [⟨0, [], []⟩, ⟨1, [], []⟩, ⟨2, [1], []⟩, ⟨3, [1], []⟩, ⟨4, [1], []⟩, ⟨5, [1], []⟩, ⟨6, [], []⟩, ⟨7, [], []⟩] (by kernel_rfl) ?_
    simp (disch := omega) only [go_sem, ↓reduceIte, Int.reduceToNat, Nat.reduceEqDiff, Nat.reduceAdd, Nat.reduceMul, Nat.reduceSub, Nat.reducePow, Nat.reduceLT, Nat.reduceLeDiff, Int.reduceNeg, Int.reduceEq, Int.reduceLT, Int.reduceLE, reduceCtorEq]
    refine call_closed (con_l2bits m hm) (by simp (disch := omega) only [go_sem, ↓reduceIte, Int.reduceToNat, Nat.reduceEqDiff, Nat.reduceAdd, Nat.reduceMul, Nat.reduceSub, Nat.reducePow, Nat.reduceLT, Nat.reduceLeDiff, Int.reduceNeg, Int.reduceEq, Int.reduceLT, Int.reduceLE, reduceCtorEq]) ?_
    rintro r hs ⟨rfl, rfl, _⟩
    refine ⟨by simp [freeN], ?_⟩
    simp (disch := omega) only [go_sem, ↓reduceIte, Int.reduceToNat, Nat.reduceEqDiff, Nat.reduceAdd, Nat.reduceMul, Nat.reduceSub, Nat.reducePow, Nat.reduceLT, Nat.reduceLeDiff, Int.reduceNeg, Int.reduceEq, Int.reduceLT, Int.reduceLE, reduceCtorEq]
    rw [if_neg h0]
    exact fin_valc (by simp (disch := omega) only [go_sem, ↓reduceIte, Int.reduceToNat, Nat.reduceEqDiff, Nat.reduceAdd, Nat.reduceMul, Nat.reduceSub, Nat.reducePow, Nat.reduceLT, Nat.reduceLeDiff, Int.reduceNeg, Int.reduceEq, Int.reduceLT, Int.reduceLE, reduceCtorEq]) (by simp (disch := omega) only [go_sem, ↓reduceIte, Int.reduceToNat, Nat.reduceEqDiff, Nat.reduceAdd, Nat.reduceMul, Nat.reduceSub, Nat.reducePow, Nat.reduceLT, Nat.reduceLeDiff, Int.reduceNeg, Int.reduceEq, Int.reduceLT, Int.reduceLE, reduceCtorEq]) isA_mk
end Go.Ab
namespace Go.Ab
set_option linter.unusedVariables false

/-- As the reference tells whether to go up. -/
def upsB (neg : Bool) (m k : Nat) (mode : Int) : Bool :=
  if mode = 1 then false else if mode = 2 then !neg else if mode = 3 then neg else if mode = 4 then decide (m / 2 ^ (k - 1) % 2 = 1)
  else decide (m / 2 ^ (k - 1) % 2 = 1) && (decide (tz m < k - 1) || decide (m / 2 ^ k % 2 = 1))

theorem half_bit {m k : Nat} (hk : 1 ≤ k) : m / 2 ^ (k - 1) % 2 = 1 ↔ 2 ^ k ≤ m % 2 ^ k * 2 := by
  obtain ⟨j, rfl⟩ : ∃ j, k = j + 1 := ⟨k - 1, by omega⟩
  rw [Nat.add_sub_cancel]
  have hp : 0 < 2 ^ j := Nat.pow_pos (by omega)
  have h1 : m % 2 ^ (j + 1) / 2 ^ j = m / 2 ^ j % 2 := by rw [Nat.pow_succ, Nat.mod_mul_right_div_self]
  have h2 : m % 2 ^ (j + 1) < 2 ^ (j + 1) := Nat.mod_lt _ (Nat.pow_pos (by omega))
  rw [← h1]
  generalize m % 2 ^ (j + 1) = r at *
  rw [Nat.pow_succ] at *
  constructor
  · intro h
    have h3 := (Nat.le_div_iff_mul_le hp).1 (show 1 ≤ r / 2 ^ j by
      rcases Nat.eq_zero_or_pos (r / 2 ^ j) with e | e
      · rw [e] at h; simp at h
      · exact e)
    omega
  · intro h
    have h3 : 1 ≤ r / 2 ^ j := (Nat.le_div_iff_mul_le hp).2 (by omega)
    have h4 : r / 2 ^ j < 2 := (Nat.div_lt_iff_lt_mul hp).2 (by omega)
    omega

theorem cmp_pos {a b : Int} : (0 < cmpI a b ↔ b < a) ∧ (cmpI a b = 0 ↔ a = b) ∧ (0 ≤ cmpI a b ↔ b ≤ a) := by
  unfold cmpI
  split
  · omega
  · split <;> omega

theorem tz_odd {m : Nat} (h : m % 2 = 1) : tz m = 0 := tz_uniq (a := m / 2) (by simp; omega)

theorem ups_eq {neg : Bool} {m k : Nat} {mode : Int} (hm : m % 2 = 1) (hk : 1 ≤ k) (h0 : 0 ≤ mode ∧ mode ≤ 4) :
    upsB neg m k mode = rup neg (decide (m / 2 ^ k % 2 = 1)) (cmpI ((m % 2 ^ k * 2 : Nat) : Int) ((2 ^ k : Nat) : Int)) mode := by
  have hb := half_bit (m := m) hk
  obtain ⟨c1, c2, c3⟩ := cmp_pos (a := ((m % 2 ^ k * 2 : Nat) : Int)) (b := ((2 ^ k : Nat) : Int))
  generalize cmpI ((m % 2 ^ k * 2 : Nat) : Int) ((2 ^ k : Nat) : Int) = c at *
  have ht := tz_odd hm
  unfold upsB rup
  rcases (by omega : mode = 0 ∨ mode = 1 ∨ mode = 2 ∨ mode = 3 ∨ mode = 4) with rfl | rfl | rfl | rfl | rfl
  · rw [if_neg (by omega), if_neg (by omega), if_neg (by omega), if_neg (by omega), if_neg (by omega), if_neg (by omega), if_pos rfl, ht]
    rw [Bool.eq_iff_iff]
    simp only [Bool.and_eq_true, Bool.or_eq_true, decide_eq_true_eq, c1, c2]
    rw [hb]
    rcases (by omega : k = 1 ∨ 1 < k) with rfl | h
    · have : m % 2 ^ 1 = 1 := by rw [Nat.pow_one]; exact hm
      rw [this]; simp
    · have hodd : m % 2 ^ k % 2 = 1 := by
        obtain ⟨j, rfl⟩ : ∃ j, k = j + 1 := ⟨k - 1, by omega⟩
        rw [Nat.pow_succ, Nat.mul_comm, Nat.mod_mul_right_mod]; exact hm
      have h4 : 2 ^ k % 4 = 0 := by
        obtain ⟨j, rfl⟩ : ∃ j, k = j + 2 := ⟨k - 2, by omega⟩
        rw [Nat.pow_add]; omega
      omega
  · simp
  · simp
  · simp
  · rw [if_neg (by omega), if_neg (by omega), if_neg (by omega), if_pos rfl, if_neg (by omega), if_neg (by omega), if_neg (by omega), if_pos rfl]
    rw [decide_eq_decide, hb, c3]; omega

theorem odd_mod {m k : Nat} (hm : m % 2 = 1) (hk : 1 ≤ k) : m % 2 ^ k ≠ 0 := by
  obtain ⟨j, rfl⟩ : ∃ j, k = j + 1 := ⟨k - 1, by omega⟩
  intro h
  have : m % 2 ^ (j + 1) % 2 = 1 := by rw [Nat.pow_succ, Nat.mul_comm, Nat.mod_mul_right_mod]; exact hm
  omega

/-! ### The normal form and rounding -/
theorem oM_oM (m : Nat) : oM (oM m) = oM m := by
  by_cases h : m = 0
  · subst h; rw [oM_zero, oM_zero]
  · have := (odd_part h).1
    have ht : tz (oM m) = 0 := tz_odd this
    show oM m / 2 ^ tz (oM m) = oM m
    rw [ht]; simp
theorem oE_oM (m : Nat) (e : Int) : oE (oM m) (oE m e) = oE m e := by
  by_cases h : m = 0
  · subst h; rw [oM_zero]; simp [oE]
  · have := (odd_part h).1
    have ht : tz (oM m) = 0 := tz_odd this
    have h2 : oM m ≠ 0 := fun e => h (oM_eq_zero.1 e)
    unfold oE
    rw [if_neg h2, if_neg h, ht]; simp

theorem oM_pow {m k : Nat} : oM (m * 2 ^ k) = oM m := by
  by_cases h : m = 0
  · subst h; simp
  · unfold oM
    rw [tz_mul_pow h, Nat.pow_add, Nat.mul_comm (2 ^ tz m), ← Nat.div_div_eq_div_mul, Nat.mul_div_cancel _ (Nat.pow_pos (by omega))]

theorem rq_scale {s : Bool} {a b k : Nat} {mode : Int} : rq s (a * 2 ^ k) (b * 2 ^ k) mode = rq s a b mode := by
  have hp : 0 < 2 ^ k := Nat.pow_pos (by omega)
  have h1 : a * 2 ^ k / (b * 2 ^ k) = a / b := Nat.mul_div_mul_right _ _ hp
  have h2 : a * 2 ^ k % (b * 2 ^ k) = a % b * 2 ^ k := Nat.mul_mod_mul_right _ _ _
  have h3 : cmpI ((a % b * 2 ^ k * 2 : Nat) : Int) ((b * 2 ^ k : Nat) : Int) = cmpI ((a % b * 2 : Nat) : Int) (b : Int) := by
    have e1 : a % b * 2 ^ k * 2 = a % b * 2 * 2 ^ k := by grind
    rw [e1]
    have h4 : ∀ x y : Nat, x * 2 ^ k < y * 2 ^ k ↔ x < y := fun x y => Nat.mul_lt_mul_right hp
    have key : ∀ x y X Y : Nat, (X < Y ↔ x < y) → (Y < X ↔ y < x) → cmpI (X : Int) (Y : Int) = cmpI (x : Int) (y : Int) := by
      intro x y X Y p q
      unfold cmpI
      rcases Nat.lt_trichotomy x y with h | h | h
      · have := p.2 h
        rw [if_pos (by omega), if_pos (by omega)]
      · have g1 : ¬ X < Y := fun g => by have := p.1 g; omega
        have g2 : ¬ Y < X := fun g => by have := q.1 g; omega
        rw [if_neg (by omega), if_neg (by omega), if_neg (by omega), if_neg (by omega)]
      · have := q.2 h
        rw [if_neg (by omega), if_pos (by omega), if_neg (by omega), if_pos (by omega)]
    exact key _ _ _ _ (h4 _ _) (h4 _ _)
  unfold rq
  rw [h1, h2, h3]
  by_cases h : a % b = 0
  · rw [if_pos h, if_pos (by rw [h]; simp)]
  · rw [if_neg h, if_neg (by have := Nat.mul_pos (show 0 < a % b by omega) hp; omega)]

theorem rq_one {s : Bool} {a : Nat} {mode : Int} : rq s a 1 mode = a := by unfold rq; simp [Nat.mod_one]
end Go.Ab
