/- What the proof of this claim stands on: the walks of the functions and the plain laws, part 6. -/
import Derived.Test.YthlmpjafbjhafaaDoorFlRoundLib5
namespace Go.Ab
open Go Go.Proofs
set_option linter.unusedVariables false
set_option linter.unusedSimpArgs false

theorem con_l4mode (mode : Int) : Con Tryd.prog 17 true [.v (.int .i64 mode)] [] (isA (.v (.bool (decide (0 ≤ mode) && decide (mode ≤ 4))))) := by
  refine Con.of_aw Tryd.func17 rfl Tryd.ntmps17 (by simp) (by simp) (by simp) (W.sound ?_)
  show @W Tryd.prog 9 ⟨_⟩ ⟨fun x σ => @retW _ _ _ ⟨_⟩ _ ⟨_⟩ x σ⟩ _ _
  simp (disch := omega) only [go_sem, ↓reduceIte, Int.reduceToNat, Nat.reduceEqDiff, Nat.reduceAdd, Nat.reduceMul, Nat.reduceSub, Nat.reducePow, Nat.reduceLT, Nat.reduceLeDiff, Int.reduceNeg, Int.reduceEq, Int.reduceLT, Int.reduceLE, reduceCtorEq]
  repeat' first
    | simp (disch := omega) only [go_sem, ↓reduceIte, Int.reduceToNat, Nat.reduceEqDiff, Nat.reduceAdd, Nat.reduceMul, Nat.reduceSub, Nat.reducePow, Nat.reduceLT, Nat.reduceLeDiff, Int.reduceNeg, Int.reduceEq, Int.reduceLT, Int.reduceLE, reduceCtorEq, *]
    | (with_reducible refine ifW_dec (fun _ => ?_) (fun _ => ?_))
    | (with_reducible refine ifW_not (fun _ => ?_) (fun _ => ?_))
    | (with_reducible refine ifW_nb (fun _ => ?_) (fun _ => ?_))
    | (with_reducible refine ifW_b (fun _ => ?_) (fun _ => ?_))
  all_goals exact fin_valc (by simp (disch := omega) only [go_sem, ↓reduceIte, Int.reduceToNat, Nat.reduceEqDiff, Nat.reduceAdd, Nat.reduceMul, Nat.reduceSub, Nat.reducePow, Nat.reduceLT, Nat.reduceLeDiff, Int.reduceNeg, Int.reduceEq, Int.reduceLT, Int.reduceLE, reduceCtorEq]) (by simp (disch := omega) only [go_sem, ↓reduceIte, Int.reduceToNat, Nat.reduceEqDiff, Nat.reduceAdd, Nat.reduceMul, Nat.reduceSub, Nat.reducePow, Nat.reduceLT, Nat.reduceLeDiff, Int.reduceNeg, Int.reduceEq, Int.reduceLT, Int.reduceLE, reduceCtorEq]) ⟨by simp_all [tupA] <;> omega, rfl, rfl⟩

theorem con_l4ups (neg : Bool) (m k : Nat) (mode : Int) (hl : (lim m).length ≤ 2 ^ 40) (hk : 1 ≤ k) (hk2 : k ≤ 2 ^ 40) : Con Tryd.prog 73 true [.v (.bool neg), .ag [.sl (lim (m)).length (ints (lim (m)))], .v (.int .i64 k), .v (.int .i64 mode)] [] (isA (.v (.bool (upsB neg m k mode)))) := by
  refine Con.of_aw Tryd.func73 rfl Tryd.ntmps73 (by simp) (by simp) (by simp) (W.sound ?_)
  show @W Tryd.prog 44 ⟨_⟩ ⟨fun x σ => @retW _ _ _ ⟨_⟩ _ ⟨_⟩ x σ⟩ _ _
  have ek : ((k : Int) - 1) = ((k - 1 : Nat) : Int) := by omega
  have e1 : decide (((m / 2 ^ (k - 1) % 2 : Nat) : Int) = 1) = decide (m / 2 ^ (k - 1) % 2 = 1) := by rw [decide_eq_decide]; omega
  have e2 : decide (((m / 2 ^ k % 2 : Nat) : Int) = 1) = decide (m / 2 ^ k % 2 = 1) := by rw [decide_eq_decide]; omega
  have e3 : decide ((tz m : Int) < ((k - 1 : Nat) : Int)) = decide (tz m < k - 1) := by rw [decide_eq_decide]; omega
  simp (disch := omega) only [go_sem, ↓reduceIte, Int.reduceToNat, Nat.reduceEqDiff, Nat.reduceAdd, Nat.reduceMul, Nat.reduceSub, Nat.reducePow, Nat.reduceLT, Nat.reduceLeDiff, Int.reduceNeg, Int.reduceEq, Int.reduceLT, Int.reduceLE, reduceCtorEq, ek]
  refine call_closed (con_l2bit m ((k - 1 : Nat) : Int) hl (by omega) (by omega)) (by simp (disch := omega) only [go_sem, ↓reduceIte, Int.reduceToNat, Nat.reduceEqDiff, Nat.reduceAdd, Nat.reduceMul, Nat.reduceSub, Nat.reducePow, Nat.reduceLT, Nat.reduceLeDiff, Int.reduceNeg, Int.reduceEq, Int.reduceLT, Int.reduceLE, reduceCtorEq, ek]) ?_
  rintro r hs ⟨rfl, rfl, _⟩
  refine ⟨by simp [freeN], ?_⟩
  simp (disch := omega) only [go_sem, ↓reduceIte, Int.reduceToNat, Nat.reduceEqDiff, Nat.reduceAdd, Nat.reduceMul, Nat.reduceSub, Nat.reducePow, Nat.reduceLT, Nat.reduceLeDiff, Int.reduceNeg, Int.reduceEq, Int.reduceLT, Int.reduceLE, reduceCtorEq, ek, e1]
  refine call_closed (con_l2trail m hl) (by simp (disch := omega) only [go_sem, ↓reduceIte, Int.reduceToNat, Nat.reduceEqDiff, Nat.reduceAdd, Nat.reduceMul, Nat.reduceSub, Nat.reducePow, Nat.reduceLT, Nat.reduceLeDiff, Int.reduceNeg, Int.reduceEq, Int.reduceLT, Int.reduceLE, reduceCtorEq]) ?_
  rintro r hs ⟨rfl, rfl, _⟩
  refine ⟨by simp [freeN], ?_⟩
  simp (disch := omega) only [go_sem, ↓reduceIte, Int.reduceToNat, Nat.reduceEqDiff, Nat.reduceAdd, Nat.reduceMul, Nat.reduceSub, Nat.reducePow, Nat.reduceLT, Nat.reduceLeDiff, Int.reduceNeg, Int.reduceEq, Int.reduceLT, Int.reduceLE, reduceCtorEq]
  refine ifW_dec (fun h1 => ?_) (fun h1 => ?_)
  · simp (disch := omega) only [go_sem, ↓reduceIte, Int.reduceToNat, Nat.reduceEqDiff, Nat.reduceAdd, Nat.reduceMul, Nat.reduceSub, Nat.reducePow, Nat.reduceLT, Nat.reduceLeDiff, Int.reduceNeg, Int.reduceEq, Int.reduceLT, Int.reduceLE, reduceCtorEq, h1]
    exact fin_valc (by simp (disch := omega) only [go_sem, ↓reduceIte, Int.reduceToNat, Nat.reduceEqDiff, Nat.reduceAdd, Nat.reduceMul, Nat.reduceSub, Nat.reducePow, Nat.reduceLT, Nat.reduceLeDiff, Int.reduceNeg, Int.reduceEq, Int.reduceLT, Int.reduceLE, reduceCtorEq]) (by simp (disch := omega) only [go_sem, ↓reduceIte, Int.reduceToNat, Nat.reduceEqDiff, Nat.reduceAdd, Nat.reduceMul, Nat.reduceSub, Nat.reducePow, Nat.reduceLT, Nat.reduceLeDiff, Int.reduceNeg, Int.reduceEq, Int.reduceLT, Int.reduceLE, reduceCtorEq]) ⟨by simp [tupA, upsB, h1], rfl, rfl⟩
  · simp (disch := omega) only [go_sem, ↓reduceIte, Int.reduceToNat, Nat.reduceEqDiff, Nat.reduceAdd, Nat.reduceMul, Nat.reduceSub, Nat.reducePow, Nat.reduceLT, Nat.reduceLeDiff, Int.reduceNeg, Int.reduceEq, Int.reduceLT, Int.reduceLE, reduceCtorEq, h1]
    refine ifW_dec (fun h2 => ?_) (fun h2 => ?_)
    · simp (disch := omega) only [go_sem, ↓reduceIte, Int.reduceToNat, Nat.reduceEqDiff, Nat.reduceAdd, Nat.reduceMul, Nat.reduceSub, Nat.reducePow, Nat.reduceLT, Nat.reduceLeDiff, Int.reduceNeg, Int.reduceEq, Int.reduceLT, Int.reduceLE, reduceCtorEq, h2]
      exact fin_valc (by simp (disch := omega) only [go_sem, ↓reduceIte, Int.reduceToNat, Nat.reduceEqDiff, Nat.reduceAdd, Nat.reduceMul, Nat.reduceSub, Nat.reducePow, Nat.reduceLT, Nat.reduceLeDiff, Int.reduceNeg, Int.reduceEq, Int.reduceLT, Int.reduceLE, reduceCtorEq]) (by simp (disch := omega) only [go_sem, ↓reduceIte, Int.reduceToNat, Nat.reduceEqDiff, Nat.reduceAdd, Nat.reduceMul, Nat.reduceSub, Nat.reducePow, Nat.reduceLT, Nat.reduceLeDiff, Int.reduceNeg, Int.reduceEq, Int.reduceLT, Int.reduceLE, reduceCtorEq]) ⟨by simp [tupA, upsB, h2], rfl, rfl⟩
    · simp (disch := omega) only [go_sem, ↓reduceIte, Int.reduceToNat, Nat.reduceEqDiff, Nat.reduceAdd, Nat.reduceMul, Nat.reduceSub, Nat.reducePow, Nat.reduceLT, Nat.reduceLeDiff, Int.reduceNeg, Int.reduceEq, Int.reduceLT, Int.reduceLE, reduceCtorEq, h2]
      refine ifW_dec (fun h3 => ?_) (fun h3 => ?_)
      · simp (disch := omega) only [go_sem, ↓reduceIte, Int.reduceToNat, Nat.reduceEqDiff, Nat.reduceAdd, Nat.reduceMul, Nat.reduceSub, Nat.reducePow, Nat.reduceLT, Nat.reduceLeDiff, Int.reduceNeg, Int.reduceEq, Int.reduceLT, Int.reduceLE, reduceCtorEq, h3]
        exact fin_valc (by simp (disch := omega) only [go_sem, ↓reduceIte, Int.reduceToNat, Nat.reduceEqDiff, Nat.reduceAdd, Nat.reduceMul, Nat.reduceSub, Nat.reducePow, Nat.reduceLT, Nat.reduceLeDiff, Int.reduceNeg, Int.reduceEq, Int.reduceLT, Int.reduceLE, reduceCtorEq]) (by simp (disch := omega) only [go_sem, ↓reduceIte, Int.reduceToNat, Nat.reduceEqDiff, Nat.reduceAdd, Nat.reduceMul, Nat.reduceSub, Nat.reducePow, Nat.reduceLT, Nat.reduceLeDiff, Int.reduceNeg, Int.reduceEq, Int.reduceLT, Int.reduceLE, reduceCtorEq]) ⟨by simp [tupA, upsB, h3], rfl, rfl⟩
      · simp (disch := omega) only [go_sem, ↓reduceIte, Int.reduceToNat, Nat.reduceEqDiff, Nat.reduceAdd, Nat.reduceMul, Nat.reduceSub, Nat.reducePow, Nat.reduceLT, Nat.reduceLeDiff, Int.reduceNeg, Int.reduceEq, Int.reduceLT, Int.reduceLE, reduceCtorEq, h3]
        refine ifW_dec (fun h4 => ?_) (fun h4 => ?_)
        · simp (disch := omega) only [go_sem, ↓reduceIte, Int.reduceToNat, Nat.reduceEqDiff, Nat.reduceAdd, Nat.reduceMul, Nat.reduceSub, Nat.reducePow, Nat.reduceLT, Nat.reduceLeDiff, Int.reduceNeg, Int.reduceEq, Int.reduceLT, Int.reduceLE, reduceCtorEq, h4]
          exact fin_valc (by simp (disch := omega) only [go_sem, ↓reduceIte, Int.reduceToNat, Nat.reduceEqDiff, Nat.reduceAdd, Nat.reduceMul, Nat.reduceSub, Nat.reducePow, Nat.reduceLT, Nat.reduceLeDiff, Int.reduceNeg, Int.reduceEq, Int.reduceLT, Int.reduceLE, reduceCtorEq]) (by simp (disch := omega) only [go_sem, ↓reduceIte, Int.reduceToNat, Nat.reduceEqDiff, Nat.reduceAdd, Nat.reduceMul, Nat.reduceSub, Nat.reducePow, Nat.reduceLT, Nat.reduceLeDiff, Int.reduceNeg, Int.reduceEq, Int.reduceLT, Int.reduceLE, reduceCtorEq]) ⟨by simp [tupA, upsB, h4], rfl, rfl⟩
        · simp (disch := omega) only [go_sem, ↓reduceIte, Int.reduceToNat, Nat.reduceEqDiff, Nat.reduceAdd, Nat.reduceMul, Nat.reduceSub, Nat.reducePow, Nat.reduceLT, Nat.reduceLeDiff, Int.reduceNeg, Int.reduceEq, Int.reduceLT, Int.reduceLE, reduceCtorEq, h4]
          refine ifW_b (fun h5 => ?_) (fun h5 => ?_)
          · simp (disch := omega) only [go_sem, ↓reduceIte, Int.reduceToNat, Nat.reduceEqDiff, Nat.reduceAdd, Nat.reduceMul, Nat.reduceSub, Nat.reducePow, Nat.reduceLT, Nat.reduceLeDiff, Int.reduceNeg, Int.reduceEq, Int.reduceLT, Int.reduceLE, reduceCtorEq, h5]
            refine ifW_nb (fun h6 => ?_) (fun h6 => ?_)
            · simp (disch := omega) only [go_sem, ↓reduceIte, Int.reduceToNat, Nat.reduceEqDiff, Nat.reduceAdd, Nat.reduceMul, Nat.reduceSub, Nat.reducePow, Nat.reduceLT, Nat.reduceLeDiff, Int.reduceNeg, Int.reduceEq, Int.reduceLT, Int.reduceLE, reduceCtorEq, h6]
              refine call_closed (con_l2bit m (k : Int) hl (by omega) (by omega)) (by simp (disch := omega) only [go_sem, ↓reduceIte, Int.reduceToNat, Nat.reduceEqDiff, Nat.reduceAdd, Nat.reduceMul, Nat.reduceSub, Nat.reducePow, Nat.reduceLT, Nat.reduceLeDiff, Int.reduceNeg, Int.reduceEq, Int.reduceLT, Int.reduceLE, reduceCtorEq]) ?_
              rintro r hs ⟨rfl, rfl, _⟩
              refine ⟨by simp [freeN], ?_⟩
              simp (disch := omega) only [go_sem, ↓reduceIte, Int.reduceToNat, Nat.reduceEqDiff, Nat.reduceAdd, Nat.reduceMul, Nat.reduceSub, Nat.reducePow, Nat.reduceLT, Nat.reduceLeDiff, Int.reduceNeg, Int.reduceEq, Int.reduceLT, Int.reduceLE, reduceCtorEq]
              have h7 : decide (tz m < k - 1) = false := by rw [← e3, ← ek]; exact h6
              rw [e2]
              refine fin_valc (by simp (disch := omega) only [go_sem, ↓reduceIte, Int.reduceToNat, Nat.reduceEqDiff, Nat.reduceAdd, Nat.reduceMul, Nat.reduceSub, Nat.reducePow, Nat.reduceLT, Nat.reduceLeDiff, Int.reduceNeg, Int.reduceEq, Int.reduceLT, Int.reduceLE, reduceCtorEq]) (by simp (disch := omega) only [go_sem, ↓reduceIte, Int.reduceToNat, Nat.reduceEqDiff, Nat.reduceAdd, Nat.reduceMul, Nat.reduceSub, Nat.reducePow, Nat.reduceLT, Nat.reduceLeDiff, Int.reduceNeg, Int.reduceEq, Int.reduceLT, Int.reduceLE, reduceCtorEq]) ⟨?_, rfl, rfl⟩
              show AV.v (.bool _) = AV.v (.bool _)
              unfold upsB; rw [if_neg h1, if_neg h2, if_neg h3, if_neg h4, h5, h7]; rfl
            · simp (disch := omega) only [go_sem, ↓reduceIte, Int.reduceToNat, Nat.reduceEqDiff, Nat.reduceAdd, Nat.reduceMul, Nat.reduceSub, Nat.reducePow, Nat.reduceLT, Nat.reduceLeDiff, Int.reduceNeg, Int.reduceEq, Int.reduceLT, Int.reduceLE, reduceCtorEq, h6]
              have h7 : decide (tz m < k - 1) = true := by rw [← e3, ← ek]; exact h6
              refine fin_valc (by simp (disch := omega) only [go_sem, ↓reduceIte, Int.reduceToNat, Nat.reduceEqDiff, Nat.reduceAdd, Nat.reduceMul, Nat.reduceSub, Nat.reducePow, Nat.reduceLT, Nat.reduceLeDiff, Int.reduceNeg, Int.reduceEq, Int.reduceLT, Int.reduceLE, reduceCtorEq]) (by simp (disch := omega) only [go_sem, ↓reduceIte, Int.reduceToNat, Nat.reduceEqDiff, Nat.reduceAdd, Nat.reduceMul, Nat.reduceSub, Nat.reducePow, Nat.reduceLT, Nat.reduceLeDiff, Int.reduceNeg, Int.reduceEq, Int.reduceLT, Int.reduceLE, reduceCtorEq]) ⟨?_, rfl, rfl⟩
              show AV.v (.bool _) = AV.v (.bool _)
              unfold upsB; rw [if_neg h1, if_neg h2, if_neg h3, if_neg h4, h5, h7]; rfl
          · simp (disch := omega) only [go_sem, ↓reduceIte, Int.reduceToNat, Nat.reduceEqDiff, Nat.reduceAdd, Nat.reduceMul, Nat.reduceSub, Nat.reducePow, Nat.reduceLT, Nat.reduceLeDiff, Int.reduceNeg, Int.reduceEq, Int.reduceLT, Int.reduceLE, reduceCtorEq, h5]
            refine fin_valc (by simp (disch := omega) only [go_sem, ↓reduceIte, Int.reduceToNat, Nat.reduceEqDiff, Nat.reduceAdd, Nat.reduceMul, Nat.reduceSub, Nat.reducePow, Nat.reduceLT, Nat.reduceLeDiff, Int.reduceNeg, Int.reduceEq, Int.reduceLT, Int.reduceLE, reduceCtorEq]) (by simp (disch := omega) only [go_sem, ↓reduceIte, Int.reduceToNat, Nat.reduceEqDiff, Nat.reduceAdd, Nat.reduceMul, Nat.reduceSub, Nat.reducePow, Nat.reduceLT, Nat.reduceLeDiff, Int.reduceNeg, Int.reduceEq, Int.reduceLT, Int.reduceLE, reduceCtorEq]) ⟨?_, rfl, rfl⟩
            show AV.v (.bool _) = AV.v (.bool _)
            unfold upsB; rw [if_neg h1, if_neg h2, if_neg h3, if_neg h4, h5]; rfl

/-- A number in its one form, rounded: as the reference does it. -/
def srM (s : Bool) (m : Nat) (e low mode : Int) : Nat := oM (roM s m e low mode)
def srE (s : Bool) (m : Nat) (e low mode : Int) : Int := if low ≤ e ∨ m = 0 then e else oE (roM s m e low mode) low

theorem con_l4round (s : Bool) (m : Nat) (e low mode : Int) (hodd : m % 2 = 1 ∨ m = 0) (hs : m = 0 → s = false) (hmode : 0 ≤ mode ∧ mode ≤ 4) (hm : bl m ≤ 4000000) (he : -1000000 ≤ e ∧ e ≤ 1000000) (hlo : -1000000 ≤ low ∧ low ≤ 1000000) :
    Con Tryd.prog 38 false [.ag [.v (.bool (s)), .sl (lim (m)).length (ints (lim (m))), .v (.int .i64 (e))], .v (.int .i64 low), .v (.int .i64 mode)] []
      (isA (.tu [.ag [.v (.bool (oS (roS s m e low mode) (roM s m e low mode))), .sl (lim (srM s m e low mode)).length (ints (lim (srM s m e low mode))), .v (.int .i64 (srE s m e low mode))], .v (.bool (roX m e low))])) := by
  refine Con.frzA ?_
  have l1 := len_bl hm
  refine Con.of_aw Tryd.func38 rfl Tryd.ntmps38 (by simp) (by simp) (by simp) (W.sound ?_)
  show @W Tryd.prog 51 ⟨_⟩ ⟨fun x σ => @retW _ _ _ ⟨_⟩ _ ⟨_⟩ x σ⟩ _ _
  simp (disch := omega) only [go_sem, ↓reduceIte, Int.reduceToNat, Nat.reduceEqDiff, Nat.reduceAdd, Nat.reduceMul, Nat.reduceSub, Nat.reducePow, Nat.reduceLT, Nat.reduceLeDiff, Int.reduceNeg, Int.reduceEq, Int.reduceLT, Int.reduceLE, reduceCtorEq]
  refine ifW_not (fun h1 => ?_) (fun h1 => ?_)
  · have h0 : m ≠ 0 := fun e => h1 (by rw [e, lim_zero]; rfl)
    have hod : m % 2 = 1 := hodd.resolve_right h0
    simp (disch := omega) only [go_sem, ↓reduceIte, Int.reduceToNat, Nat.reduceEqDiff, Nat.reduceAdd, Nat.reduceMul, Nat.reduceSub, Nat.reducePow, Nat.reduceLT, Nat.reduceLeDiff, Int.reduceNeg, Int.reduceEq, Int.reduceLT, Int.reduceLE, reduceCtorEq, h1]
    refine ifW_dec (fun h2 => ?_) (fun h2 => ?_)
    · simp (disch := omega) only [go_sem, ↓reduceIte, Int.reduceToNat, Nat.reduceEqDiff, Nat.reduceAdd, Nat.reduceMul, Nat.reduceSub, Nat.reducePow, Nat.reduceLT, Nat.reduceLeDiff, Int.reduceNeg, Int.reduceEq, Int.reduceLT, Int.reduceLE, reduceCtorEq, h2]
      refine fin_val (by simp (disch := omega) only [go_sem, ↓reduceIte, Int.reduceToNat, Nat.reduceEqDiff, Nat.reduceAdd, Nat.reduceMul, Nat.reduceSub, Nat.reducePow, Nat.reduceLT, Nat.reduceLeDiff, Int.reduceNeg, Int.reduceEq, Int.reduceLT, Int.reduceLE, reduceCtorEq]) ?_
      show snap _ 6 _ = _
      have ht := tz_odd hod
      have e3 : oM m = m := by unfold oM; rw [ht]; simp
      simp only [srM, srE, roM, roS, roX, h2, true_or, if_true, oS, if_neg h0, e3]
      simp (disch := omega) only [go_sem, ↓reduceIte, Int.reduceToNat, Nat.reduceEqDiff, Nat.reduceAdd, Nat.reduceMul, Nat.reduceSub, Nat.reducePow, Nat.reduceLT, Nat.reduceLeDiff, Int.reduceNeg, Int.reduceEq, Int.reduceLT, Int.reduceLE, reduceCtorEq]
    · simp (disch := omega) only [go_sem, ↓reduceIte, Int.reduceToNat, Nat.reduceEqDiff, Nat.reduceAdd, Nat.reduceMul, Nat.reduceSub, Nat.reducePow, Nat.reduceLT, Nat.reduceLeDiff, Int.reduceNeg, Int.reduceEq, Int.reduceLT, Int.reduceLE, reduceCtorEq, h2]
      have ek : low - e = (((low - e).toNat : Nat) : Int) := by omega
      have hk1 : 1 ≤ (low - e).toNat := by omega
      refine call_open (con_l2shr m (low - e).toNat (by omega) (by omega)) (by simp (disch := omega) only [go_sem, ↓reduceIte, Int.reduceToNat, Nat.reduceEqDiff, Nat.reduceAdd, Nat.reduceMul, Nat.reduceSub, Nat.reducePow, Nat.reduceLT, Nat.reduceLeDiff, Int.reduceNeg, Int.reduceEq, Int.reduceLT, Int.reduceLE, reduceCtorEq, ← ek]) ?_
      rintro r hs ⟨rfl, rfl, _⟩
      refine ⟨by simp [freeN], ?_⟩
      simp (disch := omega) only [go_sem, ↓reduceIte, Int.reduceToNat, Nat.reduceEqDiff, Nat.reduceAdd, Nat.reduceMul, Nat.reduceSub, Nat.reducePow, Nat.reduceLT, Nat.reduceLeDiff, Int.reduceNeg, Int.reduceEq, Int.reduceLT, Int.reduceLE, reduceCtorEq]
      refine call_closed (con_l4ups s m (low - e).toNat mode (by omega) hk1 (by omega)) (by simp (disch := omega) only [go_sem, ↓reduceIte, Int.reduceToNat, Nat.reduceEqDiff, Nat.reduceAdd, Nat.reduceMul, Nat.reduceSub, Nat.reducePow, Nat.reduceLT, Nat.reduceLeDiff, Int.reduceNeg, Int.reduceEq, Int.reduceLT, Int.reduceLE, reduceCtorEq, ← ek]) ?_
      rintro r hs ⟨rfl, rfl, _⟩
      refine ⟨by simp [freeN], ?_⟩
      simp (disch := omega) only [go_sem, ↓reduceIte, Int.reduceToNat, Nat.reduceEqDiff, Nat.reduceAdd, Nat.reduceMul, Nat.reduceSub, Nat.reducePow, Nat.reduceLT, Nat.reduceLeDiff, Int.reduceNeg, Int.reduceEq, Int.reduceLT, Int.reduceLE, reduceCtorEq]
      have hc : ¬ (low ≤ e ∨ m = 0) := by omega
      have hne := odd_mod hod hk1
      have hups := ups_eq (neg := s) hod hk1 hmode
      have hq : roM s m e low mode = if upsB s m (low - e).toNat mode = true then m / 2 ^ (low - e).toNat + 1 else m / 2 ^ (low - e).toNat := by
        unfold roM rq
        rw [if_neg hc, if_neg hne, ← hups]
      have hro : roS s m e low mode = (s && decide (roM s m e low mode ≠ 0)) := by unfold roS roM; rw [if_neg hc, if_neg hc]
      have hblq : bl (m / 2 ^ (low - e).toNat + 1) ≤ 4000001 := by
        have h3 := bl_succ (m / 2 ^ (low - e).toNat)
        have h4 := bl_divle m (2 ^ (low - e).toNat)
        omega
      have hblq0 : bl (m / 2 ^ (low - e).toNat) ≤ 4000001 := Nat.le_trans (bl_mono (by omega)) hblq
      have lq := len_bl hblq
      have lq0 := len_bl hblq0
      have hrx : roX m e low = false := by unfold roX; rw [if_neg hc]; simp [hne]
      have hfin : ∀ q, roM s m e low mode = q → bl q ≤ 4000001 → AV.ag [.v (.bool (oS (s && decide (q ≠ 0)) q)), .sl (lim (oM q)).length (ints (lim (oM q))), .v (.int .i64 (oE q low))] = AV.ag [.v (.bool (oS (roS s m e low mode) (roM s m e low mode))), .sl (lim (srM s m e low mode)).length (ints (lim (srM s m e low mode))), .v (.int .i64 (srE s m e low mode))] := by
        intro q hq' _
        rw [hro, hq']
        unfold srM srE
        rw [if_neg hc, hq']
      refine ifW_b (fun h3 => ?_) (fun h3 => ?_)
      · rw [if_pos h3] at hq
        simp (disch := omega) only [go_sem, ↓reduceIte, Int.reduceToNat, Nat.reduceEqDiff, Nat.reduceAdd, Nat.reduceMul, Nat.reduceSub, Nat.reducePow, Nat.reduceLT, Nat.reduceLeDiff, Int.reduceNeg, Int.reduceEq, Int.reduceLT, Int.reduceLE, reduceCtorEq, h3]
        refine draw_of rfl [⟨0, [], []⟩, ⟨1, [0], []⟩, ⟨2, [], []⟩, ⟨3, [], []⟩] (by kernel_rfl) ?_
        simp (disch := omega) only [go_sem, ↓reduceIte, Int.reduceToNat, Nat.reduceEqDiff, Nat.reduceAdd, Nat.reduceMul, Nat.reduceSub, Nat.reducePow, Nat.reduceLT, Nat.reduceLeDiff, Int.reduceNeg, Int.reduceEq, Int.reduceLT, Int.reduceLE, reduceCtorEq]
        refine call_open (con_l2ofF 1 (by omega)) (by simp (disch := omega) only [go_sem, ↓reduceIte, Int.reduceToNat, Nat.reduceEqDiff, Nat.reduceAdd, Nat.reduceMul, Nat.reduceSub, Nat.reducePow, Nat.reduceLT, Nat.reduceLeDiff, Int.reduceNeg, Int.reduceEq, Int.reduceLT, Int.reduceLE, reduceCtorEq]) ?_
        rintro r hs ⟨rfl, rfl, _⟩
        refine ⟨by simp [freeN], ?_⟩
        simp (disch := omega) only [go_sem, ↓reduceIte, Int.reduceToNat, Nat.reduceEqDiff, Nat.reduceAdd, Nat.reduceMul, Nat.reduceSub, Nat.reducePow, Nat.reduceLT, Nat.reduceLeDiff, Int.reduceNeg, Int.reduceEq, Int.reduceLT, Int.reduceLE, reduceCtorEq]
        refine call_open (con_l2addF (m / 2 ^ (low - e).toNat) 1 (by omega) (by have := len_bl (m := 1) (B := 1) (by decide); omega)) (by simp (disch := omega) only [go_sem, ↓reduceIte, Int.reduceToNat, Nat.reduceEqDiff, Nat.reduceAdd, Nat.reduceMul, Nat.reduceSub, Nat.reducePow, Nat.reduceLT, Nat.reduceLeDiff, Int.reduceNeg, Int.reduceEq, Int.reduceLT, Int.reduceLE, reduceCtorEq]) ?_
        rintro r hs ⟨rfl, rfl, _⟩
        refine ⟨by simp [freeN], ?_⟩
        simp (disch := omega) only [go_sem, ↓reduceIte, Int.reduceToNat, Nat.reduceEqDiff, Nat.reduceAdd, Nat.reduceMul, Nat.reduceSub, Nat.reducePow, Nat.reduceLT, Nat.reduceLeDiff, Int.reduceNeg, Int.reduceEq, Int.reduceLT, Int.reduceLE, reduceCtorEq]
        refine call_open (con_l3make s (m / 2 ^ (low - e).toNat + 1) (by omega)) (by simp (disch := omega) only [go_sem, ↓reduceIte, Int.reduceToNat, Nat.reduceEqDiff, Nat.reduceAdd, Nat.reduceMul, Nat.reduceSub, Nat.reducePow, Nat.reduceLT, Nat.reduceLeDiff, Int.reduceNeg, Int.reduceEq, Int.reduceLT, Int.reduceLE, reduceCtorEq]) ?_
        rintro r hs ⟨rfl, rfl, _⟩
        refine ⟨by simp [freeN], ?_⟩
        simp (disch := omega) only [go_sem, ↓reduceIte, Int.reduceToNat, Nat.reduceEqDiff, Nat.reduceAdd, Nat.reduceMul, Nat.reduceSub, Nat.reducePow, Nat.reduceLT, Nat.reduceLeDiff, Int.reduceNeg, Int.reduceEq, Int.reduceLT, Int.reduceLE, reduceCtorEq]
        refine call_open (con_l4make (s && decide (m / 2 ^ (low - e).toNat + 1 ≠ 0)) (m / 2 ^ (low - e).toNat + 1) low (by omega) (by omega)) (by simp (disch := omega) only [go_sem, ↓reduceIte, Int.reduceToNat, Nat.reduceEqDiff, Nat.reduceAdd, Nat.reduceMul, Nat.reduceSub, Nat.reducePow, Nat.reduceLT, Nat.reduceLeDiff, Int.reduceNeg, Int.reduceEq, Int.reduceLT, Int.reduceLE, reduceCtorEq]) ?_
        rintro r hs ⟨rfl, rfl, _⟩
        refine ⟨by simp [freeN], ?_⟩
        simp (disch := omega) only [go_sem, ↓reduceIte, Int.reduceToNat, Nat.reduceEqDiff, Nat.reduceAdd, Nat.reduceMul, Nat.reduceSub, Nat.reducePow, Nat.reduceLT, Nat.reduceLeDiff, Int.reduceNeg, Int.reduceEq, Int.reduceLT, Int.reduceLE, reduceCtorEq]
        refine fin_val (by simp (disch := omega) only [go_sem, ↓reduceIte, Int.reduceToNat, Nat.reduceEqDiff, Nat.reduceAdd, Nat.reduceMul, Nat.reduceSub, Nat.reducePow, Nat.reduceLT, Nat.reduceLeDiff, Int.reduceNeg, Int.reduceEq, Int.reduceLT, Int.reduceLE, reduceCtorEq]) ?_
        show snap _ 6 _ = _
        rw [← hfin _ hq hblq, hrx]
        simp (disch := omega) only [go_sem, ↓reduceIte, Int.reduceToNat, Nat.reduceEqDiff, Nat.reduceAdd, Nat.reduceMul, Nat.reduceSub, Nat.reducePow, Nat.reduceLT, Nat.reduceLeDiff, Int.reduceNeg, Int.reduceEq, Int.reduceLT, Int.reduceLE, reduceCtorEq]
      · rw [if_neg (by rw [h3]; simp)] at hq
        simp (disch := omega) only [go_sem, ↓reduceIte, Int.reduceToNat, Nat.reduceEqDiff, Nat.reduceAdd, Nat.reduceMul, Nat.reduceSub, Nat.reducePow, Nat.reduceLT, Nat.reduceLeDiff, Int.reduceNeg, Int.reduceEq, Int.reduceLT, Int.reduceLE, reduceCtorEq, h3]
        refine call_open (con_l3make s (m / 2 ^ (low - e).toNat) (by omega)) (by simp (disch := omega) only [go_sem, ↓reduceIte, Int.reduceToNat, Nat.reduceEqDiff, Nat.reduceAdd, Nat.reduceMul, Nat.reduceSub, Nat.reducePow, Nat.reduceLT, Nat.reduceLeDiff, Int.reduceNeg, Int.reduceEq, Int.reduceLT, Int.reduceLE, reduceCtorEq]) ?_
        rintro r hs ⟨rfl, rfl, _⟩
        refine ⟨by simp [freeN], ?_⟩
        simp (disch := omega) only [go_sem, ↓reduceIte, Int.reduceToNat, Nat.reduceEqDiff, Nat.reduceAdd, Nat.reduceMul, Nat.reduceSub, Nat.reducePow, Nat.reduceLT, Nat.reduceLeDiff, Int.reduceNeg, Int.reduceEq, Int.reduceLT, Int.reduceLE, reduceCtorEq]
        refine call_open (con_l4make (s && decide (m / 2 ^ (low - e).toNat ≠ 0)) (m / 2 ^ (low - e).toNat) low (by omega) (by omega)) (by simp (disch := omega) only [go_sem, ↓reduceIte, Int.reduceToNat, Nat.reduceEqDiff, Nat.reduceAdd, Nat.reduceMul, Nat.reduceSub, Nat.reducePow, Nat.reduceLT, Nat.reduceLeDiff, Int.reduceNeg, Int.reduceEq, Int.reduceLT, Int.reduceLE, reduceCtorEq]) ?_
        rintro r hs ⟨rfl, rfl, _⟩
        refine ⟨by simp [freeN], ?_⟩
        simp (disch := omega) only [go_sem, ↓reduceIte, Int.reduceToNat, Nat.reduceEqDiff, Nat.reduceAdd, Nat.reduceMul, Nat.reduceSub, Nat.reducePow, Nat.reduceLT, Nat.reduceLeDiff, Int.reduceNeg, Int.reduceEq, Int.reduceLT, Int.reduceLE, reduceCtorEq]
        refine fin_val (by simp (disch := omega) only [go_sem, ↓reduceIte, Int.reduceToNat, Nat.reduceEqDiff, Nat.reduceAdd, Nat.reduceMul, Nat.reduceSub, Nat.reducePow, Nat.reduceLT, Nat.reduceLeDiff, Int.reduceNeg, Int.reduceEq, Int.reduceLT, Int.reduceLE, reduceCtorEq]) ?_
        show snap _ 6 _ = _
        rw [← hfin _ hq hblq0, hrx]
        simp (disch := omega) only [go_sem, ↓reduceIte, Int.reduceToNat, Nat.reduceEqDiff, Nat.reduceAdd, Nat.reduceMul, Nat.reduceSub, Nat.reducePow, Nat.reduceLT, Nat.reduceLeDiff, Int.reduceNeg, Int.reduceEq, Int.reduceLT, Int.reduceLE, reduceCtorEq]
  · have h0 : m = 0 := lim_eq_nil.1 (List.length_eq_zero_iff.1 (by omega))
    simp (disch := omega) only [go_sem, ↓reduceIte, Int.reduceToNat, Nat.reduceEqDiff, Nat.reduceAdd, Nat.reduceMul, Nat.reduceSub, Nat.reducePow, Nat.reduceLT, Nat.reduceLeDiff, Int.reduceNeg, Int.reduceEq, Int.reduceLT, Int.reduceLE, reduceCtorEq, h1]
    refine fin_val (by simp (disch := omega) only [go_sem, ↓reduceIte, Int.reduceToNat, Nat.reduceEqDiff, Nat.reduceAdd, Nat.reduceMul, Nat.reduceSub, Nat.reducePow, Nat.reduceLT, Nat.reduceLeDiff, Int.reduceNeg, Int.reduceEq, Int.reduceLT, Int.reduceLE, reduceCtorEq]) ?_
    show snap _ 6 _ = _
    have hs0 := hs h0
    subst h0
    subst hs0
    simp only [srM, srE, roM, roS, roX, or_true, if_true, oS, oM_zero]
    simp (disch := omega) only [go_sem, ↓reduceIte, Int.reduceToNat, Nat.reduceEqDiff, Nat.reduceAdd, Nat.reduceMul, Nat.reduceSub, Nat.reducePow, Nat.reduceLT, Nat.reduceLeDiff, Int.reduceNeg, Int.reduceEq, Int.reduceLT, Int.reduceLE, reduceCtorEq]
end Go.Ab
namespace Go.Ab
open Go Go.Proofs
set_option linter.unusedVariables false
set_option linter.unusedSimpArgs false

theorem con_withinB (n lo hi : Int) : Con Tryd.prog 47 true [.v (.int .i64 n), .v (.int .i64 lo), .v (.int .i64 hi)] [] (isA (.v (.bool (decide (lo ≤ n) && decide (n ≤ hi))))) := con_withinI n lo hi

theorem con_dyok (s : Bool) (xs : List Int) (e : Int) (hl : xs.length ≤ 2 ^ 40) : Con Tryd.prog 33 true [.ag [.v (.bool s), .sl xs.length (ints xs), .v (.int .i64 e)]] [] (isA (.v (.bool (dyB s xs e)))) := by
  refine Con.of_aw Tryd.func33 rfl Tryd.ntmps33 (by simp) (by simp) (by simp) (W.sound ?_)
  show @W Tryd.prog 32 ⟨_⟩ ⟨fun x σ => @retW _ _ _ ⟨_⟩ _ ⟨_⟩ x σ⟩ _ _
  simp (disch := omega) only [go_sem, ↓reduceIte, Int.reduceToNat, Nat.reduceEqDiff, Nat.reduceAdd, Nat.reduceMul, Nat.reduceSub, Nat.reducePow, Nat.reduceLT, Nat.reduceLeDiff, Int.reduceNeg, Int.reduceEq, Int.reduceLT, Int.reduceLE, reduceCtorEq]
  refine call_closed (con_wholeok s xs hl) (by simp (disch := omega) only [go_sem, ↓reduceIte, Int.reduceToNat, Nat.reduceEqDiff, Nat.reduceAdd, Nat.reduceMul, Nat.reduceSub, Nat.reducePow, Nat.reduceLT, Nat.reduceLeDiff, Int.reduceNeg, Int.reduceEq, Int.reduceLT, Int.reduceLE, reduceCtorEq]) ?_
  rintro r hs ⟨rfl, rfl, _⟩
  refine ⟨by simp [freeN], ?_⟩
  simp (disch := omega) only [go_sem, ↓reduceIte, Int.reduceToNat, Nat.reduceEqDiff, Nat.reduceAdd, Nat.reduceMul, Nat.reduceSub, Nat.reducePow, Nat.reduceLT, Nat.reduceLeDiff, Int.reduceNeg, Int.reduceEq, Int.reduceLT, Int.reduceLE, reduceCtorEq]
  refine ifW_b (fun hw => ?_) (fun h1 => ?_)
  · have h1 := hw
    simp only [wholeB, Bool.and_eq_true] at h1
    obtain ⟨hx, hll⟩ := natB_lim h1.1
    have hxs : xs = lim (vl xs).toNat := hx
    generalize hm : (vl xs).toNat = m at *
    subst hx
    simp (disch := omega) only [go_sem, ↓reduceIte, Int.reduceToNat, Nat.reduceEqDiff, Nat.reduceAdd, Nat.reduceMul, Nat.reduceSub, Nat.reducePow, Nat.reduceLT, Nat.reduceLeDiff, Int.reduceNeg, Int.reduceEq, Int.reduceLT, Int.reduceLE, reduceCtorEq, hw]
    refine call_closed (con_withinB e (-3000) 3000) (by simp (disch := omega) only [go_sem, ↓reduceIte, Int.reduceToNat, Nat.reduceEqDiff, Nat.reduceAdd, Nat.reduceMul, Nat.reduceSub, Nat.reducePow, Nat.reduceLT, Nat.reduceLeDiff, Int.reduceNeg, Int.reduceEq, Int.reduceLT, Int.reduceLE, reduceCtorEq]) ?_
    rintro r hs ⟨rfl, rfl, _⟩
    refine ⟨by simp [freeN], ?_⟩
    simp (disch := omega) only [go_sem, ↓reduceIte, Int.reduceToNat, Nat.reduceEqDiff, Nat.reduceAdd, Nat.reduceMul, Nat.reduceSub, Nat.reducePow, Nat.reduceLT, Nat.reduceLeDiff, Int.reduceNeg, Int.reduceEq, Int.reduceLT, Int.reduceLE, reduceCtorEq]
    refine ifW_nb (fun h2 => ?_) (fun h2 => ?_)
    · simp (disch := omega) only [go_sem, ↓reduceIte, Int.reduceToNat, Nat.reduceEqDiff, Nat.reduceAdd, Nat.reduceMul, Nat.reduceSub, Nat.reducePow, Nat.reduceLT, Nat.reduceLeDiff, Int.reduceNeg, Int.reduceEq, Int.reduceLT, Int.reduceLE, reduceCtorEq, h2]
      refine fin_valc (by simp (disch := omega) only [go_sem, ↓reduceIte, Int.reduceToNat, Nat.reduceEqDiff, Nat.reduceAdd, Nat.reduceMul, Nat.reduceSub, Nat.reducePow, Nat.reduceLT, Nat.reduceLeDiff, Int.reduceNeg, Int.reduceEq, Int.reduceLT, Int.reduceLE, reduceCtorEq]) (by simp (disch := omega) only [go_sem, ↓reduceIte, Int.reduceToNat, Nat.reduceEqDiff, Nat.reduceAdd, Nat.reduceMul, Nat.reduceSub, Nat.reducePow, Nat.reduceLT, Nat.reduceLeDiff, Int.reduceNeg, Int.reduceEq, Int.reduceLT, Int.reduceLE, reduceCtorEq]) ⟨?_, rfl, rfl⟩
      simp [tupA, dyB, hw, h2]
    · simp (disch := omega) only [go_sem, ↓reduceIte, Int.reduceToNat, Nat.reduceEqDiff, Nat.reduceAdd, Nat.reduceMul, Nat.reduceSub, Nat.reducePow, Nat.reduceLT, Nat.reduceLeDiff, Int.reduceNeg, Int.reduceEq, Int.reduceLT, Int.reduceLE, reduceCtorEq, h2]
      refine call_closed (con_bitOf m 0 (by omega) (by omega) (by omega)) (by simp (disch := omega) only [go_sem, ↓reduceIte, Int.reduceToNat, Nat.reduceEqDiff, Nat.reduceAdd, Nat.reduceMul, Nat.reduceSub, Nat.reducePow, Nat.reduceLT, Nat.reduceLeDiff, Int.reduceNeg, Int.reduceEq, Int.reduceLT, Int.reduceLE, reduceCtorEq]) ?_
      rintro r hs ⟨rfl, rfl, _⟩
      refine ⟨by simp [freeN], ?_⟩
      simp (disch := omega) only [go_sem, ↓reduceIte, Int.reduceToNat, Nat.reduceEqDiff, Nat.reduceAdd, Nat.reduceMul, Nat.reduceSub, Nat.reducePow, Nat.reduceLT, Nat.reduceLeDiff, Int.reduceNeg, Int.reduceEq, Int.reduceLT, Int.reduceLE, reduceCtorEq]
      refine ifW_not (fun h3 => ?_) (fun h3 => ?_)
      · have h3' : ¬ m % 2 = 1 := fun h => h3 (by simp; omega)
        simp (disch := omega) only [go_sem, ↓reduceIte, Int.reduceToNat, Nat.reduceEqDiff, Nat.reduceAdd, Nat.reduceMul, Nat.reduceSub, Nat.reducePow, Nat.reduceLT, Nat.reduceLeDiff, Int.reduceNeg, Int.reduceEq, Int.reduceLT, Int.reduceLE, reduceCtorEq, h3]
        refine ifW_dec (fun h4 => ?_) (fun h4 => ?_)
        · simp (disch := omega) only [go_sem, ↓reduceIte, Int.reduceToNat, Nat.reduceEqDiff, Nat.reduceAdd, Nat.reduceMul, Nat.reduceSub, Nat.reducePow, Nat.reduceLT, Nat.reduceLeDiff, Int.reduceNeg, Int.reduceEq, Int.reduceLT, Int.reduceLE, reduceCtorEq, h4]
          refine fin_valc (by simp (disch := omega) only [go_sem, ↓reduceIte, Int.reduceToNat, Nat.reduceEqDiff, Nat.reduceAdd, Nat.reduceMul, Nat.reduceSub, Nat.reducePow, Nat.reduceLT, Nat.reduceLeDiff, Int.reduceNeg, Int.reduceEq, Int.reduceLT, Int.reduceLE, reduceCtorEq]) (by simp (disch := omega) only [go_sem, ↓reduceIte, Int.reduceToNat, Nat.reduceEqDiff, Nat.reduceAdd, Nat.reduceMul, Nat.reduceSub, Nat.reducePow, Nat.reduceLT, Nat.reduceLeDiff, Int.reduceNeg, Int.reduceEq, Int.reduceLT, Int.reduceLE, reduceCtorEq]) ⟨?_, rfl, rfl⟩
          have h4' : (lim m).length = 0 := by omega
          simp [tupA, dyB, hw, h2, hm, h3', h4']
        · simp (disch := omega) only [go_sem, ↓reduceIte, Int.reduceToNat, Nat.reduceEqDiff, Nat.reduceAdd, Nat.reduceMul, Nat.reduceSub, Nat.reducePow, Nat.reduceLT, Nat.reduceLeDiff, Int.reduceNeg, Int.reduceEq, Int.reduceLT, Int.reduceLE, reduceCtorEq, h4]
          refine fin_valc (by simp (disch := omega) only [go_sem, ↓reduceIte, Int.reduceToNat, Nat.reduceEqDiff, Nat.reduceAdd, Nat.reduceMul, Nat.reduceSub, Nat.reducePow, Nat.reduceLT, Nat.reduceLeDiff, Int.reduceNeg, Int.reduceEq, Int.reduceLT, Int.reduceLE, reduceCtorEq]) (by simp (disch := omega) only [go_sem, ↓reduceIte, Int.reduceToNat, Nat.reduceEqDiff, Nat.reduceAdd, Nat.reduceMul, Nat.reduceSub, Nat.reducePow, Nat.reduceLT, Nat.reduceLeDiff, Int.reduceNeg, Int.reduceEq, Int.reduceLT, Int.reduceLE, reduceCtorEq]) ⟨?_, rfl, rfl⟩
          have h4' : ¬ (lim m).length = 0 := by omega
          simp [tupA, dyB, hw, h2, hm, h3', h4']
      · have h3' : m % 2 = 1 := by simp at h3; omega
        simp (disch := omega) only [go_sem, ↓reduceIte, Int.reduceToNat, Nat.reduceEqDiff, Nat.reduceAdd, Nat.reduceMul, Nat.reduceSub, Nat.reducePow, Nat.reduceLT, Nat.reduceLeDiff, Int.reduceNeg, Int.reduceEq, Int.reduceLT, Int.reduceLE, reduceCtorEq, h3]
        refine fin_valc (by simp (disch := omega) only [go_sem, ↓reduceIte, Int.reduceToNat, Nat.reduceEqDiff, Nat.reduceAdd, Nat.reduceMul, Nat.reduceSub, Nat.reducePow, Nat.reduceLT, Nat.reduceLeDiff, Int.reduceNeg, Int.reduceEq, Int.reduceLT, Int.reduceLE, reduceCtorEq]) (by simp (disch := omega) only [go_sem, ↓reduceIte, Int.reduceToNat, Nat.reduceEqDiff, Nat.reduceAdd, Nat.reduceMul, Nat.reduceSub, Nat.reducePow, Nat.reduceLT, Nat.reduceLeDiff, Int.reduceNeg, Int.reduceEq, Int.reduceLT, Int.reduceLE, reduceCtorEq]) ⟨?_, rfl, rfl⟩
        simp [tupA, dyB, hw, h2, hm, h3']
  · simp (disch := omega) only [go_sem, ↓reduceIte, Int.reduceToNat, Nat.reduceEqDiff, Nat.reduceAdd, Nat.reduceMul, Nat.reduceSub, Nat.reducePow, Nat.reduceLT, Nat.reduceLeDiff, Int.reduceNeg, Int.reduceEq, Int.reduceLT, Int.reduceLE, reduceCtorEq, h1]
    refine fin_valc (by simp (disch := omega) only [go_sem, ↓reduceIte, Int.reduceToNat, Nat.reduceEqDiff, Nat.reduceAdd, Nat.reduceMul, Nat.reduceSub, Nat.reducePow, Nat.reduceLT, Nat.reduceLeDiff, Int.reduceNeg, Int.reduceEq, Int.reduceLT, Int.reduceLE, reduceCtorEq]) (by simp (disch := omega) only [go_sem, ↓reduceIte, Int.reduceToNat, Nat.reduceEqDiff, Nat.reduceAdd, Nat.reduceMul, Nat.reduceSub, Nat.reducePow, Nat.reduceLT, Nat.reduceLeDiff, Int.reduceNeg, Int.reduceEq, Int.reduceLT, Int.reduceLE, reduceCtorEq]) ⟨?_, rfl, rfl⟩
    simp [tupA, dyB, h1]
end Go.Ab
namespace Go.Ab
open Go Go.Proofs
set_option linter.unusedVariables false
set_option linter.unusedSimpArgs false

theorem con_dyexact (s : Bool) (m : Nat) (e : Int) : Con Tryd.prog 34 false [.ag [.v (.bool (s)), .sl (lim (m)).length (ints (lim (m))), .v (.int .i64 (e))]] [] (isA (.ag [.v (.bool (s)), .sl (lim (m)).length (ints (lim (m))), .v (.int .i64 (e))])) := by
  refine Con.frzA ?_
  refine Con.of_aw Tryd.func34 rfl Tryd.ntmps34 (by simp) (by simp) (by simp) (W.sound ?_)
  show @W Tryd.prog 13 ⟨_⟩ ⟨fun x σ => @retW _ _ _ ⟨_⟩ _ ⟨_⟩ x σ⟩ _ _
  simp (disch := omega) only [go_sem, ↓reduceIte, Int.reduceToNat, Nat.reduceEqDiff, Nat.reduceAdd, Nat.reduceMul, Nat.reduceSub, Nat.reducePow, Nat.reduceLT, Nat.reduceLeDiff, Int.reduceNeg, Int.reduceEq, Int.reduceLT, Int.reduceLE, reduceCtorEq]
  refine fin_val (by simp (disch := omega) only [go_sem, ↓reduceIte, Int.reduceToNat, Nat.reduceEqDiff, Nat.reduceAdd, Nat.reduceMul, Nat.reduceSub, Nat.reducePow, Nat.reduceLT, Nat.reduceLeDiff, Int.reduceNeg, Int.reduceEq, Int.reduceLT, Int.reduceLE, reduceCtorEq]) ?_
  show snap _ 6 _ = _
  simp (disch := omega) only [go_sem, ↓reduceIte, Int.reduceToNat, Nat.reduceEqDiff, Nat.reduceAdd, Nat.reduceMul, Nat.reduceSub, Nat.reducePow, Nat.reduceLT, Nat.reduceLeDiff, Int.reduceNeg, Int.reduceEq, Int.reduceLT, Int.reduceLE, reduceCtorEq]

theorem con_magnitude (n : Int) (h : -9223372036854775808 ≤ n ∧ n < 9223372036854775808) : Con Tryd.prog 24 false [.v (.int .i64 n)] [] (numF (lim n.natAbs)) := by
  refine Con.of_aw Tryd.func24 rfl Tryd.ntmps24 (by simp) (by simp) (by simp) (W.sound ?_)
  show @W Tryd.prog 12 ⟨_⟩ ⟨fun x σ => @retW _ _ _ ⟨_⟩ _ ⟨_⟩ x σ⟩ _ _
  simp (disch := omega) only [go_sem, ↓reduceIte, Int.reduceToNat, Nat.reduceEqDiff, Nat.reduceAdd, Nat.reduceMul, Nat.reduceSub, Nat.reducePow, Nat.reduceLT, Nat.reduceLeDiff, Int.reduceNeg, Int.reduceEq, Int.reduceLT, Int.reduceLE, reduceCtorEq]
  refine ifW_dec (fun h1 => ?_) (fun h1 => ?_)
  · simp (disch := omega) only [go_sem, ↓reduceIte, Int.reduceToNat, Nat.reduceEqDiff, Nat.reduceAdd, Nat.reduceMul, Nat.reduceSub, Nat.reducePow, Nat.reduceLT, Nat.reduceLeDiff, Int.reduceNeg, Int.reduceEq, Int.reduceLT, Int.reduceLE, reduceCtorEq, h1]
    refine call_open (con_smallN 1 (by omega)) (by simp (disch := omega) only [go_sem, ↓reduceIte, Int.reduceToNat, Nat.reduceEqDiff, Nat.reduceAdd, Nat.reduceMul, Nat.reduceSub, Nat.reducePow, Nat.reduceLT, Nat.reduceLeDiff, Int.reduceNeg, Int.reduceEq, Int.reduceLT, Int.reduceLE, reduceCtorEq]) ?_
    rintro r hs ⟨rfl, rfl, _⟩
    refine ⟨by simp [freeN], ?_⟩
    simp (disch := omega) only [go_sem, ↓reduceIte, Int.reduceToNat, Nat.reduceEqDiff, Nat.reduceAdd, Nat.reduceMul, Nat.reduceSub, Nat.reducePow, Nat.reduceLT, Nat.reduceLeDiff, Int.reduceNeg, Int.reduceEq, Int.reduceLT, Int.reduceLE, reduceCtorEq]
    refine call_open (con_upN 1 63 (by have := len_bl (m := 1) (B := 1) (by decide); omega) (by omega)) (by simp (disch := omega) only [go_sem, ↓reduceIte, Int.reduceToNat, Nat.reduceEqDiff, Nat.reduceAdd, Nat.reduceMul, Nat.reduceSub, Nat.reducePow, Nat.reduceLT, Nat.reduceLeDiff, Int.reduceNeg, Int.reduceEq, Int.reduceLT, Int.reduceLE, reduceCtorEq]) ?_
    rintro r hs ⟨rfl, rfl, _⟩
    refine ⟨by simp [freeN], ?_⟩
    simp (disch := omega) only [go_sem, ↓reduceIte, Int.reduceToNat, Nat.reduceEqDiff, Nat.reduceAdd, Nat.reduceMul, Nat.reduceSub, Nat.reducePow, Nat.reduceLT, Nat.reduceLeDiff, Int.reduceNeg, Int.reduceEq, Int.reduceLT, Int.reduceLE, reduceCtorEq]
    subst h1
    exact fin_val (by simp (disch := omega) only [go_sem, ↓reduceIte, Int.reduceToNat, Nat.reduceEqDiff, Nat.reduceAdd, Nat.reduceMul, Nat.reduceSub, Nat.reducePow, Nat.reduceLT, Nat.reduceLeDiff, Int.reduceNeg, Int.reduceEq, Int.reduceLT, Int.reduceLE, reduceCtorEq]) ⟨rfl, rfl, rfl⟩
  · simp (disch := omega) only [go_sem, ↓reduceIte, Int.reduceToNat, Nat.reduceEqDiff, Nat.reduceAdd, Nat.reduceMul, Nat.reduceSub, Nat.reducePow, Nat.reduceLT, Nat.reduceLeDiff, Int.reduceNeg, Int.reduceEq, Int.reduceLT, Int.reduceLE, reduceCtorEq, h1]
    have e1 : (if 0 - n > n then 0 - n else n) = (n.natAbs : Int) := by split <;> omega
    refine call_open (con_smallN n.natAbs (by omega)) (by simp (disch := omega) only [go_sem, ↓reduceIte, Int.reduceToNat, Nat.reduceEqDiff, Nat.reduceAdd, Nat.reduceMul, Nat.reduceSub, Nat.reducePow, Nat.reduceLT, Nat.reduceLeDiff, Int.reduceNeg, Int.reduceEq, Int.reduceLT, Int.reduceLE, reduceCtorEq, e1]) ?_
    rintro r hs ⟨rfl, rfl, _⟩
    refine ⟨by simp [freeN], ?_⟩
    simp (disch := omega) only [go_sem, ↓reduceIte, Int.reduceToNat, Nat.reduceEqDiff, Nat.reduceAdd, Nat.reduceMul, Nat.reduceSub, Nat.reducePow, Nat.reduceLT, Nat.reduceLeDiff, Int.reduceNeg, Int.reduceEq, Int.reduceLT, Int.reduceLE, reduceCtorEq]
    exact fin_val (by simp (disch := omega) only [go_sem, ↓reduceIte, Int.reduceToNat, Nat.reduceEqDiff, Nat.reduceAdd, Nat.reduceMul, Nat.reduceSub, Nat.reducePow, Nat.reduceLT, Nat.reduceLeDiff, Int.reduceNeg, Int.reduceEq, Int.reduceLT, Int.reduceLE, reduceCtorEq]) ⟨rfl, rfl, rfl⟩

def modeB (mode : Int) : Bool := decide (0 ≤ mode) && decide (mode ≤ 4)

theorem con_FlOfInt (n mode : Int) (h : -9223372036854775808 ≤ n ∧ n < 9223372036854775808) :
    Con Tryd.prog 7 true [.v (.int .i64 n), .v (.int .i64 mode)] []
      (isA (if modeB mode then .tu [.ag [.v (.int .i64 ((flV (decide (n < 0)) n.natAbs 0 mode false).k)), .v (.bool ((flV (decide (n < 0)) n.natAbs 0 mode false).s)), .v (.int .i64 ((flV (decide (n < 0)) n.natAbs 0 mode false).m)), .v (.int .i64 ((flV (decide (n < 0)) n.natAbs 0 mode false).e))], .v (.int .i64 (flG (decide (n < 0)) n.natAbs 0 mode))]
        else .tu [.ag [.v (.int .i64 (3)), .v (.bool (false)), .v (.int .i64 (0)), .v (.int .i64 (0))], .v (.int .i64 16)])) := by
  refine Con.of_aw Tryd.func7 rfl Tryd.ntmps7 (by simp) (by simp) (by simp) (W.sound ?_)
  show @W Tryd.prog 19 ⟨_⟩ ⟨fun x σ => @retW _ _ _ ⟨_⟩ _ ⟨_⟩ x σ⟩ _ _
  simp (disch := omega) only [go_sem, ↓reduceIte, Int.reduceToNat, Nat.reduceEqDiff, Nat.reduceAdd, Nat.reduceMul, Nat.reduceSub, Nat.reducePow, Nat.reduceLT, Nat.reduceLeDiff, Int.reduceNeg, Int.reduceEq, Int.reduceLT, Int.reduceLE, reduceCtorEq]
  refine call_closed (con_isMode mode) (by simp (disch := omega) only [go_sem, ↓reduceIte, Int.reduceToNat, Nat.reduceEqDiff, Nat.reduceAdd, Nat.reduceMul, Nat.reduceSub, Nat.reducePow, Nat.reduceLT, Nat.reduceLeDiff, Int.reduceNeg, Int.reduceEq, Int.reduceLT, Int.reduceLE, reduceCtorEq]) ?_
  rintro r hs ⟨rfl, rfl, _⟩
  refine ⟨by simp [freeN], ?_⟩
  simp (disch := omega) only [go_sem, ↓reduceIte, Int.reduceToNat, Nat.reduceEqDiff, Nat.reduceAdd, Nat.reduceMul, Nat.reduceSub, Nat.reducePow, Nat.reduceLT, Nat.reduceLeDiff, Int.reduceNeg, Int.reduceEq, Int.reduceLT, Int.reduceLE, reduceCtorEq]
  refine ifW_nb (fun h1 => ?_) (fun h1 => ?_)
  · simp (disch := omega) only [go_sem, ↓reduceIte, Int.reduceToNat, Nat.reduceEqDiff, Nat.reduceAdd, Nat.reduceMul, Nat.reduceSub, Nat.reducePow, Nat.reduceLT, Nat.reduceLeDiff, Int.reduceNeg, Int.reduceEq, Int.reduceLT, Int.reduceLE, reduceCtorEq, h1]
    refine call_closed (con_nan) (by simp (disch := omega) only [go_sem, ↓reduceIte, Int.reduceToNat, Nat.reduceEqDiff, Nat.reduceAdd, Nat.reduceMul, Nat.reduceSub, Nat.reducePow, Nat.reduceLT, Nat.reduceLeDiff, Int.reduceNeg, Int.reduceEq, Int.reduceLT, Int.reduceLE, reduceCtorEq]) ?_
    rintro r hs ⟨rfl, rfl, _⟩
    refine ⟨by simp [freeN], ?_⟩
    simp (disch := omega) only [go_sem, ↓reduceIte, Int.reduceToNat, Nat.reduceEqDiff, Nat.reduceAdd, Nat.reduceMul, Nat.reduceSub, Nat.reducePow, Nat.reduceLT, Nat.reduceLeDiff, Int.reduceNeg, Int.reduceEq, Int.reduceLT, Int.reduceLE, reduceCtorEq]
    rw [if_neg (by unfold modeB; rw [h1]; simp)]
    exact fin_valc (by simp (disch := omega) only [go_sem, ↓reduceIte, Int.reduceToNat, Nat.reduceEqDiff, Nat.reduceAdd, Nat.reduceMul, Nat.reduceSub, Nat.reducePow, Nat.reduceLT, Nat.reduceLeDiff, Int.reduceNeg, Int.reduceEq, Int.reduceLT, Int.reduceLE, reduceCtorEq]) (by simp (disch := omega) only [go_sem, ↓reduceIte, Int.reduceToNat, Nat.reduceEqDiff, Nat.reduceAdd, Nat.reduceMul, Nat.reduceSub, Nat.reducePow, Nat.reduceLT, Nat.reduceLeDiff, Int.reduceNeg, Int.reduceEq, Int.reduceLT, Int.reduceLE, reduceCtorEq]) isA_mk
  · simp (disch := omega) only [go_sem, ↓reduceIte, Int.reduceToNat, Nat.reduceEqDiff, Nat.reduceAdd, Nat.reduceMul, Nat.reduceSub, Nat.reducePow, Nat.reduceLT, Nat.reduceLeDiff, Int.reduceNeg, Int.reduceEq, Int.reduceLT, Int.reduceLE, reduceCtorEq, h1]
    refine call_open (con_magnitude n h) (by simp (disch := omega) only [go_sem, ↓reduceIte, Int.reduceToNat, Nat.reduceEqDiff, Nat.reduceAdd, Nat.reduceMul, Nat.reduceSub, Nat.reducePow, Nat.reduceLT, Nat.reduceLeDiff, Int.reduceNeg, Int.reduceEq, Int.reduceLT, Int.reduceLE, reduceCtorEq]) ?_
    rintro r hs ⟨rfl, rfl, _⟩
    refine ⟨by simp [freeN], ?_⟩
    simp (disch := omega) only [go_sem, ↓reduceIte, Int.reduceToNat, Nat.reduceEqDiff, Nat.reduceAdd, Nat.reduceMul, Nat.reduceSub, Nat.reducePow, Nat.reduceLT, Nat.reduceLeDiff, Int.reduceNeg, Int.reduceEq, Int.reduceLT, Int.reduceLE, reduceCtorEq]
    have hb : bl n.natAbs ≤ 64 := bl_le.2 (by omega)
    refine call_closed (con_float (decide (n < 0)) n.natAbs 0 mode false (by omega) (by omega)) (by simp (disch := omega) only [go_sem, ↓reduceIte, Int.reduceToNat, Nat.reduceEqDiff, Nat.reduceAdd, Nat.reduceMul, Nat.reduceSub, Nat.reducePow, Nat.reduceLT, Nat.reduceLeDiff, Int.reduceNeg, Int.reduceEq, Int.reduceLT, Int.reduceLE, reduceCtorEq]) ?_
    rintro r hs ⟨rfl, rfl, _⟩
    refine ⟨by simp [freeN], ?_⟩
    simp (disch := omega) only [go_sem, ↓reduceIte, Int.reduceToNat, Nat.reduceEqDiff, Nat.reduceAdd, Nat.reduceMul, Nat.reduceSub, Nat.reducePow, Nat.reduceLT, Nat.reduceLeDiff, Int.reduceNeg, Int.reduceEq, Int.reduceLT, Int.reduceLE, reduceCtorEq]
    rw [if_pos (by unfold modeB; exact h1)]
    exact fin_valc (by simp (disch := omega) only [go_sem, ↓reduceIte, Int.reduceToNat, Nat.reduceEqDiff, Nat.reduceAdd, Nat.reduceMul, Nat.reduceSub, Nat.reducePow, Nat.reduceLT, Nat.reduceLeDiff, Int.reduceNeg, Int.reduceEq, Int.reduceLT, Int.reduceLE, reduceCtorEq]) (by simp (disch := omega) only [go_sem, ↓reduceIte, Int.reduceToNat, Nat.reduceEqDiff, Nat.reduceAdd, Nat.reduceMul, Nat.reduceSub, Nat.reducePow, Nat.reduceLT, Nat.reduceLeDiff, Int.reduceNeg, Int.reduceEq, Int.reduceLT, Int.reduceLE, reduceCtorEq]) isA_mk

def dyV : AV → AV := id

theorem con_FlRound (s : Bool) (xs : List Int) (e mode : Int) (hl : xs.length ≤ 2 ^ 40) :
    Con Tryd.prog 15 true [.ag [.v (.bool s), .sl xs.length (ints xs), .v (.int .i64 e)], .v (.int .i64 mode)] []
      (isA (if dyB s xs e && modeB mode then .tu [.ag [.v (.int .i64 ((flV s (vl xs).toNat e mode false).k)), .v (.bool ((flV s (vl xs).toNat e mode false).s)), .v (.int .i64 ((flV s (vl xs).toNat e mode false).m)), .v (.int .i64 ((flV s (vl xs).toNat e mode false).e))], .v (.int .i64 (flG s (vl xs).toNat e mode)), .v (.bool true)]
        else .tu [.ag [.v (.int .i64 (0)), .v (.bool (false)), .v (.int .i64 (0)), .v (.int .i64 (0))], .v (.int .i64 0), .v (.bool false)])) := by
  refine Con.of_aw Tryd.func15 rfl Tryd.ntmps15 (by simp) (by simp) (by simp) (W.sound ?_)
  show @W Tryd.prog 27 ⟨_⟩ ⟨fun x σ => @retW _ _ _ ⟨_⟩ _ ⟨_⟩ x σ⟩ _ _
  simp (disch := omega) only [go_sem, ↓reduceIte, Int.reduceToNat, Nat.reduceEqDiff, Nat.reduceAdd, Nat.reduceMul, Nat.reduceSub, Nat.reducePow, Nat.reduceLT, Nat.reduceLeDiff, Int.reduceNeg, Int.reduceEq, Int.reduceLT, Int.reduceLE, reduceCtorEq]
  refine call_closed (con_dyok s xs e hl) (by simp (disch := omega) only [go_sem, ↓reduceIte, Int.reduceToNat, Nat.reduceEqDiff, Nat.reduceAdd, Nat.reduceMul, Nat.reduceSub, Nat.reducePow, Nat.reduceLT, Nat.reduceLeDiff, Int.reduceNeg, Int.reduceEq, Int.reduceLT, Int.reduceLE, reduceCtorEq]) ?_
  rintro r hs ⟨rfl, rfl, _⟩
  refine ⟨by simp [freeN], ?_⟩
  simp (disch := omega) only [go_sem, ↓reduceIte, Int.reduceToNat, Nat.reduceEqDiff, Nat.reduceAdd, Nat.reduceMul, Nat.reduceSub, Nat.reducePow, Nat.reduceLT, Nat.reduceLeDiff, Int.reduceNeg, Int.reduceEq, Int.reduceLT, Int.reduceLE, reduceCtorEq]
  refine ifW_b (fun h1 => ?_) (fun h1 => ?_)
  · obtain ⟨m, rfl, hm1, hm2, he, _⟩ := dyB_lim h1
    simp (disch := omega) only [go_sem, ↓reduceIte, Int.reduceToNat, Nat.reduceEqDiff, Nat.reduceAdd, Nat.reduceMul, Nat.reduceSub, Nat.reducePow, Nat.reduceLT, Nat.reduceLeDiff, Int.reduceNeg, Int.reduceEq, Int.reduceLT, Int.reduceLE, reduceCtorEq, h1]
    refine call_closed (con_isMode mode) (by simp (disch := omega) only [go_sem, ↓reduceIte, Int.reduceToNat, Nat.reduceEqDiff, Nat.reduceAdd, Nat.reduceMul, Nat.reduceSub, Nat.reducePow, Nat.reduceLT, Nat.reduceLeDiff, Int.reduceNeg, Int.reduceEq, Int.reduceLT, Int.reduceLE, reduceCtorEq]) ?_
    rintro r hs ⟨rfl, rfl, _⟩
    refine ⟨by simp [freeN], ?_⟩
    simp (disch := omega) only [go_sem, ↓reduceIte, Int.reduceToNat, Nat.reduceEqDiff, Nat.reduceAdd, Nat.reduceMul, Nat.reduceSub, Nat.reducePow, Nat.reduceLT, Nat.reduceLeDiff, Int.reduceNeg, Int.reduceEq, Int.reduceLT, Int.reduceLE, reduceCtorEq]
    refine ifW_nb (fun h2 => ?_) (fun h2 => ?_)
    · simp (disch := omega) only [go_sem, ↓reduceIte, Int.reduceToNat, Nat.reduceEqDiff, Nat.reduceAdd, Nat.reduceMul, Nat.reduceSub, Nat.reducePow, Nat.reduceLT, Nat.reduceLeDiff, Int.reduceNeg, Int.reduceEq, Int.reduceLT, Int.reduceLE, reduceCtorEq, h2]
      rw [h1, if_neg (by unfold modeB; rw [h2]; simp)]
      exact fin_valc (by simp (disch := omega) only [go_sem, ↓reduceIte, Int.reduceToNat, Nat.reduceEqDiff, Nat.reduceAdd, Nat.reduceMul, Nat.reduceSub, Nat.reducePow, Nat.reduceLT, Nat.reduceLeDiff, Int.reduceNeg, Int.reduceEq, Int.reduceLT, Int.reduceLE, reduceCtorEq]) (by simp (disch := omega) only [go_sem, ↓reduceIte, Int.reduceToNat, Nat.reduceEqDiff, Nat.reduceAdd, Nat.reduceMul, Nat.reduceSub, Nat.reducePow, Nat.reduceLT, Nat.reduceLeDiff, Int.reduceNeg, Int.reduceEq, Int.reduceLT, Int.reduceLE, reduceCtorEq]) isA_mk
    · simp (disch := omega) only [go_sem, ↓reduceIte, Int.reduceToNat, Nat.reduceEqDiff, Nat.reduceAdd, Nat.reduceMul, Nat.reduceSub, Nat.reducePow, Nat.reduceLT, Nat.reduceLeDiff, Int.reduceNeg, Int.reduceEq, Int.reduceLT, Int.reduceLE, reduceCtorEq, h2]
      refine call_open (con_dyexact s m e) (by simp (disch := omega) only [go_sem, ↓reduceIte, Int.reduceToNat, Nat.reduceEqDiff, Nat.reduceAdd, Nat.reduceMul, Nat.reduceSub, Nat.reducePow, Nat.reduceLT, Nat.reduceLeDiff, Int.reduceNeg, Int.reduceEq, Int.reduceLT, Int.reduceLE, reduceCtorEq]) ?_
      rintro r hs ⟨rfl, rfl, _⟩
      refine ⟨by simp [freeN], ?_⟩
      simp (disch := omega) only [go_sem, ↓reduceIte, Int.reduceToNat, Nat.reduceEqDiff, Nat.reduceAdd, Nat.reduceMul, Nat.reduceSub, Nat.reducePow, Nat.reduceLT, Nat.reduceLeDiff, Int.reduceNeg, Int.reduceEq, Int.reduceLT, Int.reduceLE, reduceCtorEq]
      refine call_closed (con_float s m e mode false (by omega) (by omega)) (by simp (disch := omega) only [go_sem, ↓reduceIte, Int.reduceToNat, Nat.reduceEqDiff, Nat.reduceAdd, Nat.reduceMul, Nat.reduceSub, Nat.reducePow, Nat.reduceLT, Nat.reduceLeDiff, Int.reduceNeg, Int.reduceEq, Int.reduceLT, Int.reduceLE, reduceCtorEq]) ?_
      rintro r hs ⟨rfl, rfl, _⟩
      refine ⟨by simp [freeN], ?_⟩
      simp (disch := omega) only [go_sem, ↓reduceIte, Int.reduceToNat, Nat.reduceEqDiff, Nat.reduceAdd, Nat.reduceMul, Nat.reduceSub, Nat.reducePow, Nat.reduceLT, Nat.reduceLeDiff, Int.reduceNeg, Int.reduceEq, Int.reduceLT, Int.reduceLE, reduceCtorEq]
      rw [h1, if_pos (by unfold modeB; rw [h2]; rfl), vl_lim, Int.toNat_natCast]
      exact fin_valc (by simp (disch := omega) only [go_sem, ↓reduceIte, Int.reduceToNat, Nat.reduceEqDiff, Nat.reduceAdd, Nat.reduceMul, Nat.reduceSub, Nat.reducePow, Nat.reduceLT, Nat.reduceLeDiff, Int.reduceNeg, Int.reduceEq, Int.reduceLT, Int.reduceLE, reduceCtorEq]) (by simp (disch := omega) only [go_sem, ↓reduceIte, Int.reduceToNat, Nat.reduceEqDiff, Nat.reduceAdd, Nat.reduceMul, Nat.reduceSub, Nat.reducePow, Nat.reduceLT, Nat.reduceLeDiff, Int.reduceNeg, Int.reduceEq, Int.reduceLT, Int.reduceLE, reduceCtorEq]) isA_mk
  · simp (disch := omega) only [go_sem, ↓reduceIte, Int.reduceToNat, Nat.reduceEqDiff, Nat.reduceAdd, Nat.reduceMul, Nat.reduceSub, Nat.reducePow, Nat.reduceLT, Nat.reduceLeDiff, Int.reduceNeg, Int.reduceEq, Int.reduceLT, Int.reduceLE, reduceCtorEq, h1]
    rw [h1, if_neg (by simp)]
    exact fin_valc (by simp (disch := omega) only [go_sem, ↓reduceIte, Int.reduceToNat, Nat.reduceEqDiff, Nat.reduceAdd, Nat.reduceMul, Nat.reduceSub, Nat.reducePow, Nat.reduceLT, Nat.reduceLeDiff, Int.reduceNeg, Int.reduceEq, Int.reduceLT, Int.reduceLE, reduceCtorEq]) (by simp (disch := omega) only [go_sem, ↓reduceIte, Int.reduceToNat, Nat.reduceEqDiff, Nat.reduceAdd, Nat.reduceMul, Nat.reduceSub, Nat.reducePow, Nat.reduceLT, Nat.reduceLeDiff, Int.reduceNeg, Int.reduceEq, Int.reduceLT, Int.reduceLE, reduceCtorEq]) isA_mk
end Go.Ab
namespace Go.Ab
open Go Go.Proofs
set_option linter.unusedVariables false
set_option linter.unusedSimpArgs false

theorem con_l5nan : Con Tryd.prog 36 true [] [] (isA (.ag [.v (.int .i64 (3)), .v (.bool (false)), .v (.int .i64 (0)), .v (.int .i64 (0))])) := by
  refine Con.of_aw Tryd.func36 rfl Tryd.ntmps36 (by simp) (by simp) (by simp) (W.sound ?_)
  show @W Tryd.prog 2 ⟨_⟩ ⟨fun x σ => @retW _ _ _ ⟨_⟩ _ ⟨_⟩ x σ⟩ _ _
  simp (disch := omega) only [go_sem, ↓reduceIte, Int.reduceToNat, Nat.reduceEqDiff, Nat.reduceAdd, Nat.reduceMul, Nat.reduceSub, Nat.reducePow, Nat.reduceLT, Nat.reduceLeDiff, Int.reduceNeg, Int.reduceEq, Int.reduceLT, Int.reduceLE, reduceCtorEq]
  exact fin_valc (by simp (disch := omega) only [go_sem, ↓reduceIte, Int.reduceToNat, Nat.reduceEqDiff, Nat.reduceAdd, Nat.reduceMul, Nat.reduceSub, Nat.reducePow, Nat.reduceLT, Nat.reduceLeDiff, Int.reduceNeg, Int.reduceEq, Int.reduceLT, Int.reduceLE, reduceCtorEq]) (by simp (disch := omega) only [go_sem, ↓reduceIte, Int.reduceToNat, Nat.reduceEqDiff, Nat.reduceAdd, Nat.reduceMul, Nat.reduceSub, Nat.reducePow, Nat.reduceLT, Nat.reduceLeDiff, Int.reduceNeg, Int.reduceEq, Int.reduceLT, Int.reduceLE, reduceCtorEq]) isA_mk

theorem con_l5bad : Con Tryd.prog 18 true [] [] (isA (.tu [.ag [.v (.int .i64 (3)), .v (.bool (false)), .v (.int .i64 (0)), .v (.int .i64 (0))], .v (.int .i64 16)])) := by
  refine Con.of_aw Tryd.func18 rfl Tryd.ntmps18 (by simp) (by simp) (by simp) (W.sound ?_)
  show @W Tryd.prog 3 ⟨_⟩ ⟨fun x σ => @retW _ _ _ ⟨_⟩ _ ⟨_⟩ x σ⟩ _ _
  simp (disch := omega) only [go_sem, ↓reduceIte, Int.reduceToNat, Nat.reduceEqDiff, Nat.reduceAdd, Nat.reduceMul, Nat.reduceSub, Nat.reducePow, Nat.reduceLT, Nat.reduceLeDiff, Int.reduceNeg, Int.reduceEq, Int.reduceLT, Int.reduceLE, reduceCtorEq]
  refine call_closed (con_l5nan) (by simp (disch := omega) only [go_sem, ↓reduceIte, Int.reduceToNat, Nat.reduceEqDiff, Nat.reduceAdd, Nat.reduceMul, Nat.reduceSub, Nat.reducePow, Nat.reduceLT, Nat.reduceLeDiff, Int.reduceNeg, Int.reduceEq, Int.reduceLT, Int.reduceLE, reduceCtorEq]) ?_
  rintro r hs ⟨rfl, rfl, _⟩
  refine ⟨by simp [freeN], ?_⟩
  simp (disch := omega) only [go_sem, ↓reduceIte, Int.reduceToNat, Nat.reduceEqDiff, Nat.reduceAdd, Nat.reduceMul, Nat.reduceSub, Nat.reducePow, Nat.reduceLT, Nat.reduceLeDiff, Int.reduceNeg, Int.reduceEq, Int.reduceLT, Int.reduceLE, reduceCtorEq]
  exact fin_valc (by simp (disch := omega) only [go_sem, ↓reduceIte, Int.reduceToNat, Nat.reduceEqDiff, Nat.reduceAdd, Nat.reduceMul, Nat.reduceSub, Nat.reducePow, Nat.reduceLT, Nat.reduceLeDiff, Int.reduceNeg, Int.reduceEq, Int.reduceLT, Int.reduceLE, reduceCtorEq]) (by simp (disch := omega) only [go_sem, ↓reduceIte, Int.reduceToNat, Nat.reduceEqDiff, Nat.reduceAdd, Nat.reduceMul, Nat.reduceSub, Nat.reducePow, Nat.reduceLT, Nat.reduceLeDiff, Int.reduceNeg, Int.reduceEq, Int.reduceLT, Int.reduceLE, reduceCtorEq]) isA_mk

theorem con_l5most (s : Bool) : Con Tryd.prog 39 true [.v (.bool s)] [] (isA (.ag [.v (.int .i64 (1)), .v (.bool (s)), .v (.int .i64 (9007199254740991)), .v (.int .i64 (971))])) := by
  refine Con.of_aw Tryd.func39 rfl Tryd.ntmps39 (by simp) (by simp) (by simp) (W.sound ?_)
  show @W Tryd.prog 5 ⟨_⟩ ⟨fun x σ => @retW _ _ _ ⟨_⟩ _ ⟨_⟩ x σ⟩ _ _
  simp (disch := omega) only [go_sem, ↓reduceIte, Int.reduceToNat, Nat.reduceEqDiff, Nat.reduceAdd, Nat.reduceMul, Nat.reduceSub, Nat.reducePow, Nat.reduceLT, Nat.reduceLeDiff, Int.reduceNeg, Int.reduceEq, Int.reduceLT, Int.reduceLE, reduceCtorEq]
  exact fin_valc (by simp (disch := omega) only [go_sem, ↓reduceIte, Int.reduceToNat, Nat.reduceEqDiff, Nat.reduceAdd, Nat.reduceMul, Nat.reduceSub, Nat.reducePow, Nat.reduceLT, Nat.reduceLeDiff, Int.reduceNeg, Int.reduceEq, Int.reduceLT, Int.reduceLE, reduceCtorEq]) (by simp (disch := omega) only [go_sem, ↓reduceIte, Int.reduceToNat, Nat.reduceEqDiff, Nat.reduceAdd, Nat.reduceMul, Nat.reduceSub, Nat.reducePow, Nat.reduceLT, Nat.reduceLeDiff, Int.reduceNeg, Int.reduceEq, Int.reduceLT, Int.reduceLE, reduceCtorEq]) isA_mk

theorem sr_eq {s : Bool} {m : Nat} {e low mode : Int} (hodd : m % 2 = 1) : srM s m e low mode = oM (roM s m e low mode) ∧ srE s m e low mode = oE (roM s m e low mode) (roE m e low) := by
  refine ⟨rfl, ?_⟩
  unfold srE
  by_cases h : low ≤ e ∨ m = 0
  · have h0 : m ≠ 0 := fun e => by omega
    rw [if_pos h]
    unfold roM roE oE
    rw [if_pos h, if_pos h, if_neg h0, tz_odd hodd]; simp
  · rw [if_neg h]
    unfold roE
    rw [if_neg h]

theorem roS_eq {s : Bool} {m : Nat} {e low mode : Int} (h : roM s m e low mode ≠ 0) : oS (roS s m e low mode) (roM s m e low mode) = s := by
  unfold oS; rw [if_neg h]
  unfold roS roM at *
  by_cases hc : low ≤ e ∨ m = 0
  · rw [if_pos hc]
  · rw [if_neg hc] at h ⊢
    simp [h]

theorem oE_bnd {m : Nat} {e : Int} {B : Nat} (h : bl m ≤ B) (he : -1000000 ≤ e ∧ e ≤ 1000000) : -1000000 ≤ oE m e ∧ oE m e ≤ 1000000 + B := by
  unfold oE
  by_cases h0 : m = 0
  · rw [if_pos h0]; omega
  · rw [if_neg h0]; have := tz_lt_bl h0; omega

set_option maxRecDepth 100000 in
set_option maxHeartbeats 1000000 in
theorem con_l5round (s : Bool) (m : Nat) (e mode : Int) (z : Bool) (hodd : m % 2 = 1 ∨ m = 0) (hs : m = 0 → s = false) (hmode : 0 ≤ mode ∧ mode ≤ 4) (hm : bl m ≤ 100000) (he : -100000 ≤ e ∧ e ≤ 100000) :
    Con Tryd.prog 19 true [.ag [.v (.bool (s)), .sl (lim (m)).length (ints (lim (m))), .v (.int .i64 (e))], .v (.int .i64 mode), .v (.bool z)] []
      (isA (.tu [.ag [.v (.int .i64 ((flV s m e mode z).k)), .v (.bool ((flV s m e mode z).s)), .v (.int .i64 ((flV s m e mode z).m)), .v (.int .i64 ((flV s m e mode z).e))], .v (.int .i64 (flG s m e mode))])) := by
  have hl := len_bl hm
  refine Con.of_aw Tryd.func19 rfl Tryd.ntmps19 (by simp) (by simp) (by simp) (W.sound ?_)
  show @W Tryd.prog 105 ⟨_⟩ ⟨fun x σ => @retW _ _ _ ⟨_⟩ _ ⟨_⟩ x σ⟩ _ _
  simp (disch := omega) only [go_sem, ↓reduceIte, Int.reduceToNat, Nat.reduceEqDiff, Nat.reduceAdd, Nat.reduceMul, Nat.reduceSub, Nat.reducePow, Nat.reduceLT, Nat.reduceLeDiff, Int.reduceNeg, Int.reduceEq, Int.reduceLT, Int.reduceLE, reduceCtorEq]
  refine ifW_dec (fun h1 => ?_) (fun h1 => ?_)
  · have h0 : m = 0 := lim_eq_nil.1 (List.length_eq_zero_iff.1 (by omega))
    simp (disch := omega) only [go_sem, ↓reduceIte, Int.reduceToNat, Nat.reduceEqDiff, Nat.reduceAdd, Nat.reduceMul, Nat.reduceSub, Nat.reducePow, Nat.reduceLT, Nat.reduceLeDiff, Int.reduceNeg, Int.reduceEq, Int.reduceLT, Int.reduceLE, reduceCtorEq, h1]
    refine fin_valc (by simp (disch := omega) only [go_sem, ↓reduceIte, Int.reduceToNat, Nat.reduceEqDiff, Nat.reduceAdd, Nat.reduceMul, Nat.reduceSub, Nat.reducePow, Nat.reduceLT, Nat.reduceLeDiff, Int.reduceNeg, Int.reduceEq, Int.reduceLT, Int.reduceLE, reduceCtorEq]) (by simp (disch := omega) only [go_sem, ↓reduceIte, Int.reduceToNat, Nat.reduceEqDiff, Nat.reduceAdd, Nat.reduceMul, Nat.reduceSub, Nat.reducePow, Nat.reduceLT, Nat.reduceLeDiff, Int.reduceNeg, Int.reduceEq, Int.reduceLT, Int.reduceLE, reduceCtorEq]) ⟨?_, rfl, rfl⟩
    simp only [tupA, flV, flG, h0, if_true]
  · have h0 : m ≠ 0 := fun e => h1 (by rw [e, lim_zero]; rfl)
    have hod : m % 2 = 1 := hodd.resolve_right h0
    simp (disch := omega) only [go_sem, ↓reduceIte, Int.reduceToNat, Nat.reduceEqDiff, Nat.reduceAdd, Nat.reduceMul, Nat.reduceSub, Nat.reducePow, Nat.reduceLT, Nat.reduceLeDiff, Int.reduceNeg, Int.reduceEq, Int.reduceLT, Int.reduceLE, reduceCtorEq, h1]
    have etop : (if m = 0 then (0 : Int) else e + (bl m : Int)) = (bl m : Int) + e := by rw [if_neg h0]; omega
    refine call_closed (con_l4top s m e (by omega) (by omega)) (by simp (disch := omega) only [go_sem, ↓reduceIte, Int.reduceToNat, Nat.reduceEqDiff, Nat.reduceAdd, Nat.reduceMul, Nat.reduceSub, Nat.reducePow, Nat.reduceLT, Nat.reduceLeDiff, Int.reduceNeg, Int.reduceEq, Int.reduceLT, Int.reduceLE, reduceCtorEq, etop]) ?_
    rintro r hs ⟨rfl, rfl, _⟩
    refine ⟨by simp [freeN], ?_⟩
    simp (disch := omega) only [go_sem, ↓reduceIte, Int.reduceToNat, Nat.reduceEqDiff, Nat.reduceAdd, Nat.reduceMul, Nat.reduceSub, Nat.reducePow, Nat.reduceLT, Nat.reduceLeDiff, Int.reduceNeg, Int.reduceEq, Int.reduceLT, Int.reduceLE, reduceCtorEq]
    simp (disch := omega) only [go_sem, ↓reduceIte, Int.reduceToNat, Nat.reduceEqDiff, Nat.reduceAdd, Nat.reduceMul, Nat.reduceSub, Nat.reducePow, Nat.reduceLT, Nat.reduceLeDiff, Int.reduceNeg, Int.reduceEq, Int.reduceLT, Int.reduceLE, reduceCtorEq, etop]
    have hL0 : flLow ((bl m : Int) + e) = (if -1074 > (bl m : Int) + e - 53 then -1074 else (bl m : Int) + e - 53) := rfl
    have hVG : ∀ (k mm ee fg : Int), flK s mode (roM s m e (flLow (bl m + e)) mode) (roE m e (flLow (bl m + e))) = k → flMm s mode (roM s m e (flLow (bl m + e)) mode) (roE m e (flLow (bl m + e))) = mm → flEe s mode (roM s m e (flLow (bl m + e)) mode) (roE m e (flLow (bl m + e))) = ee →
        flFl (bl m + e) (roX m e (flLow (bl m + e))) (roM s m e (flLow (bl m + e)) mode) (roE m e (flLow (bl m + e))) = fg →
        AV.tu [.ag [.v (.int .i64 k), .v (.bool s), .v (.int .i64 mm), .v (.int .i64 ee)], .v (.int .i64 fg)] = .tu [.ag [.v (.int .i64 ((flV s m e mode z).k)), .v (.bool ((flV s m e mode z).s)), .v (.int .i64 ((flV s m e mode z).m)), .v (.int .i64 ((flV s m e mode z).e))], .v (.int .i64 (flG s m e mode))] := by
      intro k mm ee fg g1 g2 g3 g4
      unfold flV flG
      rw [if_neg h0, if_neg h0, g1, g2, g3, g4]
    have hform := ro_form (s := s) (m := m) (e := e) (mode := mode) h0
    refine ifW_dec (fun h2 => ?_) (fun h2 => ?_)
    · have hL : flLow ((bl m : Int) + e) = -1074 := by unfold flLow; rw [if_pos (by omega)]
      simp (disch := omega) only [go_sem, ↓reduceIte, Int.reduceToNat, Nat.reduceEqDiff, Nat.reduceAdd, Nat.reduceMul, Nat.reduceSub, Nat.reducePow, Nat.reduceLT, Nat.reduceLeDiff, Int.reduceNeg, Int.reduceEq, Int.reduceLT, Int.reduceLE, reduceCtorEq, h2]
      have hbl := ro_bl (s := s) (e := e) (low := -1074) (mode := mode) hm
      have hroE : -1000000 ≤ roE m e (-1074) ∧ roE m e (-1074) ≤ 1000000 := by unfold roE; split <;> omega
      obtain ⟨q1, q2⟩ := sr_eq (s := s) (e := e) (low := -1074) (mode := mode) hod
      have q3 := roS_eq (s := s) (m := m) (e := e) (low := -1074) (mode := mode)
      refine call_open (con_l4round s m e (-1074) mode hodd hs hmode (by omega) (by omega) (by omega)) (by simp (disch := omega) only [go_sem, ↓reduceIte, Int.reduceToNat, Nat.reduceEqDiff, Nat.reduceAdd, Nat.reduceMul, Nat.reduceSub, Nat.reducePow, Nat.reduceLT, Nat.reduceLeDiff, Int.reduceNeg, Int.reduceEq, Int.reduceLT, Int.reduceLE, reduceCtorEq, etop]) ?_
      rintro r hs ⟨rfl, rfl, _⟩
      refine ⟨by simp [freeN], ?_⟩
      simp (disch := omega) only [go_sem, ↓reduceIte, Int.reduceToNat, Nat.reduceEqDiff, Nat.reduceAdd, Nat.reduceMul, Nat.reduceSub, Nat.reducePow, Nat.reduceLT, Nat.reduceLeDiff, Int.reduceNeg, Int.reduceEq, Int.reduceLT, Int.reduceLE, reduceCtorEq]
      rw [hL] at hVG hform
      generalize srM s m e (-1074) mode = xm at *
      generalize srE s m e (-1074) mode = xe at *
      generalize oS (roS s m e (-1074) mode) (roM s m e (-1074) mode) = xs at *
      generalize hrm : roM s m e (-1074) mode = rm at *
      generalize hre : roE m e (-1074) = re at *
      generalize hrx : roX m e (-1074) = same at *
      have hxm0 : ((lim xm).length : Int) = 0 ↔ rm = 0 := by rw [q1, ← oM_eq_zero]; exact ⟨fun h => lim_eq_nil.1 (List.length_eq_zero_iff.1 (by omega)), fun h => by rw [h, lim_zero]; rfl⟩
      have hxmb : bl xm ≤ 100001 := by rw [q1]; exact Nat.le_trans (bl_mono (oM_le rm)) hbl
      have lxm := len_bl hxmb
      have hxeb : -2000000 ≤ xe ∧ xe ≤ 2000000 := by have := oE_bnd hbl hroE; omega
      have etop2 : rm ≠ 0 → (if xm = 0 then (0 : Int) else xe + (bl xm : Int)) = (bl rm : Int) + re := fun h => by
        have h2 := bl_oM h
        have h3 : xm ≠ 0 := by rw [q1]; exact fun e => h (oM_eq_zero.1 e)
        rw [if_neg h3, q2, q1]; unfold oE; rw [if_neg h]; omega
      refine ifW_nb (fun h3 => ?_) (fun h3 => ?_)
      · simp (disch := omega) only [go_sem, ↓reduceIte, Int.reduceToNat, Nat.reduceEqDiff, Nat.reduceAdd, Nat.reduceMul, Nat.reduceSub, Nat.reducePow, Nat.reduceLT, Nat.reduceLeDiff, Int.reduceNeg, Int.reduceEq, Int.reduceLT, Int.reduceLE, reduceCtorEq, h3]
        refine call_closed (con_l4top s m e (by omega) (by omega)) (by simp (disch := omega) only [go_sem, ↓reduceIte, Int.reduceToNat, Nat.reduceEqDiff, Nat.reduceAdd, Nat.reduceMul, Nat.reduceSub, Nat.reducePow, Nat.reduceLT, Nat.reduceLeDiff, Int.reduceNeg, Int.reduceEq, Int.reduceLT, Int.reduceLE, reduceCtorEq, etop]) ?_
        rintro r hs ⟨rfl, rfl, _⟩
        refine ⟨by simp [freeN], ?_⟩
        simp (disch := omega) only [go_sem, ↓reduceIte, Int.reduceToNat, Nat.reduceEqDiff, Nat.reduceAdd, Nat.reduceMul, Nat.reduceSub, Nat.reducePow, Nat.reduceLT, Nat.reduceLeDiff, Int.reduceNeg, Int.reduceEq, Int.reduceLT, Int.reduceLE, reduceCtorEq]
        simp (disch := omega) only [go_sem, ↓reduceIte, Int.reduceToNat, Nat.reduceEqDiff, Nat.reduceAdd, Nat.reduceMul, Nat.reduceSub, Nat.reducePow, Nat.reduceLT, Nat.reduceLeDiff, Int.reduceNeg, Int.reduceEq, Int.reduceLT, Int.reduceLE, reduceCtorEq, etop]
        refine ifW_dec (fun h4 => ?_) (fun h4 => ?_)
        · have hfl : flFlags (bl m + e) same = 5 := by unfold flFlags; rw [h3, if_neg (by simp), if_pos (by omega)]
          have e5 : ((1 ||| 4 : Nat) : Int) = 5 := rfl
          simp (disch := omega) only [go_sem, ↓reduceIte, Int.reduceToNat, Nat.reduceEqDiff, Nat.reduceAdd, Nat.reduceMul, Nat.reduceSub, Nat.reducePow, Nat.reduceLT, Nat.reduceLeDiff, Int.reduceNeg, Int.reduceEq, Int.reduceLT, Int.reduceLE, reduceCtorEq, h4, e5]
          refine ifW_dec (fun h5 => ?_) (fun h5 => ?_)
          · have hr0 : rm = 0 := hxm0.1 h5
            simp (disch := omega) only [go_sem, ↓reduceIte, Int.reduceToNat, Nat.reduceEqDiff, Nat.reduceAdd, Nat.reduceMul, Nat.reduceSub, Nat.reducePow, Nat.reduceLT, Nat.reduceLeDiff, Int.reduceNeg, Int.reduceEq, Int.reduceLT, Int.reduceLE, reduceCtorEq, h5]
            refine fin_valc (by simp (disch := omega) only [go_sem, ↓reduceIte, Int.reduceToNat, Nat.reduceEqDiff, Nat.reduceAdd, Nat.reduceMul, Nat.reduceSub, Nat.reducePow, Nat.reduceLT, Nat.reduceLeDiff, Int.reduceNeg, Int.reduceEq, Int.reduceLT, Int.reduceLE, reduceCtorEq]) (by simp (disch := omega) only [go_sem, ↓reduceIte, Int.reduceToNat, Nat.reduceEqDiff, Nat.reduceAdd, Nat.reduceMul, Nat.reduceSub, Nat.reducePow, Nat.reduceLT, Nat.reduceLeDiff, Int.reduceNeg, Int.reduceEq, Int.reduceLT, Int.reduceLE, reduceCtorEq]) ⟨?_, rfl, rfl⟩
            refine hVG 0 0 0 5 (by simp [flK, hr0]) (by simp [flMm, hr0]) (by simp [flEe, hr0]) (by simp [flFl, hr0, hfl])
          · have hr0 : rm ≠ 0 := fun e => h5 (hxm0.2 e)
            have et2 := etop2 hr0
            have hxs : xs = s := q3 hr0
            have hff := hform hr0
            have hM := flM_lt hr0 hff
            simp (disch := omega) only [go_sem, ↓reduceIte, Int.reduceToNat, Nat.reduceEqDiff, Nat.reduceAdd, Nat.reduceMul, Nat.reduceSub, Nat.reducePow, Nat.reduceLT, Nat.reduceLeDiff, Int.reduceNeg, Int.reduceEq, Int.reduceLT, Int.reduceLE, reduceCtorEq, h5]
            refine call_closed (con_l4top xs xm xe (by omega) (by omega)) (by simp (disch := omega) only [go_sem, ↓reduceIte, Int.reduceToNat, Nat.reduceEqDiff, Nat.reduceAdd, Nat.reduceMul, Nat.reduceSub, Nat.reducePow, Nat.reduceLT, Nat.reduceLeDiff, Int.reduceNeg, Int.reduceEq, Int.reduceLT, Int.reduceLE, reduceCtorEq, et2]) ?_
            rintro r hs ⟨rfl, rfl, _⟩
            refine ⟨by simp [freeN], ?_⟩
            simp (disch := omega) only [go_sem, ↓reduceIte, Int.reduceToNat, Nat.reduceEqDiff, Nat.reduceAdd, Nat.reduceMul, Nat.reduceSub, Nat.reducePow, Nat.reduceLT, Nat.reduceLeDiff, Int.reduceNeg, Int.reduceEq, Int.reduceLT, Int.reduceLE, reduceCtorEq]
            simp (disch := omega) only [go_sem, ↓reduceIte, Int.reduceToNat, Nat.reduceEqDiff, Nat.reduceAdd, Nat.reduceMul, Nat.reduceSub, Nat.reducePow, Nat.reduceLT, Nat.reduceLeDiff, Int.reduceNeg, Int.reduceEq, Int.reduceLT, Int.reduceLE, reduceCtorEq, et2]
            refine ifW_dec (fun h6 => ?_) (fun h6 => ?_)
            · have hov : ∀ (k mm ee : Int), k = (if ovB s mode then 1 else 2) → mm = (if ovB s mode then 9007199254740991 else 0) → ee = (if ovB s mode then 971 else 0) → AV.tu [.ag [.v (.int .i64 k), .v (.bool s), .v (.int .i64 mm), .v (.int .i64 ee)], .v (.int .i64 3)] = .tu [.ag [.v (.int .i64 ((flV s m e mode z).k)), .v (.bool ((flV s m e mode z).s)), .v (.int .i64 ((flV s m e mode z).m)), .v (.int .i64 ((flV s m e mode z).e))], .v (.int .i64 (flG s m e mode))] := by
                rintro k mm ee rfl rfl rfl
                exact hVG _ _ _ 3 (by unfold flK; rw [if_neg hr0, if_pos h6]) (by unfold flMm; rw [if_neg hr0, if_pos h6]) (by unfold flEe; rw [if_neg hr0, if_pos h6]) (by unfold flFl; rw [if_pos ⟨hr0, h6⟩])
              clear hVG hform hrm hrx q3 hxs et2 hfl
              obtain rfl | rfl | rfl | rfl | rfl : mode = 0 ∨ mode = 1 ∨ mode = 2 ∨ mode = 3 ∨ mode = 4 := by omega
              · cases s
                · simp (disch := omega) only [go_sem, ↓reduceIte, Int.reduceToNat, Nat.reduceEqDiff, Nat.reduceAdd, Nat.reduceMul, Nat.reduceSub, Nat.reducePow, Nat.reduceLT, Nat.reduceLeDiff, Int.reduceNeg, Int.reduceEq, Int.reduceLT, Int.reduceLE, reduceCtorEq, h6]
                  refine fin_valc (by simp (disch := omega) only [go_sem, ↓reduceIte, Int.reduceToNat, Nat.reduceEqDiff, Nat.reduceAdd, Nat.reduceMul, Nat.reduceSub, Nat.reducePow, Nat.reduceLT, Nat.reduceLeDiff, Int.reduceNeg, Int.reduceEq, Int.reduceLT, Int.reduceLE, reduceCtorEq]) (by simp (disch := omega) only [go_sem, ↓reduceIte, Int.reduceToNat, Nat.reduceEqDiff, Nat.reduceAdd, Nat.reduceMul, Nat.reduceSub, Nat.reducePow, Nat.reduceLT, Nat.reduceLeDiff, Int.reduceNeg, Int.reduceEq, Int.reduceLT, Int.reduceLE, reduceCtorEq]) ⟨?_, rfl, rfl⟩
                  exact hov _ _ _ rfl rfl rfl
                · simp (disch := omega) only [go_sem, ↓reduceIte, Int.reduceToNat, Nat.reduceEqDiff, Nat.reduceAdd, Nat.reduceMul, Nat.reduceSub, Nat.reducePow, Nat.reduceLT, Nat.reduceLeDiff, Int.reduceNeg, Int.reduceEq, Int.reduceLT, Int.reduceLE, reduceCtorEq, h6]
                  refine fin_valc (by simp (disch := omega) only [go_sem, ↓reduceIte, Int.reduceToNat, Nat.reduceEqDiff, Nat.reduceAdd, Nat.reduceMul, Nat.reduceSub, Nat.reducePow, Nat.reduceLT, Nat.reduceLeDiff, Int.reduceNeg, Int.reduceEq, Int.reduceLT, Int.reduceLE, reduceCtorEq]) (by simp (disch := omega) only [go_sem, ↓reduceIte, Int.reduceToNat, Nat.reduceEqDiff, Nat.reduceAdd, Nat.reduceMul, Nat.reduceSub, Nat.reducePow, Nat.reduceLT, Nat.reduceLeDiff, Int.reduceNeg, Int.reduceEq, Int.reduceLT, Int.reduceLE, reduceCtorEq]) ⟨?_, rfl, rfl⟩
                  exact hov _ _ _ rfl rfl rfl
              · cases s
                · simp (disch := omega) only [go_sem, ↓reduceIte, Int.reduceToNat, Nat.reduceEqDiff, Nat.reduceAdd, Nat.reduceMul, Nat.reduceSub, Nat.reducePow, Nat.reduceLT, Nat.reduceLeDiff, Int.reduceNeg, Int.reduceEq, Int.reduceLT, Int.reduceLE, reduceCtorEq, h6]
                  refine call_closed (con_l5most false) (by simp (disch := omega) only [go_sem, ↓reduceIte, Int.reduceToNat, Nat.reduceEqDiff, Nat.reduceAdd, Nat.reduceMul, Nat.reduceSub, Nat.reducePow, Nat.reduceLT, Nat.reduceLeDiff, Int.reduceNeg, Int.reduceEq, Int.reduceLT, Int.reduceLE, reduceCtorEq]) ?_
                  rintro r hs ⟨rfl, rfl, _⟩
                  refine ⟨by simp [freeN], ?_⟩
                  simp (disch := omega) only [go_sem, ↓reduceIte, Int.reduceToNat, Nat.reduceEqDiff, Nat.reduceAdd, Nat.reduceMul, Nat.reduceSub, Nat.reducePow, Nat.reduceLT, Nat.reduceLeDiff, Int.reduceNeg, Int.reduceEq, Int.reduceLT, Int.reduceLE, reduceCtorEq]
                  refine fin_valc (by simp (disch := omega) only [go_sem, ↓reduceIte, Int.reduceToNat, Nat.reduceEqDiff, Nat.reduceAdd, Nat.reduceMul, Nat.reduceSub, Nat.reducePow, Nat.reduceLT, Nat.reduceLeDiff, Int.reduceNeg, Int.reduceEq, Int.reduceLT, Int.reduceLE, reduceCtorEq]) (by simp (disch := omega) only [go_sem, ↓reduceIte, Int.reduceToNat, Nat.reduceEqDiff, Nat.reduceAdd, Nat.reduceMul, Nat.reduceSub, Nat.reducePow, Nat.reduceLT, Nat.reduceLeDiff, Int.reduceNeg, Int.reduceEq, Int.reduceLT, Int.reduceLE, reduceCtorEq]) ⟨?_, rfl, rfl⟩
                  exact hov _ _ _ rfl rfl rfl
                · simp (disch := omega) only [go_sem, ↓reduceIte, Int.reduceToNat, Nat.reduceEqDiff, Nat.reduceAdd, Nat.reduceMul, Nat.reduceSub, Nat.reducePow, Nat.reduceLT, Nat.reduceLeDiff, Int.reduceNeg, Int.reduceEq, Int.reduceLT, Int.reduceLE, reduceCtorEq, h6]
                  refine call_closed (con_l5most true) (by simp (disch := omega) only [go_sem, ↓reduceIte, Int.reduceToNat, Nat.reduceEqDiff, Nat.reduceAdd, Nat.reduceMul, Nat.reduceSub, Nat.reducePow, Nat.reduceLT, Nat.reduceLeDiff, Int.reduceNeg, Int.reduceEq, Int.reduceLT, Int.reduceLE, reduceCtorEq]) ?_
                  rintro r hs ⟨rfl, rfl, _⟩
                  refine ⟨by simp [freeN], ?_⟩
                  simp (disch := omega) only [go_sem, ↓reduceIte, Int.reduceToNat, Nat.reduceEqDiff, Nat.reduceAdd, Nat.reduceMul, Nat.reduceSub, Nat.reducePow, Nat.reduceLT, Nat.reduceLeDiff, Int.reduceNeg, Int.reduceEq, Int.reduceLT, Int.reduceLE, reduceCtorEq]
                  refine fin_valc (by simp (disch := omega) only [go_sem, ↓reduceIte, Int.reduceToNat, Nat.reduceEqDiff, Nat.reduceAdd, Nat.reduceMul, Nat.reduceSub, Nat.reducePow, Nat.reduceLT, Nat.reduceLeDiff, Int.reduceNeg, Int.reduceEq, Int.reduceLT, Int.reduceLE, reduceCtorEq]) (by simp (disch := omega) only [go_sem, ↓reduceIte, Int.reduceToNat, Nat.reduceEqDiff, Nat.reduceAdd, Nat.reduceMul, Nat.reduceSub, Nat.reducePow, Nat.reduceLT, Nat.reduceLeDiff, Int.reduceNeg, Int.reduceEq, Int.reduceLT, Int.reduceLE, reduceCtorEq]) ⟨?_, rfl, rfl⟩
                  exact hov _ _ _ rfl rfl rfl
              · cases s
                · simp (disch := omega) only [go_sem, ↓reduceIte, Int.reduceToNat, Nat.reduceEqDiff, Nat.reduceAdd, Nat.reduceMul, Nat.reduceSub, Nat.reducePow, Nat.reduceLT, Nat.reduceLeDiff, Int.reduceNeg, Int.reduceEq, Int.reduceLT, Int.reduceLE, reduceCtorEq, h6]
                  refine fin_valc (by simp (disch := omega) only [go_sem, ↓reduceIte, Int.reduceToNat, Nat.reduceEqDiff, Nat.reduceAdd, Nat.reduceMul, Nat.reduceSub, Nat.reducePow, Nat.reduceLT, Nat.reduceLeDiff, Int.reduceNeg, Int.reduceEq, Int.reduceLT, Int.reduceLE, reduceCtorEq]) (by simp (disch := omega) only [go_sem, ↓reduceIte, Int.reduceToNat, Nat.reduceEqDiff, Nat.reduceAdd, Nat.reduceMul, Nat.reduceSub, Nat.reducePow, Nat.reduceLT, Nat.reduceLeDiff, Int.reduceNeg, Int.reduceEq, Int.reduceLT, Int.reduceLE, reduceCtorEq]) ⟨?_, rfl, rfl⟩
                  exact hov _ _ _ rfl rfl rfl
                · simp (disch := omega) only [go_sem, ↓reduceIte, Int.reduceToNat, Nat.reduceEqDiff, Nat.reduceAdd, Nat.reduceMul, Nat.reduceSub, Nat.reducePow, Nat.reduceLT, Nat.reduceLeDiff, Int.reduceNeg, Int.reduceEq, Int.reduceLT, Int.reduceLE, reduceCtorEq, h6]
                  refine call_closed (con_l5most true) (by simp (disch := omega) only [go_sem, ↓reduceIte, Int.reduceToNat, Nat.reduceEqDiff, Nat.reduceAdd, Nat.reduceMul, Nat.reduceSub, Nat.reducePow, Nat.reduceLT, Nat.reduceLeDiff, Int.reduceNeg, Int.reduceEq, Int.reduceLT, Int.reduceLE, reduceCtorEq]) ?_
                  rintro r hs ⟨rfl, rfl, _⟩
                  refine ⟨by simp [freeN], ?_⟩
                  simp (disch := omega) only [go_sem, ↓reduceIte, Int.reduceToNat, Nat.reduceEqDiff, Nat.reduceAdd, Nat.reduceMul, Nat.reduceSub, Nat.reducePow, Nat.reduceLT, Nat.reduceLeDiff, Int.reduceNeg, Int.reduceEq, Int.reduceLT, Int.reduceLE, reduceCtorEq]
                  refine fin_valc (by simp (disch := omega) only [go_sem, ↓reduceIte, Int.reduceToNat, Nat.reduceEqDiff, Nat.reduceAdd, Nat.reduceMul, Nat.reduceSub, Nat.reducePow, Nat.reduceLT, Nat.reduceLeDiff, Int.reduceNeg, Int.reduceEq, Int.reduceLT, Int.reduceLE, reduceCtorEq]) (by simp (disch := omega) only [go_sem, ↓reduceIte, Int.reduceToNat, Nat.reduceEqDiff, Nat.reduceAdd, Nat.reduceMul, Nat.reduceSub, Nat.reducePow, Nat.reduceLT, Nat.reduceLeDiff, Int.reduceNeg, Int.reduceEq, Int.reduceLT, Int.reduceLE, reduceCtorEq]) ⟨?_, rfl, rfl⟩
                  exact hov _ _ _ rfl rfl rfl
              · cases s
                · simp (disch := omega) only [go_sem, ↓reduceIte, Int.reduceToNat, Nat.reduceEqDiff, Nat.reduceAdd, Nat.reduceMul, Nat.reduceSub, Nat.reducePow, Nat.reduceLT, Nat.reduceLeDiff, Int.reduceNeg, Int.reduceEq, Int.reduceLT, Int.reduceLE, reduceCtorEq, h6]
                  refine call_closed (con_l5most false) (by simp (disch := omega) only [go_sem, ↓reduceIte, Int.reduceToNat, Nat.reduceEqDiff, Nat.reduceAdd, Nat.reduceMul, Nat.reduceSub, Nat.reducePow, Nat.reduceLT, Nat.reduceLeDiff, Int.reduceNeg, Int.reduceEq, Int.reduceLT, Int.reduceLE, reduceCtorEq]) ?_
                  rintro r hs ⟨rfl, rfl, _⟩
                  refine ⟨by simp [freeN], ?_⟩
                  simp (disch := omega) only [go_sem, ↓reduceIte, Int.reduceToNat, Nat.reduceEqDiff, Nat.reduceAdd, Nat.reduceMul, Nat.reduceSub, Nat.reducePow, Nat.reduceLT, Nat.reduceLeDiff, Int.reduceNeg, Int.reduceEq, Int.reduceLT, Int.reduceLE, reduceCtorEq]
                  refine fin_valc (by simp (disch := omega) only [go_sem, ↓reduceIte, Int.reduceToNat, Nat.reduceEqDiff, Nat.reduceAdd, Nat.reduceMul, Nat.reduceSub, Nat.reducePow, Nat.reduceLT, Nat.reduceLeDiff, Int.reduceNeg, Int.reduceEq, Int.reduceLT, Int.reduceLE, reduceCtorEq]) (by simp (disch := omega) only [go_sem, ↓reduceIte, Int.reduceToNat, Nat.reduceEqDiff, Nat.reduceAdd, Nat.reduceMul, Nat.reduceSub, Nat.reducePow, Nat.reduceLT, Nat.reduceLeDiff, Int.reduceNeg, Int.reduceEq, Int.reduceLT, Int.reduceLE, reduceCtorEq]) ⟨?_, rfl, rfl⟩
                  exact hov _ _ _ rfl rfl rfl
                · simp (disch := omega) only [go_sem, ↓reduceIte, Int.reduceToNat, Nat.reduceEqDiff, Nat.reduceAdd, Nat.reduceMul, Nat.reduceSub, Nat.reducePow, Nat.reduceLT, Nat.reduceLeDiff, Int.reduceNeg, Int.reduceEq, Int.reduceLT, Int.reduceLE, reduceCtorEq, h6]
                  refine fin_valc (by simp (disch := omega) only [go_sem, ↓reduceIte, Int.reduceToNat, Nat.reduceEqDiff, Nat.reduceAdd, Nat.reduceMul, Nat.reduceSub, Nat.reducePow, Nat.reduceLT, Nat.reduceLeDiff, Int.reduceNeg, Int.reduceEq, Int.reduceLT, Int.reduceLE, reduceCtorEq]) (by simp (disch := omega) only [go_sem, ↓reduceIte, Int.reduceToNat, Nat.reduceEqDiff, Nat.reduceAdd, Nat.reduceMul, Nat.reduceSub, Nat.reducePow, Nat.reduceLT, Nat.reduceLeDiff, Int.reduceNeg, Int.reduceEq, Int.reduceLT, Int.reduceLE, reduceCtorEq]) ⟨?_, rfl, rfl⟩
                  exact hov _ _ _ rfl rfl rfl
              · cases s
                · simp (disch := omega) only [go_sem, ↓reduceIte, Int.reduceToNat, Nat.reduceEqDiff, Nat.reduceAdd, Nat.reduceMul, Nat.reduceSub, Nat.reducePow, Nat.reduceLT, Nat.reduceLeDiff, Int.reduceNeg, Int.reduceEq, Int.reduceLT, Int.reduceLE, reduceCtorEq, h6]
                  refine fin_valc (by simp (disch := omega) only [go_sem, ↓reduceIte, Int.reduceToNat, Nat.reduceEqDiff, Nat.reduceAdd, Nat.reduceMul, Nat.reduceSub, Nat.reducePow, Nat.reduceLT, Nat.reduceLeDiff, Int.reduceNeg, Int.reduceEq, Int.reduceLT, Int.reduceLE, reduceCtorEq]) (by simp (disch := omega) only [go_sem, ↓reduceIte, Int.reduceToNat, Nat.reduceEqDiff, Nat.reduceAdd, Nat.reduceMul, Nat.reduceSub, Nat.reducePow, Nat.reduceLT, Nat.reduceLeDiff, Int.reduceNeg, Int.reduceEq, Int.reduceLT, Int.reduceLE, reduceCtorEq]) ⟨?_, rfl, rfl⟩
                  exact hov _ _ _ rfl rfl rfl
                · simp (disch := omega) only [go_sem, ↓reduceIte, Int.reduceToNat, Nat.reduceEqDiff, Nat.reduceAdd, Nat.reduceMul, Nat.reduceSub, Nat.reducePow, Nat.reduceLT, Nat.reduceLeDiff, Int.reduceNeg, Int.reduceEq, Int.reduceLT, Int.reduceLE, reduceCtorEq, h6]
                  refine fin_valc (by simp (disch := omega) only [go_sem, ↓reduceIte, Int.reduceToNat, Nat.reduceEqDiff, Nat.reduceAdd, Nat.reduceMul, Nat.reduceSub, Nat.reducePow, Nat.reduceLT, Nat.reduceLeDiff, Int.reduceNeg, Int.reduceEq, Int.reduceLT, Int.reduceLE, reduceCtorEq]) (by simp (disch := omega) only [go_sem, ↓reduceIte, Int.reduceToNat, Nat.reduceEqDiff, Nat.reduceAdd, Nat.reduceMul, Nat.reduceSub, Nat.reducePow, Nat.reduceLT, Nat.reduceLeDiff, Int.reduceNeg, Int.reduceEq, Int.reduceLT, Int.reduceLE, reduceCtorEq]) ⟨?_, rfl, rfl⟩
                  exact hov _ _ _ rfl rfl rfl
            · simp (disch := omega) only [go_sem, ↓reduceIte, Int.reduceToNat, Nat.reduceEqDiff, Nat.reduceAdd, Nat.reduceMul, Nat.reduceSub, Nat.reducePow, Nat.reduceLT, Nat.reduceLeDiff, Int.reduceNeg, Int.reduceEq, Int.reduceLT, Int.reduceLE, reduceCtorEq, h6]
              refine call_closed (con_l4top xs xm xe (by omega) (by omega)) (by simp (disch := omega) only [go_sem, ↓reduceIte, Int.reduceToNat, Nat.reduceEqDiff, Nat.reduceAdd, Nat.reduceMul, Nat.reduceSub, Nat.reducePow, Nat.reduceLT, Nat.reduceLeDiff, Int.reduceNeg, Int.reduceEq, Int.reduceLT, Int.reduceLE, reduceCtorEq, et2]) ?_
              rintro r hs ⟨rfl, rfl, _⟩
              refine ⟨by simp [freeN], ?_⟩
              simp (disch := omega) only [go_sem, ↓reduceIte, Int.reduceToNat, Nat.reduceEqDiff, Nat.reduceAdd, Nat.reduceMul, Nat.reduceSub, Nat.reducePow, Nat.reduceLT, Nat.reduceLeDiff, Int.reduceNeg, Int.reduceEq, Int.reduceLT, Int.reduceLE, reduceCtorEq]
              simp (disch := omega) only [go_sem, ↓reduceIte, Int.reduceToNat, Nat.reduceEqDiff, Nat.reduceAdd, Nat.reduceMul, Nat.reduceSub, Nat.reducePow, Nat.reduceLT, Nat.reduceLeDiff, Int.reduceNeg, Int.reduceEq, Int.reduceLT, Int.reduceLE, reduceCtorEq, et2]
              have hfin : ∀ mm : Int, mm = (flM rm re : Int) → AV.tu [.ag [.v (.int .i64 1), .v (.bool xs), .v (.int .i64 mm), .v (.int .i64 (flE rm re))], .v (.int .i64 5)] = .tu [.ag [.v (.int .i64 ((flV s m e mode z).k)), .v (.bool ((flV s m e mode z).s)), .v (.int .i64 ((flV s m e mode z).m)), .v (.int .i64 ((flV s m e mode z).e))], .v (.int .i64 (flG s m e mode))] := by
                rintro mm rfl
                rw [hxs]
                exact hVG 1 _ _ 5 (by unfold flK; rw [if_neg hr0, if_neg (by omega)]) (by unfold flMm; rw [if_neg hr0, if_neg (by omega)]) (by unfold flEe; rw [if_neg hr0, if_neg (by omega)]) (by unfold flFl; rw [if_neg (by omega), hfl])
              have ek : xe - flE rm re = (((oE rm re - flE rm re).toNat : Nat) : Int) := by omega
              have hk9 : (oE rm re - flE rm re).toNat ≤ 53 := by have h9 := hM; unfold flM at h9; rw [bl_mul_pow (fun e => hr0 (oM_eq_zero.1 e))] at h9; omega
              have hM6 : flM rm re < 2 ^ 53 := Nat.lt_of_lt_of_le (bl_lt _) (Nat.pow_le_pow_right (by omega) hM)
              have eM : xm * 2 ^ (oE rm re - flE rm re).toNat = flM rm re := by rw [q1]; rfl
              generalize hkk : (oE rm re - flE rm re).toNat = kk at *
              refine ifW_dec (fun h7 => ?_) (fun h7 => ?_)
              · have eE : flE rm re = -1074 := by unfold flE flLow; rw [if_pos (by omega)]
                simp (disch := omega) only [go_sem, ↓reduceIte, Int.reduceToNat, Nat.reduceEqDiff, Nat.reduceAdd, Nat.reduceMul, Nat.reduceSub, Nat.reducePow, Nat.reduceLT, Nat.reduceLeDiff, Int.reduceNeg, Int.reduceEq, Int.reduceLT, Int.reduceLE, reduceCtorEq, h7]
                rw [eE] at ek hfin
                try rw [← et2] at hfin
                refine draw_of rfl [⟨0, [], []⟩, ⟨1, [], []⟩, ⟨2, [], []⟩, ⟨3, [2], []⟩, ⟨4, [2], []⟩, ⟨5, [2], []⟩, ⟨6, [2, 5], []⟩, ⟨7, [2, 5], []⟩, ⟨8, [2, 5, 7], []⟩, ⟨9, [2, 5], []⟩, ⟨12, [2, 5, 7], []⟩, ⟨14, [2, 5, 7], []⟩, ⟨10, [2], []⟩, ⟨11, [2], []⟩, ⟨13, [], []⟩, ⟨15, [], []⟩, ⟨16, [], []⟩] (by kernel_rfl) ?_
                simp (disch := omega) only [go_sem, ↓reduceIte, Int.reduceToNat, Nat.reduceEqDiff, Nat.reduceAdd, Nat.reduceMul, Nat.reduceSub, Nat.reducePow, Nat.reduceLT, Nat.reduceLeDiff, Int.reduceNeg, Int.reduceEq, Int.reduceLT, Int.reduceLE, reduceCtorEq]
                refine call_open (con_l2shlF xm kk (by omega) (by omega)) (by simp (disch := omega) only [go_sem, ↓reduceIte, Int.reduceToNat, Nat.reduceEqDiff, Nat.reduceAdd, Nat.reduceMul, Nat.reduceSub, Nat.reducePow, Nat.reduceLT, Nat.reduceLeDiff, Int.reduceNeg, Int.reduceEq, Int.reduceLT, Int.reduceLE, reduceCtorEq, ek, et2]) ?_
                rintro r hs ⟨rfl, rfl, _⟩
                refine ⟨by simp [freeN], ?_⟩
                simp (disch := omega) only [go_sem, ↓reduceIte, Int.reduceToNat, Nat.reduceEqDiff, Nat.reduceAdd, Nat.reduceMul, Nat.reduceSub, Nat.reducePow, Nat.reduceLT, Nat.reduceLeDiff, Int.reduceNeg, Int.reduceEq, Int.reduceLT, Int.reduceLE, reduceCtorEq]
                refine call_closed (con_l2int (xm * 2 ^ kk) (by rw [eM]; omega)) (by simp (disch := omega) only [go_sem, ↓reduceIte, Int.reduceToNat, Nat.reduceEqDiff, Nat.reduceAdd, Nat.reduceMul, Nat.reduceSub, Nat.reducePow, Nat.reduceLT, Nat.reduceLeDiff, Int.reduceNeg, Int.reduceEq, Int.reduceLT, Int.reduceLE, reduceCtorEq]) ?_
                rintro r hs ⟨rfl, rfl, _⟩
                refine ⟨by simp [freeN], ?_⟩
                simp (disch := omega) only [go_sem, ↓reduceIte, Int.reduceToNat, Nat.reduceEqDiff, Nat.reduceAdd, Nat.reduceMul, Nat.reduceSub, Nat.reducePow, Nat.reduceLT, Nat.reduceLeDiff, Int.reduceNeg, Int.reduceEq, Int.reduceLT, Int.reduceLE, reduceCtorEq]
                refine fin_valc (by simp (disch := omega) only [go_sem, ↓reduceIte, Int.reduceToNat, Nat.reduceEqDiff, Nat.reduceAdd, Nat.reduceMul, Nat.reduceSub, Nat.reducePow, Nat.reduceLT, Nat.reduceLeDiff, Int.reduceNeg, Int.reduceEq, Int.reduceLT, Int.reduceLE, reduceCtorEq]) (by simp (disch := omega) only [go_sem, ↓reduceIte, Int.reduceToNat, Nat.reduceEqDiff, Nat.reduceAdd, Nat.reduceMul, Nat.reduceSub, Nat.reducePow, Nat.reduceLT, Nat.reduceLeDiff, Int.reduceNeg, Int.reduceEq, Int.reduceLT, Int.reduceLE, reduceCtorEq]) ⟨?_, rfl, rfl⟩
                exact hfin ((xm * 2 ^ kk : Nat) : Int) (by rw [eM])
              · have eE : flE rm re = (bl rm : Int) + re - 53 := by unfold flE flLow; rw [if_neg (by omega)]
                simp (disch := omega) only [go_sem, ↓reduceIte, Int.reduceToNat, Nat.reduceEqDiff, Nat.reduceAdd, Nat.reduceMul, Nat.reduceSub, Nat.reducePow, Nat.reduceLT, Nat.reduceLeDiff, Int.reduceNeg, Int.reduceEq, Int.reduceLT, Int.reduceLE, reduceCtorEq, h7]
                rw [eE] at ek hfin
                try rw [← et2] at hfin
                refine draw_of rfl [⟨0, [], []⟩, ⟨1, [], []⟩, ⟨2, [], []⟩, ⟨3, [2], []⟩, ⟨4, [2], []⟩, ⟨5, [2], []⟩, ⟨6, [2, 5], []⟩, ⟨7, [2, 5], []⟩, ⟨8, [2, 5, 7], []⟩, ⟨9, [2, 5], []⟩, ⟨12, [2, 5, 7], []⟩, ⟨14, [2, 5, 7], []⟩, ⟨10, [2], []⟩, ⟨11, [2], []⟩, ⟨13, [], []⟩, ⟨15, [], []⟩, ⟨16, [], []⟩] (by kernel_rfl) ?_
                simp (disch := omega) only [go_sem, ↓reduceIte, Int.reduceToNat, Nat.reduceEqDiff, Nat.reduceAdd, Nat.reduceMul, Nat.reduceSub, Nat.reducePow, Nat.reduceLT, Nat.reduceLeDiff, Int.reduceNeg, Int.reduceEq, Int.reduceLT, Int.reduceLE, reduceCtorEq]
                refine call_open (con_l2shlF xm kk (by omega) (by omega)) (by simp (disch := omega) only [go_sem, ↓reduceIte, Int.reduceToNat, Nat.reduceEqDiff, Nat.reduceAdd, Nat.reduceMul, Nat.reduceSub, Nat.reducePow, Nat.reduceLT, Nat.reduceLeDiff, Int.reduceNeg, Int.reduceEq, Int.reduceLT, Int.reduceLE, reduceCtorEq, ek, et2]) ?_
                rintro r hs ⟨rfl, rfl, _⟩
                refine ⟨by simp [freeN], ?_⟩
                simp (disch := omega) only [go_sem, ↓reduceIte, Int.reduceToNat, Nat.reduceEqDiff, Nat.reduceAdd, Nat.reduceMul, Nat.reduceSub, Nat.reducePow, Nat.reduceLT, Nat.reduceLeDiff, Int.reduceNeg, Int.reduceEq, Int.reduceLT, Int.reduceLE, reduceCtorEq]
                refine call_closed (con_l2int (xm * 2 ^ kk) (by rw [eM]; omega)) (by simp (disch := omega) only [go_sem, ↓reduceIte, Int.reduceToNat, Nat.reduceEqDiff, Nat.reduceAdd, Nat.reduceMul, Nat.reduceSub, Nat.reducePow, Nat.reduceLT, Nat.reduceLeDiff, Int.reduceNeg, Int.reduceEq, Int.reduceLT, Int.reduceLE, reduceCtorEq]) ?_
                rintro r hs ⟨rfl, rfl, _⟩
                refine ⟨by simp [freeN], ?_⟩
                simp (disch := omega) only [go_sem, ↓reduceIte, Int.reduceToNat, Nat.reduceEqDiff, Nat.reduceAdd, Nat.reduceMul, Nat.reduceSub, Nat.reducePow, Nat.reduceLT, Nat.reduceLeDiff, Int.reduceNeg, Int.reduceEq, Int.reduceLT, Int.reduceLE, reduceCtorEq]
                refine fin_valc (by simp (disch := omega) only [go_sem, ↓reduceIte, Int.reduceToNat, Nat.reduceEqDiff, Nat.reduceAdd, Nat.reduceMul, Nat.reduceSub, Nat.reducePow, Nat.reduceLT, Nat.reduceLeDiff, Int.reduceNeg, Int.reduceEq, Int.reduceLT, Int.reduceLE, reduceCtorEq]) (by simp (disch := omega) only [go_sem, ↓reduceIte, Int.reduceToNat, Nat.reduceEqDiff, Nat.reduceAdd, Nat.reduceMul, Nat.reduceSub, Nat.reducePow, Nat.reduceLT, Nat.reduceLeDiff, Int.reduceNeg, Int.reduceEq, Int.reduceLT, Int.reduceLE, reduceCtorEq]) ⟨?_, rfl, rfl⟩
                exact hfin ((xm * 2 ^ kk : Nat) : Int) (by rw [eM])
        · have hfl : flFlags (bl m + e) same = 1 := by unfold flFlags; rw [h3, if_neg (by simp), if_neg (by omega)]
          have e5 := (rfl : (0 : Nat) = 0)
          simp (disch := omega) only [go_sem, ↓reduceIte, Int.reduceToNat, Nat.reduceEqDiff, Nat.reduceAdd, Nat.reduceMul, Nat.reduceSub, Nat.reducePow, Nat.reduceLT, Nat.reduceLeDiff, Int.reduceNeg, Int.reduceEq, Int.reduceLT, Int.reduceLE, reduceCtorEq, h4]
          refine ifW_dec (fun h5 => ?_) (fun h5 => ?_)
          · have hr0 : rm = 0 := hxm0.1 h5
            simp (disch := omega) only [go_sem, ↓reduceIte, Int.reduceToNat, Nat.reduceEqDiff, Nat.reduceAdd, Nat.reduceMul, Nat.reduceSub, Nat.reducePow, Nat.reduceLT, Nat.reduceLeDiff, Int.reduceNeg, Int.reduceEq, Int.reduceLT, Int.reduceLE, reduceCtorEq, h5]
            refine fin_valc (by simp (disch := omega) only [go_sem, ↓reduceIte, Int.reduceToNat, Nat.reduceEqDiff, Nat.reduceAdd, Nat.reduceMul, Nat.reduceSub, Nat.reducePow, Nat.reduceLT, Nat.reduceLeDiff, Int.reduceNeg, Int.reduceEq, Int.reduceLT, Int.reduceLE, reduceCtorEq]) (by simp (disch := omega) only [go_sem, ↓reduceIte, Int.reduceToNat, Nat.reduceEqDiff, Nat.reduceAdd, Nat.reduceMul, Nat.reduceSub, Nat.reducePow, Nat.reduceLT, Nat.reduceLeDiff, Int.reduceNeg, Int.reduceEq, Int.reduceLT, Int.reduceLE, reduceCtorEq]) ⟨?_, rfl, rfl⟩
            refine hVG 0 0 0 1 (by simp [flK, hr0]) (by simp [flMm, hr0]) (by simp [flEe, hr0]) (by simp [flFl, hr0, hfl])
          · have hr0 : rm ≠ 0 := fun e => h5 (hxm0.2 e)
            have et2 := etop2 hr0
            have hxs : xs = s := q3 hr0
            have hff := hform hr0
            have hM := flM_lt hr0 hff
            simp (disch := omega) only [go_sem, ↓reduceIte, Int.reduceToNat, Nat.reduceEqDiff, Nat.reduceAdd, Nat.reduceMul, Nat.reduceSub, Nat.reducePow, Nat.reduceLT, Nat.reduceLeDiff, Int.reduceNeg, Int.reduceEq, Int.reduceLT, Int.reduceLE, reduceCtorEq, h5]
            refine call_closed (con_l4top xs xm xe (by omega) (by omega)) (by simp (disch := omega) only [go_sem, ↓reduceIte, Int.reduceToNat, Nat.reduceEqDiff, Nat.reduceAdd, Nat.reduceMul, Nat.reduceSub, Nat.reducePow, Nat.reduceLT, Nat.reduceLeDiff, Int.reduceNeg, Int.reduceEq, Int.reduceLT, Int.reduceLE, reduceCtorEq, et2]) ?_
            rintro r hs ⟨rfl, rfl, _⟩
            refine ⟨by simp [freeN], ?_⟩
            simp (disch := omega) only [go_sem, ↓reduceIte, Int.reduceToNat, Nat.reduceEqDiff, Nat.reduceAdd, Nat.reduceMul, Nat.reduceSub, Nat.reducePow, Nat.reduceLT, Nat.reduceLeDiff, Int.reduceNeg, Int.reduceEq, Int.reduceLT, Int.reduceLE, reduceCtorEq]
            simp (disch := omega) only [go_sem, ↓reduceIte, Int.reduceToNat, Nat.reduceEqDiff, Nat.reduceAdd, Nat.reduceMul, Nat.reduceSub, Nat.reducePow, Nat.reduceLT, Nat.reduceLeDiff, Int.reduceNeg, Int.reduceEq, Int.reduceLT, Int.reduceLE, reduceCtorEq, et2]
            refine ifW_dec (fun h6 => ?_) (fun h6 => ?_)
            · have hov : ∀ (k mm ee : Int), k = (if ovB s mode then 1 else 2) → mm = (if ovB s mode then 9007199254740991 else 0) → ee = (if ovB s mode then 971 else 0) → AV.tu [.ag [.v (.int .i64 k), .v (.bool s), .v (.int .i64 mm), .v (.int .i64 ee)], .v (.int .i64 3)] = .tu [.ag [.v (.int .i64 ((flV s m e mode z).k)), .v (.bool ((flV s m e mode z).s)), .v (.int .i64 ((flV s m e mode z).m)), .v (.int .i64 ((flV s m e mode z).e))], .v (.int .i64 (flG s m e mode))] := by
                rintro k mm ee rfl rfl rfl
                exact hVG _ _ _ 3 (by unfold flK; rw [if_neg hr0, if_pos h6]) (by unfold flMm; rw [if_neg hr0, if_pos h6]) (by unfold flEe; rw [if_neg hr0, if_pos h6]) (by unfold flFl; rw [if_pos ⟨hr0, h6⟩])
              clear hVG hform hrm hrx q3 hxs et2 hfl
              obtain rfl | rfl | rfl | rfl | rfl : mode = 0 ∨ mode = 1 ∨ mode = 2 ∨ mode = 3 ∨ mode = 4 := by omega
              · cases s
                · simp (disch := omega) only [go_sem, ↓reduceIte, Int.reduceToNat, Nat.reduceEqDiff, Nat.reduceAdd, Nat.reduceMul, Nat.reduceSub, Nat.reducePow, Nat.reduceLT, Nat.reduceLeDiff, Int.reduceNeg, Int.reduceEq, Int.reduceLT, Int.reduceLE, reduceCtorEq, h6]
                  refine fin_valc (by simp (disch := omega) only [go_sem, ↓reduceIte, Int.reduceToNat, Nat.reduceEqDiff, Nat.reduceAdd, Nat.reduceMul, Nat.reduceSub, Nat.reducePow, Nat.reduceLT, Nat.reduceLeDiff, Int.reduceNeg, Int.reduceEq, Int.reduceLT, Int.reduceLE, reduceCtorEq]) (by simp (disch := omega) only [go_sem, ↓reduceIte, Int.reduceToNat, Nat.reduceEqDiff, Nat.reduceAdd, Nat.reduceMul, Nat.reduceSub, Nat.reducePow, Nat.reduceLT, Nat.reduceLeDiff, Int.reduceNeg, Int.reduceEq, Int.reduceLT, Int.reduceLE, reduceCtorEq]) ⟨?_, rfl, rfl⟩
                  exact hov _ _ _ rfl rfl rfl
                · simp (disch := omega) only [go_sem, ↓reduceIte, Int.reduceToNat, Nat.reduceEqDiff, Nat.reduceAdd, Nat.reduceMul, Nat.reduceSub, Nat.reducePow, Nat.reduceLT, Nat.reduceLeDiff, Int.reduceNeg, Int.reduceEq, Int.reduceLT, Int.reduceLE, reduceCtorEq, h6]
                  refine fin_valc (by simp (disch := omega) only [go_sem, ↓reduceIte, Int.reduceToNat, Nat.reduceEqDiff, Nat.reduceAdd, Nat.reduceMul, Nat.reduceSub, Nat.reducePow, Nat.reduceLT, Nat.reduceLeDiff, Int.reduceNeg, Int.reduceEq, Int.reduceLT, Int.reduceLE, reduceCtorEq]) (by simp (disch := omega) only [go_sem, ↓reduceIte, Int.reduceToNat, Nat.reduceEqDiff, Nat.reduceAdd, Nat.reduceMul, Nat.reduceSub, Nat.reducePow, Nat.reduceLT, Nat.reduceLeDiff, Int.reduceNeg, Int.reduceEq, Int.reduceLT, Int.reduceLE, reduceCtorEq]) ⟨?_, rfl, rfl⟩
                  exact hov _ _ _ rfl rfl rfl
              · cases s
                · simp (disch := omega) only [go_sem, ↓reduceIte, Int.reduceToNat, Nat.reduceEqDiff, Nat.reduceAdd, Nat.reduceMul, Nat.reduceSub, Nat.reducePow, Nat.reduceLT, Nat.reduceLeDiff, Int.reduceNeg, Int.reduceEq, Int.reduceLT, Int.reduceLE, reduceCtorEq, h6]
                  refine call_closed (con_l5most false) (by simp (disch := omega) only [go_sem, ↓reduceIte, Int.reduceToNat, Nat.reduceEqDiff, Nat.reduceAdd, Nat.reduceMul, Nat.reduceSub, Nat.reducePow, Nat.reduceLT, Nat.reduceLeDiff, Int.reduceNeg, Int.reduceEq, Int.reduceLT, Int.reduceLE, reduceCtorEq]) ?_
                  rintro r hs ⟨rfl, rfl, _⟩
                  refine ⟨by simp [freeN], ?_⟩
                  simp (disch := omega) only [go_sem, ↓reduceIte, Int.reduceToNat, Nat.reduceEqDiff, Nat.reduceAdd, Nat.reduceMul, Nat.reduceSub, Nat.reducePow, Nat.reduceLT, Nat.reduceLeDiff, Int.reduceNeg, Int.reduceEq, Int.reduceLT, Int.reduceLE, reduceCtorEq]
                  refine fin_valc (by simp (disch := omega) only [go_sem, ↓reduceIte, Int.reduceToNat, Nat.reduceEqDiff, Nat.reduceAdd, Nat.reduceMul, Nat.reduceSub, Nat.reducePow, Nat.reduceLT, Nat.reduceLeDiff, Int.reduceNeg, Int.reduceEq, Int.reduceLT, Int.reduceLE, reduceCtorEq]) (by simp (disch := omega) only [go_sem, ↓reduceIte, Int.reduceToNat, Nat.reduceEqDiff, Nat.reduceAdd, Nat.reduceMul, Nat.reduceSub, Nat.reducePow, Nat.reduceLT, Nat.reduceLeDiff, Int.reduceNeg, Int.reduceEq, Int.reduceLT, Int.reduceLE, reduceCtorEq]) ⟨?_, rfl, rfl⟩
                  exact hov _ _ _ rfl rfl rfl
                · simp (disch := omega) only [go_sem, ↓reduceIte, Int.reduceToNat, Nat.reduceEqDiff, Nat.reduceAdd, Nat.reduceMul, Nat.reduceSub, Nat.reducePow, Nat.reduceLT, Nat.reduceLeDiff, Int.reduceNeg, Int.reduceEq, Int.reduceLT, Int.reduceLE, reduceCtorEq, h6]
                  refine call_closed (con_l5most true) (by simp (disch := omega) only [go_sem, ↓reduceIte, Int.reduceToNat, Nat.reduceEqDiff, Nat.reduceAdd, Nat.reduceMul, Nat.reduceSub, Nat.reducePow, Nat.reduceLT, Nat.reduceLeDiff, Int.reduceNeg, Int.reduceEq, Int.reduceLT, Int.reduceLE, reduceCtorEq]) ?_
                  rintro r hs ⟨rfl, rfl, _⟩
                  refine ⟨by simp [freeN], ?_⟩
                  simp (disch := omega) only [go_sem, ↓reduceIte, Int.reduceToNat, Nat.reduceEqDiff, Nat.reduceAdd, Nat.reduceMul, Nat.reduceSub, Nat.reducePow, Nat.reduceLT, Nat.reduceLeDiff, Int.reduceNeg, Int.reduceEq, Int.reduceLT, Int.reduceLE, reduceCtorEq]
                  refine fin_valc (by simp (disch := omega) only [go_sem, ↓reduceIte, Int.reduceToNat, Nat.reduceEqDiff, Nat.reduceAdd, Nat.reduceMul, Nat.reduceSub, Nat.reducePow, Nat.reduceLT, Nat.reduceLeDiff, Int.reduceNeg, Int.reduceEq, Int.reduceLT, Int.reduceLE, reduceCtorEq]) (by simp (disch := omega) only [go_sem, ↓reduceIte, Int.reduceToNat, Nat.reduceEqDiff, Nat.reduceAdd, Nat.reduceMul, Nat.reduceSub, Nat.reducePow, Nat.reduceLT, Nat.reduceLeDiff, Int.reduceNeg, Int.reduceEq, Int.reduceLT, Int.reduceLE, reduceCtorEq]) ⟨?_, rfl, rfl⟩
                  exact hov _ _ _ rfl rfl rfl
              · cases s
                · simp (disch := omega) only [go_sem, ↓reduceIte, Int.reduceToNat, Nat.reduceEqDiff, Nat.reduceAdd, Nat.reduceMul, Nat.reduceSub, Nat.reducePow, Nat.reduceLT, Nat.reduceLeDiff, Int.reduceNeg, Int.reduceEq, Int.reduceLT, Int.reduceLE, reduceCtorEq, h6]
                  refine fin_valc (by simp (disch := omega) only [go_sem, ↓reduceIte, Int.reduceToNat, Nat.reduceEqDiff, Nat.reduceAdd, Nat.reduceMul, Nat.reduceSub, Nat.reducePow, Nat.reduceLT, Nat.reduceLeDiff, Int.reduceNeg, Int.reduceEq, Int.reduceLT, Int.reduceLE, reduceCtorEq]) (by simp (disch := omega) only [go_sem, ↓reduceIte, Int.reduceToNat, Nat.reduceEqDiff, Nat.reduceAdd, Nat.reduceMul, Nat.reduceSub, Nat.reducePow, Nat.reduceLT, Nat.reduceLeDiff, Int.reduceNeg, Int.reduceEq, Int.reduceLT, Int.reduceLE, reduceCtorEq]) ⟨?_, rfl, rfl⟩
                  exact hov _ _ _ rfl rfl rfl
                · simp (disch := omega) only [go_sem, ↓reduceIte, Int.reduceToNat, Nat.reduceEqDiff, Nat.reduceAdd, Nat.reduceMul, Nat.reduceSub, Nat.reducePow, Nat.reduceLT, Nat.reduceLeDiff, Int.reduceNeg, Int.reduceEq, Int.reduceLT, Int.reduceLE, reduceCtorEq, h6]
                  refine call_closed (con_l5most true) (by simp (disch := omega) only [go_sem, ↓reduceIte, Int.reduceToNat, Nat.reduceEqDiff, Nat.reduceAdd, Nat.reduceMul, Nat.reduceSub, Nat.reducePow, Nat.reduceLT, Nat.reduceLeDiff, Int.reduceNeg, Int.reduceEq, Int.reduceLT, Int.reduceLE, reduceCtorEq]) ?_
                  rintro r hs ⟨rfl, rfl, _⟩
                  refine ⟨by simp [freeN], ?_⟩
                  simp (disch := omega) only [go_sem, ↓reduceIte, Int.reduceToNat, Nat.reduceEqDiff, Nat.reduceAdd, Nat.reduceMul, Nat.reduceSub, Nat.reducePow, Nat.reduceLT, Nat.reduceLeDiff, Int.reduceNeg, Int.reduceEq, Int.reduceLT, Int.reduceLE, reduceCtorEq]
                  refine fin_valc (by simp (disch := omega) only [go_sem, ↓reduceIte, Int.reduceToNat, Nat.reduceEqDiff, Nat.reduceAdd, Nat.reduceMul, Nat.reduceSub, Nat.reducePow, Nat.reduceLT, Nat.reduceLeDiff, Int.reduceNeg, Int.reduceEq, Int.reduceLT, Int.reduceLE, reduceCtorEq]) (by simp (disch := omega) only [go_sem, ↓reduceIte, Int.reduceToNat, Nat.reduceEqDiff, Nat.reduceAdd, Nat.reduceMul, Nat.reduceSub, Nat.reducePow, Nat.reduceLT, Nat.reduceLeDiff, Int.reduceNeg, Int.reduceEq, Int.reduceLT, Int.reduceLE, reduceCtorEq]) ⟨?_, rfl, rfl⟩
                  exact hov _ _ _ rfl rfl rfl
              · cases s
                · simp (disch := omega) only [go_sem, ↓reduceIte, Int.reduceToNat, Nat.reduceEqDiff, Nat.reduceAdd, Nat.reduceMul, Nat.reduceSub, Nat.reducePow, Nat.reduceLT, Nat.reduceLeDiff, Int.reduceNeg, Int.reduceEq, Int.reduceLT, Int.reduceLE, reduceCtorEq, h6]
                  refine call_closed (con_l5most false) (by simp (disch := omega) only [go_sem, ↓reduceIte, Int.reduceToNat, Nat.reduceEqDiff, Nat.reduceAdd, Nat.reduceMul, Nat.reduceSub, Nat.reducePow, Nat.reduceLT, Nat.reduceLeDiff, Int.reduceNeg, Int.reduceEq, Int.reduceLT, Int.reduceLE, reduceCtorEq]) ?_
                  rintro r hs ⟨rfl, rfl, _⟩
                  refine ⟨by simp [freeN], ?_⟩
                  simp (disch := omega) only [go_sem, ↓reduceIte, Int.reduceToNat, Nat.reduceEqDiff, Nat.reduceAdd, Nat.reduceMul, Nat.reduceSub, Nat.reducePow, Nat.reduceLT, Nat.reduceLeDiff, Int.reduceNeg, Int.reduceEq, Int.reduceLT, Int.reduceLE, reduceCtorEq]
                  refine fin_valc (by simp (disch := omega) only [go_sem, ↓reduceIte, Int.reduceToNat, Nat.reduceEqDiff, Nat.reduceAdd, Nat.reduceMul, Nat.reduceSub, Nat.reducePow, Nat.reduceLT, Nat.reduceLeDiff, Int.reduceNeg, Int.reduceEq, Int.reduceLT, Int.reduceLE, reduceCtorEq]) (by simp (disch := omega) only [go_sem, ↓reduceIte, Int.reduceToNat, Nat.reduceEqDiff, Nat.reduceAdd, Nat.reduceMul, Nat.reduceSub, Nat.reducePow, Nat.reduceLT, Nat.reduceLeDiff, Int.reduceNeg, Int.reduceEq, Int.reduceLT, Int.reduceLE, reduceCtorEq]) ⟨?_, rfl, rfl⟩
                  exact hov _ _ _ rfl rfl rfl
                · simp (disch := omega) only [go_sem, ↓reduceIte, Int.reduceToNat, Nat.reduceEqDiff, Nat.reduceAdd, Nat.reduceMul, Nat.reduceSub, Nat.reducePow, Nat.reduceLT, Nat.reduceLeDiff, Int.reduceNeg, Int.reduceEq, Int.reduceLT, Int.reduceLE, reduceCtorEq, h6]
                  refine fin_valc (by simp (disch := omega) only [go_sem, ↓reduceIte, Int.reduceToNat, Nat.reduceEqDiff, Nat.reduceAdd, Nat.reduceMul, Nat.reduceSub, Nat.reducePow, Nat.reduceLT, Nat.reduceLeDiff, Int.reduceNeg, Int.reduceEq, Int.reduceLT, Int.reduceLE, reduceCtorEq]) (by simp (disch := omega) only [go_sem, ↓reduceIte, Int.reduceToNat, Nat.reduceEqDiff, Nat.reduceAdd, Nat.reduceMul, Nat.reduceSub, Nat.reducePow, Nat.reduceLT, Nat.reduceLeDiff, Int.reduceNeg, Int.reduceEq, Int.reduceLT, Int.reduceLE, reduceCtorEq]) ⟨?_, rfl, rfl⟩
                  exact hov _ _ _ rfl rfl rfl
              · cases s
                · simp (disch := omega) only [go_sem, ↓reduceIte, Int.reduceToNat, Nat.reduceEqDiff, Nat.reduceAdd, Nat.reduceMul, Nat.reduceSub, Nat.reducePow, Nat.reduceLT, Nat.reduceLeDiff, Int.reduceNeg, Int.reduceEq, Int.reduceLT, Int.reduceLE, reduceCtorEq, h6]
                  refine fin_valc (by simp (disch := omega) only [go_sem, ↓reduceIte, Int.reduceToNat, Nat.reduceEqDiff, Nat.reduceAdd, Nat.reduceMul, Nat.reduceSub, Nat.reducePow, Nat.reduceLT, Nat.reduceLeDiff, Int.reduceNeg, Int.reduceEq, Int.reduceLT, Int.reduceLE, reduceCtorEq]) (by simp (disch := omega) only [go_sem, ↓reduceIte, Int.reduceToNat, Nat.reduceEqDiff, Nat.reduceAdd, Nat.reduceMul, Nat.reduceSub, Nat.reducePow, Nat.reduceLT, Nat.reduceLeDiff, Int.reduceNeg, Int.reduceEq, Int.reduceLT, Int.reduceLE, reduceCtorEq]) ⟨?_, rfl, rfl⟩
                  exact hov _ _ _ rfl rfl rfl
                · simp (disch := omega) only [go_sem, ↓reduceIte, Int.reduceToNat, Nat.reduceEqDiff, Nat.reduceAdd, Nat.reduceMul, Nat.reduceSub, Nat.reducePow, Nat.reduceLT, Nat.reduceLeDiff, Int.reduceNeg, Int.reduceEq, Int.reduceLT, Int.reduceLE, reduceCtorEq, h6]
                  refine fin_valc (by simp (disch := omega) only [go_sem, ↓reduceIte, Int.reduceToNat, Nat.reduceEqDiff, Nat.reduceAdd, Nat.reduceMul, Nat.reduceSub, Nat.reducePow, Nat.reduceLT, Nat.reduceLeDiff, Int.reduceNeg, Int.reduceEq, Int.reduceLT, Int.reduceLE, reduceCtorEq]) (by simp (disch := omega) only [go_sem, ↓reduceIte, Int.reduceToNat, Nat.reduceEqDiff, Nat.reduceAdd, Nat.reduceMul, Nat.reduceSub, Nat.reducePow, Nat.reduceLT, Nat.reduceLeDiff, Int.reduceNeg, Int.reduceEq, Int.reduceLT, Int.reduceLE, reduceCtorEq]) ⟨?_, rfl, rfl⟩
                  exact hov _ _ _ rfl rfl rfl
            · simp (disch := omega) only [go_sem, ↓reduceIte, Int.reduceToNat, Nat.reduceEqDiff, Nat.reduceAdd, Nat.reduceMul, Nat.reduceSub, Nat.reducePow, Nat.reduceLT, Nat.reduceLeDiff, Int.reduceNeg, Int.reduceEq, Int.reduceLT, Int.reduceLE, reduceCtorEq, h6]
              refine call_closed (con_l4top xs xm xe (by omega) (by omega)) (by simp (disch := omega) only [go_sem, ↓reduceIte, Int.reduceToNat, Nat.reduceEqDiff, Nat.reduceAdd, Nat.reduceMul, Nat.reduceSub, Nat.reducePow, Nat.reduceLT, Nat.reduceLeDiff, Int.reduceNeg, Int.reduceEq, Int.reduceLT, Int.reduceLE, reduceCtorEq, et2]) ?_
              rintro r hs ⟨rfl, rfl, _⟩
              refine ⟨by simp [freeN], ?_⟩
              simp (disch := omega) only [go_sem, ↓reduceIte, Int.reduceToNat, Nat.reduceEqDiff, Nat.reduceAdd, Nat.reduceMul, Nat.reduceSub, Nat.reducePow, Nat.reduceLT, Nat.reduceLeDiff, Int.reduceNeg, Int.reduceEq, Int.reduceLT, Int.reduceLE, reduceCtorEq]
              simp (disch := omega) only [go_sem, ↓reduceIte, Int.reduceToNat, Nat.reduceEqDiff, Nat.reduceAdd, Nat.reduceMul, Nat.reduceSub, Nat.reducePow, Nat.reduceLT, Nat.reduceLeDiff, Int.reduceNeg, Int.reduceEq, Int.reduceLT, Int.reduceLE, reduceCtorEq, et2]
              have hfin : ∀ mm : Int, mm = (flM rm re : Int) → AV.tu [.ag [.v (.int .i64 1), .v (.bool xs), .v (.int .i64 mm), .v (.int .i64 (flE rm re))], .v (.int .i64 1)] = .tu [.ag [.v (.int .i64 ((flV s m e mode z).k)), .v (.bool ((flV s m e mode z).s)), .v (.int .i64 ((flV s m e mode z).m)), .v (.int .i64 ((flV s m e mode z).e))], .v (.int .i64 (flG s m e mode))] := by
                rintro mm rfl
                rw [hxs]
                exact hVG 1 _ _ 1 (by unfold flK; rw [if_neg hr0, if_neg (by omega)]) (by unfold flMm; rw [if_neg hr0, if_neg (by omega)]) (by unfold flEe; rw [if_neg hr0, if_neg (by omega)]) (by unfold flFl; rw [if_neg (by omega), hfl])
              have ek : xe - flE rm re = (((oE rm re - flE rm re).toNat : Nat) : Int) := by omega
              have hk9 : (oE rm re - flE rm re).toNat ≤ 53 := by have h9 := hM; unfold flM at h9; rw [bl_mul_pow (fun e => hr0 (oM_eq_zero.1 e))] at h9; omega
              have hM6 : flM rm re < 2 ^ 53 := Nat.lt_of_lt_of_le (bl_lt _) (Nat.pow_le_pow_right (by omega) hM)
              have eM : xm * 2 ^ (oE rm re - flE rm re).toNat = flM rm re := by rw [q1]; rfl
              generalize hkk : (oE rm re - flE rm re).toNat = kk at *
              refine ifW_dec (fun h7 => ?_) (fun h7 => ?_)
              · have eE : flE rm re = -1074 := by unfold flE flLow; rw [if_pos (by omega)]
                simp (disch := omega) only [go_sem, ↓reduceIte, Int.reduceToNat, Nat.reduceEqDiff, Nat.reduceAdd, Nat.reduceMul, Nat.reduceSub, Nat.reducePow, Nat.reduceLT, Nat.reduceLeDiff, Int.reduceNeg, Int.reduceEq, Int.reduceLT, Int.reduceLE, reduceCtorEq, h7]
                rw [eE] at ek hfin
                try rw [← et2] at hfin
                refine draw_of rfl [⟨0, [], []⟩, ⟨1, [], []⟩, ⟨2, [], []⟩, ⟨3, [2], []⟩, ⟨4, [2], []⟩, ⟨5, [2], []⟩, ⟨6, [2, 5], []⟩, ⟨7, [2, 5], []⟩, ⟨8, [2, 5, 7], []⟩, ⟨9, [2, 5], []⟩, ⟨12, [2, 5, 7], []⟩, ⟨14, [2, 5, 7], []⟩, ⟨10, [2], []⟩, ⟨11, [2], []⟩, ⟨13, [], []⟩, ⟨15, [], []⟩, ⟨16, [], []⟩] (by kernel_rfl) ?_
                simp (disch := omega) only [go_sem, ↓reduceIte, Int.reduceToNat, Nat.reduceEqDiff, Nat.reduceAdd, Nat.reduceMul, Nat.reduceSub, Nat.reducePow, Nat.reduceLT, Nat.reduceLeDiff, Int.reduceNeg, Int.reduceEq, Int.reduceLT, Int.reduceLE, reduceCtorEq]
                refine call_open (con_l2shlF xm kk (by omega) (by omega)) (by simp (disch := omega) only [go_sem, ↓reduceIte, Int.reduceToNat, Nat.reduceEqDiff, Nat.reduceAdd, Nat.reduceMul, Nat.reduceSub, Nat.reducePow, Nat.reduceLT, Nat.reduceLeDiff, Int.reduceNeg, Int.reduceEq, Int.reduceLT, Int.reduceLE, reduceCtorEq, ek, et2]) ?_
                rintro r hs ⟨rfl, rfl, _⟩
                refine ⟨by simp [freeN], ?_⟩
                simp (disch := omega) only [go_sem, ↓reduceIte, Int.reduceToNat, Nat.reduceEqDiff, Nat.reduceAdd, Nat.reduceMul, Nat.reduceSub, Nat.reducePow, Nat.reduceLT, Nat.reduceLeDiff, Int.reduceNeg, Int.reduceEq, Int.reduceLT, Int.reduceLE, reduceCtorEq]
                refine call_closed (con_l2int (xm * 2 ^ kk) (by rw [eM]; omega)) (by simp (disch := omega) only [go_sem, ↓reduceIte, Int.reduceToNat, Nat.reduceEqDiff, Nat.reduceAdd, Nat.reduceMul, Nat.reduceSub, Nat.reducePow, Nat.reduceLT, Nat.reduceLeDiff, Int.reduceNeg, Int.reduceEq, Int.reduceLT, Int.reduceLE, reduceCtorEq]) ?_
                rintro r hs ⟨rfl, rfl, _⟩
                refine ⟨by simp [freeN], ?_⟩
                simp (disch := omega) only [go_sem, ↓reduceIte, Int.reduceToNat, Nat.reduceEqDiff, Nat.reduceAdd, Nat.reduceMul, Nat.reduceSub, Nat.reducePow, Nat.reduceLT, Nat.reduceLeDiff, Int.reduceNeg, Int.reduceEq, Int.reduceLT, Int.reduceLE, reduceCtorEq]
                refine fin_valc (by simp (disch := omega) only [go_sem, ↓reduceIte, Int.reduceToNat, Nat.reduceEqDiff, Nat.reduceAdd, Nat.reduceMul, Nat.reduceSub, Nat.reducePow, Nat.reduceLT, Nat.reduceLeDiff, Int.reduceNeg, Int.reduceEq, Int.reduceLT, Int.reduceLE, reduceCtorEq]) (by simp (disch := omega) only [go_sem, ↓reduceIte, Int.reduceToNat, Nat.reduceEqDiff, Nat.reduceAdd, Nat.reduceMul, Nat.reduceSub, Nat.reducePow, Nat.reduceLT, Nat.reduceLeDiff, Int.reduceNeg, Int.reduceEq, Int.reduceLT, Int.reduceLE, reduceCtorEq]) ⟨?_, rfl, rfl⟩
                exact hfin ((xm * 2 ^ kk : Nat) : Int) (by rw [eM])
              · have eE : flE rm re = (bl rm : Int) + re - 53 := by unfold flE flLow; rw [if_neg (by omega)]
                simp (disch := omega) only [go_sem, ↓reduceIte, Int.reduceToNat, Nat.reduceEqDiff, Nat.reduceAdd, Nat.reduceMul, Nat.reduceSub, Nat.reducePow, Nat.reduceLT, Nat.reduceLeDiff, Int.reduceNeg, Int.reduceEq, Int.reduceLT, Int.reduceLE, reduceCtorEq, h7]
                rw [eE] at ek hfin
                try rw [← et2] at hfin
                refine draw_of rfl [⟨0, [], []⟩, ⟨1, [], []⟩, ⟨2, [], []⟩, ⟨3, [2], []⟩, ⟨4, [2], []⟩, ⟨5, [2], []⟩, ⟨6, [2, 5], []⟩, ⟨7, [2, 5], []⟩, ⟨8, [2, 5, 7], []⟩, ⟨9, [2, 5], []⟩, ⟨12, [2, 5, 7], []⟩, ⟨14, [2, 5, 7], []⟩, ⟨10, [2], []⟩, ⟨11, [2], []⟩, ⟨13, [], []⟩, ⟨15, [], []⟩, ⟨16, [], []⟩] (by kernel_rfl) ?_
                simp (disch := omega) only [go_sem, ↓reduceIte, Int.reduceToNat, Nat.reduceEqDiff, Nat.reduceAdd, Nat.reduceMul, Nat.reduceSub, Nat.reducePow, Nat.reduceLT, Nat.reduceLeDiff, Int.reduceNeg, Int.reduceEq, Int.reduceLT, Int.reduceLE, reduceCtorEq]
                refine call_open (con_l2shlF xm kk (by omega) (by omega)) (by simp (disch := omega) only [go_sem, ↓reduceIte, Int.reduceToNat, Nat.reduceEqDiff, Nat.reduceAdd, Nat.reduceMul, Nat.reduceSub, Nat.reducePow, Nat.reduceLT, Nat.reduceLeDiff, Int.reduceNeg, Int.reduceEq, Int.reduceLT, Int.reduceLE, reduceCtorEq, ek, et2]) ?_
                rintro r hs ⟨rfl, rfl, _⟩
                refine ⟨by simp [freeN], ?_⟩
                simp (disch := omega) only [go_sem, ↓reduceIte, Int.reduceToNat, Nat.reduceEqDiff, Nat.reduceAdd, Nat.reduceMul, Nat.reduceSub, Nat.reducePow, Nat.reduceLT, Nat.reduceLeDiff, Int.reduceNeg, Int.reduceEq, Int.reduceLT, Int.reduceLE, reduceCtorEq]
                refine call_closed (con_l2int (xm * 2 ^ kk) (by rw [eM]; omega)) (by simp (disch := omega) only [go_sem, ↓reduceIte, Int.reduceToNat, Nat.reduceEqDiff, Nat.reduceAdd, Nat.reduceMul, Nat.reduceSub, Nat.reducePow, Nat.reduceLT, Nat.reduceLeDiff, Int.reduceNeg, Int.reduceEq, Int.reduceLT, Int.reduceLE, reduceCtorEq]) ?_
                rintro r hs ⟨rfl, rfl, _⟩
                refine ⟨by simp [freeN], ?_⟩
                simp (disch := omega) only [go_sem, ↓reduceIte, Int.reduceToNat, Nat.reduceEqDiff, Nat.reduceAdd, Nat.reduceMul, Nat.reduceSub, Nat.reducePow, Nat.reduceLT, Nat.reduceLeDiff, Int.reduceNeg, Int.reduceEq, Int.reduceLT, Int.reduceLE, reduceCtorEq]
                refine fin_valc (by simp (disch := omega) only [go_sem, ↓reduceIte, Int.reduceToNat, Nat.reduceEqDiff, Nat.reduceAdd, Nat.reduceMul, Nat.reduceSub, Nat.reducePow, Nat.reduceLT, Nat.reduceLeDiff, Int.reduceNeg, Int.reduceEq, Int.reduceLT, Int.reduceLE, reduceCtorEq]) (by simp (disch := omega) only [go_sem, ↓reduceIte, Int.reduceToNat, Nat.reduceEqDiff, Nat.reduceAdd, Nat.reduceMul, Nat.reduceSub, Nat.reducePow, Nat.reduceLT, Nat.reduceLeDiff, Int.reduceNeg, Int.reduceEq, Int.reduceLT, Int.reduceLE, reduceCtorEq]) ⟨?_, rfl, rfl⟩
                exact hfin ((xm * 2 ^ kk : Nat) : Int) (by rw [eM])
      · have hfl : flFlags (bl m + e) same = 0 := by unfold flFlags; rw [h3, if_pos rfl]
        have e5 := (rfl : (0 : Nat) = 0)
        simp (disch := omega) only [go_sem, ↓reduceIte, Int.reduceToNat, Nat.reduceEqDiff, Nat.reduceAdd, Nat.reduceMul, Nat.reduceSub, Nat.reducePow, Nat.reduceLT, Nat.reduceLeDiff, Int.reduceNeg, Int.reduceEq, Int.reduceLT, Int.reduceLE, reduceCtorEq, h3]
        refine ifW_dec (fun h5 => ?_) (fun h5 => ?_)
        · have hr0 : rm = 0 := hxm0.1 h5
          simp (disch := omega) only [go_sem, ↓reduceIte, Int.reduceToNat, Nat.reduceEqDiff, Nat.reduceAdd, Nat.reduceMul, Nat.reduceSub, Nat.reducePow, Nat.reduceLT, Nat.reduceLeDiff, Int.reduceNeg, Int.reduceEq, Int.reduceLT, Int.reduceLE, reduceCtorEq, h5]
          refine fin_valc (by simp (disch := omega) only [go_sem, ↓reduceIte, Int.reduceToNat, Nat.reduceEqDiff, Nat.reduceAdd, Nat.reduceMul, Nat.reduceSub, Nat.reducePow, Nat.reduceLT, Nat.reduceLeDiff, Int.reduceNeg, Int.reduceEq, Int.reduceLT, Int.reduceLE, reduceCtorEq]) (by simp (disch := omega) only [go_sem, ↓reduceIte, Int.reduceToNat, Nat.reduceEqDiff, Nat.reduceAdd, Nat.reduceMul, Nat.reduceSub, Nat.reducePow, Nat.reduceLT, Nat.reduceLeDiff, Int.reduceNeg, Int.reduceEq, Int.reduceLT, Int.reduceLE, reduceCtorEq]) ⟨?_, rfl, rfl⟩
          refine hVG 0 0 0 0 (by simp [flK, hr0]) (by simp [flMm, hr0]) (by simp [flEe, hr0]) (by simp [flFl, hr0, hfl])
        · have hr0 : rm ≠ 0 := fun e => h5 (hxm0.2 e)
          have et2 := etop2 hr0
          have hxs : xs = s := q3 hr0
          have hff := hform hr0
          have hM := flM_lt hr0 hff
          simp (disch := omega) only [go_sem, ↓reduceIte, Int.reduceToNat, Nat.reduceEqDiff, Nat.reduceAdd, Nat.reduceMul, Nat.reduceSub, Nat.reducePow, Nat.reduceLT, Nat.reduceLeDiff, Int.reduceNeg, Int.reduceEq, Int.reduceLT, Int.reduceLE, reduceCtorEq, h5]
          refine call_closed (con_l4top xs xm xe (by omega) (by omega)) (by simp (disch := omega) only [go_sem, ↓reduceIte, Int.reduceToNat, Nat.reduceEqDiff, Nat.reduceAdd, Nat.reduceMul, Nat.reduceSub, Nat.reducePow, Nat.reduceLT, Nat.reduceLeDiff, Int.reduceNeg, Int.reduceEq, Int.reduceLT, Int.reduceLE, reduceCtorEq, et2]) ?_
          rintro r hs ⟨rfl, rfl, _⟩
          refine ⟨by simp [freeN], ?_⟩
          simp (disch := omega) only [go_sem, ↓reduceIte, Int.reduceToNat, Nat.reduceEqDiff, Nat.reduceAdd, Nat.reduceMul, Nat.reduceSub, Nat.reducePow, Nat.reduceLT, Nat.reduceLeDiff, Int.reduceNeg, Int.reduceEq, Int.reduceLT, Int.reduceLE, reduceCtorEq]
          simp (disch := omega) only [go_sem, ↓reduceIte, Int.reduceToNat, Nat.reduceEqDiff, Nat.reduceAdd, Nat.reduceMul, Nat.reduceSub, Nat.reducePow, Nat.reduceLT, Nat.reduceLeDiff, Int.reduceNeg, Int.reduceEq, Int.reduceLT, Int.reduceLE, reduceCtorEq, et2]
          refine ifW_dec (fun h6 => ?_) (fun h6 => ?_)
          · have hov : ∀ (k mm ee : Int), k = (if ovB s mode then 1 else 2) → mm = (if ovB s mode then 9007199254740991 else 0) → ee = (if ovB s mode then 971 else 0) → AV.tu [.ag [.v (.int .i64 k), .v (.bool s), .v (.int .i64 mm), .v (.int .i64 ee)], .v (.int .i64 3)] = .tu [.ag [.v (.int .i64 ((flV s m e mode z).k)), .v (.bool ((flV s m e mode z).s)), .v (.int .i64 ((flV s m e mode z).m)), .v (.int .i64 ((flV s m e mode z).e))], .v (.int .i64 (flG s m e mode))] := by
              rintro k mm ee rfl rfl rfl
              exact hVG _ _ _ 3 (by unfold flK; rw [if_neg hr0, if_pos h6]) (by unfold flMm; rw [if_neg hr0, if_pos h6]) (by unfold flEe; rw [if_neg hr0, if_pos h6]) (by unfold flFl; rw [if_pos ⟨hr0, h6⟩])
            clear hVG hform hrm hrx q3 hxs et2 hfl
            obtain rfl | rfl | rfl | rfl | rfl : mode = 0 ∨ mode = 1 ∨ mode = 2 ∨ mode = 3 ∨ mode = 4 := by omega
            · cases s
              · simp (disch := omega) only [go_sem, ↓reduceIte, Int.reduceToNat, Nat.reduceEqDiff, Nat.reduceAdd, Nat.reduceMul, Nat.reduceSub, Nat.reducePow, Nat.reduceLT, Nat.reduceLeDiff, Int.reduceNeg, Int.reduceEq, Int.reduceLT, Int.reduceLE, reduceCtorEq, h6]
                refine fin_valc (by simp (disch := omega) only [go_sem, ↓reduceIte, Int.reduceToNat, Nat.reduceEqDiff, Nat.reduceAdd, Nat.reduceMul, Nat.reduceSub, Nat.reducePow, Nat.reduceLT, Nat.reduceLeDiff, Int.reduceNeg, Int.reduceEq, Int.reduceLT, Int.reduceLE, reduceCtorEq]) (by simp (disch := omega) only [go_sem, ↓reduceIte, Int.reduceToNat, Nat.reduceEqDiff, Nat.reduceAdd, Nat.reduceMul, Nat.reduceSub, Nat.reducePow, Nat.reduceLT, Nat.reduceLeDiff, Int.reduceNeg, Int.reduceEq, Int.reduceLT, Int.reduceLE, reduceCtorEq]) ⟨?_, rfl, rfl⟩
                exact hov _ _ _ rfl rfl rfl
              · simp (disch := omega) only [go_sem, ↓reduceIte, Int.reduceToNat, Nat.reduceEqDiff, Nat.reduceAdd, Nat.reduceMul, Nat.reduceSub, Nat.reducePow, Nat.reduceLT, Nat.reduceLeDiff, Int.reduceNeg, Int.reduceEq, Int.reduceLT, Int.reduceLE, reduceCtorEq, h6]
                refine fin_valc (by simp (disch := omega) only [go_sem, ↓reduceIte, Int.reduceToNat, Nat.reduceEqDiff, Nat.reduceAdd, Nat.reduceMul, Nat.reduceSub, Nat.reducePow, Nat.reduceLT, Nat.reduceLeDiff, Int.reduceNeg, Int.reduceEq, Int.reduceLT, Int.reduceLE, reduceCtorEq]) (by simp (disch := omega) only [go_sem, ↓reduceIte, Int.reduceToNat, Nat.reduceEqDiff, Nat.reduceAdd, Nat.reduceMul, Nat.reduceSub, Nat.reducePow, Nat.reduceLT, Nat.reduceLeDiff, Int.reduceNeg, Int.reduceEq, Int.reduceLT, Int.reduceLE, reduceCtorEq]) ⟨?_, rfl, rfl⟩
                exact hov _ _ _ rfl rfl rfl
            · cases s
              · simp (disch := omega) only [go_sem, ↓reduceIte, Int.reduceToNat, Nat.reduceEqDiff, Nat.reduceAdd, Nat.reduceMul, Nat.reduceSub, Nat.reducePow, Nat.reduceLT, Nat.reduceLeDiff, Int.reduceNeg, Int.reduceEq, Int.reduceLT, Int.reduceLE, reduceCtorEq, h6]
                refine call_closed (con_l5most false) (by simp (disch := omega) only [go_sem, ↓reduceIte, Int.reduceToNat, Nat.reduceEqDiff, Nat.reduceAdd, Nat.reduceMul, Nat.reduceSub, Nat.reducePow, Nat.reduceLT, Nat.reduceLeDiff, Int.reduceNeg, Int.reduceEq, Int.reduceLT, Int.reduceLE, reduceCtorEq]) ?_
                rintro r hs ⟨rfl, rfl, _⟩
                refine ⟨by simp [freeN], ?_⟩
                simp (disch := omega) only [go_sem, ↓reduceIte, Int.reduceToNat, Nat.reduceEqDiff, Nat.reduceAdd, Nat.reduceMul, Nat.reduceSub, Nat.reducePow, Nat.reduceLT, Nat.reduceLeDiff, Int.reduceNeg, Int.reduceEq, Int.reduceLT, Int.reduceLE, reduceCtorEq]
                refine fin_valc (by simp (disch := omega) only [go_sem, ↓reduceIte, Int.reduceToNat, Nat.reduceEqDiff, Nat.reduceAdd, Nat.reduceMul, Nat.reduceSub, Nat.reducePow, Nat.reduceLT, Nat.reduceLeDiff, Int.reduceNeg, Int.reduceEq, Int.reduceLT, Int.reduceLE, reduceCtorEq]) (by simp (disch := omega) only [go_sem, ↓reduceIte, Int.reduceToNat, Nat.reduceEqDiff, Nat.reduceAdd, Nat.reduceMul, Nat.reduceSub, Nat.reducePow, Nat.reduceLT, Nat.reduceLeDiff, Int.reduceNeg, Int.reduceEq, Int.reduceLT, Int.reduceLE, reduceCtorEq]) ⟨?_, rfl, rfl⟩
                exact hov _ _ _ rfl rfl rfl
              · simp (disch := omega) only [go_sem, ↓reduceIte, Int.reduceToNat, Nat.reduceEqDiff, Nat.reduceAdd, Nat.reduceMul, Nat.reduceSub, Nat.reducePow, Nat.reduceLT, Nat.reduceLeDiff, Int.reduceNeg, Int.reduceEq, Int.reduceLT, Int.reduceLE, reduceCtorEq, h6]
                refine call_closed (con_l5most true) (by simp (disch := omega) only [go_sem, ↓reduceIte, Int.reduceToNat, Nat.reduceEqDiff, Nat.reduceAdd, Nat.reduceMul, Nat.reduceSub, Nat.reducePow, Nat.reduceLT, Nat.reduceLeDiff, Int.reduceNeg, Int.reduceEq, Int.reduceLT, Int.reduceLE, reduceCtorEq]) ?_
                rintro r hs ⟨rfl, rfl, _⟩
                refine ⟨by simp [freeN], ?_⟩
                simp (disch := omega) only [go_sem, ↓reduceIte, Int.reduceToNat, Nat.reduceEqDiff, Nat.reduceAdd, Nat.reduceMul, Nat.reduceSub, Nat.reducePow, Nat.reduceLT, Nat.reduceLeDiff, Int.reduceNeg, Int.reduceEq, Int.reduceLT, Int.reduceLE, reduceCtorEq]
                refine fin_valc (by simp (disch := omega) only [go_sem, ↓reduceIte, Int.reduceToNat, Nat.reduceEqDiff, Nat.reduceAdd, Nat.reduceMul, Nat.reduceSub, Nat.reducePow, Nat.reduceLT, Nat.reduceLeDiff, Int.reduceNeg, Int.reduceEq, Int.reduceLT, Int.reduceLE, reduceCtorEq]) (by simp (disch := omega) only [go_sem, ↓reduceIte, Int.reduceToNat, Nat.reduceEqDiff, Nat.reduceAdd, Nat.reduceMul, Nat.reduceSub, Nat.reducePow, Nat.reduceLT, Nat.reduceLeDiff, Int.reduceNeg, Int.reduceEq, Int.reduceLT, Int.reduceLE, reduceCtorEq]) ⟨?_, rfl, rfl⟩
                exact hov _ _ _ rfl rfl rfl
            · cases s
              · simp (disch := omega) only [go_sem, ↓reduceIte, Int.reduceToNat, Nat.reduceEqDiff, Nat.reduceAdd, Nat.reduceMul, Nat.reduceSub, Nat.reducePow, Nat.reduceLT, Nat.reduceLeDiff, Int.reduceNeg, Int.reduceEq, Int.reduceLT, Int.reduceLE, reduceCtorEq, h6]
                refine fin_valc (by simp (disch := omega) only [go_sem, ↓reduceIte, Int.reduceToNat, Nat.reduceEqDiff, Nat.reduceAdd, Nat.reduceMul, Nat.reduceSub, Nat.reducePow, Nat.reduceLT, Nat.reduceLeDiff, Int.reduceNeg, Int.reduceEq, Int.reduceLT, Int.reduceLE, reduceCtorEq]) (by simp (disch := omega) only [go_sem, ↓reduceIte, Int.reduceToNat, Nat.reduceEqDiff, Nat.reduceAdd, Nat.reduceMul, Nat.reduceSub, Nat.reducePow, Nat.reduceLT, Nat.reduceLeDiff, Int.reduceNeg, Int.reduceEq, Int.reduceLT, Int.reduceLE, reduceCtorEq]) ⟨?_, rfl, rfl⟩
                exact hov _ _ _ rfl rfl rfl
              · simp (disch := omega) only [go_sem, ↓reduceIte, Int.reduceToNat, Nat.reduceEqDiff, Nat.reduceAdd, Nat.reduceMul, Nat.reduceSub, Nat.reducePow, Nat.reduceLT, Nat.reduceLeDiff, Int.reduceNeg, Int.reduceEq, Int.reduceLT, Int.reduceLE, reduceCtorEq, h6]
                refine call_closed (con_l5most true) (by simp (disch := omega) only [go_sem, ↓reduceIte, Int.reduceToNat, Nat.reduceEqDiff, Nat.reduceAdd, Nat.reduceMul, Nat.reduceSub, Nat.reducePow, Nat.reduceLT, Nat.reduceLeDiff, Int.reduceNeg, Int.reduceEq, Int.reduceLT, Int.reduceLE, reduceCtorEq]) ?_
                rintro r hs ⟨rfl, rfl, _⟩
                refine ⟨by simp [freeN], ?_⟩
                simp (disch := omega) only [go_sem, ↓reduceIte, Int.reduceToNat, Nat.reduceEqDiff, Nat.reduceAdd, Nat.reduceMul, Nat.reduceSub, Nat.reducePow, Nat.reduceLT, Nat.reduceLeDiff, Int.reduceNeg, Int.reduceEq, Int.reduceLT, Int.reduceLE, reduceCtorEq]
                refine fin_valc (by simp (disch := omega) only [go_sem, ↓reduceIte, Int.reduceToNat, Nat.reduceEqDiff, Nat.reduceAdd, Nat.reduceMul, Nat.reduceSub, Nat.reducePow, Nat.reduceLT, Nat.reduceLeDiff, Int.reduceNeg, Int.reduceEq, Int.reduceLT, Int.reduceLE, reduceCtorEq]) (by simp (disch := omega) only [go_sem, ↓reduceIte, Int.reduceToNat, Nat.reduceEqDiff, Nat.reduceAdd, Nat.reduceMul, Nat.reduceSub, Nat.reducePow, Nat.reduceLT, Nat.reduceLeDiff, Int.reduceNeg, Int.reduceEq, Int.reduceLT, Int.reduceLE, reduceCtorEq]) ⟨?_, rfl, rfl⟩
                exact hov _ _ _ rfl rfl rfl
            · cases s
              · simp (disch := omega) only [go_sem, ↓reduceIte, Int.reduceToNat, Nat.reduceEqDiff, Nat.reduceAdd, Nat.reduceMul, Nat.reduceSub, Nat.reducePow, Nat.reduceLT, Nat.reduceLeDiff, Int.reduceNeg, Int.reduceEq, Int.reduceLT, Int.reduceLE, reduceCtorEq, h6]
                refine call_closed (con_l5most false) (by simp (disch := omega) only [go_sem, ↓reduceIte, Int.reduceToNat, Nat.reduceEqDiff, Nat.reduceAdd, Nat.reduceMul, Nat.reduceSub, Nat.reducePow, Nat.reduceLT, Nat.reduceLeDiff, Int.reduceNeg, Int.reduceEq, Int.reduceLT, Int.reduceLE, reduceCtorEq]) ?_
                rintro r hs ⟨rfl, rfl, _⟩
                refine ⟨by simp [freeN], ?_⟩
                simp (disch := omega) only [go_sem, ↓reduceIte, Int.reduceToNat, Nat.reduceEqDiff, Nat.reduceAdd, Nat.reduceMul, Nat.reduceSub, Nat.reducePow, Nat.reduceLT, Nat.reduceLeDiff, Int.reduceNeg, Int.reduceEq, Int.reduceLT, Int.reduceLE, reduceCtorEq]
                refine fin_valc (by simp (disch := omega) only [go_sem, ↓reduceIte, Int.reduceToNat, Nat.reduceEqDiff, Nat.reduceAdd, Nat.reduceMul, Nat.reduceSub, Nat.reducePow, Nat.reduceLT, Nat.reduceLeDiff, Int.reduceNeg, Int.reduceEq, Int.reduceLT, Int.reduceLE, reduceCtorEq]) (by simp (disch := omega) only [go_sem, ↓reduceIte, Int.reduceToNat, Nat.reduceEqDiff, Nat.reduceAdd, Nat.reduceMul, Nat.reduceSub, Nat.reducePow, Nat.reduceLT, Nat.reduceLeDiff, Int.reduceNeg, Int.reduceEq, Int.reduceLT, Int.reduceLE, reduceCtorEq]) ⟨?_, rfl, rfl⟩
                exact hov _ _ _ rfl rfl rfl
              · simp (disch := omega) only [go_sem, ↓reduceIte, Int.reduceToNat, Nat.reduceEqDiff, Nat.reduceAdd, Nat.reduceMul, Nat.reduceSub, Nat.reducePow, Nat.reduceLT, Nat.reduceLeDiff, Int.reduceNeg, Int.reduceEq, Int.reduceLT, Int.reduceLE, reduceCtorEq, h6]
                refine fin_valc (by simp (disch := omega) only [go_sem, ↓reduceIte, Int.reduceToNat, Nat.reduceEqDiff, Nat.reduceAdd, Nat.reduceMul, Nat.reduceSub, Nat.reducePow, Nat.reduceLT, Nat.reduceLeDiff, Int.reduceNeg, Int.reduceEq, Int.reduceLT, Int.reduceLE, reduceCtorEq]) (by simp (disch := omega) only [go_sem, ↓reduceIte, Int.reduceToNat, Nat.reduceEqDiff, Nat.reduceAdd, Nat.reduceMul, Nat.reduceSub, Nat.reducePow, Nat.reduceLT, Nat.reduceLeDiff, Int.reduceNeg, Int.reduceEq, Int.reduceLT, Int.reduceLE, reduceCtorEq]) ⟨?_, rfl, rfl⟩
                exact hov _ _ _ rfl rfl rfl
            · cases s
              · simp (disch := omega) only [go_sem, ↓reduceIte, Int.reduceToNat, Nat.reduceEqDiff, Nat.reduceAdd, Nat.reduceMul, Nat.reduceSub, Nat.reducePow, Nat.reduceLT, Nat.reduceLeDiff, Int.reduceNeg, Int.reduceEq, Int.reduceLT, Int.reduceLE, reduceCtorEq, h6]
                refine fin_valc (by simp (disch := omega) only [go_sem, ↓reduceIte, Int.reduceToNat, Nat.reduceEqDiff, Nat.reduceAdd, Nat.reduceMul, Nat.reduceSub, Nat.reducePow, Nat.reduceLT, Nat.reduceLeDiff, Int.reduceNeg, Int.reduceEq, Int.reduceLT, Int.reduceLE, reduceCtorEq]) (by simp (disch := omega) only [go_sem, ↓reduceIte, Int.reduceToNat, Nat.reduceEqDiff, Nat.reduceAdd, Nat.reduceMul, Nat.reduceSub, Nat.reducePow, Nat.reduceLT, Nat.reduceLeDiff, Int.reduceNeg, Int.reduceEq, Int.reduceLT, Int.reduceLE, reduceCtorEq]) ⟨?_, rfl, rfl⟩
                exact hov _ _ _ rfl rfl rfl
              · simp (disch := omega) only [go_sem, ↓reduceIte, Int.reduceToNat, Nat.reduceEqDiff, Nat.reduceAdd, Nat.reduceMul, Nat.reduceSub, Nat.reducePow, Nat.reduceLT, Nat.reduceLeDiff, Int.reduceNeg, Int.reduceEq, Int.reduceLT, Int.reduceLE, reduceCtorEq, h6]
                refine fin_valc (by simp (disch := omega) only [go_sem, ↓reduceIte, Int.reduceToNat, Nat.reduceEqDiff, Nat.reduceAdd, Nat.reduceMul, Nat.reduceSub, Nat.reducePow, Nat.reduceLT, Nat.reduceLeDiff, Int.reduceNeg, Int.reduceEq, Int.reduceLT, Int.reduceLE, reduceCtorEq]) (by simp (disch := omega) only [go_sem, ↓reduceIte, Int.reduceToNat, Nat.reduceEqDiff, Nat.reduceAdd, Nat.reduceMul, Nat.reduceSub, Nat.reducePow, Nat.reduceLT, Nat.reduceLeDiff, Int.reduceNeg, Int.reduceEq, Int.reduceLT, Int.reduceLE, reduceCtorEq]) ⟨?_, rfl, rfl⟩
                exact hov _ _ _ rfl rfl rfl
          · simp (disch := omega) only [go_sem, ↓reduceIte, Int.reduceToNat, Nat.reduceEqDiff, Nat.reduceAdd, Nat.reduceMul, Nat.reduceSub, Nat.reducePow, Nat.reduceLT, Nat.reduceLeDiff, Int.reduceNeg, Int.reduceEq, Int.reduceLT, Int.reduceLE, reduceCtorEq, h6]
            refine call_closed (con_l4top xs xm xe (by omega) (by omega)) (by simp (disch := omega) only [go_sem, ↓reduceIte, Int.reduceToNat, Nat.reduceEqDiff, Nat.reduceAdd, Nat.reduceMul, Nat.reduceSub, Nat.reducePow, Nat.reduceLT, Nat.reduceLeDiff, Int.reduceNeg, Int.reduceEq, Int.reduceLT, Int.reduceLE, reduceCtorEq, et2]) ?_
            rintro r hs ⟨rfl, rfl, _⟩
            refine ⟨by simp [freeN], ?_⟩
            simp (disch := omega) only [go_sem, ↓reduceIte, Int.reduceToNat, Nat.reduceEqDiff, Nat.reduceAdd, Nat.reduceMul, Nat.reduceSub, Nat.reducePow, Nat.reduceLT, Nat.reduceLeDiff, Int.reduceNeg, Int.reduceEq, Int.reduceLT, Int.reduceLE, reduceCtorEq]
            simp (disch := omega) only [go_sem, ↓reduceIte, Int.reduceToNat, Nat.reduceEqDiff, Nat.reduceAdd, Nat.reduceMul, Nat.reduceSub, Nat.reducePow, Nat.reduceLT, Nat.reduceLeDiff, Int.reduceNeg, Int.reduceEq, Int.reduceLT, Int.reduceLE, reduceCtorEq, et2]
            have hfin : ∀ mm : Int, mm = (flM rm re : Int) → AV.tu [.ag [.v (.int .i64 1), .v (.bool xs), .v (.int .i64 mm), .v (.int .i64 (flE rm re))], .v (.int .i64 0)] = .tu [.ag [.v (.int .i64 ((flV s m e mode z).k)), .v (.bool ((flV s m e mode z).s)), .v (.int .i64 ((flV s m e mode z).m)), .v (.int .i64 ((flV s m e mode z).e))], .v (.int .i64 (flG s m e mode))] := by
              rintro mm rfl
              rw [hxs]
              exact hVG 1 _ _ 0 (by unfold flK; rw [if_neg hr0, if_neg (by omega)]) (by unfold flMm; rw [if_neg hr0, if_neg (by omega)]) (by unfold flEe; rw [if_neg hr0, if_neg (by omega)]) (by unfold flFl; rw [if_neg (by omega), hfl])
            have ek : xe - flE rm re = (((oE rm re - flE rm re).toNat : Nat) : Int) := by omega
            have hk9 : (oE rm re - flE rm re).toNat ≤ 53 := by have h9 := hM; unfold flM at h9; rw [bl_mul_pow (fun e => hr0 (oM_eq_zero.1 e))] at h9; omega
            have hM6 : flM rm re < 2 ^ 53 := Nat.lt_of_lt_of_le (bl_lt _) (Nat.pow_le_pow_right (by omega) hM)
            have eM : xm * 2 ^ (oE rm re - flE rm re).toNat = flM rm re := by rw [q1]; rfl
            generalize hkk : (oE rm re - flE rm re).toNat = kk at *
            refine ifW_dec (fun h7 => ?_) (fun h7 => ?_)
            · have eE : flE rm re = -1074 := by unfold flE flLow; rw [if_pos (by omega)]
              simp (disch := omega) only [go_sem, ↓reduceIte, Int.reduceToNat, Nat.reduceEqDiff, Nat.reduceAdd, Nat.reduceMul, Nat.reduceSub, Nat.reducePow, Nat.reduceLT, Nat.reduceLeDiff, Int.reduceNeg, Int.reduceEq, Int.reduceLT, Int.reduceLE, reduceCtorEq, h7]
              rw [eE] at ek hfin
              try rw [← et2] at hfin
              refine draw_of rfl [⟨0, [], []⟩, ⟨1, [], []⟩, ⟨2, [], []⟩, ⟨3, [2], []⟩, ⟨4, [2], []⟩, ⟨5, [2], []⟩, ⟨6, [2, 5], []⟩, ⟨7, [2, 5], []⟩, ⟨8, [2, 5, 7], []⟩, ⟨9, [2, 5], []⟩, ⟨12, [2, 5, 7], []⟩, ⟨14, [2, 5, 7], []⟩, ⟨10, [2], []⟩, ⟨11, [2], []⟩, ⟨13, [], []⟩, ⟨15, [], []⟩, ⟨16, [], []⟩] (by kernel_rfl) ?_
              simp (disch := omega) only [go_sem, ↓reduceIte, Int.reduceToNat, Nat.reduceEqDiff, Nat.reduceAdd, Nat.reduceMul, Nat.reduceSub, Nat.reducePow, Nat.reduceLT, Nat.reduceLeDiff, Int.reduceNeg, Int.reduceEq, Int.reduceLT, Int.reduceLE, reduceCtorEq]
              refine call_open (con_l2shlF xm kk (by omega) (by omega)) (by simp (disch := omega) only [go_sem, ↓reduceIte, Int.reduceToNat, Nat.reduceEqDiff, Nat.reduceAdd, Nat.reduceMul, Nat.reduceSub, Nat.reducePow, Nat.reduceLT, Nat.reduceLeDiff, Int.reduceNeg, Int.reduceEq, Int.reduceLT, Int.reduceLE, reduceCtorEq, ek, et2]) ?_
              rintro r hs ⟨rfl, rfl, _⟩
              refine ⟨by simp [freeN], ?_⟩
              simp (disch := omega) only [go_sem, ↓reduceIte, Int.reduceToNat, Nat.reduceEqDiff, Nat.reduceAdd, Nat.reduceMul, Nat.reduceSub, Nat.reducePow, Nat.reduceLT, Nat.reduceLeDiff, Int.reduceNeg, Int.reduceEq, Int.reduceLT, Int.reduceLE, reduceCtorEq]
              refine call_closed (con_l2int (xm * 2 ^ kk) (by rw [eM]; omega)) (by simp (disch := omega) only [go_sem, ↓reduceIte, Int.reduceToNat, Nat.reduceEqDiff, Nat.reduceAdd, Nat.reduceMul, Nat.reduceSub, Nat.reducePow, Nat.reduceLT, Nat.reduceLeDiff, Int.reduceNeg, Int.reduceEq, Int.reduceLT, Int.reduceLE, reduceCtorEq]) ?_
              rintro r hs ⟨rfl, rfl, _⟩
              refine ⟨by simp [freeN], ?_⟩
              simp (disch := omega) only [go_sem, ↓reduceIte, Int.reduceToNat, Nat.reduceEqDiff, Nat.reduceAdd, Nat.reduceMul, Nat.reduceSub, Nat.reducePow, Nat.reduceLT, Nat.reduceLeDiff, Int.reduceNeg, Int.reduceEq, Int.reduceLT, Int.reduceLE, reduceCtorEq]
              refine fin_valc (by simp (disch := omega) only [go_sem, ↓reduceIte, Int.reduceToNat, Nat.reduceEqDiff, Nat.reduceAdd, Nat.reduceMul, Nat.reduceSub, Nat.reducePow, Nat.reduceLT, Nat.reduceLeDiff, Int.reduceNeg, Int.reduceEq, Int.reduceLT, Int.reduceLE, reduceCtorEq]) (by simp (disch := omega) only [go_sem, ↓reduceIte, Int.reduceToNat, Nat.reduceEqDiff, Nat.reduceAdd, Nat.reduceMul, Nat.reduceSub, Nat.reducePow, Nat.reduceLT, Nat.reduceLeDiff, Int.reduceNeg, Int.reduceEq, Int.reduceLT, Int.reduceLE, reduceCtorEq]) ⟨?_, rfl, rfl⟩
              exact hfin ((xm * 2 ^ kk : Nat) : Int) (by rw [eM])
            · have eE : flE rm re = (bl rm : Int) + re - 53 := by unfold flE flLow; rw [if_neg (by omega)]
              simp (disch := omega) only [go_sem, ↓reduceIte, Int.reduceToNat, Nat.reduceEqDiff, Nat.reduceAdd, Nat.reduceMul, Nat.reduceSub, Nat.reducePow, Nat.reduceLT, Nat.reduceLeDiff, Int.reduceNeg, Int.reduceEq, Int.reduceLT, Int.reduceLE, reduceCtorEq, h7]
              rw [eE] at ek hfin
              try rw [← et2] at hfin
              refine draw_of rfl [⟨0, [], []⟩, ⟨1, [], []⟩, ⟨2, [], []⟩, ⟨3, [2], []⟩, ⟨4, [2], []⟩, ⟨5, [2], []⟩, ⟨6, [2, 5], []⟩, ⟨7, [2, 5], []⟩, ⟨8, [2, 5, 7], []⟩, ⟨9, [2, 5], []⟩, ⟨12, [2, 5, 7], []⟩, ⟨14, [2, 5, 7], []⟩, ⟨10, [2], []⟩, ⟨11, [2], []⟩, ⟨13, [], []⟩, ⟨15, [], []⟩, ⟨16, [], []⟩] (by kernel_rfl) ?_
              simp (disch := omega) only [go_sem, ↓reduceIte, Int.reduceToNat, Nat.reduceEqDiff, Nat.reduceAdd, Nat.reduceMul, Nat.reduceSub, Nat.reducePow, Nat.reduceLT, Nat.reduceLeDiff, Int.reduceNeg, Int.reduceEq, Int.reduceLT, Int.reduceLE, reduceCtorEq]
              refine call_open (con_l2shlF xm kk (by omega) (by omega)) (by simp (disch := omega) only [go_sem, ↓reduceIte, Int.reduceToNat, Nat.reduceEqDiff, Nat.reduceAdd, Nat.reduceMul, Nat.reduceSub, Nat.reducePow, Nat.reduceLT, Nat.reduceLeDiff, Int.reduceNeg, Int.reduceEq, Int.reduceLT, Int.reduceLE, reduceCtorEq, ek, et2]) ?_
              rintro r hs ⟨rfl, rfl, _⟩
              refine ⟨by simp [freeN], ?_⟩
              simp (disch := omega) only [go_sem, ↓reduceIte, Int.reduceToNat, Nat.reduceEqDiff, Nat.reduceAdd, Nat.reduceMul, Nat.reduceSub, Nat.reducePow, Nat.reduceLT, Nat.reduceLeDiff, Int.reduceNeg, Int.reduceEq, Int.reduceLT, Int.reduceLE, reduceCtorEq]
              refine call_closed (con_l2int (xm * 2 ^ kk) (by rw [eM]; omega)) (by simp (disch := omega) only [go_sem, ↓reduceIte, Int.reduceToNat, Nat.reduceEqDiff, Nat.reduceAdd, Nat.reduceMul, Nat.reduceSub, Nat.reducePow, Nat.reduceLT, Nat.reduceLeDiff, Int.reduceNeg, Int.reduceEq, Int.reduceLT, Int.reduceLE, reduceCtorEq]) ?_
              rintro r hs ⟨rfl, rfl, _⟩
              refine ⟨by simp [freeN], ?_⟩
              simp (disch := omega) only [go_sem, ↓reduceIte, Int.reduceToNat, Nat.reduceEqDiff, Nat.reduceAdd, Nat.reduceMul, Nat.reduceSub, Nat.reducePow, Nat.reduceLT, Nat.reduceLeDiff, Int.reduceNeg, Int.reduceEq, Int.reduceLT, Int.reduceLE, reduceCtorEq]
              refine fin_valc (by simp (disch := omega) only [go_sem, ↓reduceIte, Int.reduceToNat, Nat.reduceEqDiff, Nat.reduceAdd, Nat.reduceMul, Nat.reduceSub, Nat.reducePow, Nat.reduceLT, Nat.reduceLeDiff, Int.reduceNeg, Int.reduceEq, Int.reduceLT, Int.reduceLE, reduceCtorEq]) (by simp (disch := omega) only [go_sem, ↓reduceIte, Int.reduceToNat, Nat.reduceEqDiff, Nat.reduceAdd, Nat.reduceMul, Nat.reduceSub, Nat.reducePow, Nat.reduceLT, Nat.reduceLeDiff, Int.reduceNeg, Int.reduceEq, Int.reduceLT, Int.reduceLE, reduceCtorEq]) ⟨?_, rfl, rfl⟩
              exact hfin ((xm * 2 ^ kk : Nat) : Int) (by rw [eM])
    · have hL : flLow ((bl m : Int) + e) = (bl m : Int) + e - 53 := by unfold flLow; rw [if_neg (by omega)]
      simp (disch := omega) only [go_sem, ↓reduceIte, Int.reduceToNat, Nat.reduceEqDiff, Nat.reduceAdd, Nat.reduceMul, Nat.reduceSub, Nat.reducePow, Nat.reduceLT, Nat.reduceLeDiff, Int.reduceNeg, Int.reduceEq, Int.reduceLT, Int.reduceLE, reduceCtorEq, h2]
      have hbl := ro_bl (s := s) (e := e) (low := (bl m : Int) + e - 53) (mode := mode) hm
      have hroE : -1000000 ≤ roE m e ((bl m : Int) + e - 53) ∧ roE m e ((bl m : Int) + e - 53) ≤ 1000000 := by unfold roE; split <;> omega
      obtain ⟨q1, q2⟩ := sr_eq (s := s) (e := e) (low := (bl m : Int) + e - 53) (mode := mode) hod
      have q3 := roS_eq (s := s) (m := m) (e := e) (low := (bl m : Int) + e - 53) (mode := mode)
      refine call_open (con_l4round s m e ((bl m : Int) + e - 53) mode hodd hs hmode (by omega) (by omega) (by omega)) (by simp (disch := omega) only [go_sem, ↓reduceIte, Int.reduceToNat, Nat.reduceEqDiff, Nat.reduceAdd, Nat.reduceMul, Nat.reduceSub, Nat.reducePow, Nat.reduceLT, Nat.reduceLeDiff, Int.reduceNeg, Int.reduceEq, Int.reduceLT, Int.reduceLE, reduceCtorEq, etop]) ?_
      rintro r hs ⟨rfl, rfl, _⟩
      refine ⟨by simp [freeN], ?_⟩
      simp (disch := omega) only [go_sem, ↓reduceIte, Int.reduceToNat, Nat.reduceEqDiff, Nat.reduceAdd, Nat.reduceMul, Nat.reduceSub, Nat.reducePow, Nat.reduceLT, Nat.reduceLeDiff, Int.reduceNeg, Int.reduceEq, Int.reduceLT, Int.reduceLE, reduceCtorEq]
      rw [hL] at hVG hform
      generalize srM s m e ((bl m : Int) + e - 53) mode = xm at *
      generalize srE s m e ((bl m : Int) + e - 53) mode = xe at *
      generalize oS (roS s m e ((bl m : Int) + e - 53) mode) (roM s m e ((bl m : Int) + e - 53) mode) = xs at *
      generalize hrm : roM s m e ((bl m : Int) + e - 53) mode = rm at *
      generalize hre : roE m e ((bl m : Int) + e - 53) = re at *
      generalize hrx : roX m e ((bl m : Int) + e - 53) = same at *
      have hxm0 : ((lim xm).length : Int) = 0 ↔ rm = 0 := by rw [q1, ← oM_eq_zero]; exact ⟨fun h => lim_eq_nil.1 (List.length_eq_zero_iff.1 (by omega)), fun h => by rw [h, lim_zero]; rfl⟩
      have hxmb : bl xm ≤ 100001 := by rw [q1]; exact Nat.le_trans (bl_mono (oM_le rm)) hbl
      have lxm := len_bl hxmb
      have hxeb : -2000000 ≤ xe ∧ xe ≤ 2000000 := by have := oE_bnd hbl hroE; omega
      have etop2 : rm ≠ 0 → (if xm = 0 then (0 : Int) else xe + (bl xm : Int)) = (bl rm : Int) + re := fun h => by
        have h2 := bl_oM h
        have h3 : xm ≠ 0 := by rw [q1]; exact fun e => h (oM_eq_zero.1 e)
        rw [if_neg h3, q2, q1]; unfold oE; rw [if_neg h]; omega
      refine ifW_nb (fun h3 => ?_) (fun h3 => ?_)
      · simp (disch := omega) only [go_sem, ↓reduceIte, Int.reduceToNat, Nat.reduceEqDiff, Nat.reduceAdd, Nat.reduceMul, Nat.reduceSub, Nat.reducePow, Nat.reduceLT, Nat.reduceLeDiff, Int.reduceNeg, Int.reduceEq, Int.reduceLT, Int.reduceLE, reduceCtorEq, h3]
        refine call_closed (con_l4top s m e (by omega) (by omega)) (by simp (disch := omega) only [go_sem, ↓reduceIte, Int.reduceToNat, Nat.reduceEqDiff, Nat.reduceAdd, Nat.reduceMul, Nat.reduceSub, Nat.reducePow, Nat.reduceLT, Nat.reduceLeDiff, Int.reduceNeg, Int.reduceEq, Int.reduceLT, Int.reduceLE, reduceCtorEq, etop]) ?_
        rintro r hs ⟨rfl, rfl, _⟩
        refine ⟨by simp [freeN], ?_⟩
        simp (disch := omega) only [go_sem, ↓reduceIte, Int.reduceToNat, Nat.reduceEqDiff, Nat.reduceAdd, Nat.reduceMul, Nat.reduceSub, Nat.reducePow, Nat.reduceLT, Nat.reduceLeDiff, Int.reduceNeg, Int.reduceEq, Int.reduceLT, Int.reduceLE, reduceCtorEq]
        simp (disch := omega) only [go_sem, ↓reduceIte, Int.reduceToNat, Nat.reduceEqDiff, Nat.reduceAdd, Nat.reduceMul, Nat.reduceSub, Nat.reducePow, Nat.reduceLT, Nat.reduceLeDiff, Int.reduceNeg, Int.reduceEq, Int.reduceLT, Int.reduceLE, reduceCtorEq, etop]
        refine ifW_dec (fun h4 => ?_) (fun h4 => ?_)
        · have hfl : flFlags (bl m + e) same = 5 := by unfold flFlags; rw [h3, if_neg (by simp), if_pos (by omega)]
          have e5 : ((1 ||| 4 : Nat) : Int) = 5 := rfl
          simp (disch := omega) only [go_sem, ↓reduceIte, Int.reduceToNat, Nat.reduceEqDiff, Nat.reduceAdd, Nat.reduceMul, Nat.reduceSub, Nat.reducePow, Nat.reduceLT, Nat.reduceLeDiff, Int.reduceNeg, Int.reduceEq, Int.reduceLT, Int.reduceLE, reduceCtorEq, h4, e5]
          refine ifW_dec (fun h5 => ?_) (fun h5 => ?_)
          · have hr0 : rm = 0 := hxm0.1 h5
            simp (disch := omega) only [go_sem, ↓reduceIte, Int.reduceToNat, Nat.reduceEqDiff, Nat.reduceAdd, Nat.reduceMul, Nat.reduceSub, Nat.reducePow, Nat.reduceLT, Nat.reduceLeDiff, Int.reduceNeg, Int.reduceEq, Int.reduceLT, Int.reduceLE, reduceCtorEq, h5]
            refine fin_valc (by simp (disch := omega) only [go_sem, ↓reduceIte, Int.reduceToNat, Nat.reduceEqDiff, Nat.reduceAdd, Nat.reduceMul, Nat.reduceSub, Nat.reducePow, Nat.reduceLT, Nat.reduceLeDiff, Int.reduceNeg, Int.reduceEq, Int.reduceLT, Int.reduceLE, reduceCtorEq]) (by simp (disch := omega) only [go_sem, ↓reduceIte, Int.reduceToNat, Nat.reduceEqDiff, Nat.reduceAdd, Nat.reduceMul, Nat.reduceSub, Nat.reducePow, Nat.reduceLT, Nat.reduceLeDiff, Int.reduceNeg, Int.reduceEq, Int.reduceLT, Int.reduceLE, reduceCtorEq]) ⟨?_, rfl, rfl⟩
            refine hVG 0 0 0 5 (by simp [flK, hr0]) (by simp [flMm, hr0]) (by simp [flEe, hr0]) (by simp [flFl, hr0, hfl])
          · have hr0 : rm ≠ 0 := fun e => h5 (hxm0.2 e)
            have et2 := etop2 hr0
            have hxs : xs = s := q3 hr0
            have hff := hform hr0
            have hM := flM_lt hr0 hff
            simp (disch := omega) only [go_sem, ↓reduceIte, Int.reduceToNat, Nat.reduceEqDiff, Nat.reduceAdd, Nat.reduceMul, Nat.reduceSub, Nat.reducePow, Nat.reduceLT, Nat.reduceLeDiff, Int.reduceNeg, Int.reduceEq, Int.reduceLT, Int.reduceLE, reduceCtorEq, h5]
            refine call_closed (con_l4top xs xm xe (by omega) (by omega)) (by simp (disch := omega) only [go_sem, ↓reduceIte, Int.reduceToNat, Nat.reduceEqDiff, Nat.reduceAdd, Nat.reduceMul, Nat.reduceSub, Nat.reducePow, Nat.reduceLT, Nat.reduceLeDiff, Int.reduceNeg, Int.reduceEq, Int.reduceLT, Int.reduceLE, reduceCtorEq, et2]) ?_
            rintro r hs ⟨rfl, rfl, _⟩
            refine ⟨by simp [freeN], ?_⟩
            simp (disch := omega) only [go_sem, ↓reduceIte, Int.reduceToNat, Nat.reduceEqDiff, Nat.reduceAdd, Nat.reduceMul, Nat.reduceSub, Nat.reducePow, Nat.reduceLT, Nat.reduceLeDiff, Int.reduceNeg, Int.reduceEq, Int.reduceLT, Int.reduceLE, reduceCtorEq]
            simp (disch := omega) only [go_sem, ↓reduceIte, Int.reduceToNat, Nat.reduceEqDiff, Nat.reduceAdd, Nat.reduceMul, Nat.reduceSub, Nat.reducePow, Nat.reduceLT, Nat.reduceLeDiff, Int.reduceNeg, Int.reduceEq, Int.reduceLT, Int.reduceLE, reduceCtorEq, et2]
            refine ifW_dec (fun h6 => ?_) (fun h6 => ?_)
            · have hov : ∀ (k mm ee : Int), k = (if ovB s mode then 1 else 2) → mm = (if ovB s mode then 9007199254740991 else 0) → ee = (if ovB s mode then 971 else 0) → AV.tu [.ag [.v (.int .i64 k), .v (.bool s), .v (.int .i64 mm), .v (.int .i64 ee)], .v (.int .i64 3)] = .tu [.ag [.v (.int .i64 ((flV s m e mode z).k)), .v (.bool ((flV s m e mode z).s)), .v (.int .i64 ((flV s m e mode z).m)), .v (.int .i64 ((flV s m e mode z).e))], .v (.int .i64 (flG s m e mode))] := by
                rintro k mm ee rfl rfl rfl
                exact hVG _ _ _ 3 (by unfold flK; rw [if_neg hr0, if_pos h6]) (by unfold flMm; rw [if_neg hr0, if_pos h6]) (by unfold flEe; rw [if_neg hr0, if_pos h6]) (by unfold flFl; rw [if_pos ⟨hr0, h6⟩])
              clear hVG hform hrm hrx q3 hxs et2 hfl
              obtain rfl | rfl | rfl | rfl | rfl : mode = 0 ∨ mode = 1 ∨ mode = 2 ∨ mode = 3 ∨ mode = 4 := by omega
              · cases s
                · simp (disch := omega) only [go_sem, ↓reduceIte, Int.reduceToNat, Nat.reduceEqDiff, Nat.reduceAdd, Nat.reduceMul, Nat.reduceSub, Nat.reducePow, Nat.reduceLT, Nat.reduceLeDiff, Int.reduceNeg, Int.reduceEq, Int.reduceLT, Int.reduceLE, reduceCtorEq, h6]
                  refine fin_valc (by simp (disch := omega) only [go_sem, ↓reduceIte, Int.reduceToNat, Nat.reduceEqDiff, Nat.reduceAdd, Nat.reduceMul, Nat.reduceSub, Nat.reducePow, Nat.reduceLT, Nat.reduceLeDiff, Int.reduceNeg, Int.reduceEq, Int.reduceLT, Int.reduceLE, reduceCtorEq]) (by simp (disch := omega) only [go_sem, ↓reduceIte, Int.reduceToNat, Nat.reduceEqDiff, Nat.reduceAdd, Nat.reduceMul, Nat.reduceSub, Nat.reducePow, Nat.reduceLT, Nat.reduceLeDiff, Int.reduceNeg, Int.reduceEq, Int.reduceLT, Int.reduceLE, reduceCtorEq]) ⟨?_, rfl, rfl⟩
                  exact hov _ _ _ rfl rfl rfl
                · simp (disch := omega) only [go_sem, ↓reduceIte, Int.reduceToNat, Nat.reduceEqDiff, Nat.reduceAdd, Nat.reduceMul, Nat.reduceSub, Nat.reducePow, Nat.reduceLT, Nat.reduceLeDiff, Int.reduceNeg, Int.reduceEq, Int.reduceLT, Int.reduceLE, reduceCtorEq, h6]
                  refine fin_valc (by simp (disch := omega) only [go_sem, ↓reduceIte, Int.reduceToNat, Nat.reduceEqDiff, Nat.reduceAdd, Nat.reduceMul, Nat.reduceSub, Nat.reducePow, Nat.reduceLT, Nat.reduceLeDiff, Int.reduceNeg, Int.reduceEq, Int.reduceLT, Int.reduceLE, reduceCtorEq]) (by simp (disch := omega) only [go_sem, ↓reduceIte, Int.reduceToNat, Nat.reduceEqDiff, Nat.reduceAdd, Nat.reduceMul, Nat.reduceSub, Nat.reducePow, Nat.reduceLT, Nat.reduceLeDiff, Int.reduceNeg, Int.reduceEq, Int.reduceLT, Int.reduceLE, reduceCtorEq]) ⟨?_, rfl, rfl⟩
                  exact hov _ _ _ rfl rfl rfl
              · cases s
                · simp (disch := omega) only [go_sem, ↓reduceIte, Int.reduceToNat, Nat.reduceEqDiff, Nat.reduceAdd, Nat.reduceMul, Nat.reduceSub, Nat.reducePow, Nat.reduceLT, Nat.reduceLeDiff, Int.reduceNeg, Int.reduceEq, Int.reduceLT, Int.reduceLE, reduceCtorEq, h6]
                  refine call_closed (con_l5most false) (by simp (disch := omega) only [go_sem, ↓reduceIte, Int.reduceToNat, Nat.reduceEqDiff, Nat.reduceAdd, Nat.reduceMul, Nat.reduceSub, Nat.reducePow, Nat.reduceLT, Nat.reduceLeDiff, Int.reduceNeg, Int.reduceEq, Int.reduceLT, Int.reduceLE, reduceCtorEq]) ?_
                  rintro r hs ⟨rfl, rfl, _⟩
                  refine ⟨by simp [freeN], ?_⟩
                  simp (disch := omega) only [go_sem, ↓reduceIte, Int.reduceToNat, Nat.reduceEqDiff, Nat.reduceAdd, Nat.reduceMul, Nat.reduceSub, Nat.reducePow, Nat.reduceLT, Nat.reduceLeDiff, Int.reduceNeg, Int.reduceEq, Int.reduceLT, Int.reduceLE, reduceCtorEq]
                  refine fin_valc (by simp (disch := omega) only [go_sem, ↓reduceIte, Int.reduceToNat, Nat.reduceEqDiff, Nat.reduceAdd, Nat.reduceMul, Nat.reduceSub, Nat.reducePow, Nat.reduceLT, Nat.reduceLeDiff, Int.reduceNeg, Int.reduceEq, Int.reduceLT, Int.reduceLE, reduceCtorEq]) (by simp (disch := omega) only [go_sem, ↓reduceIte, Int.reduceToNat, Nat.reduceEqDiff, Nat.reduceAdd, Nat.reduceMul, Nat.reduceSub, Nat.reducePow, Nat.reduceLT, Nat.reduceLeDiff, Int.reduceNeg, Int.reduceEq, Int.reduceLT, Int.reduceLE, reduceCtorEq]) ⟨?_, rfl, rfl⟩
                  exact hov _ _ _ rfl rfl rfl
                · simp (disch := omega) only [go_sem, ↓reduceIte, Int.reduceToNat, Nat.reduceEqDiff, Nat.reduceAdd, Nat.reduceMul, Nat.reduceSub, Nat.reducePow, Nat.reduceLT, Nat.reduceLeDiff, Int.reduceNeg, Int.reduceEq, Int.reduceLT, Int.reduceLE, reduceCtorEq, h6]
                  refine call_closed (con_l5most true) (by simp (disch := omega) only [go_sem, ↓reduceIte, Int.reduceToNat, Nat.reduceEqDiff, Nat.reduceAdd, Nat.reduceMul, Nat.reduceSub, Nat.reducePow, Nat.reduceLT, Nat.reduceLeDiff, Int.reduceNeg, Int.reduceEq, Int.reduceLT, Int.reduceLE, reduceCtorEq]) ?_
                  rintro r hs ⟨rfl, rfl, _⟩
                  refine ⟨by simp [freeN], ?_⟩
                  simp (disch := omega) only [go_sem, ↓reduceIte, Int.reduceToNat, Nat.reduceEqDiff, Nat.reduceAdd, Nat.reduceMul, Nat.reduceSub, Nat.reducePow, Nat.reduceLT, Nat.reduceLeDiff, Int.reduceNeg, Int.reduceEq, Int.reduceLT, Int.reduceLE, reduceCtorEq]
                  refine fin_valc (by simp (disch := omega) only [go_sem, ↓reduceIte, Int.reduceToNat, Nat.reduceEqDiff, Nat.reduceAdd, Nat.reduceMul, Nat.reduceSub, Nat.reducePow, Nat.reduceLT, Nat.reduceLeDiff, Int.reduceNeg, Int.reduceEq, Int.reduceLT, Int.reduceLE, reduceCtorEq]) (by simp (disch := omega) only [go_sem, ↓reduceIte, Int.reduceToNat, Nat.reduceEqDiff, Nat.reduceAdd, Nat.reduceMul, Nat.reduceSub, Nat.reducePow, Nat.reduceLT, Nat.reduceLeDiff, Int.reduceNeg, Int.reduceEq, Int.reduceLT, Int.reduceLE, reduceCtorEq]) ⟨?_, rfl, rfl⟩
                  exact hov _ _ _ rfl rfl rfl
              · cases s
                · simp (disch := omega) only [go_sem, ↓reduceIte, Int.reduceToNat, Nat.reduceEqDiff, Nat.reduceAdd, Nat.reduceMul, Nat.reduceSub, Nat.reducePow, Nat.reduceLT, Nat.reduceLeDiff, Int.reduceNeg, Int.reduceEq, Int.reduceLT, Int.reduceLE, reduceCtorEq, h6]
                  refine fin_valc (by simp (disch := omega) only [go_sem, ↓reduceIte, Int.reduceToNat, Nat.reduceEqDiff, Nat.reduceAdd, Nat.reduceMul, Nat.reduceSub, Nat.reducePow, Nat.reduceLT, Nat.reduceLeDiff, Int.reduceNeg, Int.reduceEq, Int.reduceLT, Int.reduceLE, reduceCtorEq]) (by simp (disch := omega) only [go_sem, ↓reduceIte, Int.reduceToNat, Nat.reduceEqDiff, Nat.reduceAdd, Nat.reduceMul, Nat.reduceSub, Nat.reducePow, Nat.reduceLT, Nat.reduceLeDiff, Int.reduceNeg, Int.reduceEq, Int.reduceLT, Int.reduceLE, reduceCtorEq]) ⟨?_, rfl, rfl⟩
                  exact hov _ _ _ rfl rfl rfl
                · simp (disch := omega) only [go_sem, ↓reduceIte, Int.reduceToNat, Nat.reduceEqDiff, Nat.reduceAdd, Nat.reduceMul, Nat.reduceSub, Nat.reducePow, Nat.reduceLT, Nat.reduceLeDiff, Int.reduceNeg, Int.reduceEq, Int.reduceLT, Int.reduceLE, reduceCtorEq, h6]
                  refine call_closed (con_l5most true) (by simp (disch := omega) only [go_sem, ↓reduceIte, Int.reduceToNat, Nat.reduceEqDiff, Nat.reduceAdd, Nat.reduceMul, Nat.reduceSub, Nat.reducePow, Nat.reduceLT, Nat.reduceLeDiff, Int.reduceNeg, Int.reduceEq, Int.reduceLT, Int.reduceLE, reduceCtorEq]) ?_
                  rintro r hs ⟨rfl, rfl, _⟩
                  refine ⟨by simp [freeN], ?_⟩
                  simp (disch := omega) only [go_sem, ↓reduceIte, Int.reduceToNat, Nat.reduceEqDiff, Nat.reduceAdd, Nat.reduceMul, Nat.reduceSub, Nat.reducePow, Nat.reduceLT, Nat.reduceLeDiff, Int.reduceNeg, Int.reduceEq, Int.reduceLT, Int.reduceLE, reduceCtorEq]
                  refine fin_valc (by simp (disch := omega) only [go_sem, ↓reduceIte, Int.reduceToNat, Nat.reduceEqDiff, Nat.reduceAdd, Nat.reduceMul, Nat.reduceSub, Nat.reducePow, Nat.reduceLT, Nat.reduceLeDiff, Int.reduceNeg, Int.reduceEq, Int.reduceLT, Int.reduceLE, reduceCtorEq]) (by simp (disch := omega) only [go_sem, ↓reduceIte, Int.reduceToNat, Nat.reduceEqDiff, Nat.reduceAdd, Nat.reduceMul, Nat.reduceSub, Nat.reducePow, Nat.reduceLT, Nat.reduceLeDiff, Int.reduceNeg, Int.reduceEq, Int.reduceLT, Int.reduceLE, reduceCtorEq]) ⟨?_, rfl, rfl⟩
                  exact hov _ _ _ rfl rfl rfl
              · cases s
                · simp (disch := omega) only [go_sem, ↓reduceIte, Int.reduceToNat, Nat.reduceEqDiff, Nat.reduceAdd, Nat.reduceMul, Nat.reduceSub, Nat.reducePow, Nat.reduceLT, Nat.reduceLeDiff, Int.reduceNeg, Int.reduceEq, Int.reduceLT, Int.reduceLE, reduceCtorEq, h6]
                  refine call_closed (con_l5most false) (by simp (disch := omega) only [go_sem, ↓reduceIte, Int.reduceToNat, Nat.reduceEqDiff, Nat.reduceAdd, Nat.reduceMul, Nat.reduceSub, Nat.reducePow, Nat.reduceLT, Nat.reduceLeDiff, Int.reduceNeg, Int.reduceEq, Int.reduceLT, Int.reduceLE, reduceCtorEq]) ?_
                  rintro r hs ⟨rfl, rfl, _⟩
                  refine ⟨by simp [freeN], ?_⟩
                  simp (disch := omega) only [go_sem, ↓reduceIte, Int.reduceToNat, Nat.reduceEqDiff, Nat.reduceAdd, Nat.reduceMul, Nat.reduceSub, Nat.reducePow, Nat.reduceLT, Nat.reduceLeDiff, Int.reduceNeg, Int.reduceEq, Int.reduceLT, Int.reduceLE, reduceCtorEq]
                  refine fin_valc (by simp (disch := omega) only [go_sem, ↓reduceIte, Int.reduceToNat, Nat.reduceEqDiff, Nat.reduceAdd, Nat.reduceMul, Nat.reduceSub, Nat.reducePow, Nat.reduceLT, Nat.reduceLeDiff, Int.reduceNeg, Int.reduceEq, Int.reduceLT, Int.reduceLE, reduceCtorEq]) (by simp (disch := omega) only [go_sem, ↓reduceIte, Int.reduceToNat, Nat.reduceEqDiff, Nat.reduceAdd, Nat.reduceMul, Nat.reduceSub, Nat.reducePow, Nat.reduceLT, Nat.reduceLeDiff, Int.reduceNeg, Int.reduceEq, Int.reduceLT, Int.reduceLE, reduceCtorEq]) ⟨?_, rfl, rfl⟩
                  exact hov _ _ _ rfl rfl rfl
                · simp (disch := omega) only [go_sem, ↓reduceIte, Int.reduceToNat, Nat.reduceEqDiff, Nat.reduceAdd, Nat.reduceMul, Nat.reduceSub, Nat.reducePow, Nat.reduceLT, Nat.reduceLeDiff, Int.reduceNeg, Int.reduceEq, Int.reduceLT, Int.reduceLE, reduceCtorEq, h6]
                  refine fin_valc (by simp (disch := omega) only [go_sem, ↓reduceIte, Int.reduceToNat, Nat.reduceEqDiff, Nat.reduceAdd, Nat.reduceMul, Nat.reduceSub, Nat.reducePow, Nat.reduceLT, Nat.reduceLeDiff, Int.reduceNeg, Int.reduceEq, Int.reduceLT, Int.reduceLE, reduceCtorEq]) (by simp (disch := omega) only [go_sem, ↓reduceIte, Int.reduceToNat, Nat.reduceEqDiff, Nat.reduceAdd, Nat.reduceMul, Nat.reduceSub, Nat.reducePow, Nat.reduceLT, Nat.reduceLeDiff, Int.reduceNeg, Int.reduceEq, Int.reduceLT, Int.reduceLE, reduceCtorEq]) ⟨?_, rfl, rfl⟩
                  exact hov _ _ _ rfl rfl rfl
              · cases s
                · simp (disch := omega) only [go_sem, ↓reduceIte, Int.reduceToNat, Nat.reduceEqDiff, Nat.reduceAdd, Nat.reduceMul, Nat.reduceSub, Nat.reducePow, Nat.reduceLT, Nat.reduceLeDiff, Int.reduceNeg, Int.reduceEq, Int.reduceLT, Int.reduceLE, reduceCtorEq, h6]
                  refine fin_valc (by simp (disch := omega) only [go_sem, ↓reduceIte, Int.reduceToNat, Nat.reduceEqDiff, Nat.reduceAdd, Nat.reduceMul, Nat.reduceSub, Nat.reducePow, Nat.reduceLT, Nat.reduceLeDiff, Int.reduceNeg, Int.reduceEq, Int.reduceLT, Int.reduceLE, reduceCtorEq]) (by simp (disch := omega) only [go_sem, ↓reduceIte, Int.reduceToNat, Nat.reduceEqDiff, Nat.reduceAdd, Nat.reduceMul, Nat.reduceSub, Nat.reducePow, Nat.reduceLT, Nat.reduceLeDiff, Int.reduceNeg, Int.reduceEq, Int.reduceLT, Int.reduceLE, reduceCtorEq]) ⟨?_, rfl, rfl⟩
                  exact hov _ _ _ rfl rfl rfl
                · simp (disch := omega) only [go_sem, ↓reduceIte, Int.reduceToNat, Nat.reduceEqDiff, Nat.reduceAdd, Nat.reduceMul, Nat.reduceSub, Nat.reducePow, Nat.reduceLT, Nat.reduceLeDiff, Int.reduceNeg, Int.reduceEq, Int.reduceLT, Int.reduceLE, reduceCtorEq, h6]
                  refine fin_valc (by simp (disch := omega) only [go_sem, ↓reduceIte, Int.reduceToNat, Nat.reduceEqDiff, Nat.reduceAdd, Nat.reduceMul, Nat.reduceSub, Nat.reducePow, Nat.reduceLT, Nat.reduceLeDiff, Int.reduceNeg, Int.reduceEq, Int.reduceLT, Int.reduceLE, reduceCtorEq]) (by simp (disch := omega) only [go_sem, ↓reduceIte, Int.reduceToNat, Nat.reduceEqDiff, Nat.reduceAdd, Nat.reduceMul, Nat.reduceSub, Nat.reducePow, Nat.reduceLT, Nat.reduceLeDiff, Int.reduceNeg, Int.reduceEq, Int.reduceLT, Int.reduceLE, reduceCtorEq]) ⟨?_, rfl, rfl⟩
                  exact hov _ _ _ rfl rfl rfl
            · simp (disch := omega) only [go_sem, ↓reduceIte, Int.reduceToNat, Nat.reduceEqDiff, Nat.reduceAdd, Nat.reduceMul, Nat.reduceSub, Nat.reducePow, Nat.reduceLT, Nat.reduceLeDiff, Int.reduceNeg, Int.reduceEq, Int.reduceLT, Int.reduceLE, reduceCtorEq, h6]
              refine call_closed (con_l4top xs xm xe (by omega) (by omega)) (by simp (disch := omega) only [go_sem, ↓reduceIte, Int.reduceToNat, Nat.reduceEqDiff, Nat.reduceAdd, Nat.reduceMul, Nat.reduceSub, Nat.reducePow, Nat.reduceLT, Nat.reduceLeDiff, Int.reduceNeg, Int.reduceEq, Int.reduceLT, Int.reduceLE, reduceCtorEq, et2]) ?_
              rintro r hs ⟨rfl, rfl, _⟩
              refine ⟨by simp [freeN], ?_⟩
              simp (disch := omega) only [go_sem, ↓reduceIte, Int.reduceToNat, Nat.reduceEqDiff, Nat.reduceAdd, Nat.reduceMul, Nat.reduceSub, Nat.reducePow, Nat.reduceLT, Nat.reduceLeDiff, Int.reduceNeg, Int.reduceEq, Int.reduceLT, Int.reduceLE, reduceCtorEq]
              simp (disch := omega) only [go_sem, ↓reduceIte, Int.reduceToNat, Nat.reduceEqDiff, Nat.reduceAdd, Nat.reduceMul, Nat.reduceSub, Nat.reducePow, Nat.reduceLT, Nat.reduceLeDiff, Int.reduceNeg, Int.reduceEq, Int.reduceLT, Int.reduceLE, reduceCtorEq, et2]
              have hfin : ∀ mm : Int, mm = (flM rm re : Int) → AV.tu [.ag [.v (.int .i64 1), .v (.bool xs), .v (.int .i64 mm), .v (.int .i64 (flE rm re))], .v (.int .i64 5)] = .tu [.ag [.v (.int .i64 ((flV s m e mode z).k)), .v (.bool ((flV s m e mode z).s)), .v (.int .i64 ((flV s m e mode z).m)), .v (.int .i64 ((flV s m e mode z).e))], .v (.int .i64 (flG s m e mode))] := by
                rintro mm rfl
                rw [hxs]
                exact hVG 1 _ _ 5 (by unfold flK; rw [if_neg hr0, if_neg (by omega)]) (by unfold flMm; rw [if_neg hr0, if_neg (by omega)]) (by unfold flEe; rw [if_neg hr0, if_neg (by omega)]) (by unfold flFl; rw [if_neg (by omega), hfl])
              have ek : xe - flE rm re = (((oE rm re - flE rm re).toNat : Nat) : Int) := by omega
              have hk9 : (oE rm re - flE rm re).toNat ≤ 53 := by have h9 := hM; unfold flM at h9; rw [bl_mul_pow (fun e => hr0 (oM_eq_zero.1 e))] at h9; omega
              have hM6 : flM rm re < 2 ^ 53 := Nat.lt_of_lt_of_le (bl_lt _) (Nat.pow_le_pow_right (by omega) hM)
              have eM : xm * 2 ^ (oE rm re - flE rm re).toNat = flM rm re := by rw [q1]; rfl
              generalize hkk : (oE rm re - flE rm re).toNat = kk at *
              refine ifW_dec (fun h7 => ?_) (fun h7 => ?_)
              · have eE : flE rm re = -1074 := by unfold flE flLow; rw [if_pos (by omega)]
                simp (disch := omega) only [go_sem, ↓reduceIte, Int.reduceToNat, Nat.reduceEqDiff, Nat.reduceAdd, Nat.reduceMul, Nat.reduceSub, Nat.reducePow, Nat.reduceLT, Nat.reduceLeDiff, Int.reduceNeg, Int.reduceEq, Int.reduceLT, Int.reduceLE, reduceCtorEq, h7]
                rw [eE] at ek hfin
                try rw [← et2] at hfin
                refine draw_of rfl [⟨0, [], []⟩, ⟨1, [], []⟩, ⟨2, [], []⟩, ⟨3, [2], []⟩, ⟨4, [2], []⟩, ⟨5, [2], []⟩, ⟨6, [2, 5], []⟩, ⟨7, [2, 5], []⟩, ⟨8, [2, 5, 7], []⟩, ⟨9, [2, 5], []⟩, ⟨12, [2, 5, 7], []⟩, ⟨14, [2, 5, 7], []⟩, ⟨10, [2], []⟩, ⟨11, [2], []⟩, ⟨13, [], []⟩, ⟨15, [], []⟩, ⟨16, [], []⟩] (by kernel_rfl) ?_
                simp (disch := omega) only [go_sem, ↓reduceIte, Int.reduceToNat, Nat.reduceEqDiff, Nat.reduceAdd, Nat.reduceMul, Nat.reduceSub, Nat.reducePow, Nat.reduceLT, Nat.reduceLeDiff, Int.reduceNeg, Int.reduceEq, Int.reduceLT, Int.reduceLE, reduceCtorEq]
                refine call_open (con_l2shlF xm kk (by omega) (by omega)) (by simp (disch := omega) only [go_sem, ↓reduceIte, Int.reduceToNat, Nat.reduceEqDiff, Nat.reduceAdd, Nat.reduceMul, Nat.reduceSub, Nat.reducePow, Nat.reduceLT, Nat.reduceLeDiff, Int.reduceNeg, Int.reduceEq, Int.reduceLT, Int.reduceLE, reduceCtorEq, ek, et2]) ?_
                rintro r hs ⟨rfl, rfl, _⟩
                refine ⟨by simp [freeN], ?_⟩
                simp (disch := omega) only [go_sem, ↓reduceIte, Int.reduceToNat, Nat.reduceEqDiff, Nat.reduceAdd, Nat.reduceMul, Nat.reduceSub, Nat.reducePow, Nat.reduceLT, Nat.reduceLeDiff, Int.reduceNeg, Int.reduceEq, Int.reduceLT, Int.reduceLE, reduceCtorEq]
                refine call_closed (con_l2int (xm * 2 ^ kk) (by rw [eM]; omega)) (by simp (disch := omega) only [go_sem, ↓reduceIte, Int.reduceToNat, Nat.reduceEqDiff, Nat.reduceAdd, Nat.reduceMul, Nat.reduceSub, Nat.reducePow, Nat.reduceLT, Nat.reduceLeDiff, Int.reduceNeg, Int.reduceEq, Int.reduceLT, Int.reduceLE, reduceCtorEq]) ?_
                rintro r hs ⟨rfl, rfl, _⟩
                refine ⟨by simp [freeN], ?_⟩
                simp (disch := omega) only [go_sem, ↓reduceIte, Int.reduceToNat, Nat.reduceEqDiff, Nat.reduceAdd, Nat.reduceMul, Nat.reduceSub, Nat.reducePow, Nat.reduceLT, Nat.reduceLeDiff, Int.reduceNeg, Int.reduceEq, Int.reduceLT, Int.reduceLE, reduceCtorEq]
                refine fin_valc (by simp (disch := omega) only [go_sem, ↓reduceIte, Int.reduceToNat, Nat.reduceEqDiff, Nat.reduceAdd, Nat.reduceMul, Nat.reduceSub, Nat.reducePow, Nat.reduceLT, Nat.reduceLeDiff, Int.reduceNeg, Int.reduceEq, Int.reduceLT, Int.reduceLE, reduceCtorEq]) (by simp (disch := omega) only [go_sem, ↓reduceIte, Int.reduceToNat, Nat.reduceEqDiff, Nat.reduceAdd, Nat.reduceMul, Nat.reduceSub, Nat.reducePow, Nat.reduceLT, Nat.reduceLeDiff, Int.reduceNeg, Int.reduceEq, Int.reduceLT, Int.reduceLE, reduceCtorEq]) ⟨?_, rfl, rfl⟩
                exact hfin ((xm * 2 ^ kk : Nat) : Int) (by rw [eM])
              · have eE : flE rm re = (bl rm : Int) + re - 53 := by unfold flE flLow; rw [if_neg (by omega)]
                simp (disch := omega) only [go_sem, ↓reduceIte, Int.reduceToNat, Nat.reduceEqDiff, Nat.reduceAdd, Nat.reduceMul, Nat.reduceSub, Nat.reducePow, Nat.reduceLT, Nat.reduceLeDiff, Int.reduceNeg, Int.reduceEq, Int.reduceLT, Int.reduceLE, reduceCtorEq, h7]
                rw [eE] at ek hfin
                try rw [← et2] at hfin
                refine draw_of rfl [⟨0, [], []⟩, ⟨1, [], []⟩, ⟨2, [], []⟩, ⟨3, [2], []⟩, ⟨4, [2], []⟩, ⟨5, [2], []⟩, ⟨6, [2, 5], []⟩, ⟨7, [2, 5], []⟩, ⟨8, [2, 5, 7], []⟩, ⟨9, [2, 5], []⟩, ⟨12, [2, 5, 7], []⟩, ⟨14, [2, 5, 7], []⟩, ⟨10, [2], []⟩, ⟨11, [2], []⟩, ⟨13, [], []⟩, ⟨15, [], []⟩, ⟨16, [], []⟩] (by kernel_rfl) ?_
                simp (disch := omega) only [go_sem, ↓reduceIte, Int.reduceToNat, Nat.reduceEqDiff, Nat.reduceAdd, Nat.reduceMul, Nat.reduceSub, Nat.reducePow, Nat.reduceLT, Nat.reduceLeDiff, Int.reduceNeg, Int.reduceEq, Int.reduceLT, Int.reduceLE, reduceCtorEq]
                refine call_open (con_l2shlF xm kk (by omega) (by omega)) (by simp (disch := omega) only [go_sem, ↓reduceIte, Int.reduceToNat, Nat.reduceEqDiff, Nat.reduceAdd, Nat.reduceMul, Nat.reduceSub, Nat.reducePow, Nat.reduceLT, Nat.reduceLeDiff, Int.reduceNeg, Int.reduceEq, Int.reduceLT, Int.reduceLE, reduceCtorEq, ek, et2]) ?_
                rintro r hs ⟨rfl, rfl, _⟩
                refine ⟨by simp [freeN], ?_⟩
                simp (disch := omega) only [go_sem, ↓reduceIte, Int.reduceToNat, Nat.reduceEqDiff, Nat.reduceAdd, Nat.reduceMul, Nat.reduceSub, Nat.reducePow, Nat.reduceLT, Nat.reduceLeDiff, Int.reduceNeg, Int.reduceEq, Int.reduceLT, Int.reduceLE, reduceCtorEq]
                refine call_closed (con_l2int (xm * 2 ^ kk) (by rw [eM]; omega)) (by simp (disch := omega) only [go_sem, ↓reduceIte, Int.reduceToNat, Nat.reduceEqDiff, Nat.reduceAdd, Nat.reduceMul, Nat.reduceSub, Nat.reducePow, Nat.reduceLT, Nat.reduceLeDiff, Int.reduceNeg, Int.reduceEq, Int.reduceLT, Int.reduceLE, reduceCtorEq]) ?_
                rintro r hs ⟨rfl, rfl, _⟩
                refine ⟨by simp [freeN], ?_⟩
                simp (disch := omega) only [go_sem, ↓reduceIte, Int.reduceToNat, Nat.reduceEqDiff, Nat.reduceAdd, Nat.reduceMul, Nat.reduceSub, Nat.reducePow, Nat.reduceLT, Nat.reduceLeDiff, Int.reduceNeg, Int.reduceEq, Int.reduceLT, Int.reduceLE, reduceCtorEq]
                refine fin_valc (by simp (disch := omega) only [go_sem, ↓reduceIte, Int.reduceToNat, Nat.reduceEqDiff, Nat.reduceAdd, Nat.reduceMul, Nat.reduceSub, Nat.reducePow, Nat.reduceLT, Nat.reduceLeDiff, Int.reduceNeg, Int.reduceEq, Int.reduceLT, Int.reduceLE, reduceCtorEq]) (by simp (disch := omega) only [go_sem, ↓reduceIte, Int.reduceToNat, Nat.reduceEqDiff, Nat.reduceAdd, Nat.reduceMul, Nat.reduceSub, Nat.reducePow, Nat.reduceLT, Nat.reduceLeDiff, Int.reduceNeg, Int.reduceEq, Int.reduceLT, Int.reduceLE, reduceCtorEq]) ⟨?_, rfl, rfl⟩
                exact hfin ((xm * 2 ^ kk : Nat) : Int) (by rw [eM])
        · have hfl : flFlags (bl m + e) same = 1 := by unfold flFlags; rw [h3, if_neg (by simp), if_neg (by omega)]
          have e5 := (rfl : (0 : Nat) = 0)
          simp (disch := omega) only [go_sem, ↓reduceIte, Int.reduceToNat, Nat.reduceEqDiff, Nat.reduceAdd, Nat.reduceMul, Nat.reduceSub, Nat.reducePow, Nat.reduceLT, Nat.reduceLeDiff, Int.reduceNeg, Int.reduceEq, Int.reduceLT, Int.reduceLE, reduceCtorEq, h4]
          refine ifW_dec (fun h5 => ?_) (fun h5 => ?_)
          · have hr0 : rm = 0 := hxm0.1 h5
            simp (disch := omega) only [go_sem, ↓reduceIte, Int.reduceToNat, Nat.reduceEqDiff, Nat.reduceAdd, Nat.reduceMul, Nat.reduceSub, Nat.reducePow, Nat.reduceLT, Nat.reduceLeDiff, Int.reduceNeg, Int.reduceEq, Int.reduceLT, Int.reduceLE, reduceCtorEq, h5]
            refine fin_valc (by simp (disch := omega) only [go_sem, ↓reduceIte, Int.reduceToNat, Nat.reduceEqDiff, Nat.reduceAdd, Nat.reduceMul, Nat.reduceSub, Nat.reducePow, Nat.reduceLT, Nat.reduceLeDiff, Int.reduceNeg, Int.reduceEq, Int.reduceLT, Int.reduceLE, reduceCtorEq]) (by simp (disch := omega) only [go_sem, ↓reduceIte, Int.reduceToNat, Nat.reduceEqDiff, Nat.reduceAdd, Nat.reduceMul, Nat.reduceSub, Nat.reducePow, Nat.reduceLT, Nat.reduceLeDiff, Int.reduceNeg, Int.reduceEq, Int.reduceLT, Int.reduceLE, reduceCtorEq]) ⟨?_, rfl, rfl⟩
            refine hVG 0 0 0 1 (by simp [flK, hr0]) (by simp [flMm, hr0]) (by simp [flEe, hr0]) (by simp [flFl, hr0, hfl])
          · have hr0 : rm ≠ 0 := fun e => h5 (hxm0.2 e)
            have et2 := etop2 hr0
            have hxs : xs = s := q3 hr0
            have hff := hform hr0
            have hM := flM_lt hr0 hff
            simp (disch := omega) only [go_sem, ↓reduceIte, Int.reduceToNat, Nat.reduceEqDiff, Nat.reduceAdd, Nat.reduceMul, Nat.reduceSub, Nat.reducePow, Nat.reduceLT, Nat.reduceLeDiff, Int.reduceNeg, Int.reduceEq, Int.reduceLT, Int.reduceLE, reduceCtorEq, h5]
            refine call_closed (con_l4top xs xm xe (by omega) (by omega)) (by simp (disch := omega) only [go_sem, ↓reduceIte, Int.reduceToNat, Nat.reduceEqDiff, Nat.reduceAdd, Nat.reduceMul, Nat.reduceSub, Nat.reducePow, Nat.reduceLT, Nat.reduceLeDiff, Int.reduceNeg, Int.reduceEq, Int.reduceLT, Int.reduceLE, reduceCtorEq, et2]) ?_
            rintro r hs ⟨rfl, rfl, _⟩
            refine ⟨by simp [freeN], ?_⟩
            simp (disch := omega) only [go_sem, ↓reduceIte, Int.reduceToNat, Nat.reduceEqDiff, Nat.reduceAdd, Nat.reduceMul, Nat.reduceSub, Nat.reducePow, Nat.reduceLT, Nat.reduceLeDiff, Int.reduceNeg, Int.reduceEq, Int.reduceLT, Int.reduceLE, reduceCtorEq]
            simp (disch := omega) only [go_sem, ↓reduceIte, Int.reduceToNat, Nat.reduceEqDiff, Nat.reduceAdd, Nat.reduceMul, Nat.reduceSub, Nat.reducePow, Nat.reduceLT, Nat.reduceLeDiff, Int.reduceNeg, Int.reduceEq, Int.reduceLT, Int.reduceLE, reduceCtorEq, et2]
            refine ifW_dec (fun h6 => ?_) (fun h6 => ?_)
            · have hov : ∀ (k mm ee : Int), k = (if ovB s mode then 1 else 2) → mm = (if ovB s mode then 9007199254740991 else 0) → ee = (if ovB s mode then 971 else 0) → AV.tu [.ag [.v (.int .i64 k), .v (.bool s), .v (.int .i64 mm), .v (.int .i64 ee)], .v (.int .i64 3)] = .tu [.ag [.v (.int .i64 ((flV s m e mode z).k)), .v (.bool ((flV s m e mode z).s)), .v (.int .i64 ((flV s m e mode z).m)), .v (.int .i64 ((flV s m e mode z).e))], .v (.int .i64 (flG s m e mode))] := by
                rintro k mm ee rfl rfl rfl
                exact hVG _ _ _ 3 (by unfold flK; rw [if_neg hr0, if_pos h6]) (by unfold flMm; rw [if_neg hr0, if_pos h6]) (by unfold flEe; rw [if_neg hr0, if_pos h6]) (by unfold flFl; rw [if_pos ⟨hr0, h6⟩])
              clear hVG hform hrm hrx q3 hxs et2 hfl
              obtain rfl | rfl | rfl | rfl | rfl : mode = 0 ∨ mode = 1 ∨ mode = 2 ∨ mode = 3 ∨ mode = 4 := by omega
              · cases s
                · simp (disch := omega) only [go_sem, ↓reduceIte, Int.reduceToNat, Nat.reduceEqDiff, Nat.reduceAdd, Nat.reduceMul, Nat.reduceSub, Nat.reducePow, Nat.reduceLT, Nat.reduceLeDiff, Int.reduceNeg, Int.reduceEq, Int.reduceLT, Int.reduceLE, reduceCtorEq, h6]
                  refine fin_valc (by simp (disch := omega) only [go_sem, ↓reduceIte, Int.reduceToNat, Nat.reduceEqDiff, Nat.reduceAdd, Nat.reduceMul, Nat.reduceSub, Nat.reducePow, Nat.reduceLT, Nat.reduceLeDiff, Int.reduceNeg, Int.reduceEq, Int.reduceLT, Int.reduceLE, reduceCtorEq]) (by simp (disch := omega) only [go_sem, ↓reduceIte, Int.reduceToNat, Nat.reduceEqDiff, Nat.reduceAdd, Nat.reduceMul, Nat.reduceSub, Nat.reducePow, Nat.reduceLT, Nat.reduceLeDiff, Int.reduceNeg, Int.reduceEq, Int.reduceLT, Int.reduceLE, reduceCtorEq]) ⟨?_, rfl, rfl⟩
                  exact hov _ _ _ rfl rfl rfl
                · simp (disch := omega) only [go_sem, ↓reduceIte, Int.reduceToNat, Nat.reduceEqDiff, Nat.reduceAdd, Nat.reduceMul, Nat.reduceSub, Nat.reducePow, Nat.reduceLT, Nat.reduceLeDiff, Int.reduceNeg, Int.reduceEq, Int.reduceLT, Int.reduceLE, reduceCtorEq, h6]
                  refine fin_valc (by simp (disch := omega) only [go_sem, ↓reduceIte, Int.reduceToNat, Nat.reduceEqDiff, Nat.reduceAdd, Nat.reduceMul, Nat.reduceSub, Nat.reducePow, Nat.reduceLT, Nat.reduceLeDiff, Int.reduceNeg, Int.reduceEq, Int.reduceLT, Int.reduceLE, reduceCtorEq]) (by simp (disch := omega) only [go_sem, ↓reduceIte, Int.reduceToNat, Nat.reduceEqDiff, Nat.reduceAdd, Nat.reduceMul, Nat.reduceSub, Nat.reducePow, Nat.reduceLT, Nat.reduceLeDiff, Int.reduceNeg, Int.reduceEq, Int.reduceLT, Int.reduceLE, reduceCtorEq]) ⟨?_, rfl, rfl⟩
                  exact hov _ _ _ rfl rfl rfl
              · cases s
                · simp (disch := omega) only [go_sem, ↓reduceIte, Int.reduceToNat, Nat.reduceEqDiff, Nat.reduceAdd, Nat.reduceMul, Nat.reduceSub, Nat.reducePow, Nat.reduceLT, Nat.reduceLeDiff, Int.reduceNeg, Int.reduceEq, Int.reduceLT, Int.reduceLE, reduceCtorEq, h6]
                  refine call_closed (con_l5most false) (by simp (disch := omega) only [go_sem, ↓reduceIte, Int.reduceToNat, Nat.reduceEqDiff, Nat.reduceAdd, Nat.reduceMul, Nat.reduceSub, Nat.reducePow, Nat.reduceLT, Nat.reduceLeDiff, Int.reduceNeg, Int.reduceEq, Int.reduceLT, Int.reduceLE, reduceCtorEq]) ?_
                  rintro r hs ⟨rfl, rfl, _⟩
                  refine ⟨by simp [freeN], ?_⟩
                  simp (disch := omega) only [go_sem, ↓reduceIte, Int.reduceToNat, Nat.reduceEqDiff, Nat.reduceAdd, Nat.reduceMul, Nat.reduceSub, Nat.reducePow, Nat.reduceLT, Nat.reduceLeDiff, Int.reduceNeg, Int.reduceEq, Int.reduceLT, Int.reduceLE, reduceCtorEq]
                  refine fin_valc (by simp (disch := omega) only [go_sem, ↓reduceIte, Int.reduceToNat, Nat.reduceEqDiff, Nat.reduceAdd, Nat.reduceMul, Nat.reduceSub, Nat.reducePow, Nat.reduceLT, Nat.reduceLeDiff, Int.reduceNeg, Int.reduceEq, Int.reduceLT, Int.reduceLE, reduceCtorEq]) (by simp (disch := omega) only [go_sem, ↓reduceIte, Int.reduceToNat, Nat.reduceEqDiff, Nat.reduceAdd, Nat.reduceMul, Nat.reduceSub, Nat.reducePow, Nat.reduceLT, Nat.reduceLeDiff, Int.reduceNeg, Int.reduceEq, Int.reduceLT, Int.reduceLE, reduceCtorEq]) ⟨?_, rfl, rfl⟩
                  exact hov _ _ _ rfl rfl rfl
                · simp (disch := omega) only [go_sem, ↓reduceIte, Int.reduceToNat, Nat.reduceEqDiff, Nat.reduceAdd, Nat.reduceMul, Nat.reduceSub, Nat.reducePow, Nat.reduceLT, Nat.reduceLeDiff, Int.reduceNeg, Int.reduceEq, Int.reduceLT, Int.reduceLE, reduceCtorEq, h6]
                  refine call_closed (con_l5most true) (by simp (disch := omega) only [go_sem, ↓reduceIte, Int.reduceToNat, Nat.reduceEqDiff, Nat.reduceAdd, Nat.reduceMul, Nat.reduceSub, Nat.reducePow, Nat.reduceLT, Nat.reduceLeDiff, Int.reduceNeg, Int.reduceEq, Int.reduceLT, Int.reduceLE, reduceCtorEq]) ?_
                  rintro r hs ⟨rfl, rfl, _⟩
                  refine ⟨by simp [freeN], ?_⟩
                  simp (disch := omega) only [go_sem, ↓reduceIte, Int.reduceToNat, Nat.reduceEqDiff, Nat.reduceAdd, Nat.reduceMul, Nat.reduceSub, Nat.reducePow, Nat.reduceLT, Nat.reduceLeDiff, Int.reduceNeg, Int.reduceEq, Int.reduceLT, Int.reduceLE, reduceCtorEq]
                  refine fin_valc (by simp (disch := omega) only [go_sem, ↓reduceIte, Int.reduceToNat, Nat.reduceEqDiff, Nat.reduceAdd, Nat.reduceMul, Nat.reduceSub, Nat.reducePow, Nat.reduceLT, Nat.reduceLeDiff, Int.reduceNeg, Int.reduceEq, Int.reduceLT, Int.reduceLE, reduceCtorEq]) (by simp (disch := omega) only [go_sem, ↓reduceIte, Int.reduceToNat, Nat.reduceEqDiff, Nat.reduceAdd, Nat.reduceMul, Nat.reduceSub, Nat.reducePow, Nat.reduceLT, Nat.reduceLeDiff, Int.reduceNeg, Int.reduceEq, Int.reduceLT, Int.reduceLE, reduceCtorEq]) ⟨?_, rfl, rfl⟩
                  exact hov _ _ _ rfl rfl rfl
              · cases s
                · simp (disch := omega) only [go_sem, ↓reduceIte, Int.reduceToNat, Nat.reduceEqDiff, Nat.reduceAdd, Nat.reduceMul, Nat.reduceSub, Nat.reducePow, Nat.reduceLT, Nat.reduceLeDiff, Int.reduceNeg, Int.reduceEq, Int.reduceLT, Int.reduceLE, reduceCtorEq, h6]
                  refine fin_valc (by simp (disch := omega) only [go_sem, ↓reduceIte, Int.reduceToNat, Nat.reduceEqDiff, Nat.reduceAdd, Nat.reduceMul, Nat.reduceSub, Nat.reducePow, Nat.reduceLT, Nat.reduceLeDiff, Int.reduceNeg, Int.reduceEq, Int.reduceLT, Int.reduceLE, reduceCtorEq]) (by simp (disch := omega) only [go_sem, ↓reduceIte, Int.reduceToNat, Nat.reduceEqDiff, Nat.reduceAdd, Nat.reduceMul, Nat.reduceSub, Nat.reducePow, Nat.reduceLT, Nat.reduceLeDiff, Int.reduceNeg, Int.reduceEq, Int.reduceLT, Int.reduceLE, reduceCtorEq]) ⟨?_, rfl, rfl⟩
                  exact hov _ _ _ rfl rfl rfl
                · simp (disch := omega) only [go_sem, ↓reduceIte, Int.reduceToNat, Nat.reduceEqDiff, Nat.reduceAdd, Nat.reduceMul, Nat.reduceSub, Nat.reducePow, Nat.reduceLT, Nat.reduceLeDiff, Int.reduceNeg, Int.reduceEq, Int.reduceLT, Int.reduceLE, reduceCtorEq, h6]
                  refine call_closed (con_l5most true) (by simp (disch := omega) only [go_sem, ↓reduceIte, Int.reduceToNat, Nat.reduceEqDiff, Nat.reduceAdd, Nat.reduceMul, Nat.reduceSub, Nat.reducePow, Nat.reduceLT, Nat.reduceLeDiff, Int.reduceNeg, Int.reduceEq, Int.reduceLT, Int.reduceLE, reduceCtorEq]) ?_
                  rintro r hs ⟨rfl, rfl, _⟩
                  refine ⟨by simp [freeN], ?_⟩
                  simp (disch := omega) only [go_sem, ↓reduceIte, Int.reduceToNat, Nat.reduceEqDiff, Nat.reduceAdd, Nat.reduceMul, Nat.reduceSub, Nat.reducePow, Nat.reduceLT, Nat.reduceLeDiff, Int.reduceNeg, Int.reduceEq, Int.reduceLT, Int.reduceLE, reduceCtorEq]
                  refine fin_valc (by simp (disch := omega) only [go_sem, ↓reduceIte, Int.reduceToNat, Nat.reduceEqDiff, Nat.reduceAdd, Nat.reduceMul, Nat.reduceSub, Nat.reducePow, Nat.reduceLT, Nat.reduceLeDiff, Int.reduceNeg, Int.reduceEq, Int.reduceLT, Int.reduceLE, reduceCtorEq]) (by simp (disch := omega) only [go_sem, ↓reduceIte, Int.reduceToNat, Nat.reduceEqDiff, Nat.reduceAdd, Nat.reduceMul, Nat.reduceSub, Nat.reducePow, Nat.reduceLT, Nat.reduceLeDiff, Int.reduceNeg, Int.reduceEq, Int.reduceLT, Int.reduceLE, reduceCtorEq]) ⟨?_, rfl, rfl⟩
                  exact hov _ _ _ rfl rfl rfl
              · cases s
                · simp (disch := omega) only [go_sem, ↓reduceIte, Int.reduceToNat, Nat.reduceEqDiff, Nat.reduceAdd, Nat.reduceMul, Nat.reduceSub, Nat.reducePow, Nat.reduceLT, Nat.reduceLeDiff, Int.reduceNeg, Int.reduceEq, Int.reduceLT, Int.reduceLE, reduceCtorEq, h6]
                  refine call_closed (con_l5most false) (by simp (disch := omega) only [go_sem, ↓reduceIte, Int.reduceToNat, Nat.reduceEqDiff, Nat.reduceAdd, Nat.reduceMul, Nat.reduceSub, Nat.reducePow, Nat.reduceLT, Nat.reduceLeDiff, Int.reduceNeg, Int.reduceEq, Int.reduceLT, Int.reduceLE, reduceCtorEq]) ?_
                  rintro r hs ⟨rfl, rfl, _⟩
                  refine ⟨by simp [freeN], ?_⟩
                  simp (disch := omega) only [go_sem, ↓reduceIte, Int.reduceToNat, Nat.reduceEqDiff, Nat.reduceAdd, Nat.reduceMul, Nat.reduceSub, Nat.reducePow, Nat.reduceLT, Nat.reduceLeDiff, Int.reduceNeg, Int.reduceEq, Int.reduceLT, Int.reduceLE, reduceCtorEq]
                  refine fin_valc (by simp (disch := omega) only [go_sem, ↓reduceIte, Int.reduceToNat, Nat.reduceEqDiff, Nat.reduceAdd, Nat.reduceMul, Nat.reduceSub, Nat.reducePow, Nat.reduceLT, Nat.reduceLeDiff, Int.reduceNeg, Int.reduceEq, Int.reduceLT, Int.reduceLE, reduceCtorEq]) (by simp (disch := omega) only [go_sem, ↓reduceIte, Int.reduceToNat, Nat.reduceEqDiff, Nat.reduceAdd, Nat.reduceMul, Nat.reduceSub, Nat.reducePow, Nat.reduceLT, Nat.reduceLeDiff, Int.reduceNeg, Int.reduceEq, Int.reduceLT, Int.reduceLE, reduceCtorEq]) ⟨?_, rfl, rfl⟩
                  exact hov _ _ _ rfl rfl rfl
                · simp (disch := omega) only [go_sem, ↓reduceIte, Int.reduceToNat, Nat.reduceEqDiff, Nat.reduceAdd, Nat.reduceMul, Nat.reduceSub, Nat.reducePow, Nat.reduceLT, Nat.reduceLeDiff, Int.reduceNeg, Int.reduceEq, Int.reduceLT, Int.reduceLE, reduceCtorEq, h6]
                  refine fin_valc (by simp (disch := omega) only [go_sem, ↓reduceIte, Int.reduceToNat, Nat.reduceEqDiff, Nat.reduceAdd, Nat.reduceMul, Nat.reduceSub, Nat.reducePow, Nat.reduceLT, Nat.reduceLeDiff, Int.reduceNeg, Int.reduceEq, Int.reduceLT, Int.reduceLE, reduceCtorEq]) (by simp (disch := omega) only [go_sem, ↓reduceIte, Int.reduceToNat, Nat.reduceEqDiff, Nat.reduceAdd, Nat.reduceMul, Nat.reduceSub, Nat.reducePow, Nat.reduceLT, Nat.reduceLeDiff, Int.reduceNeg, Int.reduceEq, Int.reduceLT, Int.reduceLE, reduceCtorEq]) ⟨?_, rfl, rfl⟩
                  exact hov _ _ _ rfl rfl rfl
              · cases s
                · simp (disch := omega) only [go_sem, ↓reduceIte, Int.reduceToNat, Nat.reduceEqDiff, Nat.reduceAdd, Nat.reduceMul, Nat.reduceSub, Nat.reducePow, Nat.reduceLT, Nat.reduceLeDiff, Int.reduceNeg, Int.reduceEq, Int.reduceLT, Int.reduceLE, reduceCtorEq, h6]
                  refine fin_valc (by simp (disch := omega) only [go_sem, ↓reduceIte, Int.reduceToNat, Nat.reduceEqDiff, Nat.reduceAdd, Nat.reduceMul, Nat.reduceSub, Nat.reducePow, Nat.reduceLT, Nat.reduceLeDiff, Int.reduceNeg, Int.reduceEq, Int.reduceLT, Int.reduceLE, reduceCtorEq]) (by simp (disch := omega) only [go_sem, ↓reduceIte, Int.reduceToNat, Nat.reduceEqDiff, Nat.reduceAdd, Nat.reduceMul, Nat.reduceSub, Nat.reducePow, Nat.reduceLT, Nat.reduceLeDiff, Int.reduceNeg, Int.reduceEq, Int.reduceLT, Int.reduceLE, reduceCtorEq]) ⟨?_, rfl, rfl⟩
                  exact hov _ _ _ rfl rfl rfl
                · simp (disch := omega) only [go_sem, ↓reduceIte, Int.reduceToNat, Nat.reduceEqDiff, Nat.reduceAdd, Nat.reduceMul, Nat.reduceSub, Nat.reducePow, Nat.reduceLT, Nat.reduceLeDiff, Int.reduceNeg, Int.reduceEq, Int.reduceLT, Int.reduceLE, reduceCtorEq, h6]
                  refine fin_valc (by simp (disch := omega) only [go_sem, ↓reduceIte, Int.reduceToNat, Nat.reduceEqDiff, Nat.reduceAdd, Nat.reduceMul, Nat.reduceSub, Nat.reducePow, Nat.reduceLT, Nat.reduceLeDiff, Int.reduceNeg, Int.reduceEq, Int.reduceLT, Int.reduceLE, reduceCtorEq]) (by simp (disch := omega) only [go_sem, ↓reduceIte, Int.reduceToNat, Nat.reduceEqDiff, Nat.reduceAdd, Nat.reduceMul, Nat.reduceSub, Nat.reducePow, Nat.reduceLT, Nat.reduceLeDiff, Int.reduceNeg, Int.reduceEq, Int.reduceLT, Int.reduceLE, reduceCtorEq]) ⟨?_, rfl, rfl⟩
                  exact hov _ _ _ rfl rfl rfl
            · simp (disch := omega) only [go_sem, ↓reduceIte, Int.reduceToNat, Nat.reduceEqDiff, Nat.reduceAdd, Nat.reduceMul, Nat.reduceSub, Nat.reducePow, Nat.reduceLT, Nat.reduceLeDiff, Int.reduceNeg, Int.reduceEq, Int.reduceLT, Int.reduceLE, reduceCtorEq, h6]
              refine call_closed (con_l4top xs xm xe (by omega) (by omega)) (by simp (disch := omega) only [go_sem, ↓reduceIte, Int.reduceToNat, Nat.reduceEqDiff, Nat.reduceAdd, Nat.reduceMul, Nat.reduceSub, Nat.reducePow, Nat.reduceLT, Nat.reduceLeDiff, Int.reduceNeg, Int.reduceEq, Int.reduceLT, Int.reduceLE, reduceCtorEq, et2]) ?_
              rintro r hs ⟨rfl, rfl, _⟩
              refine ⟨by simp [freeN], ?_⟩
              simp (disch := omega) only [go_sem, ↓reduceIte, Int.reduceToNat, Nat.reduceEqDiff, Nat.reduceAdd, Nat.reduceMul, Nat.reduceSub, Nat.reducePow, Nat.reduceLT, Nat.reduceLeDiff, Int.reduceNeg, Int.reduceEq, Int.reduceLT, Int.reduceLE, reduceCtorEq]
              simp (disch := omega) only [go_sem, ↓reduceIte, Int.reduceToNat, Nat.reduceEqDiff, Nat.reduceAdd, Nat.reduceMul, Nat.reduceSub, Nat.reducePow, Nat.reduceLT, Nat.reduceLeDiff, Int.reduceNeg, Int.reduceEq, Int.reduceLT, Int.reduceLE, reduceCtorEq, et2]
              have hfin : ∀ mm : Int, mm = (flM rm re : Int) → AV.tu [.ag [.v (.int .i64 1), .v (.bool xs), .v (.int .i64 mm), .v (.int .i64 (flE rm re))], .v (.int .i64 1)] = .tu [.ag [.v (.int .i64 ((flV s m e mode z).k)), .v (.bool ((flV s m e mode z).s)), .v (.int .i64 ((flV s m e mode z).m)), .v (.int .i64 ((flV s m e mode z).e))], .v (.int .i64 (flG s m e mode))] := by
                rintro mm rfl
                rw [hxs]
                exact hVG 1 _ _ 1 (by unfold flK; rw [if_neg hr0, if_neg (by omega)]) (by unfold flMm; rw [if_neg hr0, if_neg (by omega)]) (by unfold flEe; rw [if_neg hr0, if_neg (by omega)]) (by unfold flFl; rw [if_neg (by omega), hfl])
              have ek : xe - flE rm re = (((oE rm re - flE rm re).toNat : Nat) : Int) := by omega
              have hk9 : (oE rm re - flE rm re).toNat ≤ 53 := by have h9 := hM; unfold flM at h9; rw [bl_mul_pow (fun e => hr0 (oM_eq_zero.1 e))] at h9; omega
              have hM6 : flM rm re < 2 ^ 53 := Nat.lt_of_lt_of_le (bl_lt _) (Nat.pow_le_pow_right (by omega) hM)
              have eM : xm * 2 ^ (oE rm re - flE rm re).toNat = flM rm re := by rw [q1]; rfl
              generalize hkk : (oE rm re - flE rm re).toNat = kk at *
              refine ifW_dec (fun h7 => ?_) (fun h7 => ?_)
              · have eE : flE rm re = -1074 := by unfold flE flLow; rw [if_pos (by omega)]
                simp (disch := omega) only [go_sem, ↓reduceIte, Int.reduceToNat, Nat.reduceEqDiff, Nat.reduceAdd, Nat.reduceMul, Nat.reduceSub, Nat.reducePow, Nat.reduceLT, Nat.reduceLeDiff, Int.reduceNeg, Int.reduceEq, Int.reduceLT, Int.reduceLE, reduceCtorEq, h7]
                rw [eE] at ek hfin
                try rw [← et2] at hfin
                refine draw_of rfl [⟨0, [], []⟩, ⟨1, [], []⟩, ⟨2, [], []⟩, ⟨3, [2], []⟩, ⟨4, [2], []⟩, ⟨5, [2], []⟩, ⟨6, [2, 5], []⟩, ⟨7, [2, 5], []⟩, ⟨8, [2, 5, 7], []⟩, ⟨9, [2, 5], []⟩, ⟨12, [2, 5, 7], []⟩, ⟨14, [2, 5, 7], []⟩, ⟨10, [2], []⟩, ⟨11, [2], []⟩, ⟨13, [], []⟩, ⟨15, [], []⟩, ⟨16, [], []⟩] (by kernel_rfl) ?_
                simp (disch := omega) only [go_sem, ↓reduceIte, Int.reduceToNat, Nat.reduceEqDiff, Nat.reduceAdd, Nat.reduceMul, Nat.reduceSub, Nat.reducePow, Nat.reduceLT, Nat.reduceLeDiff, Int.reduceNeg, Int.reduceEq, Int.reduceLT, Int.reduceLE, reduceCtorEq]
                refine call_open (con_l2shlF xm kk (by omega) (by omega)) (by simp (disch := omega) only [go_sem, ↓reduceIte, Int.reduceToNat, Nat.reduceEqDiff, Nat.reduceAdd, Nat.reduceMul, Nat.reduceSub, Nat.reducePow, Nat.reduceLT, Nat.reduceLeDiff, Int.reduceNeg, Int.reduceEq, Int.reduceLT, Int.reduceLE, reduceCtorEq, ek, et2]) ?_
                rintro r hs ⟨rfl, rfl, _⟩
                refine ⟨by simp [freeN], ?_⟩
                simp (disch := omega) only [go_sem, ↓reduceIte, Int.reduceToNat, Nat.reduceEqDiff, Nat.reduceAdd, Nat.reduceMul, Nat.reduceSub, Nat.reducePow, Nat.reduceLT, Nat.reduceLeDiff, Int.reduceNeg, Int.reduceEq, Int.reduceLT, Int.reduceLE, reduceCtorEq]
                refine call_closed (con_l2int (xm * 2 ^ kk) (by rw [eM]; omega)) (by simp (disch := omega) only [go_sem, ↓reduceIte, Int.reduceToNat, Nat.reduceEqDiff, Nat.reduceAdd, Nat.reduceMul, Nat.reduceSub, Nat.reducePow, Nat.reduceLT, Nat.reduceLeDiff, Int.reduceNeg, Int.reduceEq, Int.reduceLT, Int.reduceLE, reduceCtorEq]) ?_
                rintro r hs ⟨rfl, rfl, _⟩
                refine ⟨by simp [freeN], ?_⟩
                simp (disch := omega) only [go_sem, ↓reduceIte, Int.reduceToNat, Nat.reduceEqDiff, Nat.reduceAdd, Nat.reduceMul, Nat.reduceSub, Nat.reducePow, Nat.reduceLT, Nat.reduceLeDiff, Int.reduceNeg, Int.reduceEq, Int.reduceLT, Int.reduceLE, reduceCtorEq]
                refine fin_valc (by simp (disch := omega) only [go_sem, ↓reduceIte, Int.reduceToNat, Nat.reduceEqDiff, Nat.reduceAdd, Nat.reduceMul, Nat.reduceSub, Nat.reducePow, Nat.reduceLT, Nat.reduceLeDiff, Int.reduceNeg, Int.reduceEq, Int.reduceLT, Int.reduceLE, reduceCtorEq]) (by simp (disch := omega) only [go_sem, ↓reduceIte, Int.reduceToNat, Nat.reduceEqDiff, Nat.reduceAdd, Nat.reduceMul, Nat.reduceSub, Nat.reducePow, Nat.reduceLT, Nat.reduceLeDiff, Int.reduceNeg, Int.reduceEq, Int.reduceLT, Int.reduceLE, reduceCtorEq]) ⟨?_, rfl, rfl⟩
                exact hfin ((xm * 2 ^ kk : Nat) : Int) (by rw [eM])
              · have eE : flE rm re = (bl rm : Int) + re - 53 := by unfold flE flLow; rw [if_neg (by omega)]
                simp (disch := omega) only [go_sem, ↓reduceIte, Int.reduceToNat, Nat.reduceEqDiff, Nat.reduceAdd, Nat.reduceMul, Nat.reduceSub, Nat.reducePow, Nat.reduceLT, Nat.reduceLeDiff, Int.reduceNeg, Int.reduceEq, Int.reduceLT, Int.reduceLE, reduceCtorEq, h7]
                rw [eE] at ek hfin
                try rw [← et2] at hfin
                refine draw_of rfl [⟨0, [], []⟩, ⟨1, [], []⟩, ⟨2, [], []⟩, ⟨3, [2], []⟩, ⟨4, [2], []⟩, ⟨5, [2], []⟩, ⟨6, [2, 5], []⟩, ⟨7, [2, 5], []⟩, ⟨8, [2, 5, 7], []⟩, ⟨9, [2, 5], []⟩, ⟨12, [2, 5, 7], []⟩, ⟨14, [2, 5, 7], []⟩, ⟨10, [2], []⟩, ⟨11, [2], []⟩, ⟨13, [], []⟩, ⟨15, [], []⟩, ⟨16, [], []⟩] (by kernel_rfl) ?_
                simp (disch := omega) only [go_sem, ↓reduceIte, Int.reduceToNat, Nat.reduceEqDiff, Nat.reduceAdd, Nat.reduceMul, Nat.reduceSub, Nat.reducePow, Nat.reduceLT, Nat.reduceLeDiff, Int.reduceNeg, Int.reduceEq, Int.reduceLT, Int.reduceLE, reduceCtorEq]
                refine call_open (con_l2shlF xm kk (by omega) (by omega)) (by simp (disch := omega) only [go_sem, ↓reduceIte, Int.reduceToNat, Nat.reduceEqDiff, Nat.reduceAdd, Nat.reduceMul, Nat.reduceSub, Nat.reducePow, Nat.reduceLT, Nat.reduceLeDiff, Int.reduceNeg, Int.reduceEq, Int.reduceLT, Int.reduceLE, reduceCtorEq, ek, et2]) ?_
                rintro r hs ⟨rfl, rfl, _⟩
                refine ⟨by simp [freeN], ?_⟩
                simp (disch := omega) only [go_sem, ↓reduceIte, Int.reduceToNat, Nat.reduceEqDiff, Nat.reduceAdd, Nat.reduceMul, Nat.reduceSub, Nat.reducePow, Nat.reduceLT, Nat.reduceLeDiff, Int.reduceNeg, Int.reduceEq, Int.reduceLT, Int.reduceLE, reduceCtorEq]
                refine call_closed (con_l2int (xm * 2 ^ kk) (by rw [eM]; omega)) (by simp (disch := omega) only [go_sem, ↓reduceIte, Int.reduceToNat, Nat.reduceEqDiff, Nat.reduceAdd, Nat.reduceMul, Nat.reduceSub, Nat.reducePow, Nat.reduceLT, Nat.reduceLeDiff, Int.reduceNeg, Int.reduceEq, Int.reduceLT, Int.reduceLE, reduceCtorEq]) ?_
                rintro r hs ⟨rfl, rfl, _⟩
                refine ⟨by simp [freeN], ?_⟩
                simp (disch := omega) only [go_sem, ↓reduceIte, Int.reduceToNat, Nat.reduceEqDiff, Nat.reduceAdd, Nat.reduceMul, Nat.reduceSub, Nat.reducePow, Nat.reduceLT, Nat.reduceLeDiff, Int.reduceNeg, Int.reduceEq, Int.reduceLT, Int.reduceLE, reduceCtorEq]
                refine fin_valc (by simp (disch := omega) only [go_sem, ↓reduceIte, Int.reduceToNat, Nat.reduceEqDiff, Nat.reduceAdd, Nat.reduceMul, Nat.reduceSub, Nat.reducePow, Nat.reduceLT, Nat.reduceLeDiff, Int.reduceNeg, Int.reduceEq, Int.reduceLT, Int.reduceLE, reduceCtorEq]) (by simp (disch := omega) only [go_sem, ↓reduceIte, Int.reduceToNat, Nat.reduceEqDiff, Nat.reduceAdd, Nat.reduceMul, Nat.reduceSub, Nat.reducePow, Nat.reduceLT, Nat.reduceLeDiff, Int.reduceNeg, Int.reduceEq, Int.reduceLT, Int.reduceLE, reduceCtorEq]) ⟨?_, rfl, rfl⟩
                exact hfin ((xm * 2 ^ kk : Nat) : Int) (by rw [eM])
      · have hfl : flFlags (bl m + e) same = 0 := by unfold flFlags; rw [h3, if_pos rfl]
        have e5 := (rfl : (0 : Nat) = 0)
        simp (disch := omega) only [go_sem, ↓reduceIte, Int.reduceToNat, Nat.reduceEqDiff, Nat.reduceAdd, Nat.reduceMul, Nat.reduceSub, Nat.reducePow, Nat.reduceLT, Nat.reduceLeDiff, Int.reduceNeg, Int.reduceEq, Int.reduceLT, Int.reduceLE, reduceCtorEq, h3]
        refine ifW_dec (fun h5 => ?_) (fun h5 => ?_)
        · have hr0 : rm = 0 := hxm0.1 h5
          simp (disch := omega) only [go_sem, ↓reduceIte, Int.reduceToNat, Nat.reduceEqDiff, Nat.reduceAdd, Nat.reduceMul, Nat.reduceSub, Nat.reducePow, Nat.reduceLT, Nat.reduceLeDiff, Int.reduceNeg, Int.reduceEq, Int.reduceLT, Int.reduceLE, reduceCtorEq, h5]
          refine fin_valc (by simp (disch := omega) only [go_sem, ↓reduceIte, Int.reduceToNat, Nat.reduceEqDiff, Nat.reduceAdd, Nat.reduceMul, Nat.reduceSub, Nat.reducePow, Nat.reduceLT, Nat.reduceLeDiff, Int.reduceNeg, Int.reduceEq, Int.reduceLT, Int.reduceLE, reduceCtorEq]) (by simp (disch := omega) only [go_sem, ↓reduceIte, Int.reduceToNat, Nat.reduceEqDiff, Nat.reduceAdd, Nat.reduceMul, Nat.reduceSub, Nat.reducePow, Nat.reduceLT, Nat.reduceLeDiff, Int.reduceNeg, Int.reduceEq, Int.reduceLT, Int.reduceLE, reduceCtorEq]) ⟨?_, rfl, rfl⟩
          refine hVG 0 0 0 0 (by simp [flK, hr0]) (by simp [flMm, hr0]) (by simp [flEe, hr0]) (by simp [flFl, hr0, hfl])
        · have hr0 : rm ≠ 0 := fun e => h5 (hxm0.2 e)
          have et2 := etop2 hr0
          have hxs : xs = s := q3 hr0
          have hff := hform hr0
          have hM := flM_lt hr0 hff
          simp (disch := omega) only [go_sem, ↓reduceIte, Int.reduceToNat, Nat.reduceEqDiff, Nat.reduceAdd, Nat.reduceMul, Nat.reduceSub, Nat.reducePow, Nat.reduceLT, Nat.reduceLeDiff, Int.reduceNeg, Int.reduceEq, Int.reduceLT, Int.reduceLE, reduceCtorEq, h5]
          refine call_closed (con_l4top xs xm xe (by omega) (by omega)) (by simp (disch := omega) only [go_sem, ↓reduceIte, Int.reduceToNat, Nat.reduceEqDiff, Nat.reduceAdd, Nat.reduceMul, Nat.reduceSub, Nat.reducePow, Nat.reduceLT, Nat.reduceLeDiff, Int.reduceNeg, Int.reduceEq, Int.reduceLT, Int.reduceLE, reduceCtorEq, et2]) ?_
          rintro r hs ⟨rfl, rfl, _⟩
          refine ⟨by simp [freeN], ?_⟩
          simp (disch := omega) only [go_sem, ↓reduceIte, Int.reduceToNat, Nat.reduceEqDiff, Nat.reduceAdd, Nat.reduceMul, Nat.reduceSub, Nat.reducePow, Nat.reduceLT, Nat.reduceLeDiff, Int.reduceNeg, Int.reduceEq, Int.reduceLT, Int.reduceLE, reduceCtorEq]
          simp (disch := omega) only [go_sem, ↓reduceIte, Int.reduceToNat, Nat.reduceEqDiff, Nat.reduceAdd, Nat.reduceMul, Nat.reduceSub, Nat.reducePow, Nat.reduceLT, Nat.reduceLeDiff, Int.reduceNeg, Int.reduceEq, Int.reduceLT, Int.reduceLE, reduceCtorEq, et2]
          refine ifW_dec (fun h6 => ?_) (fun h6 => ?_)
          · have hov : ∀ (k mm ee : Int), k = (if ovB s mode then 1 else 2) → mm = (if ovB s mode then 9007199254740991 else 0) → ee = (if ovB s mode then 971 else 0) → AV.tu [.ag [.v (.int .i64 k), .v (.bool s), .v (.int .i64 mm), .v (.int .i64 ee)], .v (.int .i64 3)] = .tu [.ag [.v (.int .i64 ((flV s m e mode z).k)), .v (.bool ((flV s m e mode z).s)), .v (.int .i64 ((flV s m e mode z).m)), .v (.int .i64 ((flV s m e mode z).e))], .v (.int .i64 (flG s m e mode))] := by
              rintro k mm ee rfl rfl rfl
              exact hVG _ _ _ 3 (by unfold flK; rw [if_neg hr0, if_pos h6]) (by unfold flMm; rw [if_neg hr0, if_pos h6]) (by unfold flEe; rw [if_neg hr0, if_pos h6]) (by unfold flFl; rw [if_pos ⟨hr0, h6⟩])
            clear hVG hform hrm hrx q3 hxs et2 hfl
            obtain rfl | rfl | rfl | rfl | rfl : mode = 0 ∨ mode = 1 ∨ mode = 2 ∨ mode = 3 ∨ mode = 4 := by omega
            · cases s
              · simp (disch := omega) only [go_sem, ↓reduceIte, Int.reduceToNat, Nat.reduceEqDiff, Nat.reduceAdd, Nat.reduceMul, Nat.reduceSub, Nat.reducePow, Nat.reduceLT, Nat.reduceLeDiff, Int.reduceNeg, Int.reduceEq, Int.reduceLT, Int.reduceLE, reduceCtorEq, h6]
                refine fin_valc (by simp (disch := omega) only [go_sem, ↓reduceIte, Int.reduceToNat, Nat.reduceEqDiff, Nat.reduceAdd, Nat.reduceMul, Nat.reduceSub, Nat.reducePow, Nat.reduceLT, Nat.reduceLeDiff, Int.reduceNeg, Int.reduceEq, Int.reduceLT, Int.reduceLE, reduceCtorEq]) (by simp (disch := omega) only [go_sem, ↓reduceIte, Int.reduceToNat, Nat.reduceEqDiff, Nat.reduceAdd, Nat.reduceMul, Nat.reduceSub, Nat.reducePow, Nat.reduceLT, Nat.reduceLeDiff, Int.reduceNeg, Int.reduceEq, Int.reduceLT, Int.reduceLE, reduceCtorEq]) ⟨?_, rfl, rfl⟩
                exact hov _ _ _ rfl rfl rfl
              · simp (disch := omega) only [go_sem, ↓reduceIte, Int.reduceToNat, Nat.reduceEqDiff, Nat.reduceAdd, Nat.reduceMul, Nat.reduceSub, Nat.reducePow, Nat.reduceLT, Nat.reduceLeDiff, Int.reduceNeg, Int.reduceEq, Int.reduceLT, Int.reduceLE, reduceCtorEq, h6]
                refine fin_valc (by simp (disch := omega) only [go_sem, ↓reduceIte, Int.reduceToNat, Nat.reduceEqDiff, Nat.reduceAdd, Nat.reduceMul, Nat.reduceSub, Nat.reducePow, Nat.reduceLT, Nat.reduceLeDiff, Int.reduceNeg, Int.reduceEq, Int.reduceLT, Int.reduceLE, reduceCtorEq]) (by simp (disch := omega) only [go_sem, ↓reduceIte, Int.reduceToNat, Nat.reduceEqDiff, Nat.reduceAdd, Nat.reduceMul, Nat.reduceSub, Nat.reducePow, Nat.reduceLT, Nat.reduceLeDiff, Int.reduceNeg, Int.reduceEq, Int.reduceLT, Int.reduceLE, reduceCtorEq]) ⟨?_, rfl, rfl⟩
                exact hov _ _ _ rfl rfl rfl
            · cases s
              · simp (disch := omega) only [go_sem, ↓reduceIte, Int.reduceToNat, Nat.reduceEqDiff, Nat.reduceAdd, Nat.reduceMul, Nat.reduceSub, Nat.reducePow, Nat.reduceLT, Nat.reduceLeDiff, Int.reduceNeg, Int.reduceEq, Int.reduceLT, Int.reduceLE, reduceCtorEq, h6]
                refine call_closed (con_l5most false) (by simp (disch := omega) only [go_sem, ↓reduceIte, Int.reduceToNat, Nat.reduceEqDiff, Nat.reduceAdd, Nat.reduceMul, Nat.reduceSub, Nat.reducePow, Nat.reduceLT, Nat.reduceLeDiff, Int.reduceNeg, Int.reduceEq, Int.reduceLT, Int.reduceLE, reduceCtorEq]) ?_
                rintro r hs ⟨rfl, rfl, _⟩
                refine ⟨by simp [freeN], ?_⟩
                simp (disch := omega) only [go_sem, ↓reduceIte, Int.reduceToNat, Nat.reduceEqDiff, Nat.reduceAdd, Nat.reduceMul, Nat.reduceSub, Nat.reducePow, Nat.reduceLT, Nat.reduceLeDiff, Int.reduceNeg, Int.reduceEq, Int.reduceLT, Int.reduceLE, reduceCtorEq]
                refine fin_valc (by simp (disch := omega) only [go_sem, ↓reduceIte, Int.reduceToNat, Nat.reduceEqDiff, Nat.reduceAdd, Nat.reduceMul, Nat.reduceSub, Nat.reducePow, Nat.reduceLT, Nat.reduceLeDiff, Int.reduceNeg, Int.reduceEq, Int.reduceLT, Int.reduceLE, reduceCtorEq]) (by simp (disch := omega) only [go_sem, ↓reduceIte, Int.reduceToNat, Nat.reduceEqDiff, Nat.reduceAdd, Nat.reduceMul, Nat.reduceSub, Nat.reducePow, Nat.reduceLT, Nat.reduceLeDiff, Int.reduceNeg, Int.reduceEq, Int.reduceLT, Int.reduceLE, reduceCtorEq]) ⟨?_, rfl, rfl⟩
                exact hov _ _ _ rfl rfl rfl
              · simp (disch := omega) only [go_sem, ↓reduceIte, Int.reduceToNat, Nat.reduceEqDiff, Nat.reduceAdd, Nat.reduceMul, Nat.reduceSub, Nat.reducePow, Nat.reduceLT, Nat.reduceLeDiff, Int.reduceNeg, Int.reduceEq, Int.reduceLT, Int.reduceLE, reduceCtorEq, h6]
                refine call_closed (con_l5most true) (by simp (disch := omega) only [go_sem, ↓reduceIte, Int.reduceToNat, Nat.reduceEqDiff, Nat.reduceAdd, Nat.reduceMul, Nat.reduceSub, Nat.reducePow, Nat.reduceLT, Nat.reduceLeDiff, Int.reduceNeg, Int.reduceEq, Int.reduceLT, Int.reduceLE, reduceCtorEq]) ?_
                rintro r hs ⟨rfl, rfl, _⟩
                refine ⟨by simp [freeN], ?_⟩
                simp (disch := omega) only [go_sem, ↓reduceIte, Int.reduceToNat, Nat.reduceEqDiff, Nat.reduceAdd, Nat.reduceMul, Nat.reduceSub, Nat.reducePow, Nat.reduceLT, Nat.reduceLeDiff, Int.reduceNeg, Int.reduceEq, Int.reduceLT, Int.reduceLE, reduceCtorEq]
                refine fin_valc (by simp (disch := omega) only [go_sem, ↓reduceIte, Int.reduceToNat, Nat.reduceEqDiff, Nat.reduceAdd, Nat.reduceMul, Nat.reduceSub, Nat.reducePow, Nat.reduceLT, Nat.reduceLeDiff, Int.reduceNeg, Int.reduceEq, Int.reduceLT, Int.reduceLE, reduceCtorEq]) (by simp (disch := omega) only [go_sem, ↓reduceIte, Int.reduceToNat, Nat.reduceEqDiff, Nat.reduceAdd, Nat.reduceMul, Nat.reduceSub, Nat.reducePow, Nat.reduceLT, Nat.reduceLeDiff, Int.reduceNeg, Int.reduceEq, Int.reduceLT, Int.reduceLE, reduceCtorEq]) ⟨?_, rfl, rfl⟩
                exact hov _ _ _ rfl rfl rfl
            · cases s
              · simp (disch := omega) only [go_sem, ↓reduceIte, Int.reduceToNat, Nat.reduceEqDiff, Nat.reduceAdd, Nat.reduceMul, Nat.reduceSub, Nat.reducePow, Nat.reduceLT, Nat.reduceLeDiff, Int.reduceNeg, Int.reduceEq, Int.reduceLT, Int.reduceLE, reduceCtorEq, h6]
                refine fin_valc (by simp (disch := omega) only [go_sem, ↓reduceIte, Int.reduceToNat, Nat.reduceEqDiff, Nat.reduceAdd, Nat.reduceMul, Nat.reduceSub, Nat.reducePow, Nat.reduceLT, Nat.reduceLeDiff, Int.reduceNeg, Int.reduceEq, Int.reduceLT, Int.reduceLE, reduceCtorEq]) (by simp (disch := omega) only [go_sem, ↓reduceIte, Int.reduceToNat, Nat.reduceEqDiff, Nat.reduceAdd, Nat.reduceMul, Nat.reduceSub, Nat.reducePow, Nat.reduceLT, Nat.reduceLeDiff, Int.reduceNeg, Int.reduceEq, Int.reduceLT, Int.reduceLE, reduceCtorEq]) ⟨?_, rfl, rfl⟩
                exact hov _ _ _ rfl rfl rfl
              · simp (disch := omega) only [go_sem, ↓reduceIte, Int.reduceToNat, Nat.reduceEqDiff, Nat.reduceAdd, Nat.reduceMul, Nat.reduceSub, Nat.reducePow, Nat.reduceLT, Nat.reduceLeDiff, Int.reduceNeg, Int.reduceEq, Int.reduceLT, Int.reduceLE, reduceCtorEq, h6]
                refine call_closed (con_l5most true) (by simp (disch := omega) only [go_sem, ↓reduceIte, Int.reduceToNat, Nat.reduceEqDiff, Nat.reduceAdd, Nat.reduceMul, Nat.reduceSub, Nat.reducePow, Nat.reduceLT, Nat.reduceLeDiff, Int.reduceNeg, Int.reduceEq, Int.reduceLT, Int.reduceLE, reduceCtorEq]) ?_
                rintro r hs ⟨rfl, rfl, _⟩
                refine ⟨by simp [freeN], ?_⟩
                simp (disch := omega) only [go_sem, ↓reduceIte, Int.reduceToNat, Nat.reduceEqDiff, Nat.reduceAdd, Nat.reduceMul, Nat.reduceSub, Nat.reducePow, Nat.reduceLT, Nat.reduceLeDiff, Int.reduceNeg, Int.reduceEq, Int.reduceLT, Int.reduceLE, reduceCtorEq]
                refine fin_valc (by simp (disch := omega) only [go_sem, ↓reduceIte, Int.reduceToNat, Nat.reduceEqDiff, Nat.reduceAdd, Nat.reduceMul, Nat.reduceSub, Nat.reducePow, Nat.reduceLT, Nat.reduceLeDiff, Int.reduceNeg, Int.reduceEq, Int.reduceLT, Int.reduceLE, reduceCtorEq]) (by simp (disch := omega) only [go_sem, ↓reduceIte, Int.reduceToNat, Nat.reduceEqDiff, Nat.reduceAdd, Nat.reduceMul, Nat.reduceSub, Nat.reducePow, Nat.reduceLT, Nat.reduceLeDiff, Int.reduceNeg, Int.reduceEq, Int.reduceLT, Int.reduceLE, reduceCtorEq]) ⟨?_, rfl, rfl⟩
                exact hov _ _ _ rfl rfl rfl
            · cases s
              · simp (disch := omega) only [go_sem, ↓reduceIte, Int.reduceToNat, Nat.reduceEqDiff, Nat.reduceAdd, Nat.reduceMul, Nat.reduceSub, Nat.reducePow, Nat.reduceLT, Nat.reduceLeDiff, Int.reduceNeg, Int.reduceEq, Int.reduceLT, Int.reduceLE, reduceCtorEq, h6]
                refine call_closed (con_l5most false) (by simp (disch := omega) only [go_sem, ↓reduceIte, Int.reduceToNat, Nat.reduceEqDiff, Nat.reduceAdd, Nat.reduceMul, Nat.reduceSub, Nat.reducePow, Nat.reduceLT, Nat.reduceLeDiff, Int.reduceNeg, Int.reduceEq, Int.reduceLT, Int.reduceLE, reduceCtorEq]) ?_
                rintro r hs ⟨rfl, rfl, _⟩
                refine ⟨by simp [freeN], ?_⟩
                simp (disch := omega) only [go_sem, ↓reduceIte, Int.reduceToNat, Nat.reduceEqDiff, Nat.reduceAdd, Nat.reduceMul, Nat.reduceSub, Nat.reducePow, Nat.reduceLT, Nat.reduceLeDiff, Int.reduceNeg, Int.reduceEq, Int.reduceLT, Int.reduceLE, reduceCtorEq]
                refine fin_valc (by simp (disch := omega) only [go_sem, ↓reduceIte, Int.reduceToNat, Nat.reduceEqDiff, Nat.reduceAdd, Nat.reduceMul, Nat.reduceSub, Nat.reducePow, Nat.reduceLT, Nat.reduceLeDiff, Int.reduceNeg, Int.reduceEq, Int.reduceLT, Int.reduceLE, reduceCtorEq]) (by simp (disch := omega) only [go_sem, ↓reduceIte, Int.reduceToNat, Nat.reduceEqDiff, Nat.reduceAdd, Nat.reduceMul, Nat.reduceSub, Nat.reducePow, Nat.reduceLT, Nat.reduceLeDiff, Int.reduceNeg, Int.reduceEq, Int.reduceLT, Int.reduceLE, reduceCtorEq]) ⟨?_, rfl, rfl⟩
                exact hov _ _ _ rfl rfl rfl
              · simp (disch := omega) only [go_sem, ↓reduceIte, Int.reduceToNat, Nat.reduceEqDiff, Nat.reduceAdd, Nat.reduceMul, Nat.reduceSub, Nat.reducePow, Nat.reduceLT, Nat.reduceLeDiff, Int.reduceNeg, Int.reduceEq, Int.reduceLT, Int.reduceLE, reduceCtorEq, h6]
                refine fin_valc (by simp (disch := omega) only [go_sem, ↓reduceIte, Int.reduceToNat, Nat.reduceEqDiff, Nat.reduceAdd, Nat.reduceMul, Nat.reduceSub, Nat.reducePow, Nat.reduceLT, Nat.reduceLeDiff, Int.reduceNeg, Int.reduceEq, Int.reduceLT, Int.reduceLE, reduceCtorEq]) (by simp (disch := omega) only [go_sem, ↓reduceIte, Int.reduceToNat, Nat.reduceEqDiff, Nat.reduceAdd, Nat.reduceMul, Nat.reduceSub, Nat.reducePow, Nat.reduceLT, Nat.reduceLeDiff, Int.reduceNeg, Int.reduceEq, Int.reduceLT, Int.reduceLE, reduceCtorEq]) ⟨?_, rfl, rfl⟩
                exact hov _ _ _ rfl rfl rfl
            · cases s
              · simp (disch := omega) only [go_sem, ↓reduceIte, Int.reduceToNat, Nat.reduceEqDiff, Nat.reduceAdd, Nat.reduceMul, Nat.reduceSub, Nat.reducePow, Nat.reduceLT, Nat.reduceLeDiff, Int.reduceNeg, Int.reduceEq, Int.reduceLT, Int.reduceLE, reduceCtorEq, h6]
                refine fin_valc (by simp (disch := omega) only [go_sem, ↓reduceIte, Int.reduceToNat, Nat.reduceEqDiff, Nat.reduceAdd, Nat.reduceMul, Nat.reduceSub, Nat.reducePow, Nat.reduceLT, Nat.reduceLeDiff, Int.reduceNeg, Int.reduceEq, Int.reduceLT, Int.reduceLE, reduceCtorEq]) (by simp (disch := omega) only [go_sem, ↓reduceIte, Int.reduceToNat, Nat.reduceEqDiff, Nat.reduceAdd, Nat.reduceMul, Nat.reduceSub, Nat.reducePow, Nat.reduceLT, Nat.reduceLeDiff, Int.reduceNeg, Int.reduceEq, Int.reduceLT, Int.reduceLE, reduceCtorEq]) ⟨?_, rfl, rfl⟩
                exact hov _ _ _ rfl rfl rfl
              · simp (disch := omega) only [go_sem, ↓reduceIte, Int.reduceToNat, Nat.reduceEqDiff, Nat.reduceAdd, Nat.reduceMul, Nat.reduceSub, Nat.reducePow, Nat.reduceLT, Nat.reduceLeDiff, Int.reduceNeg, Int.reduceEq, Int.reduceLT, Int.reduceLE, reduceCtorEq, h6]
                refine fin_valc (by simp (disch := omega) only [go_sem, ↓reduceIte, Int.reduceToNat, Nat.reduceEqDiff, Nat.reduceAdd, Nat.reduceMul, Nat.reduceSub, Nat.reducePow, Nat.reduceLT, Nat.reduceLeDiff, Int.reduceNeg, Int.reduceEq, Int.reduceLT, Int.reduceLE, reduceCtorEq]) (by simp (disch := omega) only [go_sem, ↓reduceIte, Int.reduceToNat, Nat.reduceEqDiff, Nat.reduceAdd, Nat.reduceMul, Nat.reduceSub, Nat.reducePow, Nat.reduceLT, Nat.reduceLeDiff, Int.reduceNeg, Int.reduceEq, Int.reduceLT, Int.reduceLE, reduceCtorEq]) ⟨?_, rfl, rfl⟩
                exact hov _ _ _ rfl rfl rfl
          · simp (disch := omega) only [go_sem, ↓reduceIte, Int.reduceToNat, Nat.reduceEqDiff, Nat.reduceAdd, Nat.reduceMul, Nat.reduceSub, Nat.reducePow, Nat.reduceLT, Nat.reduceLeDiff, Int.reduceNeg, Int.reduceEq, Int.reduceLT, Int.reduceLE, reduceCtorEq, h6]
            refine call_closed (con_l4top xs xm xe (by omega) (by omega)) (by simp (disch := omega) only [go_sem, ↓reduceIte, Int.reduceToNat, Nat.reduceEqDiff, Nat.reduceAdd, Nat.reduceMul, Nat.reduceSub, Nat.reducePow, Nat.reduceLT, Nat.reduceLeDiff, Int.reduceNeg, Int.reduceEq, Int.reduceLT, Int.reduceLE, reduceCtorEq, et2]) ?_
            rintro r hs ⟨rfl, rfl, _⟩
            refine ⟨by simp [freeN], ?_⟩
            simp (disch := omega) only [go_sem, ↓reduceIte, Int.reduceToNat, Nat.reduceEqDiff, Nat.reduceAdd, Nat.reduceMul, Nat.reduceSub, Nat.reducePow, Nat.reduceLT, Nat.reduceLeDiff, Int.reduceNeg, Int.reduceEq, Int.reduceLT, Int.reduceLE, reduceCtorEq]
            simp (disch := omega) only [go_sem, ↓reduceIte, Int.reduceToNat, Nat.reduceEqDiff, Nat.reduceAdd, Nat.reduceMul, Nat.reduceSub, Nat.reducePow, Nat.reduceLT, Nat.reduceLeDiff, Int.reduceNeg, Int.reduceEq, Int.reduceLT, Int.reduceLE, reduceCtorEq, et2]
            have hfin : ∀ mm : Int, mm = (flM rm re : Int) → AV.tu [.ag [.v (.int .i64 1), .v (.bool xs), .v (.int .i64 mm), .v (.int .i64 (flE rm re))], .v (.int .i64 0)] = .tu [.ag [.v (.int .i64 ((flV s m e mode z).k)), .v (.bool ((flV s m e mode z).s)), .v (.int .i64 ((flV s m e mode z).m)), .v (.int .i64 ((flV s m e mode z).e))], .v (.int .i64 (flG s m e mode))] := by
              rintro mm rfl
              rw [hxs]
              exact hVG 1 _ _ 0 (by unfold flK; rw [if_neg hr0, if_neg (by omega)]) (by unfold flMm; rw [if_neg hr0, if_neg (by omega)]) (by unfold flEe; rw [if_neg hr0, if_neg (by omega)]) (by unfold flFl; rw [if_neg (by omega), hfl])
            have ek : xe - flE rm re = (((oE rm re - flE rm re).toNat : Nat) : Int) := by omega
            have hk9 : (oE rm re - flE rm re).toNat ≤ 53 := by have h9 := hM; unfold flM at h9; rw [bl_mul_pow (fun e => hr0 (oM_eq_zero.1 e))] at h9; omega
            have hM6 : flM rm re < 2 ^ 53 := Nat.lt_of_lt_of_le (bl_lt _) (Nat.pow_le_pow_right (by omega) hM)
            have eM : xm * 2 ^ (oE rm re - flE rm re).toNat = flM rm re := by rw [q1]; rfl
            generalize hkk : (oE rm re - flE rm re).toNat = kk at *
            refine ifW_dec (fun h7 => ?_) (fun h7 => ?_)
            · have eE : flE rm re = -1074 := by unfold flE flLow; rw [if_pos (by omega)]
              simp (disch := omega) only [go_sem, ↓reduceIte, Int.reduceToNat, Nat.reduceEqDiff, Nat.reduceAdd, Nat.reduceMul, Nat.reduceSub, Nat.reducePow, Nat.reduceLT, Nat.reduceLeDiff, Int.reduceNeg, Int.reduceEq, Int.reduceLT, Int.reduceLE, reduceCtorEq, h7]
              rw [eE] at ek hfin
              try rw [← et2] at hfin
              refine draw_of rfl [⟨0, [], []⟩, ⟨1, [], []⟩, ⟨2, [], []⟩, ⟨3, [2], []⟩, ⟨4, [2], []⟩, ⟨5, [2], []⟩, ⟨6, [2, 5], []⟩, ⟨7, [2, 5], []⟩, ⟨8, [2, 5, 7], []⟩, ⟨9, [2, 5], []⟩, ⟨12, [2, 5, 7], []⟩, ⟨14, [2, 5, 7], []⟩, ⟨10, [2], []⟩, ⟨11, [2], []⟩, ⟨13, [], []⟩, ⟨15, [], []⟩, ⟨16, [], []⟩] (by kernel_rfl) ?_
              simp (disch := omega) only [go_sem, ↓reduceIte, Int.reduceToNat, Nat.reduceEqDiff, Nat.reduceAdd, Nat.reduceMul, Nat.reduceSub, Nat.reducePow, Nat.reduceLT, Nat.reduceLeDiff, Int.reduceNeg, Int.reduceEq, Int.reduceLT, Int.reduceLE, reduceCtorEq]
              refine call_open (con_l2shlF xm kk (by omega) (by omega)) (by simp (disch := omega) only [go_sem, ↓reduceIte, Int.reduceToNat, Nat.reduceEqDiff, Nat.reduceAdd, Nat.reduceMul, Nat.reduceSub, Nat.reducePow, Nat.reduceLT, Nat.reduceLeDiff, Int.reduceNeg, Int.reduceEq, Int.reduceLT, Int.reduceLE, reduceCtorEq, ek, et2]) ?_
              rintro r hs ⟨rfl, rfl, _⟩
              refine ⟨by simp [freeN], ?_⟩
              simp (disch := omega) only [go_sem, ↓reduceIte, Int.reduceToNat, Nat.reduceEqDiff, Nat.reduceAdd, Nat.reduceMul, Nat.reduceSub, Nat.reducePow, Nat.reduceLT, Nat.reduceLeDiff, Int.reduceNeg, Int.reduceEq, Int.reduceLT, Int.reduceLE, reduceCtorEq]
              refine call_closed (con_l2int (xm * 2 ^ kk) (by rw [eM]; omega)) (by simp (disch := omega) only [go_sem, ↓reduceIte, Int.reduceToNat, Nat.reduceEqDiff, Nat.reduceAdd, Nat.reduceMul, Nat.reduceSub, Nat.reducePow, Nat.reduceLT, Nat.reduceLeDiff, Int.reduceNeg, Int.reduceEq, Int.reduceLT, Int.reduceLE, reduceCtorEq]) ?_
              rintro r hs ⟨rfl, rfl, _⟩
              refine ⟨by simp [freeN], ?_⟩
              simp (disch := omega) only [go_sem, ↓reduceIte, Int.reduceToNat, Nat.reduceEqDiff, Nat.reduceAdd, Nat.reduceMul, Nat.reduceSub, Nat.reducePow, Nat.reduceLT, Nat.reduceLeDiff, Int.reduceNeg, Int.reduceEq, Int.reduceLT, Int.reduceLE, reduceCtorEq]
              refine fin_valc (by simp (disch := omega) only [go_sem, ↓reduceIte, Int.reduceToNat, Nat.reduceEqDiff, Nat.reduceAdd, Nat.reduceMul, Nat.reduceSub, Nat.reducePow, Nat.reduceLT, Nat.reduceLeDiff, Int.reduceNeg, Int.reduceEq, Int.reduceLT, Int.reduceLE, reduceCtorEq]) (by simp (disch := omega) only [go_sem, ↓reduceIte, Int.reduceToNat, Nat.reduceEqDiff, Nat.reduceAdd, Nat.reduceMul, Nat.reduceSub, Nat.reducePow, Nat.reduceLT, Nat.reduceLeDiff, Int.reduceNeg, Int.reduceEq, Int.reduceLT, Int.reduceLE, reduceCtorEq]) ⟨?_, rfl, rfl⟩
              exact hfin ((xm * 2 ^ kk : Nat) : Int) (by rw [eM])
            · have eE : flE rm re = (bl rm : Int) + re - 53 := by unfold flE flLow; rw [if_neg (by omega)]
              simp (disch := omega) only [go_sem, ↓reduceIte, Int.reduceToNat, Nat.reduceEqDiff, Nat.reduceAdd, Nat.reduceMul, Nat.reduceSub, Nat.reducePow, Nat.reduceLT, Nat.reduceLeDiff, Int.reduceNeg, Int.reduceEq, Int.reduceLT, Int.reduceLE, reduceCtorEq, h7]
              rw [eE] at ek hfin
              try rw [← et2] at hfin
              refine draw_of rfl [⟨0, [], []⟩, ⟨1, [], []⟩, ⟨2, [], []⟩, ⟨3, [2], []⟩, ⟨4, [2], []⟩, ⟨5, [2], []⟩, ⟨6, [2, 5], []⟩, ⟨7, [2, 5], []⟩, ⟨8, [2, 5, 7], []⟩, ⟨9, [2, 5], []⟩, ⟨12, [2, 5, 7], []⟩, ⟨14, [2, 5, 7], []⟩, ⟨10, [2], []⟩, ⟨11, [2], []⟩, ⟨13, [], []⟩, ⟨15, [], []⟩, ⟨16, [], []⟩] (by kernel_rfl) ?_
              simp (disch := omega) only [go_sem, ↓reduceIte, Int.reduceToNat, Nat.reduceEqDiff, Nat.reduceAdd, Nat.reduceMul, Nat.reduceSub, Nat.reducePow, Nat.reduceLT, Nat.reduceLeDiff, Int.reduceNeg, Int.reduceEq, Int.reduceLT, Int.reduceLE, reduceCtorEq]
              refine call_open (con_l2shlF xm kk (by omega) (by omega)) (by simp (disch := omega) only [go_sem, ↓reduceIte, Int.reduceToNat, Nat.reduceEqDiff, Nat.reduceAdd, Nat.reduceMul, Nat.reduceSub, Nat.reducePow, Nat.reduceLT, Nat.reduceLeDiff, Int.reduceNeg, Int.reduceEq, Int.reduceLT, Int.reduceLE, reduceCtorEq, ek, et2]) ?_
              rintro r hs ⟨rfl, rfl, _⟩
              refine ⟨by simp [freeN], ?_⟩
              simp (disch := omega) only [go_sem, ↓reduceIte, Int.reduceToNat, Nat.reduceEqDiff, Nat.reduceAdd, Nat.reduceMul, Nat.reduceSub, Nat.reducePow, Nat.reduceLT, Nat.reduceLeDiff, Int.reduceNeg, Int.reduceEq, Int.reduceLT, Int.reduceLE, reduceCtorEq]
              refine call_closed (con_l2int (xm * 2 ^ kk) (by rw [eM]; omega)) (by simp (disch := omega) only [go_sem, ↓reduceIte, Int.reduceToNat, Nat.reduceEqDiff, Nat.reduceAdd, Nat.reduceMul, Nat.reduceSub, Nat.reducePow, Nat.reduceLT, Nat.reduceLeDiff, Int.reduceNeg, Int.reduceEq, Int.reduceLT, Int.reduceLE, reduceCtorEq]) ?_
              rintro r hs ⟨rfl, rfl, _⟩
              refine ⟨by simp [freeN], ?_⟩
              simp (disch := omega) only [go_sem, ↓reduceIte, Int.reduceToNat, Nat.reduceEqDiff, Nat.reduceAdd, Nat.reduceMul, Nat.reduceSub, Nat.reducePow, Nat.reduceLT, Nat.reduceLeDiff, Int.reduceNeg, Int.reduceEq, Int.reduceLT, Int.reduceLE, reduceCtorEq]
              refine fin_valc (by simp (disch := omega) only [go_sem, ↓reduceIte, Int.reduceToNat, Nat.reduceEqDiff, Nat.reduceAdd, Nat.reduceMul, Nat.reduceSub, Nat.reducePow, Nat.reduceLT, Nat.reduceLeDiff, Int.reduceNeg, Int.reduceEq, Int.reduceLT, Int.reduceLE, reduceCtorEq]) (by simp (disch := omega) only [go_sem, ↓reduceIte, Int.reduceToNat, Nat.reduceEqDiff, Nat.reduceAdd, Nat.reduceMul, Nat.reduceSub, Nat.reducePow, Nat.reduceLT, Nat.reduceLeDiff, Int.reduceNeg, Int.reduceEq, Int.reduceLT, Int.reduceLE, reduceCtorEq]) ⟨?_, rfl, rfl⟩
              exact hfin ((xm * 2 ^ kk : Nat) : Int) (by rw [eM])
end Go.Ab
namespace Go.Ab
set_option linter.unusedVariables false
set_option linter.unusedSimpArgs false

theorem fl_inv {rm rm' : Nat} {re re' : Int} (hM : oM rm = oM rm') (hE : oE rm re = oE rm' re') : (rm = 0 ↔ rm' = 0) ∧ (rm ≠ 0 → (bl rm : Int) + re = (bl rm' : Int) + re') := by
  have h0 : rm = 0 ↔ rm' = 0 := by rw [← oM_eq_zero, ← @oM_eq_zero rm', hM]
  refine ⟨h0, fun h => ?_⟩
  have h' : rm' ≠ 0 := fun e => h (h0.2 e)
  have e1 := bl_oM h
  have e2 := bl_oM h'
  unfold oE at hE
  rw [if_neg h, if_neg h'] at hE
  rw [hM] at e1
  omega

theorem fl_eqs {s : Bool} {mode : Int} {rm rm' : Nat} {re re' : Int} (hM : oM rm = oM rm') (hE : oE rm re = oE rm' re') :
    flK s mode rm re = flK s mode rm' re' ∧ flMm s mode rm re = flMm s mode rm' re' ∧ flEe s mode rm re = flEe s mode rm' re' ∧ ∀ top same, flFl top same rm re = flFl top same rm' re' := by
  obtain ⟨h0, ht⟩ := fl_inv hM hE
  by_cases h : rm = 0
  · have h' := h0.1 h
    simp [flK, flMm, flEe, flFl, h, h']
  · have h' : rm' ≠ 0 := fun e => h (h0.2 e)
    have h1 := ht h
    simp [flK, flMm, flEe, flFl, flM, flE, h, h', h1, hM, hE]

theorem ro_norm {s : Bool} {m : Nat} {e low mode : Int} (h0 : m ≠ 0) :
    oM (roM s m e low mode) = oM (roM s (oM m) (oE m e) low mode) ∧ oE (roM s m e low mode) (roE m e low) = oE (roM s (oM m) (oE m e) low mode) (roE (oM m) (oE m e) low) ∧ roX m e low = roX (oM m) (oE m e) low := by
  have ha0 : oM m ≠ 0 := fun e => h0 (oM_eq_zero.1 e)
  have hoE : oE m e = e + tz m := by unfold oE; rw [if_neg h0]
  have hao := (odd_part h0).1
  have hmm : oM m * 2 ^ tz m = m := oM_mul
  by_cases h1 : low ≤ e
  · have c1 : low ≤ e ∨ m = 0 := .inl h1
    have c2 : low ≤ oE m e ∨ oM m = 0 := .inl (by omega)
    unfold roM roE roX
    rw [if_pos c1, if_pos c1, if_pos c1, if_pos c2, if_pos c2, if_pos c2]
    exact ⟨(oM_oM m).symm, (oE_oM m e).symm, rfl⟩
  · have c1 : ¬ (low ≤ e ∨ m = 0) := by omega
    by_cases h2 : low ≤ oE m e
    · have c2 : low ≤ oE m e ∨ oM m = 0 := .inl h2
      unfold roM roE roX
      rw [if_neg c1, if_neg c1, if_neg c1, if_pos c2, if_pos c2, if_pos c2, oM_oM, oE_oM]
      obtain ⟨i, hi⟩ : ∃ i, tz m = i + (low - e).toNat := ⟨tz m - (low - e).toNat, by omega⟩
      have e1 : m = oM m * 2 ^ i * 2 ^ (low - e).toNat := by rw [Nat.mul_assoc, ← Nat.pow_add, ← hi, hmm]
      have e2 : rq s m (2 ^ (low - e).toNat) mode = oM m * 2 ^ i := by
        have := rq_scale (s := s) (a := oM m * 2 ^ i) (b := 1) (k := (low - e).toNat) (mode := mode)
        rw [← e1, Nat.one_mul] at this
        rw [this, rq_one]
      rw [e2]
      refine ⟨by rw [oM_pow, oM_oM], ?_, ?_⟩
      · have h3 : oM m * 2 ^ i ≠ 0 := Nat.mul_ne_zero ha0 (Nat.pos_iff_ne_zero.1 (Nat.pow_pos (by omega)))
        have h4 : tz (oM m * 2 ^ i) = i := tz_uniq (a := oM m / 2) (by rw [show 2 * (oM m / 2) + 1 = oM m by unfold oM at *; omega, Nat.mul_comm])
        rw [hoE]; unfold oE; rw [if_neg h3, h4]; omega
      · rw [decide_eq_true_eq]
        have : m % 2 ^ (low - e).toNat = 0 := by
          conv => lhs; lhs; rw [e1]
          exact Nat.mul_mod_left _ _
        exact this
    · have c2 : ¬ (low ≤ oE m e ∨ oM m = 0) := by omega
      unfold roM roE roX
      rw [if_neg c1, if_neg c1, if_neg c1, if_neg c2, if_neg c2, if_neg c2]
      have hj : (low - e).toNat = (low - oE m e).toNat + tz m := by omega
      have e1 : rq s m (2 ^ (low - e).toNat) mode = rq s (oM m) (2 ^ (low - oE m e).toNat) mode := by
        have := rq_scale (s := s) (a := oM m) (b := 2 ^ (low - oE m e).toNat) (k := tz m) (mode := mode)
        rw [hmm, ← Nat.pow_add, ← hj] at this
        exact this
      rw [e1]
      refine ⟨rfl, rfl, ?_⟩
      rw [decide_eq_decide]
      have e2 : m % 2 ^ (low - e).toNat = oM m % 2 ^ (low - oE m e).toNat * 2 ^ tz m := by
        rw [hj, Nat.pow_add, ← Nat.mul_mod_mul_right, hmm]
      have hp : 2 ^ tz m ≠ 0 := Nat.pos_iff_ne_zero.1 (Nat.pow_pos (by omega))
      rw [e2, Nat.mul_eq_zero]
      exact ⟨fun h => h.resolve_right hp, .inl⟩

theorem flV_norm (s : Bool) (m : Nat) (e mode : Int) (z : Bool) : flV s (oM m) (oE m e) mode z = flV s m e mode z ∧ flG s (oM m) (oE m e) mode = flG s m e mode := by
  unfold flV flG
  by_cases h0 : m = 0
  · rw [if_pos h0, if_pos h0, if_pos (oM_eq_zero.2 h0), if_pos (oM_eq_zero.2 h0)]; exact ⟨rfl, rfl⟩
  · have h1 : ¬ oM m = 0 := fun e => h0 (oM_eq_zero.1 e)
    have ht : (bl (oM m) : Int) + oE m e = (bl m : Int) + e := by
      have := bl_oM h0
      unfold oE; rw [if_neg h0]; omega
    rw [if_neg h0, if_neg h0, if_neg h1, if_neg h1, ht]
    obtain ⟨a, b, c⟩ := ro_norm (s := s) (e := e) (low := flLow (bl m + e)) (mode := mode) h0
    obtain ⟨q1, q2, q3, q4⟩ := fl_eqs (s := s) (mode := mode) a b
    rw [q1, q2, q3, q4, c]
    exact ⟨rfl, rfl⟩

theorem oS_oS (s : Bool) (m : Nat) : oS (oS s m) m = oS s m := by unfold oS; split <;> rfl
theorem oS_flV (s : Bool) (m : Nat) (e mode : Int) (z : Bool) : flV (oS s m) m e mode z = flV s m e mode z ∧ flG (oS s m) m e mode = flG s m e mode := by
  by_cases h : m = 0
  · unfold flV flG oS; rw [if_pos h, if_pos h, if_pos h]; simp [h]
  · unfold oS; rw [if_neg h]; exact ⟨rfl, rfl⟩
theorem flV_canon (s : Bool) (m : Nat) (e mode : Int) (z : Bool) : flV (oS s m) (oM m) (oE m e) mode z = flV s m e mode z ∧ flG (oS s m) (oM m) (oE m e) mode = flG s m e mode := by
  rw [(flV_norm (oS s m) m e mode z).1, (flV_norm (oS s m) m e mode z).2]
  exact oS_flV s m e mode z
end Go.Ab
namespace Go.Ab
open Go Go.Proofs
set_option linter.unusedVariables false
set_option linter.unusedSimpArgs false

theorem oE_rng {m : Nat} {e lo hi : Int} {B : Nat} (h : bl m ≤ B) (h1 : lo ≤ 0) (h2 : 0 ≤ hi) (he : lo ≤ e ∧ e ≤ hi) : lo ≤ oE m e ∧ oE m e ≤ hi + B := by
  unfold oE
  by_cases h0 : m = 0
  · rw [if_pos h0]; omega
  · rw [if_neg h0]; have := tz_lt_bl h0; omega
theorem oM_odd (m : Nat) : oM m % 2 = 1 ∨ oM m = 0 := by
  by_cases h0 : m = 0
  · exact .inr (oM_eq_zero.2 h0)
  · exact .inl (odd_part h0).1
theorem oS_z (s : Bool) (m : Nat) : oM m = 0 → oS s m = false := fun h => by unfold oS; rw [if_pos (oM_eq_zero.1 h)]

theorem con_FlOfIntS (n mode : Int) (h : -9223372036854775808 ≤ n ∧ n < 9223372036854775808) :
    Con Tryd.prog 6 true [.v (.int .i64 n), .v (.int .i64 mode)] []
      (isA (if modeB mode then .tu [.ag [.v (.int .i64 ((flV (decide (n < 0)) n.natAbs 0 mode false).k)), .v (.bool ((flV (decide (n < 0)) n.natAbs 0 mode false).s)), .v (.int .i64 ((flV (decide (n < 0)) n.natAbs 0 mode false).m)), .v (.int .i64 ((flV (decide (n < 0)) n.natAbs 0 mode false).e))], .v (.int .i64 (flG (decide (n < 0)) n.natAbs 0 mode))]
        else .tu [.ag [.v (.int .i64 (3)), .v (.bool (false)), .v (.int .i64 (0)), .v (.int .i64 (0))], .v (.int .i64 16)])) := by
  refine Con.of_aw Tryd.func6 rfl Tryd.ntmps6 (by simp) (by simp) (by simp) (W.sound ?_)
  show @W Tryd.prog 19 ⟨_⟩ ⟨fun x σ => @retW _ _ _ ⟨_⟩ _ ⟨_⟩ x σ⟩ _ _
  simp (disch := omega) only [go_sem, ↓reduceIte, Int.reduceToNat, Nat.reduceEqDiff, Nat.reduceAdd, Nat.reduceMul, Nat.reduceSub, Nat.reducePow, Nat.reduceLT, Nat.reduceLeDiff, Int.reduceNeg, Int.reduceEq, Int.reduceLT, Int.reduceLE, reduceCtorEq]
  refine call_closed (con_l4mode mode) (by simp (disch := omega) only [go_sem, ↓reduceIte, Int.reduceToNat, Nat.reduceEqDiff, Nat.reduceAdd, Nat.reduceMul, Nat.reduceSub, Nat.reducePow, Nat.reduceLT, Nat.reduceLeDiff, Int.reduceNeg, Int.reduceEq, Int.reduceLT, Int.reduceLE, reduceCtorEq]) ?_
  rintro r hs ⟨rfl, rfl, _⟩
  refine ⟨by simp [freeN], ?_⟩
  simp (disch := omega) only [go_sem, ↓reduceIte, Int.reduceToNat, Nat.reduceEqDiff, Nat.reduceAdd, Nat.reduceMul, Nat.reduceSub, Nat.reducePow, Nat.reduceLT, Nat.reduceLeDiff, Int.reduceNeg, Int.reduceEq, Int.reduceLT, Int.reduceLE, reduceCtorEq]
  refine ifW_nb (fun h1 => ?_) (fun h1 => ?_)
  · simp (disch := omega) only [go_sem, ↓reduceIte, Int.reduceToNat, Nat.reduceEqDiff, Nat.reduceAdd, Nat.reduceMul, Nat.reduceSub, Nat.reducePow, Nat.reduceLT, Nat.reduceLeDiff, Int.reduceNeg, Int.reduceEq, Int.reduceLT, Int.reduceLE, reduceCtorEq, h1]
    refine call_closed (con_l5bad) (by simp (disch := omega) only [go_sem, ↓reduceIte, Int.reduceToNat, Nat.reduceEqDiff, Nat.reduceAdd, Nat.reduceMul, Nat.reduceSub, Nat.reducePow, Nat.reduceLT, Nat.reduceLeDiff, Int.reduceNeg, Int.reduceEq, Int.reduceLT, Int.reduceLE, reduceCtorEq]) ?_
    rintro r hs ⟨rfl, rfl, _⟩
    refine ⟨by simp [freeN], ?_⟩
    simp (disch := omega) only [go_sem, ↓reduceIte, Int.reduceToNat, Nat.reduceEqDiff, Nat.reduceAdd, Nat.reduceMul, Nat.reduceSub, Nat.reducePow, Nat.reduceLT, Nat.reduceLeDiff, Int.reduceNeg, Int.reduceEq, Int.reduceLT, Int.reduceLE, reduceCtorEq]
    rw [if_neg (by unfold modeB; rw [h1]; simp)]
    exact fin_valc (by simp (disch := omega) only [go_sem, ↓reduceIte, Int.reduceToNat, Nat.reduceEqDiff, Nat.reduceAdd, Nat.reduceMul, Nat.reduceSub, Nat.reducePow, Nat.reduceLT, Nat.reduceLeDiff, Int.reduceNeg, Int.reduceEq, Int.reduceLT, Int.reduceLE, reduceCtorEq]) (by simp (disch := omega) only [go_sem, ↓reduceIte, Int.reduceToNat, Nat.reduceEqDiff, Nat.reduceAdd, Nat.reduceMul, Nat.reduceSub, Nat.reducePow, Nat.reduceLT, Nat.reduceLeDiff, Int.reduceNeg, Int.reduceEq, Int.reduceLT, Int.reduceLE, reduceCtorEq]) isA_mk
  · simp (disch := omega) only [go_sem, ↓reduceIte, Int.reduceToNat, Nat.reduceEqDiff, Nat.reduceAdd, Nat.reduceMul, Nat.reduceSub, Nat.reducePow, Nat.reduceLT, Nat.reduceLeDiff, Int.reduceNeg, Int.reduceEq, Int.reduceLT, Int.reduceLE, reduceCtorEq, h1]
    have hb : bl n.natAbs ≤ 64 := bl_le.2 (by omega)
    obtain ⟨q1, q2⟩ := flV_canon (decide (n < 0)) n.natAbs 0 mode false
    have hmode : 0 ≤ mode ∧ mode ≤ 4 := by simpa using h1
    refine call_open (con_l3of n h) (by simp (disch := omega) only [go_sem, ↓reduceIte, Int.reduceToNat, Nat.reduceEqDiff, Nat.reduceAdd, Nat.reduceMul, Nat.reduceSub, Nat.reducePow, Nat.reduceLT, Nat.reduceLeDiff, Int.reduceNeg, Int.reduceEq, Int.reduceLT, Int.reduceLE, reduceCtorEq]) ?_
    rintro r hs ⟨rfl, rfl, _⟩
    refine ⟨by simp [freeN], ?_⟩
    simp (disch := omega) only [go_sem, ↓reduceIte, Int.reduceToNat, Nat.reduceEqDiff, Nat.reduceAdd, Nat.reduceMul, Nat.reduceSub, Nat.reducePow, Nat.reduceLT, Nat.reduceLeDiff, Int.reduceNeg, Int.reduceEq, Int.reduceLT, Int.reduceLE, reduceCtorEq]
    refine call_open (con_l4make (decide (n < 0)) n.natAbs 0 (by omega) (by omega)) (by simp (disch := omega) only [go_sem, ↓reduceIte, Int.reduceToNat, Nat.reduceEqDiff, Nat.reduceAdd, Nat.reduceMul, Nat.reduceSub, Nat.reducePow, Nat.reduceLT, Nat.reduceLeDiff, Int.reduceNeg, Int.reduceEq, Int.reduceLT, Int.reduceLE, reduceCtorEq]) ?_
    rintro r hs ⟨rfl, rfl, _⟩
    refine ⟨by simp [freeN], ?_⟩
    simp (disch := omega) only [go_sem, ↓reduceIte, Int.reduceToNat, Nat.reduceEqDiff, Nat.reduceAdd, Nat.reduceMul, Nat.reduceSub, Nat.reducePow, Nat.reduceLT, Nat.reduceLeDiff, Int.reduceNeg, Int.reduceEq, Int.reduceLT, Int.reduceLE, reduceCtorEq]
    have hle := oM_le n.natAbs
    have hoe := oE_rng (e := 0) (lo := 0) (hi := 0) hb (by omega) (by omega) (by omega)
    refine call_closed (con_l5round (oS (decide (n < 0)) n.natAbs) (oM n.natAbs) (oE n.natAbs 0) mode false (oM_odd _) (oS_z _ _) hmode (by have := bl_mono hle; omega) (by omega)) (by simp (disch := omega) only [go_sem, ↓reduceIte, Int.reduceToNat, Nat.reduceEqDiff, Nat.reduceAdd, Nat.reduceMul, Nat.reduceSub, Nat.reducePow, Nat.reduceLT, Nat.reduceLeDiff, Int.reduceNeg, Int.reduceEq, Int.reduceLT, Int.reduceLE, reduceCtorEq]) ?_
    rintro r hs ⟨rfl, rfl, _⟩
    refine ⟨by simp [freeN], ?_⟩
    simp (disch := omega) only [go_sem, ↓reduceIte, Int.reduceToNat, Nat.reduceEqDiff, Nat.reduceAdd, Nat.reduceMul, Nat.reduceSub, Nat.reducePow, Nat.reduceLT, Nat.reduceLeDiff, Int.reduceNeg, Int.reduceEq, Int.reduceLT, Int.reduceLE, reduceCtorEq]
    rw [if_pos (by unfold modeB; exact h1), q1, q2]
    exact fin_valc (by simp (disch := omega) only [go_sem, ↓reduceIte, Int.reduceToNat, Nat.reduceEqDiff, Nat.reduceAdd, Nat.reduceMul, Nat.reduceSub, Nat.reducePow, Nat.reduceLT, Nat.reduceLeDiff, Int.reduceNeg, Int.reduceEq, Int.reduceLT, Int.reduceLE, reduceCtorEq]) (by simp (disch := omega) only [go_sem, ↓reduceIte, Int.reduceToNat, Nat.reduceEqDiff, Nat.reduceAdd, Nat.reduceMul, Nat.reduceSub, Nat.reducePow, Nat.reduceLT, Nat.reduceLeDiff, Int.reduceNeg, Int.reduceEq, Int.reduceLT, Int.reduceLE, reduceCtorEq]) isA_mk
end Go.Ab
