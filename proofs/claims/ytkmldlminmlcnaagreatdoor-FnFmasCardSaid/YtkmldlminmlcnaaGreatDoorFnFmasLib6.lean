/- What the proof of this claim stands on: the walks of the functions and the plain laws, part 6. -/
import Derived.Test.YtkmldlminmlcnaaGreatDoorFnFmasLib5
import Derived.Laws.StructEq
import Derived.Test.YtkmldlminmlcnaaGreatDoorRows
import Derived.Test.YtkmldlminmlcnaaGreatDoorCards
import Derived.Test.YtkmldlminmlcnaaGreatDoorTie
import Derived.Handed
import Derived.ChangeSame
import Derived.JoinedOf
import Derived.RowKit
import Derived.WalkKit
import Derived.ProofKit
import Derived.OpenShut
import Derived.LaidLaws
import Derived.LaidHandle
import Derived.SevenTiedAt
import Derived.Stop.LaidErr
import Derived.Lib.LaidTab
namespace Go.Ab
open Go Go.Proofs
set_option linter.unusedVariables false
set_option linter.unusedSimpArgs false

theorem mul_canon {k1 : Int} {s1 : Bool} {m1 e1 k2 : Int} {s2 : Bool} {m2 e2 mode : Int} (z : Bool) (h1 : flB k1 s1 m1 e1 = true) (h2 : flB k2 s2 m2 e2 = true) :
    flV (oS ((l5dS k1 s1 m1 != l5dS k2 s2 m2) && decide (l5dM k1 m1 * l5dM k2 m2 ≠ 0)) (l5dM k1 m1 * l5dM k2 m2)) (oM (l5dM k1 m1 * l5dM k2 m2)) (oE (l5dM k1 m1 * l5dM k2 m2) (l5dE k1 m1 e1 + l5dE k2 m2 e2)) mode z = flV (muS k1 s1 m1 k2 s2 m2) (m1.toNat * m2.toNat) (e1 + e2) mode z ∧
    flG (oS ((l5dS k1 s1 m1 != l5dS k2 s2 m2) && decide (l5dM k1 m1 * l5dM k2 m2 ≠ 0)) (l5dM k1 m1 * l5dM k2 m2)) (oM (l5dM k1 m1 * l5dM k2 m2)) (oE (l5dM k1 m1 * l5dM k2 m2) (l5dE k1 m1 e1 + l5dE k2 m2 e2)) mode = flG (muS k1 s1 m1 k2 s2 m2) (m1.toNat * m2.toNat) (e1 + e2) mode := by
  obtain ⟨a1, a2, a3, a4, a5, _⟩ := flB_rng h1
  obtain ⟨b1, b2, b3, b4, b5, _⟩ := flB_rng h2
  rw [(flV_canon _ _ _ mode z).1, (flV_canon _ _ _ mode z).2]
  by_cases c : k1 = 1 ∧ k2 = 1
  · obtain ⟨c1, c2⟩ := c
    have n1 : m1.toNat ≠ 0 := by have := a5 c1; omega
    have n2 : m2.toNat ≠ 0 := by have := b5 c2; omega
    have o1 : oM m1.toNat ≠ 0 := fun e => n1 (oM_eq_zero.1 e)
    have o2 : oM m2.toNat ≠ 0 := fun e => n2 (oM_eq_zero.1 e)
    have hS : ((l5dS k1 s1 m1 != l5dS k2 s2 m2) && decide (l5dM k1 m1 * l5dM k2 m2 ≠ 0)) = muS k1 s1 m1 k2 s2 m2 := by
      unfold l5dS l5dM muS oS
      simp [c1, c2, n1, n2, o1, o2, Nat.mul_ne_zero n1 n2, Nat.mul_ne_zero o1 o2]
    rw [hS]
    have hM : l5dM k1 m1 * l5dM k2 m2 = oM m1.toNat * oM m2.toNat := by unfold l5dM; rw [if_pos c1, if_pos c2]
    have hE : l5dE k1 m1 e1 + l5dE k2 m2 e2 = e1 + e2 + ((tz m1.toNat + tz m2.toNat : Nat) : Int) := by
      unfold l5dE oE; rw [if_pos c1, if_pos c2, if_neg n1, if_neg n2]; omega
    have hp : m1.toNat * m2.toNat = oM m1.toNat * oM m2.toNat * 2 ^ (tz m1.toNat + tz m2.toNat) := by
      have q1 := @oM_mul m1.toNat
      have q2 := @oM_mul m2.toNat
      rw [Nat.pow_add]
      calc m1.toNat * m2.toNat = (oM m1.toNat * 2 ^ tz m1.toNat) * (oM m2.toNat * 2 ^ tz m2.toNat) := by rw [q1, q2]
        _ = _ := by rw [Nat.mul_mul_mul_comm]
    have h0 : oM m1.toNat * oM m2.toNat ≠ 0 := Nat.mul_ne_zero o1 o2
    rw [hM, hE, hp]
    generalize oM m1.toNat * oM m2.toNat = P at *
    generalize tz m1.toNat + tz m2.toNat = t at *
    rw [← (flV_norm _ P _ mode z).1, ← (flV_norm _ P _ mode z).2, ← (flV_norm _ (P * 2 ^ t) _ mode z).1, ← (flV_norm _ (P * 2 ^ t) _ mode z).2]
    have g0 : P * 2 ^ t ≠ 0 := Nat.mul_ne_zero h0 (Nat.pos_iff_ne_zero.1 (Nat.pow_pos (by omega)))
    have hoE : oE P (e1 + e2 + (t : Int)) = oE (P * 2 ^ t) (e1 + e2) := by
      unfold oE; rw [if_neg h0, if_neg g0, tz_mul_pow h0]; omega
    rw [oM_pow, hoE]
    exact ⟨rfl, rfl⟩
  · have hz : l5dM k1 m1 * l5dM k2 m2 = 0 := by
      unfold l5dM
      by_cases c1 : k1 = 1
      · rw [if_neg (fun c2 => c ⟨c1, c2⟩ : ¬ k2 = 1)]; simp
      · rw [if_neg c1]; simp
    have hz2 : m1.toNat * m2.toNat = 0 := by
      by_cases c1 : k1 = 1
      · have := (b4 (fun c2 => c ⟨c1, c2⟩)).1; rw [this]; simp
      · have := (a4 c1).1; rw [this]; simp
    unfold flV flG
    rw [if_pos hz, if_pos hz, if_pos hz2, if_pos hz2]
    exact ⟨rfl, rfl⟩

set_option maxRecDepth 100000 in
theorem con_l5mul (k1 : Int) (s1 : Bool) (m1 e1 k2 : Int) (s2 : Bool) (m2 e2 mode : Int) (h1 : flB k1 s1 m1 e1 = true) (h2 : flB k2 s2 m2 e2 = true) (hmode : 0 ≤ mode ∧ mode ≤ 4) :
    Con Tryz.prog 112 true [.ag [.v (.int .i64 (k1)), .v (.bool (s1)), .v (.int .i64 (m1)), .v (.int .i64 (e1))], .ag [.v (.int .i64 (k2)), .v (.bool (s2)), .v (.int .i64 (m2)), .v (.int .i64 (e2))], .v (.int .i64 mode)] []
      (isA (.tu [.ag [.v (.int .i64 ((mulV k1 s1 m1 e1 k2 s2 m2 e2 mode).k)), .v (.bool ((mulV k1 s1 m1 e1 k2 s2 m2 e2 mode).s)), .v (.int .i64 ((mulV k1 s1 m1 e1 k2 s2 m2 e2 mode).m)), .v (.int .i64 ((mulV k1 s1 m1 e1 k2 s2 m2 e2 mode).e))], .v (.int .i64 (mulG k1 s1 m1 e1 k2 s2 m2 e2 mode))])) := by
  have hr1 := (flB_rng h1).2.2.1
  have hr2 := (flB_rng h2).2.2.1
  obtain ⟨d1, d2⟩ := l5d_rng h1
  obtain ⟨f1, f2⟩ := l5d_rng h2
  obtain ⟨mc1, mc2⟩ := mul_canon (mode := mode) (s1 != s2) h1 h2
  obtain rfl | rfl | rfl | rfl : k1 = 0 ∨ k1 = 1 ∨ k1 = 2 ∨ k1 = 3 := by omega
  · obtain rfl | rfl | rfl | rfl : k2 = 0 ∨ k2 = 1 ∨ k2 = 2 ∨ k2 = 3 := by omega
    · refine Con.of_aw Tryz.func112 rfl Tryz.ntmps112 (by simp) (by simp) (by simp) (W.sound ?_)
      show @W Tryz.prog 67 ⟨_⟩ ⟨fun x σ => @retW _ _ _ ⟨_⟩ _ ⟨_⟩ x σ⟩ _ _
      simp (disch := omega) only [go_sem]
      refine draw_of rfl [⟨0, [], []⟩, ⟨2, [0], []⟩, ⟨5, [0, 2], []⟩, ⟨6, [0, 2], []⟩, ⟨1, [2], []⟩, ⟨3, [], []⟩, ⟨4, [], []⟩, ⟨7, [], []⟩, ⟨8, [], []⟩, ⟨9, [], []⟩, ⟨10, [], []⟩, ⟨11, [], []⟩] (by kernel_rfl) ?_
      simp (disch := omega) only [go_sem]
      refine call_open (con_l5dy (0) s1 m1 e1 h1) (by simp (disch := omega) only [go_sem]) ?_
      rintro r hs ⟨rfl, rfl, _⟩
      refine ⟨by simp [freeN], ?_⟩
      simp (disch := omega) only [go_sem]
      refine call_open (con_l5dy (0) s2 m2 e2 h2) (by simp (disch := omega) only [go_sem]) ?_
      rintro r hs ⟨rfl, rfl, _⟩
      refine ⟨by simp [freeN], ?_⟩
      simp (disch := omega) only [go_sem]
      refine call_open (con_l4mul (l5dS (0) s1 m1) (l5dM (0) m1) (l5dE (0) m1 e1) (l5dS (0) s2 m2) (l5dM (0) m2) (l5dE (0) m2 e2) (by omega) (by omega) (by omega) (by omega)) (by simp (disch := omega) only [go_sem]) ?_
      rintro r hs ⟨rfl, rfl, _⟩
      refine ⟨by simp [freeN], ?_⟩
      simp (disch := omega) only [go_sem]
      have q3 := bl_mulle (l5dM (0) m1) (l5dM (0) m2)
      have q4 := bl_mono (oM_le (l5dM (0) m1 * l5dM (0) m2))
      have q5 := oE_rng (m := l5dM (0) m1 * l5dM (0) m2) (e := l5dE (0) m1 e1 + l5dE (0) m2 e2) (lo := -2148) (hi := 2048) (Nat.le_refl _) (by omega) (by omega) (by omega)
      refine call_closed (con_l5round (oS ((l5dS (0) s1 m1 != l5dS (0) s2 m2) && decide (l5dM (0) m1 * l5dM (0) m2 ≠ 0)) (l5dM (0) m1 * l5dM (0) m2)) (oM (l5dM (0) m1 * l5dM (0) m2)) (oE (l5dM (0) m1 * l5dM (0) m2) (l5dE (0) m1 e1 + l5dE (0) m2 e2)) mode (s1 != s2) (oM_odd _) (oS_z _ _) hmode (by omega) (by omega)) (by simp (disch := omega) only [go_sem]) ?_
      rintro r hs ⟨rfl, rfl, _⟩
      refine ⟨by simp [freeN], ?_⟩
      simp (disch := omega) only [go_sem]
      rw [mc1, mc2]
      refine fin_valc (by simp (disch := omega) only [go_sem]) (by simp (disch := omega) only [go_sem]) ⟨rfl, rfl, rfl⟩
    · refine Con.of_aw Tryz.func112 rfl Tryz.ntmps112 (by simp) (by simp) (by simp) (W.sound ?_)
      show @W Tryz.prog 67 ⟨_⟩ ⟨fun x σ => @retW _ _ _ ⟨_⟩ _ ⟨_⟩ x σ⟩ _ _
      simp (disch := omega) only [go_sem]
      refine draw_of rfl [⟨0, [], []⟩, ⟨2, [0], []⟩, ⟨5, [0, 2], []⟩, ⟨6, [0, 2], []⟩, ⟨1, [2], []⟩, ⟨3, [], []⟩, ⟨4, [], []⟩, ⟨7, [], []⟩, ⟨8, [], []⟩, ⟨9, [], []⟩, ⟨10, [], []⟩, ⟨11, [], []⟩] (by kernel_rfl) ?_
      simp (disch := omega) only [go_sem]
      refine call_open (con_l5dy (0) s1 m1 e1 h1) (by simp (disch := omega) only [go_sem]) ?_
      rintro r hs ⟨rfl, rfl, _⟩
      refine ⟨by simp [freeN], ?_⟩
      simp (disch := omega) only [go_sem]
      refine call_open (con_l5dy (1) s2 m2 e2 h2) (by simp (disch := omega) only [go_sem]) ?_
      rintro r hs ⟨rfl, rfl, _⟩
      refine ⟨by simp [freeN], ?_⟩
      simp (disch := omega) only [go_sem]
      refine call_open (con_l4mul (l5dS (0) s1 m1) (l5dM (0) m1) (l5dE (0) m1 e1) (l5dS (1) s2 m2) (l5dM (1) m2) (l5dE (1) m2 e2) (by omega) (by omega) (by omega) (by omega)) (by simp (disch := omega) only [go_sem]) ?_
      rintro r hs ⟨rfl, rfl, _⟩
      refine ⟨by simp [freeN], ?_⟩
      simp (disch := omega) only [go_sem]
      have q3 := bl_mulle (l5dM (0) m1) (l5dM (1) m2)
      have q4 := bl_mono (oM_le (l5dM (0) m1 * l5dM (1) m2))
      have q5 := oE_rng (m := l5dM (0) m1 * l5dM (1) m2) (e := l5dE (0) m1 e1 + l5dE (1) m2 e2) (lo := -2148) (hi := 2048) (Nat.le_refl _) (by omega) (by omega) (by omega)
      refine call_closed (con_l5round (oS ((l5dS (0) s1 m1 != l5dS (1) s2 m2) && decide (l5dM (0) m1 * l5dM (1) m2 ≠ 0)) (l5dM (0) m1 * l5dM (1) m2)) (oM (l5dM (0) m1 * l5dM (1) m2)) (oE (l5dM (0) m1 * l5dM (1) m2) (l5dE (0) m1 e1 + l5dE (1) m2 e2)) mode (s1 != s2) (oM_odd _) (oS_z _ _) hmode (by omega) (by omega)) (by simp (disch := omega) only [go_sem]) ?_
      rintro r hs ⟨rfl, rfl, _⟩
      refine ⟨by simp [freeN], ?_⟩
      simp (disch := omega) only [go_sem]
      rw [mc1, mc2]
      refine fin_valc (by simp (disch := omega) only [go_sem]) (by simp (disch := omega) only [go_sem]) ⟨rfl, rfl, rfl⟩
    · refine Con.of_aw Tryz.func112 rfl Tryz.ntmps112 (by simp) (by simp) (by simp) (W.sound ?_)
      show @W Tryz.prog 67 ⟨_⟩ ⟨fun x σ => @retW _ _ _ ⟨_⟩ _ ⟨_⟩ x σ⟩ _ _
      simp (disch := omega) only [go_sem]
      refine call_closed (con_l5bad) (by simp (disch := omega) only [go_sem]) ?_
      rintro r hs ⟨rfl, rfl, _⟩
      refine ⟨by simp [freeN], ?_⟩
      simp (disch := omega) only [go_sem]
      refine fin_valc (by simp (disch := omega) only [go_sem]) (by simp (disch := omega) only [go_sem]) ⟨rfl, rfl, rfl⟩
    · refine Con.of_aw Tryz.func112 rfl Tryz.ntmps112 (by simp) (by simp) (by simp) (W.sound ?_)
      show @W Tryz.prog 67 ⟨_⟩ ⟨fun x σ => @retW _ _ _ ⟨_⟩ _ ⟨_⟩ x σ⟩ _ _
      simp (disch := omega) only [go_sem]
      refine call_closed (con_l5nan) (by simp (disch := omega) only [go_sem]) ?_
      rintro r hs ⟨rfl, rfl, _⟩
      refine ⟨by simp [freeN], ?_⟩
      simp (disch := omega) only [go_sem]
      refine fin_valc (by simp (disch := omega) only [go_sem]) (by simp (disch := omega) only [go_sem]) ⟨rfl, rfl, rfl⟩
  · obtain rfl | rfl | rfl | rfl : k2 = 0 ∨ k2 = 1 ∨ k2 = 2 ∨ k2 = 3 := by omega
    · refine Con.of_aw Tryz.func112 rfl Tryz.ntmps112 (by simp) (by simp) (by simp) (W.sound ?_)
      show @W Tryz.prog 67 ⟨_⟩ ⟨fun x σ => @retW _ _ _ ⟨_⟩ _ ⟨_⟩ x σ⟩ _ _
      simp (disch := omega) only [go_sem]
      refine draw_of rfl [⟨0, [], []⟩, ⟨2, [0], []⟩, ⟨5, [0, 2], []⟩, ⟨6, [0, 2], []⟩, ⟨1, [2], []⟩, ⟨3, [], []⟩, ⟨4, [], []⟩, ⟨7, [], []⟩, ⟨8, [], []⟩, ⟨9, [], []⟩, ⟨10, [], []⟩, ⟨11, [], []⟩] (by kernel_rfl) ?_
      simp (disch := omega) only [go_sem]
      refine call_open (con_l5dy (1) s1 m1 e1 h1) (by simp (disch := omega) only [go_sem]) ?_
      rintro r hs ⟨rfl, rfl, _⟩
      refine ⟨by simp [freeN], ?_⟩
      simp (disch := omega) only [go_sem]
      refine call_open (con_l5dy (0) s2 m2 e2 h2) (by simp (disch := omega) only [go_sem]) ?_
      rintro r hs ⟨rfl, rfl, _⟩
      refine ⟨by simp [freeN], ?_⟩
      simp (disch := omega) only [go_sem]
      refine call_open (con_l4mul (l5dS (1) s1 m1) (l5dM (1) m1) (l5dE (1) m1 e1) (l5dS (0) s2 m2) (l5dM (0) m2) (l5dE (0) m2 e2) (by omega) (by omega) (by omega) (by omega)) (by simp (disch := omega) only [go_sem]) ?_
      rintro r hs ⟨rfl, rfl, _⟩
      refine ⟨by simp [freeN], ?_⟩
      simp (disch := omega) only [go_sem]
      have q3 := bl_mulle (l5dM (1) m1) (l5dM (0) m2)
      have q4 := bl_mono (oM_le (l5dM (1) m1 * l5dM (0) m2))
      have q5 := oE_rng (m := l5dM (1) m1 * l5dM (0) m2) (e := l5dE (1) m1 e1 + l5dE (0) m2 e2) (lo := -2148) (hi := 2048) (Nat.le_refl _) (by omega) (by omega) (by omega)
      refine call_closed (con_l5round (oS ((l5dS (1) s1 m1 != l5dS (0) s2 m2) && decide (l5dM (1) m1 * l5dM (0) m2 ≠ 0)) (l5dM (1) m1 * l5dM (0) m2)) (oM (l5dM (1) m1 * l5dM (0) m2)) (oE (l5dM (1) m1 * l5dM (0) m2) (l5dE (1) m1 e1 + l5dE (0) m2 e2)) mode (s1 != s2) (oM_odd _) (oS_z _ _) hmode (by omega) (by omega)) (by simp (disch := omega) only [go_sem]) ?_
      rintro r hs ⟨rfl, rfl, _⟩
      refine ⟨by simp [freeN], ?_⟩
      simp (disch := omega) only [go_sem]
      rw [mc1, mc2]
      refine fin_valc (by simp (disch := omega) only [go_sem]) (by simp (disch := omega) only [go_sem]) ⟨rfl, rfl, rfl⟩
    · refine Con.of_aw Tryz.func112 rfl Tryz.ntmps112 (by simp) (by simp) (by simp) (W.sound ?_)
      show @W Tryz.prog 67 ⟨_⟩ ⟨fun x σ => @retW _ _ _ ⟨_⟩ _ ⟨_⟩ x σ⟩ _ _
      simp (disch := omega) only [go_sem]
      refine draw_of rfl [⟨0, [], []⟩, ⟨2, [0], []⟩, ⟨5, [0, 2], []⟩, ⟨6, [0, 2], []⟩, ⟨1, [2], []⟩, ⟨3, [], []⟩, ⟨4, [], []⟩, ⟨7, [], []⟩, ⟨8, [], []⟩, ⟨9, [], []⟩, ⟨10, [], []⟩, ⟨11, [], []⟩] (by kernel_rfl) ?_
      simp (disch := omega) only [go_sem]
      refine call_open (con_l5dy (1) s1 m1 e1 h1) (by simp (disch := omega) only [go_sem]) ?_
      rintro r hs ⟨rfl, rfl, _⟩
      refine ⟨by simp [freeN], ?_⟩
      simp (disch := omega) only [go_sem]
      refine call_open (con_l5dy (1) s2 m2 e2 h2) (by simp (disch := omega) only [go_sem]) ?_
      rintro r hs ⟨rfl, rfl, _⟩
      refine ⟨by simp [freeN], ?_⟩
      simp (disch := omega) only [go_sem]
      refine call_open (con_l4mul (l5dS (1) s1 m1) (l5dM (1) m1) (l5dE (1) m1 e1) (l5dS (1) s2 m2) (l5dM (1) m2) (l5dE (1) m2 e2) (by omega) (by omega) (by omega) (by omega)) (by simp (disch := omega) only [go_sem]) ?_
      rintro r hs ⟨rfl, rfl, _⟩
      refine ⟨by simp [freeN], ?_⟩
      simp (disch := omega) only [go_sem]
      have q3 := bl_mulle (l5dM (1) m1) (l5dM (1) m2)
      have q4 := bl_mono (oM_le (l5dM (1) m1 * l5dM (1) m2))
      have q5 := oE_rng (m := l5dM (1) m1 * l5dM (1) m2) (e := l5dE (1) m1 e1 + l5dE (1) m2 e2) (lo := -2148) (hi := 2048) (Nat.le_refl _) (by omega) (by omega) (by omega)
      refine call_closed (con_l5round (oS ((l5dS (1) s1 m1 != l5dS (1) s2 m2) && decide (l5dM (1) m1 * l5dM (1) m2 ≠ 0)) (l5dM (1) m1 * l5dM (1) m2)) (oM (l5dM (1) m1 * l5dM (1) m2)) (oE (l5dM (1) m1 * l5dM (1) m2) (l5dE (1) m1 e1 + l5dE (1) m2 e2)) mode (s1 != s2) (oM_odd _) (oS_z _ _) hmode (by omega) (by omega)) (by simp (disch := omega) only [go_sem]) ?_
      rintro r hs ⟨rfl, rfl, _⟩
      refine ⟨by simp [freeN], ?_⟩
      simp (disch := omega) only [go_sem]
      rw [mc1, mc2]
      refine fin_valc (by simp (disch := omega) only [go_sem]) (by simp (disch := omega) only [go_sem]) ⟨rfl, rfl, rfl⟩
    · refine Con.of_aw Tryz.func112 rfl Tryz.ntmps112 (by simp) (by simp) (by simp) (W.sound ?_)
      show @W Tryz.prog 67 ⟨_⟩ ⟨fun x σ => @retW _ _ _ ⟨_⟩ _ ⟨_⟩ x σ⟩ _ _
      simp (disch := omega) only [go_sem]
      refine fin_valc (by simp (disch := omega) only [go_sem]) (by simp (disch := omega) only [go_sem]) ⟨rfl, rfl, rfl⟩
    · refine Con.of_aw Tryz.func112 rfl Tryz.ntmps112 (by simp) (by simp) (by simp) (W.sound ?_)
      show @W Tryz.prog 67 ⟨_⟩ ⟨fun x σ => @retW _ _ _ ⟨_⟩ _ ⟨_⟩ x σ⟩ _ _
      simp (disch := omega) only [go_sem]
      refine call_closed (con_l5nan) (by simp (disch := omega) only [go_sem]) ?_
      rintro r hs ⟨rfl, rfl, _⟩
      refine ⟨by simp [freeN], ?_⟩
      simp (disch := omega) only [go_sem]
      refine fin_valc (by simp (disch := omega) only [go_sem]) (by simp (disch := omega) only [go_sem]) ⟨rfl, rfl, rfl⟩
  · obtain rfl | rfl | rfl | rfl : k2 = 0 ∨ k2 = 1 ∨ k2 = 2 ∨ k2 = 3 := by omega
    · refine Con.of_aw Tryz.func112 rfl Tryz.ntmps112 (by simp) (by simp) (by simp) (W.sound ?_)
      show @W Tryz.prog 67 ⟨_⟩ ⟨fun x σ => @retW _ _ _ ⟨_⟩ _ ⟨_⟩ x σ⟩ _ _
      simp (disch := omega) only [go_sem]
      refine call_closed (con_l5bad) (by simp (disch := omega) only [go_sem]) ?_
      rintro r hs ⟨rfl, rfl, _⟩
      refine ⟨by simp [freeN], ?_⟩
      simp (disch := omega) only [go_sem]
      refine fin_valc (by simp (disch := omega) only [go_sem]) (by simp (disch := omega) only [go_sem]) ⟨rfl, rfl, rfl⟩
    · refine Con.of_aw Tryz.func112 rfl Tryz.ntmps112 (by simp) (by simp) (by simp) (W.sound ?_)
      show @W Tryz.prog 67 ⟨_⟩ ⟨fun x σ => @retW _ _ _ ⟨_⟩ _ ⟨_⟩ x σ⟩ _ _
      simp (disch := omega) only [go_sem]
      refine fin_valc (by simp (disch := omega) only [go_sem]) (by simp (disch := omega) only [go_sem]) ⟨rfl, rfl, rfl⟩
    · refine Con.of_aw Tryz.func112 rfl Tryz.ntmps112 (by simp) (by simp) (by simp) (W.sound ?_)
      show @W Tryz.prog 67 ⟨_⟩ ⟨fun x σ => @retW _ _ _ ⟨_⟩ _ ⟨_⟩ x σ⟩ _ _
      simp (disch := omega) only [go_sem]
      refine fin_valc (by simp (disch := omega) only [go_sem]) (by simp (disch := omega) only [go_sem]) ⟨rfl, rfl, rfl⟩
    · refine Con.of_aw Tryz.func112 rfl Tryz.ntmps112 (by simp) (by simp) (by simp) (W.sound ?_)
      show @W Tryz.prog 67 ⟨_⟩ ⟨fun x σ => @retW _ _ _ ⟨_⟩ _ ⟨_⟩ x σ⟩ _ _
      simp (disch := omega) only [go_sem]
      refine call_closed (con_l5nan) (by simp (disch := omega) only [go_sem]) ?_
      rintro r hs ⟨rfl, rfl, _⟩
      refine ⟨by simp [freeN], ?_⟩
      simp (disch := omega) only [go_sem]
      refine fin_valc (by simp (disch := omega) only [go_sem]) (by simp (disch := omega) only [go_sem]) ⟨rfl, rfl, rfl⟩
  · obtain rfl | rfl | rfl | rfl : k2 = 0 ∨ k2 = 1 ∨ k2 = 2 ∨ k2 = 3 := by omega
    · refine Con.of_aw Tryz.func112 rfl Tryz.ntmps112 (by simp) (by simp) (by simp) (W.sound ?_)
      show @W Tryz.prog 67 ⟨_⟩ ⟨fun x σ => @retW _ _ _ ⟨_⟩ _ ⟨_⟩ x σ⟩ _ _
      simp (disch := omega) only [go_sem]
      refine call_closed (con_l5nan) (by simp (disch := omega) only [go_sem]) ?_
      rintro r hs ⟨rfl, rfl, _⟩
      refine ⟨by simp [freeN], ?_⟩
      simp (disch := omega) only [go_sem]
      refine fin_valc (by simp (disch := omega) only [go_sem]) (by simp (disch := omega) only [go_sem]) ⟨rfl, rfl, rfl⟩
    · refine Con.of_aw Tryz.func112 rfl Tryz.ntmps112 (by simp) (by simp) (by simp) (W.sound ?_)
      show @W Tryz.prog 67 ⟨_⟩ ⟨fun x σ => @retW _ _ _ ⟨_⟩ _ ⟨_⟩ x σ⟩ _ _
      simp (disch := omega) only [go_sem]
      refine call_closed (con_l5nan) (by simp (disch := omega) only [go_sem]) ?_
      rintro r hs ⟨rfl, rfl, _⟩
      refine ⟨by simp [freeN], ?_⟩
      simp (disch := omega) only [go_sem]
      refine fin_valc (by simp (disch := omega) only [go_sem]) (by simp (disch := omega) only [go_sem]) ⟨rfl, rfl, rfl⟩
    · refine Con.of_aw Tryz.func112 rfl Tryz.ntmps112 (by simp) (by simp) (by simp) (W.sound ?_)
      show @W Tryz.prog 67 ⟨_⟩ ⟨fun x σ => @retW _ _ _ ⟨_⟩ _ ⟨_⟩ x σ⟩ _ _
      simp (disch := omega) only [go_sem]
      refine call_closed (con_l5nan) (by simp (disch := omega) only [go_sem]) ?_
      rintro r hs ⟨rfl, rfl, _⟩
      refine ⟨by simp [freeN], ?_⟩
      simp (disch := omega) only [go_sem]
      refine fin_valc (by simp (disch := omega) only [go_sem]) (by simp (disch := omega) only [go_sem]) ⟨rfl, rfl, rfl⟩
    · refine Con.of_aw Tryz.func112 rfl Tryz.ntmps112 (by simp) (by simp) (by simp) (W.sound ?_)
      show @W Tryz.prog 67 ⟨_⟩ ⟨fun x σ => @retW _ _ _ ⟨_⟩ _ ⟨_⟩ x σ⟩ _ _
      simp (disch := omega) only [go_sem]
      refine call_closed (con_l5nan) (by simp (disch := omega) only [go_sem]) ?_
      rintro r hs ⟨rfl, rfl, _⟩
      refine ⟨by simp [freeN], ?_⟩
      simp (disch := omega) only [go_sem]
      refine fin_valc (by simp (disch := omega) only [go_sem]) (by simp (disch := omega) only [go_sem]) ⟨rfl, rfl, rfl⟩

theorem con_FlMulS (k1 : Int) (s1 : Bool) (m1 e1 k2 : Int) (s2 : Bool) (m2 e2 mode : Int) :
    Con Tryz.prog 71 true [.ag [.v (.int .i64 (k1)), .v (.bool (s1)), .v (.int .i64 (m1)), .v (.int .i64 (e1))], .ag [.v (.int .i64 (k2)), .v (.bool (s2)), .v (.int .i64 (m2)), .v (.int .i64 (e2))], .v (.int .i64 mode)] []
      (isA (if (modeB mode && (flB k1 s1 m1 e1 && flB k2 s2 m2 e2)) = true then .tu [.ag [.v (.int .i64 ((mulV k1 s1 m1 e1 k2 s2 m2 e2 mode).k)), .v (.bool ((mulV k1 s1 m1 e1 k2 s2 m2 e2 mode).s)), .v (.int .i64 ((mulV k1 s1 m1 e1 k2 s2 m2 e2 mode).m)), .v (.int .i64 ((mulV k1 s1 m1 e1 k2 s2 m2 e2 mode).e))], .v (.int .i64 (mulG k1 s1 m1 e1 k2 s2 m2 e2 mode))]
        else .tu [.ag [.v (.int .i64 (3)), .v (.bool (false)), .v (.int .i64 (0)), .v (.int .i64 (0))], .v (.int .i64 16)])) := by
  refine Con.of_aw Tryz.func71 rfl Tryz.ntmps71 (by simp) (by simp) (by simp) (W.sound ?_)
  show @W Tryz.prog 22 ⟨_⟩ ⟨fun x σ => @retW _ _ _ ⟨_⟩ _ ⟨_⟩ x σ⟩ _ _
  simp (disch := omega) only [go_sem]
  refine call_closed (con_l5ok k1 s1 m1 e1 k2 s2 m2 e2 mode) (by simp (disch := omega) only [go_sem]) ?_
  rintro r hs ⟨rfl, rfl, _⟩
  refine ⟨by simp [freeN], ?_⟩
  simp (disch := omega) only [go_sem]
  refine ifW_nb (fun h => ?_) (fun h => ?_)
  · simp (disch := omega) only [go_sem, h]
    refine call_closed (con_l5bad) (by simp (disch := omega) only [go_sem]) ?_
    rintro r hs ⟨rfl, rfl, _⟩
    refine ⟨by simp [freeN], ?_⟩
    simp (disch := omega) only [go_sem]
    rw [if_neg (by rw [h]; simp)]
    exact fin_valc (by simp (disch := omega) only [go_sem]) (by simp (disch := omega) only [go_sem]) isA_mk
  · simp (disch := omega) only [go_sem, h]
    have h' := h
    simp only [Bool.and_eq_true, modeB, decide_eq_true_eq] at h'
    refine call_closed (con_l5mul k1 s1 m1 e1 k2 s2 m2 e2 mode h'.2.1 h'.2.2 h'.1) (by simp (disch := omega) only [go_sem]) ?_
    rintro r hs ⟨rfl, rfl, _⟩
    refine ⟨by simp [freeN], ?_⟩
    simp (disch := omega) only [go_sem]
    rw [if_pos h]
    exact fin_valc (by simp (disch := omega) only [go_sem]) (by simp (disch := omega) only [go_sem]) isA_mk
end Go.Ab
namespace Go.Ab
open Go Go.Proofs
set_option linter.unusedVariables false
set_option linter.unusedSimpArgs false

theorem con_FlNegE (k : Int) (s : Bool) (m e : Int) : Con Tryz.prog 72 true [.ag [.v (.int .i64 (k)), .v (.bool (s)), .v (.int .i64 (m)), .v (.int .i64 (e))]] [] someF := by
  refine Con.of_aw Tryz.func72 rfl Tryz.ntmps72 (by simp) (by simp) (by simp) (W.sound ?_)
  show @W Tryz.prog 9 ⟨_⟩ ⟨fun x σ => @retW _ _ _ ⟨_⟩ _ ⟨_⟩ x σ⟩ _ _
  simp (disch := omega) only [go_sem]
  refine call_closed (con_flokS k s m e) (by simp (disch := omega) only [go_sem]) ?_
  rintro r hs ⟨rfl, rfl, _⟩
  refine ⟨by simp [freeN], ?_⟩
  simp (disch := omega) only [go_sem]
  refine ifW_nb (fun h => ?_) (fun h => ?_)
  · simp (disch := omega) only [go_sem, h]
    refine call_closed (con_l5nan) (by simp (disch := omega) only [go_sem]) ?_
    rintro r hs ⟨rfl, rfl, _⟩
    refine ⟨by simp [freeN], ?_⟩
    simp (disch := omega) only [go_sem]
    exact fin_valc (by simp (disch := omega) only [go_sem]) (by simp (disch := omega) only [go_sem]) ⟨rfl, rfl, ⟨3, false, 0, 0⟩, rfl⟩
  · simp (disch := omega) only [go_sem, h]
    refine call_closed (con_l5neg k s m e) (by simp (disch := omega) only [go_sem]) ?_
    rintro r hs ⟨rfl, rfl, _⟩
    refine ⟨by simp [freeN], ?_⟩
    simp (disch := omega) only [go_sem]
    exact fin_valc (by simp (disch := omega) only [go_sem]) (by simp (disch := omega) only [go_sem]) ⟨rfl, rfl, ⟨k, ngS k s, m, e⟩, rfl⟩

theorem con_FlMulE (k1 : Int) (s1 : Bool) (m1 e1 k2 : Int) (s2 : Bool) (m2 e2 mode : Int) : Con Tryz.prog 71 true [.ag [.v (.int .i64 (k1)), .v (.bool (s1)), .v (.int .i64 (m1)), .v (.int .i64 (e1))], .ag [.v (.int .i64 (k2)), .v (.bool (s2)), .v (.int .i64 (m2)), .v (.int .i64 (e2))], .v (.int .i64 mode)] [] (fun r hs bs => hs = [] ∧ bs = [] ∧ ∃ (x : FlV) (g : Int), r = .tu [.ag x.cs, .v (.int .i64 g)]) := by
  refine (con_FlMulS k1 s1 m1 e1 k2 s2 m2 e2 mode).mono fun r hs bs ⟨h1, h2, h3⟩ => ?_
  subst h2; subst h3
  refine ⟨rfl, rfl, ?_⟩
  by_cases h : (modeB mode && (flB k1 s1 m1 e1 && flB k2 s2 m2 e2)) = true
  · rw [if_pos h] at h1; exact ⟨mulV k1 s1 m1 e1 k2 s2 m2 e2 mode, _, h1⟩
  · rw [if_neg h] at h1; exact ⟨⟨3, false, 0, 0⟩, _, h1⟩

theorem con_DrawFlFma (l : List UInt8) (hl : l.length ≤ 9223372036854775807) : Con Tryz.prog 28 false [.sl l.length (bytesA l)] [] (fun r hs bs => hs = [] ∧ bs = [] ∧ ∃ (x y z : FlV) (m : Int), r = .tu [.ag x.cs, .ag y.cs, .ag z.cs, .v (.int .i64 m)]) := by
  refine Con.of_aw Tryz.func28 rfl Tryz.ntmps28 (by simp) (by simp) (by simp) (W.sound ?_)
  show @W Tryz.prog 36 ⟨_⟩ ⟨fun x σ => @retW _ _ _ ⟨_⟩ _ ⟨_⟩ x σ⟩ _ _
  simp (disch := omega) only [go_sem]
  refine call_open (con_l1New l hl) (by simp (disch := omega) only [go_sem]) ?_
  rintro r hs ⟨rfl, -, ⟨h, rfl⟩⟩
  refine ⟨by simp (disch := omega) only [go_sem], ?_⟩
  simp (disch := omega) only [go_sem]
  refine call_lent false [150000000] (con_l5pair l hl 0 h (by omega)) (by simp (disch := omega) only [go_sem]) (by simp (disch := omega) only [go_sem]) rfl (lend_cons (z := 0) (cs := [.sl l.length (bytesA l), .v (.int .i64 (0)), .v (.int .i64 (h))]) (by simp (disch := omega) only [go_sem]) (by simp (disch := omega) only [go_sem])) (by intro n hn; exact ⟨_, List.mem_cons_self .., by rw [List.mem_singleton.1 hn]; rfl⟩) ?_
  rintro r hs bs ⟨rfl, ⟨V, U, rfl⟩, i1, h1, hi1, rfl⟩ -
  refine ⟨by simp [freeN], ?_⟩
  simp (disch := omega) only [go_sem]
  unfold FlV.cs
  simp (disch := omega) only [go_sem]
  refine call_lent false [150000000] (con_l5bent l hl i1 h1 hi1) (by simp (disch := omega) only [go_sem]) (by simp (disch := omega) only [go_sem]) rfl (lend_cons (z := 0) (cs := [.sl l.length (bytesA l), .v (.int .i64 (i1)), .v (.int .i64 (h1))]) (by simp (disch := omega) only [go_sem]) (by simp (disch := omega) only [go_sem])) (by intro n hn; exact ⟨_, List.mem_cons_self .., by rw [List.mem_singleton.1 hn]; rfl⟩) ?_
  rintro r hs bs ⟨rfl, ⟨T, rfl⟩, i2, h2, hi2, rfl⟩ -
  refine ⟨by simp [freeN], ?_⟩
  simp (disch := omega) only [go_sem]
  unfold FlV.cs
  simp (disch := omega) only [go_sem]
  refine call_lent false [150000000] (con_l1Once l hl i2 h2 hi2 3 (by omega)) (by simp (disch := omega) only [go_sem]) (by simp (disch := omega) only [go_sem]) rfl (lend_cons (z := 0) (cs := [.sl l.length (bytesA l), .v (.int .i64 (i2)), .v (.int .i64 (h2))]) (by simp (disch := omega) only [go_sem]) (by simp (disch := omega) only [go_sem])) (by intro n hn; exact ⟨_, List.mem_cons_self .., by rw [List.mem_singleton.1 hn]; rfl⟩) ?_
  rintro r hs bs ⟨rfl, ⟨b, rfl⟩, i3, h3, hi3, rfl⟩ -
  refine ⟨by simp [freeN], ?_⟩
  simp (disch := omega) only [go_sem]
  cases b
  · simp (disch := omega) only [go_sem]
    refine draw_of rfl [⟨0, [], []⟩, ⟨1, [0], []⟩, ⟨2, [0, 1], []⟩, ⟨3, [0, 1, 2], []⟩, ⟨4, [0, 1, 2], []⟩, ⟨5, [1, 2], []⟩, ⟨6, [2], []⟩, ⟨7, [], []⟩, ⟨8, [], []⟩] (by kernel_rfl) ?_
    simp (disch := omega) only [go_sem]
    refine call_lent false [150000000] (con_l4drawMode l hl i3 h3 hi3) (by simp (disch := omega) only [go_sem]) (by simp (disch := omega) only [go_sem]) rfl (lend_cons (z := 0) (cs := [.sl l.length (bytesA l), .v (.int .i64 (i3)), .v (.int .i64 (h3))]) (by simp (disch := omega) only [go_sem]) (by simp (disch := omega) only [go_sem])) (by intro n hn; exact ⟨_, List.mem_cons_self .., by rw [List.mem_singleton.1 hn]; rfl⟩) ?_
    rintro r hs bs ⟨rfl, ⟨m, rfl⟩, i4, h4, hi4, rfl⟩ -
    refine ⟨by simp [freeN], ?_⟩
    simp (disch := omega) only [go_sem]
    exact fin_val (by simp (disch := omega) only [go_sem]) ⟨rfl, rfl, V, U, T, m, rfl⟩
  · simp (disch := omega) only [go_sem]
    refine call_closed (con_FlMulE V.k V.s V.m V.e U.k U.s U.m U.e 1) (by simp (disch := omega) only [go_sem]) ?_
    rintro r hs ⟨rfl, -, ⟨X, g, rfl⟩⟩
    refine ⟨by simp [freeN], ?_⟩
    unfold FlV.cs
    simp (disch := omega) only [go_sem]
    refine call_closed (con_FlNegE X.k X.s X.m X.e) (by simp (disch := omega) only [go_sem]) ?_
    rintro r hs ⟨rfl, -, ⟨Y, rfl⟩⟩
    refine ⟨by simp [freeN], ?_⟩
    unfold FlV.cs
    simp (disch := omega) only [go_sem]
    refine draw_of rfl [⟨0, [], []⟩, ⟨1, [0], []⟩, ⟨2, [0, 1], []⟩, ⟨3, [0, 1, 2], []⟩, ⟨4, [0, 1, 2], []⟩, ⟨5, [1, 2], []⟩, ⟨6, [2], []⟩, ⟨7, [], []⟩, ⟨8, [], []⟩] (by kernel_rfl) ?_
    simp (disch := omega) only [go_sem]
    refine call_lent false [150000000] (con_l4drawMode l hl i3 h3 hi3) (by simp (disch := omega) only [go_sem]) (by simp (disch := omega) only [go_sem]) rfl (lend_cons (z := 0) (cs := [.sl l.length (bytesA l), .v (.int .i64 (i3)), .v (.int .i64 (h3))]) (by simp (disch := omega) only [go_sem]) (by simp (disch := omega) only [go_sem])) (by intro n hn; exact ⟨_, List.mem_cons_self .., by rw [List.mem_singleton.1 hn]; rfl⟩) ?_
    rintro r hs bs ⟨rfl, ⟨m, rfl⟩, i4, h4, hi4, rfl⟩ -
    refine ⟨by simp [freeN], ?_⟩
    simp (disch := omega) only [go_sem]
    exact fin_val (by simp (disch := omega) only [go_sem]) ⟨rfl, rfl, V, U, Y, m, rfl⟩
end Go.Ab
namespace Go.Ab
open Go Go.Proofs
set_option linter.unusedVariables false
set_option linter.unusedSimpArgs false

theorem fle_run (w : World) (k m e k' m' e' : Int) (s s' : Bool) : (Op.equal 26 (.agg #[.int .i64 k, .bool s, .int .i64 m, .int .i64 e]) (.agg #[.int .i64 k', .bool s', .int .i64 m', .int .i64 e'])).run Tryz.prog w = .ok (flEq k s m e k' s' m' e') w := by
  have hf : Tryz.prog.fieldsOf 26 = #[{ name := "Kind", type := 3, offset := 0, embedded := false, tag := "", pkgPath := "", byteOffset := 0 }, { name := "Neg", type := 4, offset := 1, embedded := false, tag := "", pkgPath := "", byteOffset := 8 }, { name := "M", type := 3, offset := 2, embedded := false, tag := "", pkgPath := "", byteOffset := 16 }, { name := "E", type := 3, offset := 3, embedded := false, tag := "", pkgPath := "", byteOffset := 24 }] := by unfold Program.fieldsOf; rw [Tryz.underlying26]
  have h0 : Tryz.prog.underlying 26 = some (.struct (Tryz.prog.fieldsOf 26)) := by unfold Program.fieldsOf; rw [Tryz.underlying26]
  have hp : Tryz.prog.stoodInHeld 26 = false := by kernel_rfl
  have i3 : ∀ a b : Int, (Op.equalIn 9999 3 (.int .i64 a) (.int .i64 b)).run Tryz.prog w = .ok (a == b) w := fun a b => run_equalIn_int w 9998 _ .i64 .i64 a b Tryz.underlying3
  have i4 : ∀ a b : Bool, (Op.equalIn 9999 4 (.bool a) (.bool b)).run Tryz.prog w = .ok (a == b) w := fun a b => run_equalIn_bool' w 9998 _ a b Tryz.underlying4
  have p3 : ∀ (xs : Array Value) (o : Nat) (v : Value), xs[o]? = some v → (part 3 xs o).run Tryz.prog w = .ok v w := fun xs o v h => by
    unfold part
    simp only [Sem.run_bind, run_isAgg tf3, Result.andThen, h, ti3_agg, Bool.false_eq_true, if_false, Sem.run_pure]
  have p4 : ∀ (xs : Array Value) (o : Nat) (v : Value), xs[o]? = some v → (part 4 xs o).run Tryz.prog w = .ok v w := fun xs o v h => by
    unfold part
    simp only [Sem.run_bind, run_isAgg tf4, Result.andThen, h, ti4_agg, Bool.false_eq_true, if_false, Sem.run_pure]
  have q0 : ∀ a b c d : Value, (part 3 #[a, b, c, d] 0).run Tryz.prog w = .ok a w := fun a b c d => p3 _ 0 a rfl
  have q1 : ∀ a b c d : Value, (part 4 #[a, b, c, d] 1).run Tryz.prog w = .ok b w := fun a b c d => p4 _ 1 b rfl
  have q2 : ∀ a b c d : Value, (part 3 #[a, b, c, d] 2).run Tryz.prog w = .ok c w := fun a b c d => p3 _ 2 c rfl
  have q3 : ∀ a b c d : Value, (part 3 #[a, b, c, d] 3).run Tryz.prog w = .ok d w := fun a b c d => p3 _ 3 d rfl
  show (Op.equalIn (9999 + 1) _ _ _).run _ _ = _
  rw [run_equalIn_struct w 9999 _ _ _ h0 hp, hf]
  have n1 : ("Kind" ≠ "_") = True := by simp
  have n2 : ("Neg" ≠ "_") = True := by simp
  have n3 : ("M" ≠ "_") = True := by simp
  have n4 : ("E" ≠ "_") = True := by simp
  simp only [Op.eqFields, n1, n2, n3, n4, if_true, Sem.run_bind, q0, Result.andThen, i3]
  unfold flEq
  have q : ∀ a b : Int, (a == b) = decide (a = b) := fun a b => by rfl
  rw [q]
  cases decide (k = k')
  · simp only [Bool.not_false, if_true, Sem.run_pure, Bool.false_and]
  simp only [Bool.not_true, Bool.false_eq_true, if_false, Sem.run_bind, q1, Result.andThen, i4]
  cases (s == s')
  · simp only [Bool.not_false, if_true, Sem.run_pure, Bool.false_and, Bool.and_false]
  simp only [Bool.not_true, Bool.false_eq_true, if_false, Sem.run_bind, q2, Result.andThen, i3]
  rw [q]
  cases decide (m = m')
  · simp only [Bool.not_false, if_true, Sem.run_pure, Bool.false_and, Bool.and_false]
  simp only [Bool.not_true, Bool.false_eq_true, if_false, Sem.run_bind, q3, Result.andThen, i3]
  rw [q]
  cases decide (e = e') <;> rfl
instance : FlE Tryz.prog 26 := ⟨fle_run, by kernel_rfl⟩
end Go.Ab
namespace Go.Ab
open Go Go.Proofs
set_option linter.unusedVariables false
set_option linter.unusedSimpArgs false

theorem flEq_self (k : Int) (s : Bool) (m e : Int) : flEq k s m e k s m e = true := by unfold flEq; simp
theorem dec_self (k : Int) : decide (k = k) = true := by simp

set_option maxRecDepth 100000 in
set_option maxHeartbeats 1000000 in
theorem law_Fmas (l : List UInt8) (hl : l.length ≤ 9223372036854775807) : Con Tryz.prog 5 true [.sl l.length (bytesA l)] [] (isA (.v (.bool true))) := by
  refine Con.of_aw Tryz.func5 rfl Tryz.ntmps5 (by simp) (by simp) (by simp) (W.sound ?_)
  show @W Tryz.prog 210 ⟨_⟩ ⟨fun x σ => @retW _ _ _ ⟨_⟩ _ ⟨_⟩ x σ⟩ _ _
  simp (disch := omega) only [go_sem]
  refine call_open (con_DrawFlFma l hl) (by simp (disch := omega) only [go_sem]) ?_
  rintro r hs ⟨rfl, -, ⟨V, U, T, m, rfl⟩⟩
  refine ⟨by simp [freeN], ?_⟩
  unfold FlV.cs
  simp (disch := omega) only [go_sem]
  have cf := con_FlFma V.k V.s V.m V.e U.k U.s U.m U.e T.k T.s T.m T.e m
  by_cases v1 : flB V.k V.s V.m V.e = true
  case neg =>
    have v1' : flB V.k V.s V.m V.e = false := by simpa using v1
    rw [if_neg (by rw [v1']; simp)] at cf
    refine call_closed (con_flokS V.k V.s V.m V.e) (by simp (disch := omega) only [go_sem]) ?_
    rintro r hs ⟨rfl, rfl, _⟩
    refine ⟨by simp [freeN], ?_⟩
    simp (disch := omega) only [go_sem]
    simp (disch := omega) only [go_sem, v1']
    refine call_closed (cf) (by simp (disch := omega) only [go_sem]) ?_
    rintro r hs ⟨rfl, rfl, _⟩
    refine ⟨by simp [freeN], ?_⟩
    simp (disch := omega) only [go_sem]
    exact fin_valc (by simp (disch := omega) only [go_sem]) (by simp (disch := omega) only [go_sem]) isA_mk
  by_cases v2 : flB U.k U.s U.m U.e = true
  case neg =>
    have v2' : flB U.k U.s U.m U.e = false := by simpa using v2
    rw [if_neg (by rw [v2']; simp)] at cf
    refine call_closed (con_flokS V.k V.s V.m V.e) (by simp (disch := omega) only [go_sem]) ?_
    rintro r hs ⟨rfl, rfl, _⟩
    refine ⟨by simp [freeN], ?_⟩
    simp (disch := omega) only [go_sem]
    simp (disch := omega) only [go_sem, v1]
    refine call_closed (con_flokS U.k U.s U.m U.e) (by simp (disch := omega) only [go_sem]) ?_
    rintro r hs ⟨rfl, rfl, _⟩
    refine ⟨by simp [freeN], ?_⟩
    simp (disch := omega) only [go_sem]
    simp (disch := omega) only [go_sem, v2']
    refine call_closed (cf) (by simp (disch := omega) only [go_sem]) ?_
    rintro r hs ⟨rfl, rfl, _⟩
    refine ⟨by simp [freeN], ?_⟩
    simp (disch := omega) only [go_sem]
    exact fin_valc (by simp (disch := omega) only [go_sem]) (by simp (disch := omega) only [go_sem]) isA_mk
  by_cases v3 : flB T.k T.s T.m T.e = true
  case neg =>
    have v3' : flB T.k T.s T.m T.e = false := by simpa using v3
    rw [if_neg (by rw [v3']; simp)] at cf
    refine call_closed (con_flokS V.k V.s V.m V.e) (by simp (disch := omega) only [go_sem]) ?_
    rintro r hs ⟨rfl, rfl, _⟩
    refine ⟨by simp [freeN], ?_⟩
    simp (disch := omega) only [go_sem]
    simp (disch := omega) only [go_sem, v1]
    refine call_closed (con_flokS U.k U.s U.m U.e) (by simp (disch := omega) only [go_sem]) ?_
    rintro r hs ⟨rfl, rfl, _⟩
    refine ⟨by simp [freeN], ?_⟩
    simp (disch := omega) only [go_sem]
    simp (disch := omega) only [go_sem, v2]
    refine call_closed (con_flokS T.k T.s T.m T.e) (by simp (disch := omega) only [go_sem]) ?_
    rintro r hs ⟨rfl, rfl, _⟩
    refine ⟨by simp [freeN], ?_⟩
    simp (disch := omega) only [go_sem]
    simp (disch := omega) only [go_sem, v3']
    refine call_closed (cf) (by simp (disch := omega) only [go_sem]) ?_
    rintro r hs ⟨rfl, rfl, _⟩
    refine ⟨by simp [freeN], ?_⟩
    simp (disch := omega) only [go_sem]
    exact fin_valc (by simp (disch := omega) only [go_sem]) (by simp (disch := omega) only [go_sem]) isA_mk
  by_cases v4 : m < 0
  case pos =>
    rw [if_neg (by rw [show modeB m = false by unfold modeB; rw [decide_eq_false (by omega)]; rfl]; simp)] at cf
    refine call_closed (con_flokS V.k V.s V.m V.e) (by simp (disch := omega) only [go_sem]) ?_
    rintro r hs ⟨rfl, rfl, _⟩
    refine ⟨by simp [freeN], ?_⟩
    simp (disch := omega) only [go_sem]
    simp (disch := omega) only [go_sem, v1]
    refine call_closed (con_flokS U.k U.s U.m U.e) (by simp (disch := omega) only [go_sem]) ?_
    rintro r hs ⟨rfl, rfl, _⟩
    refine ⟨by simp [freeN], ?_⟩
    simp (disch := omega) only [go_sem]
    simp (disch := omega) only [go_sem, v2]
    refine call_closed (con_flokS T.k T.s T.m T.e) (by simp (disch := omega) only [go_sem]) ?_
    rintro r hs ⟨rfl, rfl, _⟩
    refine ⟨by simp [freeN], ?_⟩
    simp (disch := omega) only [go_sem]
    simp (disch := omega) only [go_sem, v3, v4]
    refine call_closed (cf) (by simp (disch := omega) only [go_sem]) ?_
    rintro r hs ⟨rfl, rfl, _⟩
    refine ⟨by simp [freeN], ?_⟩
    simp (disch := omega) only [go_sem]
    exact fin_valc (by simp (disch := omega) only [go_sem]) (by simp (disch := omega) only [go_sem]) isA_mk
  by_cases v5 : 4 < m
  case pos =>
    rw [if_neg (by rw [show modeB m = false by unfold modeB; rw [decide_eq_false (show ¬ m ≤ 4 by omega), Bool.and_false]]; simp)] at cf
    refine call_closed (con_flokS V.k V.s V.m V.e) (by simp (disch := omega) only [go_sem]) ?_
    rintro r hs ⟨rfl, rfl, _⟩
    refine ⟨by simp [freeN], ?_⟩
    simp (disch := omega) only [go_sem]
    simp (disch := omega) only [go_sem, v1]
    refine call_closed (con_flokS U.k U.s U.m U.e) (by simp (disch := omega) only [go_sem]) ?_
    rintro r hs ⟨rfl, rfl, _⟩
    refine ⟨by simp [freeN], ?_⟩
    simp (disch := omega) only [go_sem]
    simp (disch := omega) only [go_sem, v2]
    refine call_closed (con_flokS T.k T.s T.m T.e) (by simp (disch := omega) only [go_sem]) ?_
    rintro r hs ⟨rfl, rfl, _⟩
    refine ⟨by simp [freeN], ?_⟩
    simp (disch := omega) only [go_sem]
    simp (disch := omega) only [go_sem, v3, v4, v5]
    refine call_closed (cf) (by simp (disch := omega) only [go_sem]) ?_
    rintro r hs ⟨rfl, rfl, _⟩
    refine ⟨by simp [freeN], ?_⟩
    simp (disch := omega) only [go_sem]
    exact fin_valc (by simp (disch := omega) only [go_sem]) (by simp (disch := omega) only [go_sem]) isA_mk
  have vm : modeB m = true := by unfold modeB; rw [decide_eq_true (show 0 ≤ m by omega), decide_eq_true (show m ≤ 4 by omega)]; rfl
  rw [if_pos (by rw [vm, v1, v2, v3]; rfl)] at cf
  have c1 := con_FlFma V.k V.s V.m V.e 1 false 4503599627370496 (-52) T.k T.s T.m T.e m
  rw [if_pos (by rw [vm, v1, one_flB', v3]; rfl), (fma_one v1 v3).1, (fma_one v1 v3).2] at c1
  have c2 := con_FlAdd V.k V.s V.m V.e T.k T.s T.m T.e m
  rw [if_pos (by rw [vm, v1, v3]; rfl)] at c2
  have c3 := con_FlFma V.k V.s V.m V.e U.k U.s U.m U.e 0 false 0 0 m
  rw [if_pos (by rw [vm, v1, v2, zero_flB]; rfl), (fma_zero v1 v2).2.1] at c3
  have c4 := con_FlMul V.k V.s V.m V.e U.k U.s U.m U.e m
  rw [if_pos (by rw [vm, v1, v2]; rfl)] at c4
  have hz1 := (fma_zero (mode := m) v1 v2).1
  have hz2 := (fma_zero (mode := m) v1 v2).2.2
  have d1 := con_FlDy V.k V.s V.m V.e
  have d2 := con_FlDy U.k U.s U.m U.e
  have d3 := con_FlDy T.k T.s T.m T.e
  rw [v1] at d1
  rw [v2] at d2
  rw [v3] at d3
  simp only [Bool.true_and] at d1 d2 d3
  have ht := fun S M E h1 h2 h3 f1 f2 f3 => @fma_true V.k V.s V.m V.e U.k U.s U.m U.e T.k T.s T.m T.e m h1 h2 h3 f1 f2 f3 S M E
  generalize addV V.k V.s V.m V.e T.k T.s T.m T.e m = W1 at *
  generalize addG V.k V.s V.m V.e T.k T.s T.m T.e m = G1 at *
  generalize fmaV V.k V.s V.m V.e U.k U.s U.m U.e 0 false 0 0 m = H at *
  generalize mulV V.k V.s V.m V.e U.k U.s U.m U.e m = P at *
  generalize mulG V.k V.s V.m V.e U.k U.s U.m U.e m = PG at *
  generalize fmaV V.k V.s V.m V.e U.k U.s U.m U.e T.k T.s T.m T.e m = Z at *
  generalize fmaG V.k V.s V.m V.e U.k U.s U.m U.e T.k T.s T.m T.e m = ZG at *
  refine call_closed (con_flokS V.k V.s V.m V.e) (by simp (disch := omega) only [go_sem]) ?_
  rintro r hs ⟨rfl, rfl, _⟩
  refine ⟨by simp [freeN], ?_⟩
  simp (disch := omega) only [go_sem]
  simp (disch := omega) only [go_sem, v1]
  refine call_closed (con_flokS U.k U.s U.m U.e) (by simp (disch := omega) only [go_sem]) ?_
  rintro r hs ⟨rfl, rfl, _⟩
  refine ⟨by simp [freeN], ?_⟩
  simp (disch := omega) only [go_sem]
  simp (disch := omega) only [go_sem, v2]
  refine call_closed (con_flokS T.k T.s T.m T.e) (by simp (disch := omega) only [go_sem]) ?_
  rintro r hs ⟨rfl, rfl, _⟩
  refine ⟨by simp [freeN], ?_⟩
  simp (disch := omega) only [go_sem]
  simp (disch := omega) only [go_sem, v3, v4, v5]
  refine call_closed (c1) (by simp (disch := omega) only [go_sem]) ?_
  rintro r hs ⟨rfl, rfl, _⟩
  refine ⟨by simp [freeN], ?_⟩
  simp (disch := omega) only [go_sem]
  refine call_closed (c2) (by simp (disch := omega) only [go_sem]) ?_
  rintro r hs ⟨rfl, rfl, _⟩
  refine ⟨by simp [freeN], ?_⟩
  simp (disch := omega) only [go_sem]
  refine call_closed (c3) (by simp (disch := omega) only [go_sem]) ?_
  rintro r hs ⟨rfl, rfl, _⟩
  refine ⟨by simp [freeN], ?_⟩
  simp (disch := omega) only [go_sem]
  refine call_closed (c4) (by simp (disch := omega) only [go_sem]) ?_
  rintro r hs ⟨rfl, rfl, _⟩
  refine ⟨by simp [freeN], ?_⟩
  simp (disch := omega) only [go_sem]
  by_cases hz : P.k = 0
  · have hq1 : decide (H.k = P.k) = true := decide_eq_true hz1
    have hq2 : decide (H.k = 0) = true := decide_eq_true (by rw [hz1]; exact hz)
    simp (disch := omega) only [go_sem, flEq_self, dec_self, hq1, hq2]
    cases q1 : (decide (V.k = 0) || decide (V.k = 1))
    · rw [q1, if_neg (by simp), lim_zero] at d1
      cases q2 : (decide (U.k = 0) || decide (U.k = 1)) <;> cases q3 : (decide (T.k = 0) || decide (T.k = 1))
      · rw [q2, if_neg (by simp), lim_zero] at d2
        rw [q3, if_neg (by simp), lim_zero] at d3
        refine call_open (d1) (by simp (disch := omega) only [go_sem]) ?_
        rintro r hs ⟨rfl, rfl, _⟩
        refine ⟨by simp [freeN], ?_⟩
        simp (disch := omega) only [go_sem]
        refine call_open (d2) (by simp (disch := omega) only [go_sem]) ?_
        rintro r hs ⟨rfl, rfl, _⟩
        refine ⟨by simp [freeN], ?_⟩
        simp (disch := omega) only [go_sem]
        refine call_open (d3) (by simp (disch := omega) only [go_sem]) ?_
        rintro r hs ⟨rfl, rfl, _⟩
        refine ⟨by simp [freeN], ?_⟩
        simp (disch := omega) only [go_sem]
        exact fin_valc (by simp (disch := omega) only [go_sem]) (by simp (disch := omega) only [go_sem]) isA_mk
      · rw [q2, if_neg (by simp), lim_zero] at d2
        rw [q3, if_pos rfl] at d3
        refine call_open (d1) (by simp (disch := omega) only [go_sem]) ?_
        rintro r hs ⟨rfl, rfl, _⟩
        refine ⟨by simp [freeN], ?_⟩
        simp (disch := omega) only [go_sem]
        refine call_open (d2) (by simp (disch := omega) only [go_sem]) ?_
        rintro r hs ⟨rfl, rfl, _⟩
        refine ⟨by simp [freeN], ?_⟩
        simp (disch := omega) only [go_sem]
        refine call_open (d3) (by simp (disch := omega) only [go_sem]) ?_
        rintro r hs ⟨rfl, rfl, _⟩
        refine ⟨by simp [freeN], ?_⟩
        simp (disch := omega) only [go_sem]
        exact fin_valc (by simp (disch := omega) only [go_sem]) (by simp (disch := omega) only [go_sem]) isA_mk
      · rw [q2, if_pos rfl] at d2
        rw [q3, if_neg (by simp), lim_zero] at d3
        refine call_open (d1) (by simp (disch := omega) only [go_sem]) ?_
        rintro r hs ⟨rfl, rfl, _⟩
        refine ⟨by simp [freeN], ?_⟩
        simp (disch := omega) only [go_sem]
        refine call_open (d2) (by simp (disch := omega) only [go_sem]) ?_
        rintro r hs ⟨rfl, rfl, _⟩
        refine ⟨by simp [freeN], ?_⟩
        simp (disch := omega) only [go_sem]
        refine call_open (d3) (by simp (disch := omega) only [go_sem]) ?_
        rintro r hs ⟨rfl, rfl, _⟩
        refine ⟨by simp [freeN], ?_⟩
        simp (disch := omega) only [go_sem]
        exact fin_valc (by simp (disch := omega) only [go_sem]) (by simp (disch := omega) only [go_sem]) isA_mk
      · rw [q2, if_pos rfl] at d2
        rw [q3, if_pos rfl] at d3
        refine call_open (d1) (by simp (disch := omega) only [go_sem]) ?_
        rintro r hs ⟨rfl, rfl, _⟩
        refine ⟨by simp [freeN], ?_⟩
        simp (disch := omega) only [go_sem]
        refine call_open (d2) (by simp (disch := omega) only [go_sem]) ?_
        rintro r hs ⟨rfl, rfl, _⟩
        refine ⟨by simp [freeN], ?_⟩
        simp (disch := omega) only [go_sem]
        refine call_open (d3) (by simp (disch := omega) only [go_sem]) ?_
        rintro r hs ⟨rfl, rfl, _⟩
        refine ⟨by simp [freeN], ?_⟩
        simp (disch := omega) only [go_sem]
        exact fin_valc (by simp (disch := omega) only [go_sem]) (by simp (disch := omega) only [go_sem]) isA_mk
    · rw [q1, if_pos rfl] at d1
      cases q2 : (decide (U.k = 0) || decide (U.k = 1))
      · rw [q2, if_neg (by simp), lim_zero] at d2
        cases q3 : (decide (T.k = 0) || decide (T.k = 1))
        · rw [q3, if_neg (by simp), lim_zero] at d3
          refine call_open (d1) (by simp (disch := omega) only [go_sem]) ?_
          rintro r hs ⟨rfl, rfl, _⟩
          refine ⟨by simp [freeN], ?_⟩
          simp (disch := omega) only [go_sem]
          refine call_open (d2) (by simp (disch := omega) only [go_sem]) ?_
          rintro r hs ⟨rfl, rfl, _⟩
          refine ⟨by simp [freeN], ?_⟩
          simp (disch := omega) only [go_sem]
          refine call_open (d3) (by simp (disch := omega) only [go_sem]) ?_
          rintro r hs ⟨rfl, rfl, _⟩
          refine ⟨by simp [freeN], ?_⟩
          simp (disch := omega) only [go_sem]
          exact fin_valc (by simp (disch := omega) only [go_sem]) (by simp (disch := omega) only [go_sem]) isA_mk
        · rw [q3, if_pos rfl] at d3
          refine call_open (d1) (by simp (disch := omega) only [go_sem]) ?_
          rintro r hs ⟨rfl, rfl, _⟩
          refine ⟨by simp [freeN], ?_⟩
          simp (disch := omega) only [go_sem]
          refine call_open (d2) (by simp (disch := omega) only [go_sem]) ?_
          rintro r hs ⟨rfl, rfl, _⟩
          refine ⟨by simp [freeN], ?_⟩
          simp (disch := omega) only [go_sem]
          refine call_open (d3) (by simp (disch := omega) only [go_sem]) ?_
          rintro r hs ⟨rfl, rfl, _⟩
          refine ⟨by simp [freeN], ?_⟩
          simp (disch := omega) only [go_sem]
          exact fin_valc (by simp (disch := omega) only [go_sem]) (by simp (disch := omega) only [go_sem]) isA_mk
      · rw [q2, if_pos rfl] at d2
        cases q3 : (decide (T.k = 0) || decide (T.k = 1))
        · rw [q3, if_neg (by simp), lim_zero] at d3
          refine call_open (d1) (by simp (disch := omega) only [go_sem]) ?_
          rintro r hs ⟨rfl, rfl, _⟩
          refine ⟨by simp [freeN], ?_⟩
          simp (disch := omega) only [go_sem]
          refine call_open (d2) (by simp (disch := omega) only [go_sem]) ?_
          rintro r hs ⟨rfl, rfl, _⟩
          refine ⟨by simp [freeN], ?_⟩
          simp (disch := omega) only [go_sem]
          refine call_open (d3) (by simp (disch := omega) only [go_sem]) ?_
          rintro r hs ⟨rfl, rfl, _⟩
          refine ⟨by simp [freeN], ?_⟩
          simp (disch := omega) only [go_sem]
          exact fin_valc (by simp (disch := omega) only [go_sem]) (by simp (disch := omega) only [go_sem]) isA_mk
        · rw [q3, if_pos rfl] at d3
          have ht' := fun S M E => ht S M E v1 v2 v3 (by simpa using q1) (by simpa using q2) (by simpa using q3)
          obtain ⟨a1, a2, a3, a4, a5, a6⟩ := flB_rng v1
          obtain ⟨b1, b2, b3, b4, b5, b6⟩ := flB_rng v2
          obtain ⟨g1, g2, g3, g4, g5, g6⟩ := flB_rng v3
          have y1 := oE_rng (m := V.m.toNat) (e := V.e) (lo := -1074) (hi := 971) (B := 53) (bl_le.2 (by omega)) (by omega) (by omega) (by omega)
          have y2 := oE_rng (m := U.m.toNat) (e := U.e) (lo := -1074) (hi := 971) (B := 53) (bl_le.2 (by omega)) (by omega) (by omega) (by omega)
          have y3 := oE_rng (m := T.m.toNat) (e := T.e) (lo := -1074) (hi := 971) (B := 53) (bl_le.2 (by omega)) (by omega) (by omega) (by omega)
          have w1 := dyB_canon (V.s && decide (V.k = 1)) V.m.toNat V.e
          have w2 := dyB_canon (U.s && decide (U.k = 1)) U.m.toNat U.e
          have w3 := dyB_canon (T.s && decide (T.k = 1)) T.m.toNat T.e
          rw [dyFit_fl (by omega) (by omega)] at w1
          rw [dyFit_fl (by omega) (by omega)] at w2
          rw [dyFit_fl (by omega) (by omega)] at w3
          have e1 : dv 1074 (oS (V.s && decide (V.k = 1)) V.m.toNat) (oM V.m.toNat) (oE V.m.toNat V.e) = dv 1074 (xS V.k V.s) V.m.toNat V.e := by rw [dv_norm (by omega), dv_oS]; rfl
          have e2 : dv 1074 (oS (U.s && decide (U.k = 1)) U.m.toNat) (oM U.m.toNat) (oE U.m.toNat U.e) = dv 1074 (xS U.k U.s) U.m.toNat U.e := by rw [dv_norm (by omega), dv_oS]; rfl
          have e3 : dv 2148 (oS (T.s && decide (T.k = 1)) T.m.toNat) (oM T.m.toNat) (oE T.m.toNat T.e) = dv 2148 (xS T.k T.s) T.m.toNat T.e := by rw [dv_norm (by omega), dv_oS]; rfl
          generalize oS (V.s && decide (V.k = 1)) V.m.toNat = x1 at *
          generalize oM V.m.toNat = x2 at *
          generalize oE V.m.toNat V.e = x3 at *
          generalize oS (U.s && decide (U.k = 1)) U.m.toNat = z1 at *
          generalize oM U.m.toNat = z2 at *
          generalize oE U.m.toNat U.e = z3 at *
          generalize oS (T.s && decide (T.k = 1)) T.m.toNat = t1 at *
          generalize oM T.m.toNat = t2 at *
          generalize oE T.m.toNat T.e = t3 at *
          have m1 := con_lawMul x1 x2 x3 z1 z2 z3 true w1 w2
          refine call_open (d1) (by simp (disch := omega) only [go_sem]) ?_
          rintro r hs ⟨rfl, rfl, _⟩
          refine ⟨by simp [freeN], ?_⟩
          simp (disch := omega) only [go_sem]
          refine call_open (d2) (by simp (disch := omega) only [go_sem]) ?_
          rintro r hs ⟨rfl, rfl, _⟩
          refine ⟨by simp [freeN], ?_⟩
          simp (disch := omega) only [go_sem]
          refine call_open (d3) (by simp (disch := omega) only [go_sem]) ?_
          rintro r hs ⟨rfl, rfl, _⟩
          refine ⟨by simp [freeN], ?_⟩
          simp (disch := omega) only [go_sem]
          cases k1 : dyFit (x2 * z2) (x3 + z3)
          · rw [k1, if_neg (by simp), lim_zero] at m1
            have m2 := con_lawAdd false 0 0 t1 t2 t3 false (by rw [lim_zero]; decide) w3
            rw [lim_zero] at m2
            refine call_open (m1) (by simp (disch := omega) only [go_sem]) ?_
            rintro r hs ⟨rfl, rfl, _⟩
            refine ⟨by simp [freeN], ?_⟩
            simp (disch := omega) only [go_sem]
            cases k2 : dyFit (adM false 0 0 t1 t2 t3) (alE 0 0 t2 t3)
            · rw [k2, if_neg (by simp)] at m2
              refine call_open (m2) (by simp (disch := omega) only [go_sem]) ?_
              rintro r hs ⟨rfl, rfl, _⟩
              refine ⟨by simp [freeN], ?_⟩
              simp (disch := omega) only [go_sem]
              exact fin_valc (by simp (disch := omega) only [go_sem]) (by simp (disch := omega) only [go_sem]) isA_mk
            · rw [k2, if_pos rfl] at m2
              refine call_open (m2) (by simp (disch := omega) only [go_sem]) ?_
              rintro r hs ⟨rfl, rfl, _⟩
              refine ⟨by simp [freeN], ?_⟩
              simp (disch := omega) only [go_sem]
              exact fin_valc (by simp (disch := omega) only [go_sem]) (by simp (disch := omega) only [go_sem]) isA_mk
          · rw [k1, if_pos rfl] at m1
            have w4 := dyB_canon (pmS x1 x2 z1 z2) (x2 * z2) (x3 + z3)
            rw [k1] at w4
            have e4 : dv 2148 (oS (pmS x1 x2 z1 z2) (x2 * z2)) (oM (x2 * z2)) (oE (x2 * z2) (x3 + z3)) = dv 1074 (xS V.k V.s) V.m.toNat V.e * dv 1074 (xS U.k U.s) U.m.toNat U.e := by
              rw [dv_norm (by omega), dv_oS, ← e1, ← e2]
              unfold pmS
              rw [dv_and, show (2148 : Nat) = 1074 + 1074 from rfl, dv_mul (by omega) (by omega)]
            have y4 : -2148 ≤ oE (x2 * z2) (x3 + z3) := oE_ge (by omega) (by omega)
            generalize oS (pmS x1 x2 z1 z2) (x2 * z2) = u1 at *
            generalize oM (x2 * z2) = u2 at *
            generalize oE (x2 * z2) (x3 + z3) = u3 at *
            have m2 := con_lawAdd u1 u2 u3 t1 t2 t3 true w4 w3
            refine call_open (m1) (by simp (disch := omega) only [go_sem]) ?_
            rintro r hs ⟨rfl, rfl, _⟩
            refine ⟨by simp [freeN], ?_⟩
            simp (disch := omega) only [go_sem]
            cases k2 : dyFit (adM u1 u2 u3 t1 t2 t3) (alE u2 u3 t2 t3)
            · rw [k2, if_neg (by simp), lim_zero] at m2
              refine call_open (m2) (by simp (disch := omega) only [go_sem]) ?_
              rintro r hs ⟨rfl, rfl, _⟩
              refine ⟨by simp [freeN], ?_⟩
              simp (disch := omega) only [go_sem]
              exact fin_valc (by simp (disch := omega) only [go_sem]) (by simp (disch := omega) only [go_sem]) isA_mk
            · rw [k2, if_pos rfl] at m2
              have w5 := dyB_canon (adS u1 u2 u3 t1 t2 t3) (adM u1 u2 u3 t1 t2 t3) (alE u2 u3 t2 t3)
              rw [k2] at w5
              have e5 : dv 2148 (oS (adS u1 u2 u3 t1 t2 t3) (adM u1 u2 u3 t1 t2 t3)) (oM (adM u1 u2 u3 t1 t2 t3)) (oE (adM u1 u2 u3 t1 t2 t3) (alE u2 u3 t2 t3)) = dv 1074 (xS V.k V.s) V.m.toNat V.e * dv 1074 (xS U.k U.s) U.m.toNat U.e + dv 2148 (xS T.k T.s) T.m.toNat T.e := by
                rw [dv_norm (alE_ge (by omega) (by omega)), dv_oS, ad_dv (by omega) (by omega), e4, e3]
              have y5 : -2148 ≤ oE (adM u1 u2 u3 t1 t2 t3) (alE u2 u3 t2 t3) := oE_ge (alE_ge (by omega) (by omega)) (by omega)
              obtain ⟨p1, p2, p3⟩ := ht' _ _ _ y5 e5
              generalize oS (adS u1 u2 u3 t1 t2 t3) (adM u1 u2 u3 t1 t2 t3) = r1 at *
              generalize oM (adM u1 u2 u3 t1 t2 t3) = r2 at *
              generalize oE (adM u1 u2 u3 t1 t2 t3) (alE u2 u3 t2 t3) = r3 at *
              have cr := con_FlRound r1 (lim r2) r3 m (by have := (dyB_lim w5); obtain ⟨n, h1, h2, _⟩ := this; rw [h1]; omega)
              rw [if_pos (by rw [w5, vm]; rfl), vl_lim, Int.toNat_natCast] at cr
              rw [p1] at cf
              generalize flV r1 r2 r3 m false = Y at *
              generalize flG r1 r2 r3 m = YG at *
              refine call_open (m2) (by simp (disch := omega) only [go_sem]) ?_
              rintro r hs ⟨rfl, rfl, _⟩
              refine ⟨by simp [freeN], ?_⟩
              simp (disch := omega) only [go_sem]
              refine call_closed (cf) (by simp (disch := omega) only [go_sem]) ?_
              rintro r hs ⟨rfl, rfl, _⟩
              refine ⟨by simp [freeN], ?_⟩
              simp (disch := omega) only [go_sem]
              refine call_closed (cr) (by simp (disch := omega) only [go_sem]) ?_
              rintro r hs ⟨rfl, rfl, _⟩
              refine ⟨by simp [freeN], ?_⟩
              simp (disch := omega) only [go_sem]
              by_cases zk : Y.k = 0
              · have zk1 : decide (Z.k = 0) = true := decide_eq_true (by rw [p2]; exact zk)
                have zk2 : decide (Z.k = Y.k) = true := decide_eq_true p2
                simp (disch := omega) only [go_sem, dec_self, zk2, zk1]
                exact fin_valc (by simp (disch := omega) only [go_sem]) (by simp (disch := omega) only [go_sem]) isA_mk
              · have zk1 : decide (Z.k = 0) = false := decide_eq_false (by rw [p2]; exact zk)
                have zk2 : decide (Z.k = Y.k) = true := decide_eq_true p2
                have zk3 := p3 zk
                have zk4 : flEq Z.k Z.s Z.m Z.e Y.k Y.s Y.m Y.e = true := by rw [zk3]; exact flEq_self _ _ _ _
                simp (disch := omega) only [go_sem, dec_self, zk2, zk1, zk4]
                exact fin_valc (by simp (disch := omega) only [go_sem]) (by simp (disch := omega) only [go_sem]) isA_mk
  · have hq1 : decide (H.k = P.k) = true := decide_eq_true hz1
    have hq2 : decide (H.k = 0) = false := decide_eq_false (by rw [hz1]; exact hz)
    have hq3 : flEq H.k H.s H.m H.e P.k P.s P.m P.e = true := by rw [hz2 hz]; exact flEq_self _ _ _ _
    simp (disch := omega) only [go_sem, flEq_self, dec_self, hq1, hq2, hq3]
    cases q1 : (decide (V.k = 0) || decide (V.k = 1))
    · rw [q1, if_neg (by simp), lim_zero] at d1
      cases q2 : (decide (U.k = 0) || decide (U.k = 1)) <;> cases q3 : (decide (T.k = 0) || decide (T.k = 1))
      · rw [q2, if_neg (by simp), lim_zero] at d2
        rw [q3, if_neg (by simp), lim_zero] at d3
        refine call_open (d1) (by simp (disch := omega) only [go_sem]) ?_
        rintro r hs ⟨rfl, rfl, _⟩
        refine ⟨by simp [freeN], ?_⟩
        simp (disch := omega) only [go_sem]
        refine call_open (d2) (by simp (disch := omega) only [go_sem]) ?_
        rintro r hs ⟨rfl, rfl, _⟩
        refine ⟨by simp [freeN], ?_⟩
        simp (disch := omega) only [go_sem]
        refine call_open (d3) (by simp (disch := omega) only [go_sem]) ?_
        rintro r hs ⟨rfl, rfl, _⟩
        refine ⟨by simp [freeN], ?_⟩
        simp (disch := omega) only [go_sem]
        exact fin_valc (by simp (disch := omega) only [go_sem]) (by simp (disch := omega) only [go_sem]) isA_mk
      · rw [q2, if_neg (by simp), lim_zero] at d2
        rw [q3, if_pos rfl] at d3
        refine call_open (d1) (by simp (disch := omega) only [go_sem]) ?_
        rintro r hs ⟨rfl, rfl, _⟩
        refine ⟨by simp [freeN], ?_⟩
        simp (disch := omega) only [go_sem]
        refine call_open (d2) (by simp (disch := omega) only [go_sem]) ?_
        rintro r hs ⟨rfl, rfl, _⟩
        refine ⟨by simp [freeN], ?_⟩
        simp (disch := omega) only [go_sem]
        refine call_open (d3) (by simp (disch := omega) only [go_sem]) ?_
        rintro r hs ⟨rfl, rfl, _⟩
        refine ⟨by simp [freeN], ?_⟩
        simp (disch := omega) only [go_sem]
        exact fin_valc (by simp (disch := omega) only [go_sem]) (by simp (disch := omega) only [go_sem]) isA_mk
      · rw [q2, if_pos rfl] at d2
        rw [q3, if_neg (by simp), lim_zero] at d3
        refine call_open (d1) (by simp (disch := omega) only [go_sem]) ?_
        rintro r hs ⟨rfl, rfl, _⟩
        refine ⟨by simp [freeN], ?_⟩
        simp (disch := omega) only [go_sem]
        refine call_open (d2) (by simp (disch := omega) only [go_sem]) ?_
        rintro r hs ⟨rfl, rfl, _⟩
        refine ⟨by simp [freeN], ?_⟩
        simp (disch := omega) only [go_sem]
        refine call_open (d3) (by simp (disch := omega) only [go_sem]) ?_
        rintro r hs ⟨rfl, rfl, _⟩
        refine ⟨by simp [freeN], ?_⟩
        simp (disch := omega) only [go_sem]
        exact fin_valc (by simp (disch := omega) only [go_sem]) (by simp (disch := omega) only [go_sem]) isA_mk
      · rw [q2, if_pos rfl] at d2
        rw [q3, if_pos rfl] at d3
        refine call_open (d1) (by simp (disch := omega) only [go_sem]) ?_
        rintro r hs ⟨rfl, rfl, _⟩
        refine ⟨by simp [freeN], ?_⟩
        simp (disch := omega) only [go_sem]
        refine call_open (d2) (by simp (disch := omega) only [go_sem]) ?_
        rintro r hs ⟨rfl, rfl, _⟩
        refine ⟨by simp [freeN], ?_⟩
        simp (disch := omega) only [go_sem]
        refine call_open (d3) (by simp (disch := omega) only [go_sem]) ?_
        rintro r hs ⟨rfl, rfl, _⟩
        refine ⟨by simp [freeN], ?_⟩
        simp (disch := omega) only [go_sem]
        exact fin_valc (by simp (disch := omega) only [go_sem]) (by simp (disch := omega) only [go_sem]) isA_mk
    · rw [q1, if_pos rfl] at d1
      cases q2 : (decide (U.k = 0) || decide (U.k = 1))
      · rw [q2, if_neg (by simp), lim_zero] at d2
        cases q3 : (decide (T.k = 0) || decide (T.k = 1))
        · rw [q3, if_neg (by simp), lim_zero] at d3
          refine call_open (d1) (by simp (disch := omega) only [go_sem]) ?_
          rintro r hs ⟨rfl, rfl, _⟩
          refine ⟨by simp [freeN], ?_⟩
          simp (disch := omega) only [go_sem]
          refine call_open (d2) (by simp (disch := omega) only [go_sem]) ?_
          rintro r hs ⟨rfl, rfl, _⟩
          refine ⟨by simp [freeN], ?_⟩
          simp (disch := omega) only [go_sem]
          refine call_open (d3) (by simp (disch := omega) only [go_sem]) ?_
          rintro r hs ⟨rfl, rfl, _⟩
          refine ⟨by simp [freeN], ?_⟩
          simp (disch := omega) only [go_sem]
          exact fin_valc (by simp (disch := omega) only [go_sem]) (by simp (disch := omega) only [go_sem]) isA_mk
        · rw [q3, if_pos rfl] at d3
          refine call_open (d1) (by simp (disch := omega) only [go_sem]) ?_
          rintro r hs ⟨rfl, rfl, _⟩
          refine ⟨by simp [freeN], ?_⟩
          simp (disch := omega) only [go_sem]
          refine call_open (d2) (by simp (disch := omega) only [go_sem]) ?_
          rintro r hs ⟨rfl, rfl, _⟩
          refine ⟨by simp [freeN], ?_⟩
          simp (disch := omega) only [go_sem]
          refine call_open (d3) (by simp (disch := omega) only [go_sem]) ?_
          rintro r hs ⟨rfl, rfl, _⟩
          refine ⟨by simp [freeN], ?_⟩
          simp (disch := omega) only [go_sem]
          exact fin_valc (by simp (disch := omega) only [go_sem]) (by simp (disch := omega) only [go_sem]) isA_mk
      · rw [q2, if_pos rfl] at d2
        cases q3 : (decide (T.k = 0) || decide (T.k = 1))
        · rw [q3, if_neg (by simp), lim_zero] at d3
          refine call_open (d1) (by simp (disch := omega) only [go_sem]) ?_
          rintro r hs ⟨rfl, rfl, _⟩
          refine ⟨by simp [freeN], ?_⟩
          simp (disch := omega) only [go_sem]
          refine call_open (d2) (by simp (disch := omega) only [go_sem]) ?_
          rintro r hs ⟨rfl, rfl, _⟩
          refine ⟨by simp [freeN], ?_⟩
          simp (disch := omega) only [go_sem]
          refine call_open (d3) (by simp (disch := omega) only [go_sem]) ?_
          rintro r hs ⟨rfl, rfl, _⟩
          refine ⟨by simp [freeN], ?_⟩
          simp (disch := omega) only [go_sem]
          exact fin_valc (by simp (disch := omega) only [go_sem]) (by simp (disch := omega) only [go_sem]) isA_mk
        · rw [q3, if_pos rfl] at d3
          have ht' := fun S M E => ht S M E v1 v2 v3 (by simpa using q1) (by simpa using q2) (by simpa using q3)
          obtain ⟨a1, a2, a3, a4, a5, a6⟩ := flB_rng v1
          obtain ⟨b1, b2, b3, b4, b5, b6⟩ := flB_rng v2
          obtain ⟨g1, g2, g3, g4, g5, g6⟩ := flB_rng v3
          have y1 := oE_rng (m := V.m.toNat) (e := V.e) (lo := -1074) (hi := 971) (B := 53) (bl_le.2 (by omega)) (by omega) (by omega) (by omega)
          have y2 := oE_rng (m := U.m.toNat) (e := U.e) (lo := -1074) (hi := 971) (B := 53) (bl_le.2 (by omega)) (by omega) (by omega) (by omega)
          have y3 := oE_rng (m := T.m.toNat) (e := T.e) (lo := -1074) (hi := 971) (B := 53) (bl_le.2 (by omega)) (by omega) (by omega) (by omega)
          have w1 := dyB_canon (V.s && decide (V.k = 1)) V.m.toNat V.e
          have w2 := dyB_canon (U.s && decide (U.k = 1)) U.m.toNat U.e
          have w3 := dyB_canon (T.s && decide (T.k = 1)) T.m.toNat T.e
          rw [dyFit_fl (by omega) (by omega)] at w1
          rw [dyFit_fl (by omega) (by omega)] at w2
          rw [dyFit_fl (by omega) (by omega)] at w3
          have e1 : dv 1074 (oS (V.s && decide (V.k = 1)) V.m.toNat) (oM V.m.toNat) (oE V.m.toNat V.e) = dv 1074 (xS V.k V.s) V.m.toNat V.e := by rw [dv_norm (by omega), dv_oS]; rfl
          have e2 : dv 1074 (oS (U.s && decide (U.k = 1)) U.m.toNat) (oM U.m.toNat) (oE U.m.toNat U.e) = dv 1074 (xS U.k U.s) U.m.toNat U.e := by rw [dv_norm (by omega), dv_oS]; rfl
          have e3 : dv 2148 (oS (T.s && decide (T.k = 1)) T.m.toNat) (oM T.m.toNat) (oE T.m.toNat T.e) = dv 2148 (xS T.k T.s) T.m.toNat T.e := by rw [dv_norm (by omega), dv_oS]; rfl
          generalize oS (V.s && decide (V.k = 1)) V.m.toNat = x1 at *
          generalize oM V.m.toNat = x2 at *
          generalize oE V.m.toNat V.e = x3 at *
          generalize oS (U.s && decide (U.k = 1)) U.m.toNat = z1 at *
          generalize oM U.m.toNat = z2 at *
          generalize oE U.m.toNat U.e = z3 at *
          generalize oS (T.s && decide (T.k = 1)) T.m.toNat = t1 at *
          generalize oM T.m.toNat = t2 at *
          generalize oE T.m.toNat T.e = t3 at *
          have m1 := con_lawMul x1 x2 x3 z1 z2 z3 true w1 w2
          refine call_open (d1) (by simp (disch := omega) only [go_sem]) ?_
          rintro r hs ⟨rfl, rfl, _⟩
          refine ⟨by simp [freeN], ?_⟩
          simp (disch := omega) only [go_sem]
          refine call_open (d2) (by simp (disch := omega) only [go_sem]) ?_
          rintro r hs ⟨rfl, rfl, _⟩
          refine ⟨by simp [freeN], ?_⟩
          simp (disch := omega) only [go_sem]
          refine call_open (d3) (by simp (disch := omega) only [go_sem]) ?_
          rintro r hs ⟨rfl, rfl, _⟩
          refine ⟨by simp [freeN], ?_⟩
          simp (disch := omega) only [go_sem]
          cases k1 : dyFit (x2 * z2) (x3 + z3)
          · rw [k1, if_neg (by simp), lim_zero] at m1
            have m2 := con_lawAdd false 0 0 t1 t2 t3 false (by rw [lim_zero]; decide) w3
            rw [lim_zero] at m2
            refine call_open (m1) (by simp (disch := omega) only [go_sem]) ?_
            rintro r hs ⟨rfl, rfl, _⟩
            refine ⟨by simp [freeN], ?_⟩
            simp (disch := omega) only [go_sem]
            cases k2 : dyFit (adM false 0 0 t1 t2 t3) (alE 0 0 t2 t3)
            · rw [k2, if_neg (by simp)] at m2
              refine call_open (m2) (by simp (disch := omega) only [go_sem]) ?_
              rintro r hs ⟨rfl, rfl, _⟩
              refine ⟨by simp [freeN], ?_⟩
              simp (disch := omega) only [go_sem]
              exact fin_valc (by simp (disch := omega) only [go_sem]) (by simp (disch := omega) only [go_sem]) isA_mk
            · rw [k2, if_pos rfl] at m2
              refine call_open (m2) (by simp (disch := omega) only [go_sem]) ?_
              rintro r hs ⟨rfl, rfl, _⟩
              refine ⟨by simp [freeN], ?_⟩
              simp (disch := omega) only [go_sem]
              exact fin_valc (by simp (disch := omega) only [go_sem]) (by simp (disch := omega) only [go_sem]) isA_mk
          · rw [k1, if_pos rfl] at m1
            have w4 := dyB_canon (pmS x1 x2 z1 z2) (x2 * z2) (x3 + z3)
            rw [k1] at w4
            have e4 : dv 2148 (oS (pmS x1 x2 z1 z2) (x2 * z2)) (oM (x2 * z2)) (oE (x2 * z2) (x3 + z3)) = dv 1074 (xS V.k V.s) V.m.toNat V.e * dv 1074 (xS U.k U.s) U.m.toNat U.e := by
              rw [dv_norm (by omega), dv_oS, ← e1, ← e2]
              unfold pmS
              rw [dv_and, show (2148 : Nat) = 1074 + 1074 from rfl, dv_mul (by omega) (by omega)]
            have y4 : -2148 ≤ oE (x2 * z2) (x3 + z3) := oE_ge (by omega) (by omega)
            generalize oS (pmS x1 x2 z1 z2) (x2 * z2) = u1 at *
            generalize oM (x2 * z2) = u2 at *
            generalize oE (x2 * z2) (x3 + z3) = u3 at *
            have m2 := con_lawAdd u1 u2 u3 t1 t2 t3 true w4 w3
            refine call_open (m1) (by simp (disch := omega) only [go_sem]) ?_
            rintro r hs ⟨rfl, rfl, _⟩
            refine ⟨by simp [freeN], ?_⟩
            simp (disch := omega) only [go_sem]
            cases k2 : dyFit (adM u1 u2 u3 t1 t2 t3) (alE u2 u3 t2 t3)
            · rw [k2, if_neg (by simp), lim_zero] at m2
              refine call_open (m2) (by simp (disch := omega) only [go_sem]) ?_
              rintro r hs ⟨rfl, rfl, _⟩
              refine ⟨by simp [freeN], ?_⟩
              simp (disch := omega) only [go_sem]
              exact fin_valc (by simp (disch := omega) only [go_sem]) (by simp (disch := omega) only [go_sem]) isA_mk
            · rw [k2, if_pos rfl] at m2
              have w5 := dyB_canon (adS u1 u2 u3 t1 t2 t3) (adM u1 u2 u3 t1 t2 t3) (alE u2 u3 t2 t3)
              rw [k2] at w5
              have e5 : dv 2148 (oS (adS u1 u2 u3 t1 t2 t3) (adM u1 u2 u3 t1 t2 t3)) (oM (adM u1 u2 u3 t1 t2 t3)) (oE (adM u1 u2 u3 t1 t2 t3) (alE u2 u3 t2 t3)) = dv 1074 (xS V.k V.s) V.m.toNat V.e * dv 1074 (xS U.k U.s) U.m.toNat U.e + dv 2148 (xS T.k T.s) T.m.toNat T.e := by
                rw [dv_norm (alE_ge (by omega) (by omega)), dv_oS, ad_dv (by omega) (by omega), e4, e3]
              have y5 : -2148 ≤ oE (adM u1 u2 u3 t1 t2 t3) (alE u2 u3 t2 t3) := oE_ge (alE_ge (by omega) (by omega)) (by omega)
              obtain ⟨p1, p2, p3⟩ := ht' _ _ _ y5 e5
              generalize oS (adS u1 u2 u3 t1 t2 t3) (adM u1 u2 u3 t1 t2 t3) = r1 at *
              generalize oM (adM u1 u2 u3 t1 t2 t3) = r2 at *
              generalize oE (adM u1 u2 u3 t1 t2 t3) (alE u2 u3 t2 t3) = r3 at *
              have cr := con_FlRound r1 (lim r2) r3 m (by have := (dyB_lim w5); obtain ⟨n, h1, h2, _⟩ := this; rw [h1]; omega)
              rw [if_pos (by rw [w5, vm]; rfl), vl_lim, Int.toNat_natCast] at cr
              rw [p1] at cf
              generalize flV r1 r2 r3 m false = Y at *
              generalize flG r1 r2 r3 m = YG at *
              refine call_open (m2) (by simp (disch := omega) only [go_sem]) ?_
              rintro r hs ⟨rfl, rfl, _⟩
              refine ⟨by simp [freeN], ?_⟩
              simp (disch := omega) only [go_sem]
              refine call_closed (cf) (by simp (disch := omega) only [go_sem]) ?_
              rintro r hs ⟨rfl, rfl, _⟩
              refine ⟨by simp [freeN], ?_⟩
              simp (disch := omega) only [go_sem]
              refine call_closed (cr) (by simp (disch := omega) only [go_sem]) ?_
              rintro r hs ⟨rfl, rfl, _⟩
              refine ⟨by simp [freeN], ?_⟩
              simp (disch := omega) only [go_sem]
              by_cases zk : Y.k = 0
              · have zk1 : decide (Z.k = 0) = true := decide_eq_true (by rw [p2]; exact zk)
                have zk2 : decide (Z.k = Y.k) = true := decide_eq_true p2
                simp (disch := omega) only [go_sem, dec_self, zk2, zk1]
                exact fin_valc (by simp (disch := omega) only [go_sem]) (by simp (disch := omega) only [go_sem]) isA_mk
              · have zk1 : decide (Z.k = 0) = false := decide_eq_false (by rw [p2]; exact zk)
                have zk2 : decide (Z.k = Y.k) = true := decide_eq_true p2
                have zk3 := p3 zk
                have zk4 : flEq Z.k Z.s Z.m Z.e Y.k Y.s Y.m Y.e = true := by rw [zk3]; exact flEq_self _ _ _ _
                simp (disch := omega) only [go_sem, dec_self, zk2, zk1, zk4]
                exact fin_valc (by simp (disch := omega) only [go_sem]) (by simp (disch := omega) only [go_sem]) isA_mk
end Go.Ab
namespace Go.Proofs.YtkmldlminmlcnaaGreatDoor
open Go.ChangeShapes Go.WideShapes Go.ChangeAt Go.RowKit Go.Ab

theorem own : ownKnob Tryz.prog.godebug = none := by kernel_rfl
theorem laidOut : laidOutB Tryz.prog = true := by kernel_rfl
theorem tabs_g1 : Tryz.prog.globalNamed "math/bits.deBruijn64tab" = some 1 := by kernel_rfl
theorem tabs_t1 : (Tryz.prog.globals[1]?).map (·.type) = some 164 := by kernel_rfl
theorem tabs_u1 : Tryz.prog.underlying 164 = some (.array 64 5) := by kernel_rfl
theorem tabs_e1 : Tryz.prog.underlying 5 = some (.int .u8) := by kernel_rfl
theorem tabs_c1 : Tryz.prog.cellsOf 5 = 1 := by kernel_rfl
theorem tabs_k1 : Tryz.prog.cellsOf 164 = 64 := by kernel_rfl
noncomputable def laidList : List (String × DataW Unit) := [("math/bits.deBruijn32tab", Rows.laid_math_bits_deBruijn32tab), ("math/bits.deBruijn64tab", Rows.laid_math_bits_deBruijn64tab)]

theorem tabs_gd {W : World} (h : laidMetH Tryz.prog laidList W) : Gd W := by
  have h' : laidMet Tryz.prog laidList W := h
  have h2 : laidMet Tryz.prog [("math/bits.deBruijn64tab", Lib.tabData .u8 (Lib.deBruijn64tab.map Int.ofNat))] W := laidMet.tail h'
  have hT := Lib.tabIs_of_head tabs_g1 tabs_t1 tabs_u1 tabs_e1 tabs_c1 tabs_k1 h2
  intro g l hg
  unfold glb at hg
  split at hg
  · rename_i e
    subst e
    cases hg
    have hc : ∀ i, i < Lib.deBruijn64tab.length → W.cell? ⟨1, i, none⟩ = some (.int .u8 ((Lib.deBruijn64tab.getD i 0 : Nat) : Int)) := fun i hi => by
      have := hT.cell tabs_g1 i (by simpa using hi)
      rw [this]
      simp [List.getD, hi]
    exact ⟨cell_blk (hc 0 (by decide)), hc⟩
  · cases hg

/-- A world that meets the condition: the settled one, the tables laid. -/
noncomputable def laidWorld (os : Os) : World :=
  let w0 := World.holding Tryz.prog os ⟨#[], #[], []⟩
  { w0 with heap := (w0.heap.modify 1 fun
      | .cells _ t frozen => .cells (Lib.deBruijn64tab.map fun z => Value.int .u8 (Int.ofNat z)).toArray t frozen
      | o => o).modify 0 fun
      | .cells _ t frozen => .cells (Lib.deBruijn32tab.map fun z => Value.int .u8 (Int.ofNat z)).toArray t frozen
      | o => o }
theorem laidWorld_met (os : Os) (args : Array Value) : laidMetH Tryz.prog laidList ((laidWorld os).forCall (fun _ _ => 0) ⟨#[], args, []⟩).memory :=
  laidMetH_of_parts (laidMet_of_run' 8 (by kernel_rfl) (by kernel_rfl)) (by kernel_rfl)
end Go.Proofs.YtkmldlminmlcnaaGreatDoor
namespace Go.Ab
open Go
set_option linter.unusedVariables false

/-- A slice of bytes, read. -/
theorem frep_bytes {R : Nat → Prop} {W : World} {a : Addr} {len cap : Nat} {zs : List Int} (hle : len ≤ cap) (hz : zs.length = cap) (hc : ∀ i, i < zs.length → W.cell? (a.add i) = some (.int .u8 (zs.getD i 0))) (hw : ∀ n ∈ zs, 0 ≤ n ∧ n < 256) (hR : ∀ b, b < W.heap.size → R b) :
    FRep R W (.slice (some a) len cap) (.sl ((zs.take len).map fun n => UInt8.ofNat n.toNat).length (bytesA ((zs.take len).map fun n => UInt8.ofNat n.toNat))) := by
  have hl : ((zs.take len).map fun n => UInt8.ofNat n.toNat).length = len := by rw [List.length_map, List.length_take]; omega
  have hil : (bytesA ((zs.take len).map fun n => UInt8.ofNat n.toNat)).length = len := by unfold bytesA; rw [List.length_map, hl]
  rw [hl]
  obtain ⟨b, o, sp⟩ := a
  have hsp : 0 < len → sp = none := fun h0 => by
    have h1 := World.cell?_spot (hc 0 (by omega))
    simpa [Addr.add] using h1
  refine .sl _ len cap _ (fun i => .int .u8 (zs.getD i 0)) b o hle (fun h0 => ?_) (fun i hi => ?_) (fun i hi => ?_)
  · have hs := hsp (by omega)
    subst hs
    exact ⟨rfl, hR _ (cell_blk (hc 0 (by omega)))⟩
  · have hs := hsp (by omega)
    subst hs
    have h1 := hc i (by omega)
    rw [add_at] at h1
    exact h1
  · have : (bytesA ((zs.take len).map fun n => UInt8.ofNat n.toNat))[i] = .v (.int .u8 (zs.getD i 0)) := by
      have hi2 : i < zs.length := by omega
      have hm := hw zs[i] (List.getElem_mem hi2)
      simp only [bytesA, List.getElem_map, List.getElem_take, List.getD_eq_getElem?_getD]
      rw [List.getElem?_eq_getElem hi2]
      simp only [Option.getD_some]
      congr 2
      rw [UInt8.toNat_ofNat']
      omega
    rw [this]
    exact .v _

theorem lit_u8 {n : Int} (h : (Lit.int .u8 n).wf = true) : 0 ≤ n ∧ n < 256 := by
  have h' : IntKind.u8.min ≤ n ∧ n ≤ IntKind.u8.max := by simpa [Lit.wf] using h
  have h1 : IntKind.u8.min = 0 := rfl
  have h2 : IntKind.u8.max = 255 := rfl
  omega

theorem open_bs {H : Type} {enc : TypeId × Value → H} {P : Program} {W : World} {t e fuel : Nat} {cs : List Value} {x : DataW H × List MemPlace} (ht : P.underlying t = some (.slice e)) (he : P.underlying e = some (.int .u8)) (hc : P.cellsOf e = 1)
    (h : DataW.trod enc P W 0 (fun _ => true) true fuel t cs = some x) :
    ∃ (v : Value) (l : List UInt8), cs = [v] ∧ l.length ≤ maxLen ∧ FRep (fun b => b < W.heap.size) W v (.sl l.length (bytesA l)) := by
  rcases ChangeShapes.open_ints ht he hc h with ⟨rfl, _⟩ | ⟨a, len, cap, zs, rfl, _, hl, hm, hz, _, hcell, hwf⟩
  · exact ⟨_, [], rfl, Nat.zero_le _, frep_nil⟩
  · rw [if_pos rfl] at hz
    refine ⟨_, _, rfl, ?_, frep_bytes hl hz hcell (fun n hn => lit_u8 (hwf n hn)) (fun _ h => h)⟩
    rw [List.length_map, List.length_take]; omega

theorem repA_one {R : Nat → Prop} {ι : Nat → Option Blk} {w : World} {x : Value} {a : AV} (h1 : Rep R ι w x a) : RepA R ι w #[x] [a] :=
  ⟨rfl, fun i h => match i, h with
    | 0, _ => h1⟩
end Go.Ab
