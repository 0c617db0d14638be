/- What the proof of this claim stands on: the walks of the functions and the plain laws, part 5. -/
import Derived.Test.YtkmldlminmlcnaaDoorFnExactFlFmaLib4
import Derived.Test.YtkmldlminmlcnaaDoorRows
import Derived.Test.YtkmldlminmlcnaaDoorCards
import Derived.Test.YtkmldlminmlcnaaDoorTie
import Derived.Handed
import Derived.ChangeSame
import Derived.JoinedOf
import Derived.RowKit
import Derived.WalkKit
import Derived.ProofKit
import Derived.OpenShut
import Derived.LaidLaws
import Derived.LaidHandle
import Derived.SevenTiedAt
import Derived.Stop.LaidErr
import Derived.Lib.LaidTab
namespace Go.Ab
open Go
set_option linter.unusedVariables false
set_option linter.unusedSimpArgs false

theorem l5d_rng {k : Int} {s : Bool} {m e : Int} (h : flB k s m e = true) : bl (l5dM k m) ≤ 53 ∧ (-1074 ≤ l5dE k m e ∧ l5dE k m e ≤ 971 + 53) := by
  obtain ⟨a1, a2, a3, a4⟩ := flB_rng h
  have hb : bl m.toNat ≤ 53 := bl_le.2 (by omega)
  unfold l5dM l5dE
  by_cases h1 : k = 1
  · rw [if_pos h1, if_pos h1]
    exact ⟨Nat.le_trans (bl_mono (oM_le _)) hb, oE_rng hb (by omega) (by omega) a2⟩
  · rw [if_neg h1, if_neg h1, bl_zero]; omega

theorem l5d_z {k : Int} {s : Bool} {m : Int} (h : l5dM k m = 0) : l5dS k s m = false := by
  unfold l5dM at h
  unfold l5dS
  by_cases h1 : k = 1
  · rw [if_pos h1] at h ⊢
    unfold oS; rw [if_pos (oM_eq_zero.1 h)]
  · rw [if_neg h1]

theorem l5d_dv {K : Nat} {k : Int} {s : Bool} {m e : Int} (hK : 1074 ≤ K) (h : flB k s m e = true) : dv K (l5dS k s m) (l5dM k m) (l5dE k m e) = dv K (xS k s) m.toNat e := by
  obtain ⟨a1, a2, a3, a4, a5⟩ := flB_rng h
  unfold l5dS l5dM l5dE xS
  by_cases h1 : k = 1
  · rw [if_pos h1, if_pos h1, if_pos h1, decide_eq_true h1, Bool.and_true, dv_norm (by omega), dv_oS, dv_and]
  · have : m.toNat = 0 := by have := (a4 h1).1; omega
    rw [if_neg h1, if_neg h1, if_neg h1, this, dv_zero, dv_zero]

theorem add_canon {k1 : Int} {s1 : Bool} {m1 e1 k2 : Int} {s2 : Bool} {m2 e2 mode : Int} (z : Bool) (h1 : flB k1 s1 m1 e1 = true) (h2 : flB k2 s2 m2 e2 = true) :
    flV (oS (adS (l5dS k1 s1 m1) (l5dM k1 m1) (l5dE k1 m1 e1) (l5dS k2 s2 m2) (l5dM k2 m2) (l5dE k2 m2 e2)) (adM (l5dS k1 s1 m1) (l5dM k1 m1) (l5dE k1 m1 e1) (l5dS k2 s2 m2) (l5dM k2 m2) (l5dE k2 m2 e2))) (oM (adM (l5dS k1 s1 m1) (l5dM k1 m1) (l5dE k1 m1 e1) (l5dS k2 s2 m2) (l5dM k2 m2) (l5dE k2 m2 e2))) (oE (adM (l5dS k1 s1 m1) (l5dM k1 m1) (l5dE k1 m1 e1) (l5dS k2 s2 m2) (l5dM k2 m2) (l5dE k2 m2 e2)) (alE (l5dM k1 m1) (l5dE k1 m1 e1) (l5dM k2 m2) (l5dE k2 m2 e2))) mode z =
      flV (adS (xS k1 s1) m1.toNat e1 (xS k2 s2) m2.toNat e2) (adM (xS k1 s1) m1.toNat e1 (xS k2 s2) m2.toNat e2) (alE m1.toNat e1 m2.toNat e2) mode z ∧
    flG (oS (adS (l5dS k1 s1 m1) (l5dM k1 m1) (l5dE k1 m1 e1) (l5dS k2 s2 m2) (l5dM k2 m2) (l5dE k2 m2 e2)) (adM (l5dS k1 s1 m1) (l5dM k1 m1) (l5dE k1 m1 e1) (l5dS k2 s2 m2) (l5dM k2 m2) (l5dE k2 m2 e2))) (oM (adM (l5dS k1 s1 m1) (l5dM k1 m1) (l5dE k1 m1 e1) (l5dS k2 s2 m2) (l5dM k2 m2) (l5dE k2 m2 e2))) (oE (adM (l5dS k1 s1 m1) (l5dM k1 m1) (l5dE k1 m1 e1) (l5dS k2 s2 m2) (l5dM k2 m2) (l5dE k2 m2 e2)) (alE (l5dM k1 m1) (l5dE k1 m1 e1) (l5dM k2 m2) (l5dE k2 m2 e2))) mode =
      flG (adS (xS k1 s1) m1.toNat e1 (xS k2 s2) m2.toNat e2) (adM (xS k1 s1) m1.toNat e1 (xS k2 s2) m2.toNat e2) (alE m1.toNat e1 m2.toNat e2) mode := by
  obtain ⟨a1, a2, _⟩ := flB_rng h1
  obtain ⟨b1, b2, _⟩ := flB_rng h2
  obtain ⟨_, d2⟩ := l5d_rng h1
  obtain ⟨_, f2⟩ := l5d_rng h2
  rw [(flV_canon _ _ _ mode z).1, (flV_canon _ _ _ mode z).2]
  refine flV_same (K := 1074) mode z (alE_ge (by omega) (by omega)) (alE_ge (by omega) (by omega)) ?_
  rw [ad_dv (by omega) (by omega), ad_dv (by omega) (by omega), l5d_dv (by omega) h1, l5d_dv (by omega) h2]
end Go.Ab
namespace Go.Ab
open Go Go.Proofs
set_option linter.unusedVariables false
set_option linter.unusedSimpArgs false

set_option maxRecDepth 100000 in
theorem con_l5add (k1 : Int) (s1 : Bool) (m1 e1 k2 : Int) (s2 : Bool) (m2 e2 mode : Int) (h1 : flB k1 s1 m1 e1 = true) (h2 : flB k2 s2 m2 e2 = true) (hmode : 0 ≤ mode ∧ mode ≤ 4) :
    Con Tryd.prog 28 true [.ag [.v (.int .i64 (k1)), .v (.bool (s1)), .v (.int .i64 (m1)), .v (.int .i64 (e1))], .ag [.v (.int .i64 (k2)), .v (.bool (s2)), .v (.int .i64 (m2)), .v (.int .i64 (e2))], .v (.int .i64 mode)] []
      (isA (.tu [.ag [.v (.int .i64 ((addV k1 s1 m1 e1 k2 s2 m2 e2 mode).k)), .v (.bool ((addV k1 s1 m1 e1 k2 s2 m2 e2 mode).s)), .v (.int .i64 ((addV k1 s1 m1 e1 k2 s2 m2 e2 mode).m)), .v (.int .i64 ((addV k1 s1 m1 e1 k2 s2 m2 e2 mode).e))], .v (.int .i64 (addG k1 s1 m1 e1 k2 s2 m2 e2 mode))])) := by
  obtain ⟨a1, a2, a3, a4⟩ := flB_rng h1
  obtain ⟨b1, b2, b3, b4⟩ := flB_rng h2
  obtain ⟨n1, rfl⟩ := Int.eq_ofNat_of_zero_le a1.1
  obtain ⟨n2, rfl⟩ := Int.eq_ofNat_of_zero_le b1.1
  have q1 : bl n1 ≤ 53 := bl_le.2 (by omega)
  have q2 : bl n2 ≤ 53 := bl_le.2 (by omega)
  have r1 : ((n1 : Nat) : Int).toNat = n1 := rfl
  have r2 : ((n2 : Nat) : Int).toNat = n2 := rfl
  by_cases c1 : k1 = 3
  · subst c1
    refine Con.of_aw Tryd.func28 rfl Tryd.ntmps28 (by simp) (by simp) (by simp) (W.sound ?_)
    show @W Tryd.prog 77 ⟨_⟩ ⟨fun x σ => @retW _ _ _ ⟨_⟩ _ ⟨_⟩ x σ⟩ _ _
    simp (disch := omega) only [go_sem]
    refine call_closed (con_l5nan) (by simp (disch := omega) only [go_sem]) ?_
    rintro r hs ⟨rfl, rfl, _⟩
    refine ⟨by simp [freeN], ?_⟩
    simp (disch := omega) only [go_sem]
    rw [(addV_nan (.inl rfl)).1, (addV_nan (.inl rfl)).2]
    exact fin_valc (by simp (disch := omega) only [go_sem]) (by simp (disch := omega) only [go_sem]) isA_mk
  by_cases c2 : k2 = 3
  · subst c2
    refine Con.of_aw Tryd.func28 rfl Tryd.ntmps28 (by simp) (by simp) (by simp) (W.sound ?_)
    show @W Tryd.prog 77 ⟨_⟩ ⟨fun x σ => @retW _ _ _ ⟨_⟩ _ ⟨_⟩ x σ⟩ _ _
    simp (disch := omega) only [go_sem, c1]
    refine call_closed (con_l5nan) (by simp (disch := omega) only [go_sem]) ?_
    rintro r hs ⟨rfl, rfl, _⟩
    refine ⟨by simp [freeN], ?_⟩
    simp (disch := omega) only [go_sem]
    rw [(addV_nan (.inr rfl)).1, (addV_nan (.inr rfl)).2]
    exact fin_valc (by simp (disch := omega) only [go_sem]) (by simp (disch := omega) only [go_sem]) isA_mk
  by_cases d1 : k1 = 2
  · by_cases d2 : k2 = 2
    · by_cases hs : s1 = s2
      · subst d1
        subst d2
        subst hs
        have hx : (s1 != s1) = false := by simp
        refine Con.of_aw Tryd.func28 rfl Tryd.ntmps28 (by simp) (by simp) (by simp) (W.sound ?_)
        show @W Tryd.prog 77 ⟨_⟩ ⟨fun x σ => @retW _ _ _ ⟨_⟩ _ ⟨_⟩ x σ⟩ _ _
        simp (disch := omega) only [go_sem, hx]
        rw [(addV_inf1 rfl (by omega) (fun _ => rfl)).1, (addV_inf1 rfl (by omega) (fun _ => rfl)).2]
        exact fin_valc (by simp (disch := omega) only [go_sem]) (by simp (disch := omega) only [go_sem]) isA_mk
      · subst d1
        subst d2
        have hx : (s1 != s2) = true := by simpa using hs
        refine Con.of_aw Tryd.func28 rfl Tryd.ntmps28 (by simp) (by simp) (by simp) (W.sound ?_)
        show @W Tryd.prog 77 ⟨_⟩ ⟨fun x σ => @retW _ _ _ ⟨_⟩ _ ⟨_⟩ x σ⟩ _ _
        simp (disch := omega) only [go_sem, hx]
        refine call_closed (con_l5bad) (by simp (disch := omega) only [go_sem]) ?_
        rintro r hs ⟨rfl, rfl, _⟩
        refine ⟨by simp [freeN], ?_⟩
        simp (disch := omega) only [go_sem]
        rw [(addV_bad rfl rfl hs).1, (addV_bad rfl rfl hs).2]
        exact fin_valc (by simp (disch := omega) only [go_sem]) (by simp (disch := omega) only [go_sem]) isA_mk
    · subst d1
      refine Con.of_aw Tryd.func28 rfl Tryd.ntmps28 (by simp) (by simp) (by simp) (W.sound ?_)
      show @W Tryd.prog 77 ⟨_⟩ ⟨fun x σ => @retW _ _ _ ⟨_⟩ _ ⟨_⟩ x σ⟩ _ _
      simp (disch := omega) only [go_sem, c2, d2]
      rw [(addV_inf1 rfl c2 (fun h => absurd h d2)).1, (addV_inf1 rfl c2 (fun h => absurd h d2)).2]
      exact fin_valc (by simp (disch := omega) only [go_sem]) (by simp (disch := omega) only [go_sem]) isA_mk
  by_cases d2 : k2 = 2
  · subst d2
    refine Con.of_aw Tryd.func28 rfl Tryd.ntmps28 (by simp) (by simp) (by simp) (W.sound ?_)
    show @W Tryd.prog 77 ⟨_⟩ ⟨fun x σ => @retW _ _ _ ⟨_⟩ _ ⟨_⟩ x σ⟩ _ _
    simp (disch := omega) only [go_sem, c1, d1]
    rw [(addV_inf2 c1 d1 rfl).1, (addV_inf2 c1 d1 rfl).2]
    exact fin_valc (by simp (disch := omega) only [go_sem]) (by simp (disch := omega) only [go_sem]) isA_mk
  have g1 : xS k1 s1 = (s1 && decide (k1 = 1)) := rfl
  have g2 : xS k2 s2 = (s2 && decide (k2 = 1)) := rfl
  obtain ⟨d1', d2'⟩ := l5d_rng h1
  obtain ⟨f1', f2'⟩ := l5d_rng h2
  have fin : ∀ z, z = adZ k1 s1 k2 s2 mode → (addV k1 s1 n1 e1 k2 s2 n2 e2 mode = flV (adS (xS k1 s1) n1 e1 (xS k2 s2) n2 e2) (adM (xS k1 s1) n1 e1 (xS k2 s2) n2 e2) (alE n1 e1 n2 e2) mode z ∧ addG k1 s1 n1 e1 k2 s2 n2 e2 mode = flG (adS (xS k1 s1) n1 e1 (xS k2 s2) n2 e2) (adM (xS k1 s1) n1 e1 (xS k2 s2) n2 e2) (alE n1 e1 n2 e2) mode) := fun z hz => by rw [hz]; exact addV_fin c1 d1 c2 d2
  have hE := alE_ge (K := -1074) (m1 := l5dM k1 n1) (m2 := l5dM k2 n2) (e1 := l5dE k1 n1 e1) (e2 := l5dE k2 n2 e2) (by omega) (by omega)
  have hE2 := alE_le (K := 1024) (m1 := l5dM k1 n1) (m2 := l5dM k2 n2) (e1 := l5dE k1 n1 e1) (e2 := l5dE k2 n2 e2) (by omega) (by omega)
  have hM : bl (adM (l5dS k1 s1 n1) (l5dM k1 n1) (l5dE k1 n1 e1) (l5dS k2 s2 n2) (l5dM k2 n2) (l5dE k2 n2 e2)) ≤ 3000 := by
    have y1 := bl_alA (e := l5dE k1 n1 e1) (E := alE (l5dM k1 n1) (l5dE k1 n1 e1) (l5dM k2 n2) (l5dE k2 n2 e2)) (C := 2900) d1' (by omega)
    have y2 := bl_alA (e := l5dE k2 n2 e2) (E := alE (l5dM k1 n1) (l5dE k1 n1 e1) (l5dM k2 n2) (l5dE k2 n2 e2)) (C := 2900) f1' (by omega)
    exact Nat.le_trans (bl_suM y1 y2) (by omega)
  have hcan := fun z => add_canon (mode := mode) z h1 h2
  simp only [r1, r2] at hcan
  generalize hP : adM (l5dS k1 s1 n1) (l5dM k1 n1) (l5dE k1 n1 e1) (l5dS k2 s2 n2) (l5dM k2 n2) (l5dE k2 n2 e2) = P at *
  generalize hQ : adS (l5dS k1 s1 n1) (l5dM k1 n1) (l5dE k1 n1 e1) (l5dS k2 s2 n2) (l5dM k2 n2) (l5dE k2 n2 e2) = Q at *
  generalize hR : alE (l5dM k1 n1) (l5dE k1 n1 e1) (l5dM k2 n2) (l5dE k2 n2 e2) = R at *
  have q4 := bl_mono (oM_le P)
  have q5 := oE_rng (m := P) (e := R) (lo := -1074) (hi := 1024) (Nat.le_refl _) (by omega) (by omega) (by omega)
  have cadd := con_l4add (l5dS k1 s1 n1) (l5dM k1 n1) (l5dE k1 n1 e1) (l5dS k2 s2 n2) (l5dM k2 n2) (l5dE k2 n2 e2) (by omega) (by omega) (by omega) (by omega) l5d_z l5d_z
  rw [hP, hQ, hR] at cadd
  by_cases u1 : k1 = 0
  · have v1 : decide (k1 = 0) = true := decide_eq_true u1
    by_cases u2 : k2 = 0
    · have v2 : decide (k2 = 0) = true := decide_eq_true u2
      by_cases hs : s1 = s2
      · have hx : (s1 == s2) = true := by simpa using hs
        refine Con.of_aw Tryd.func28 rfl Tryd.ntmps28 (by simp) (by simp) (by simp) (W.sound ?_)
        show @W Tryd.prog 77 ⟨_⟩ ⟨fun x σ => @retW _ _ _ ⟨_⟩ _ ⟨_⟩ x σ⟩ _ _
        simp (disch := omega) only [go_sem, c1, c2, d1, d2, v1, v2, hx]
        refine draw_of rfl [⟨0, [], []⟩, ⟨2, [0], []⟩, ⟨5, [0, 2], []⟩, ⟨6, [0, 2], []⟩, ⟨1, [2], []⟩, ⟨3, [], []⟩, ⟨4, [], []⟩, ⟨7, [], []⟩, ⟨8, [], []⟩, ⟨9, [], []⟩, ⟨10, [], []⟩, ⟨11, [], []⟩] (by kernel_rfl) ?_
        simp (disch := omega) only [go_sem, c1, c2, d1, d2, v1, v2, hx]
        refine call_open (con_l5dy k1 s1 n1 e1 h1) (by simp (disch := omega) only [go_sem]) ?_
        rintro r hs ⟨rfl, rfl, _⟩
        refine ⟨by simp [freeN], ?_⟩
        simp (disch := omega) only [go_sem]
        refine call_open (con_l5dy k2 s2 n2 e2 h2) (by simp (disch := omega) only [go_sem]) ?_
        rintro r hs ⟨rfl, rfl, _⟩
        refine ⟨by simp [freeN], ?_⟩
        simp (disch := omega) only [go_sem]
        refine call_open (cadd) (by simp (disch := omega) only [go_sem]) ?_
        rintro r hs ⟨rfl, rfl, _⟩
        refine ⟨by simp [freeN], ?_⟩
        simp (disch := omega) only [go_sem]
        refine call_closed (con_l5round (oS Q P) (oM P) (oE P R) mode (s1) (oM_odd _) (oS_z _ _) hmode (by omega) (by omega)) (by simp (disch := omega) only [go_sem]) ?_
        rintro r hs ⟨rfl, rfl, _⟩
        refine ⟨by simp [freeN], ?_⟩
        simp (disch := omega) only [go_sem]
        rw [(hcan (s1)).1, (hcan (s1)).2]
        rw [(fin (s1) (by unfold adZ; rw [if_pos ⟨u1, u2, hs⟩])).1, (fin (s1) (by unfold adZ; rw [if_pos ⟨u1, u2, hs⟩])).2]
        exact fin_valc (by simp (disch := omega) only [go_sem]) (by simp (disch := omega) only [go_sem]) isA_mk
      · have hx : (s1 == s2) = false := by simpa using hs
        refine Con.of_aw Tryd.func28 rfl Tryd.ntmps28 (by simp) (by simp) (by simp) (W.sound ?_)
        show @W Tryd.prog 77 ⟨_⟩ ⟨fun x σ => @retW _ _ _ ⟨_⟩ _ ⟨_⟩ x σ⟩ _ _
        simp (disch := omega) only [go_sem, c1, c2, d1, d2, v1, v2, hx]
        refine draw_of rfl [⟨0, [], []⟩, ⟨2, [0], []⟩, ⟨5, [0, 2], []⟩, ⟨6, [0, 2], []⟩, ⟨1, [2], []⟩, ⟨3, [], []⟩, ⟨4, [], []⟩, ⟨7, [], []⟩, ⟨8, [], []⟩, ⟨9, [], []⟩, ⟨10, [], []⟩, ⟨11, [], []⟩] (by kernel_rfl) ?_
        simp (disch := omega) only [go_sem, c1, c2, d1, d2, v1, v2, hx]
        refine call_open (con_l5dy k1 s1 n1 e1 h1) (by simp (disch := omega) only [go_sem]) ?_
        rintro r hs ⟨rfl, rfl, _⟩
        refine ⟨by simp [freeN], ?_⟩
        simp (disch := omega) only [go_sem]
        refine call_open (con_l5dy k2 s2 n2 e2 h2) (by simp (disch := omega) only [go_sem]) ?_
        rintro r hs ⟨rfl, rfl, _⟩
        refine ⟨by simp [freeN], ?_⟩
        simp (disch := omega) only [go_sem]
        refine call_open (cadd) (by simp (disch := omega) only [go_sem]) ?_
        rintro r hs ⟨rfl, rfl, _⟩
        refine ⟨by simp [freeN], ?_⟩
        simp (disch := omega) only [go_sem]
        refine call_closed (con_l5round (oS Q P) (oM P) (oE P R) mode (decide (mode = 3)) (oM_odd _) (oS_z _ _) hmode (by omega) (by omega)) (by simp (disch := omega) only [go_sem]) ?_
        rintro r hs ⟨rfl, rfl, _⟩
        refine ⟨by simp [freeN], ?_⟩
        simp (disch := omega) only [go_sem]
        rw [(hcan (decide (mode = 3))).1, (hcan (decide (mode = 3))).2]
        rw [(fin (decide (mode = 3)) (by unfold adZ; rw [if_neg (fun h => hs h.2.2)])).1, (fin (decide (mode = 3)) (by unfold adZ; rw [if_neg (fun h => hs h.2.2)])).2]
        exact fin_valc (by simp (disch := omega) only [go_sem]) (by simp (disch := omega) only [go_sem]) isA_mk
    · have v2 : decide (k2 = 0) = false := decide_eq_false u2
      refine Con.of_aw Tryd.func28 rfl Tryd.ntmps28 (by simp) (by simp) (by simp) (W.sound ?_)
      show @W Tryd.prog 77 ⟨_⟩ ⟨fun x σ => @retW _ _ _ ⟨_⟩ _ ⟨_⟩ x σ⟩ _ _
      simp (disch := omega) only [go_sem, c1, c2, d1, d2, v1, v2]
      refine draw_of rfl [⟨0, [], []⟩, ⟨2, [0], []⟩, ⟨5, [0, 2], []⟩, ⟨6, [0, 2], []⟩, ⟨1, [2], []⟩, ⟨3, [], []⟩, ⟨4, [], []⟩, ⟨7, [], []⟩, ⟨8, [], []⟩, ⟨9, [], []⟩, ⟨10, [], []⟩, ⟨11, [], []⟩] (by kernel_rfl) ?_
      simp (disch := omega) only [go_sem, c1, c2, d1, d2, v1, v2]
      refine call_open (con_l5dy k1 s1 n1 e1 h1) (by simp (disch := omega) only [go_sem]) ?_
      rintro r hs ⟨rfl, rfl, _⟩
      refine ⟨by simp [freeN], ?_⟩
      simp (disch := omega) only [go_sem]
      refine call_open (con_l5dy k2 s2 n2 e2 h2) (by simp (disch := omega) only [go_sem]) ?_
      rintro r hs ⟨rfl, rfl, _⟩
      refine ⟨by simp [freeN], ?_⟩
      simp (disch := omega) only [go_sem]
      refine call_open (cadd) (by simp (disch := omega) only [go_sem]) ?_
      rintro r hs ⟨rfl, rfl, _⟩
      refine ⟨by simp [freeN], ?_⟩
      simp (disch := omega) only [go_sem]
      refine call_closed (con_l5round (oS Q P) (oM P) (oE P R) mode (decide (mode = 3)) (oM_odd _) (oS_z _ _) hmode (by omega) (by omega)) (by simp (disch := omega) only [go_sem]) ?_
      rintro r hs ⟨rfl, rfl, _⟩
      refine ⟨by simp [freeN], ?_⟩
      simp (disch := omega) only [go_sem]
      rw [(hcan (decide (mode = 3))).1, (hcan (decide (mode = 3))).2]
      rw [(fin (decide (mode = 3)) (by unfold adZ; rw [if_neg (fun h => u2 h.2.1)])).1, (fin (decide (mode = 3)) (by unfold adZ; rw [if_neg (fun h => u2 h.2.1)])).2]
      exact fin_valc (by simp (disch := omega) only [go_sem]) (by simp (disch := omega) only [go_sem]) isA_mk
  · have v1 : decide (k1 = 0) = false := decide_eq_false u1
    refine Con.of_aw Tryd.func28 rfl Tryd.ntmps28 (by simp) (by simp) (by simp) (W.sound ?_)
    show @W Tryd.prog 77 ⟨_⟩ ⟨fun x σ => @retW _ _ _ ⟨_⟩ _ ⟨_⟩ x σ⟩ _ _
    simp (disch := omega) only [go_sem, c1, c2, d1, d2, v1]
    refine draw_of rfl [⟨0, [], []⟩, ⟨2, [0], []⟩, ⟨5, [0, 2], []⟩, ⟨6, [0, 2], []⟩, ⟨1, [2], []⟩, ⟨3, [], []⟩, ⟨4, [], []⟩, ⟨7, [], []⟩, ⟨8, [], []⟩, ⟨9, [], []⟩, ⟨10, [], []⟩, ⟨11, [], []⟩] (by kernel_rfl) ?_
    simp (disch := omega) only [go_sem, c1, c2, d1, d2, v1]
    refine call_open (con_l5dy k1 s1 n1 e1 h1) (by simp (disch := omega) only [go_sem]) ?_
    rintro r hs ⟨rfl, rfl, _⟩
    refine ⟨by simp [freeN], ?_⟩
    simp (disch := omega) only [go_sem]
    refine call_open (con_l5dy k2 s2 n2 e2 h2) (by simp (disch := omega) only [go_sem]) ?_
    rintro r hs ⟨rfl, rfl, _⟩
    refine ⟨by simp [freeN], ?_⟩
    simp (disch := omega) only [go_sem]
    refine call_open (cadd) (by simp (disch := omega) only [go_sem]) ?_
    rintro r hs ⟨rfl, rfl, _⟩
    refine ⟨by simp [freeN], ?_⟩
    simp (disch := omega) only [go_sem]
    refine call_closed (con_l5round (oS Q P) (oM P) (oE P R) mode (decide (mode = 3)) (oM_odd _) (oS_z _ _) hmode (by omega) (by omega)) (by simp (disch := omega) only [go_sem]) ?_
    rintro r hs ⟨rfl, rfl, _⟩
    refine ⟨by simp [freeN], ?_⟩
    simp (disch := omega) only [go_sem]
    rw [(hcan (decide (mode = 3))).1, (hcan (decide (mode = 3))).2]
    rw [(fin (decide (mode = 3)) (by unfold adZ; rw [if_neg (fun h => u1 h.1)])).1, (fin (decide (mode = 3)) (by unfold adZ; rw [if_neg (fun h => u1 h.1)])).2]
    exact fin_valc (by simp (disch := omega) only [go_sem]) (by simp (disch := omega) only [go_sem]) isA_mk

end Go.Ab
namespace Go.Ab
open Go Go.Proofs
set_option linter.unusedVariables false
set_option linter.unusedSimpArgs false

theorem con_minus (cl : Bool) (A B : List Int) (hA : gd A) (hB : gd B) (lA : A.length ≤ 1000000) (lB : B.length ≤ A.length) (hle : vl B ≤ vl A) :
    Con Tryd.prog 117 cl [.sl A.length (ints A), .sl B.length (ints B)] [] (numR (lim (vl A - vl B).toNat)) := by
  refine Con.of_aw Tryd.func117 rfl Tryd.ntmps117 (by simp) (by simp) (by simp) (W.sound ?_)
  show @W Tryd.prog 43 ⟨_⟩ ⟨fun x σ => @retW _ _ _ ⟨_⟩ _ ⟨_⟩ x σ⟩ _ _
  simp (disch := omega) only [go_sem]
  refine ⟨by omega, ?_⟩
  refine loop_intro (fun x : Nat × List Int × Int => [(1, .sl B.length (ints B)), (5, .rf 1 0 x.2.1.length), (6, .v (.int .i64 x.2.2)), (12, .sl A.length (ints A)), (13, .v (.int .i64 A.length)), (14, .v (.int .i64 x.1))])
    (fun x => [(1, .own 1 (ints x.2.1))])
    (fun x => x.1 ≤ A.length ∧ x.2.1.length = x.1 ∧ gd x.2.1 ∧ (0 ≤ x.2.2 ∧ x.2.2 ≤ 1) ∧ vl x.2.1 - 65536 ^ x.1 * x.2.2 = vl (A.take x.1) - vl (B.take x.1))
    (fun x => A.length - x.1) (0, [], 0) ⟨by simp, rfl, gd_nil, by simp, by simp [vl]⟩
    (Le.lst [(1, 130000000)] _ _ rfl (by simp (disch := omega) only [go_sem]) (by simp (disch := omega) only [go_sem])) ?_
  rintro ⟨i, out, bo⟩ ⟨hi, hol, hog, hbo, hov⟩
  dsimp only at hi hol hog hbo hov ⊢
  simp (disch := omega) only [go_sem]
  refine ifW_dec (fun h1 => ?_) (fun h1 => ?_)
  · have hx := gd_getD hA i
    have hy := gd_getD hB i
    have hstep : ∀ z b : Int, A.getD i 0 - bo - B.getD i 0 = z - 65536 * b → vl (out ++ [z]) - 65536 ^ (i + 1) * b = vl (A.take (i + 1)) - vl (B.take (i + 1)) := by
      intro z b hz
      rw [vl_snoc, vl_take_any, vl_take_any, hol, Int.pow_succ]
      generalize (65536 : Int) ^ i = Pi at *
      grind
    have hyz : ¬ i < B.length → B.getD i 0 = 0 := fun h => by rw [List.getD_eq_getElem?_getD, List.getElem?_eq_none (by omega)]; rfl
    simp (disch := omega) only [go_sem, h1]
    refine ⟨by omega, by omega, ifW_dec (fun h2 => ?_) (fun h2 => ?_)⟩
    · simp (disch := omega) only [go_sem, h2]
      refine ⟨by omega, by omega, ifW_dec (fun h3 => ?_) (fun h3 => ?_)⟩
      · simp (disch := omega) only [go_sem, h3]
        refine ⟨by omega, next_intro (i + 1, out ++ [A.getD i 0 - bo - B.getD i 0 + 65536], 1) [(1, 410000000)] ⟨by show i + 1 ≤ _; omega, by simp [hol], gd_append.2 ⟨hog, gd_one.2 (by omega)⟩, by simp, hstep (A.getD i 0 - bo - B.getD i 0 + 65536) 1 (by omega)⟩ (by show A.length - (i + 1) < A.length - i; omega) rfl (by simp (disch := omega) only [go_sem, List.length_append]; try omega) (by simp (disch := omega) only [go_sem])⟩
      · simp (disch := omega) only [go_sem, h3]
        refine ⟨by omega, next_intro (i + 1, out ++ [A.getD i 0 - bo - B.getD i 0], 0) [(1, 410000000)] ⟨by show i + 1 ≤ _; omega, by simp [hol], gd_append.2 ⟨hog, gd_one.2 (by omega)⟩, by simp, hstep (A.getD i 0 - bo - B.getD i 0) 0 (by omega)⟩ (by show A.length - (i + 1) < A.length - i; omega) rfl (by simp (disch := omega) only [go_sem, List.length_append]; try omega) (by simp (disch := omega) only [go_sem])⟩
    · simp (disch := omega) only [go_sem, h2]
      refine ifW_dec (fun h3 => ?_) (fun h3 => ?_)
      · simp (disch := omega) only [go_sem, h3]
        have hy0 := hyz (by omega)
        refine ⟨by omega, next_intro (i + 1, out ++ [A.getD i 0 - bo + 65536], 1) [(1, 410000000)] ⟨by show i + 1 ≤ _; omega, by simp [hol], gd_append.2 ⟨hog, gd_one.2 (by omega)⟩, by simp, hstep (A.getD i 0 - bo + 65536) 1 (by omega)⟩ (by show A.length - (i + 1) < A.length - i; omega) rfl (by simp (disch := omega) only [go_sem, List.length_append]; try omega) (by simp (disch := omega) only [go_sem])⟩
      · simp (disch := omega) only [go_sem, h3]
        have hy0 := hyz (by omega)
        refine ⟨by omega, next_intro (i + 1, out ++ [A.getD i 0 - bo], 0) [(1, 410000000)] ⟨by show i + 1 ≤ _; omega, by simp [hol], gd_append.2 ⟨hog, gd_one.2 (by omega)⟩, by simp, hstep (A.getD i 0 - bo) 0 (by omega)⟩ (by show A.length - (i + 1) < A.length - i; omega) rfl (by simp (disch := omega) only [go_sem, List.length_append]; try omega) (by simp (disch := omega) only [go_sem])⟩
  · simp (disch := omega) only [go_sem, h1]
    have hiA : i = A.length := by omega
    subst hiA
    rw [List.take_length, List.take_of_length_le lB] at hov
    have hb0 : bo = 0 := by
      have h2 := vl_lt hog
      rw [hol] at h2
      rcases (by omega : bo = 0 ∨ bo = 1) with h | h
      · exact h
      · subst h; omega
    subst hb0
    have hov2 : vl out = vl A - vl B := by omega
    refine call_lend false [1] (con_trim out (by omega)) (by simp (disch := omega) only [go_sem]) (by simp (disch := omega) only [go_sem]) rfl (lend_cons (z := 1) (cs := ints out) (by simp (disch := omega) only [go_sem]) (by simp (disch := omega) only [go_sem])) (by intro n hn; exact ⟨_, List.mem_singleton.2 rfl, by rw [List.mem_singleton.1 hn]; rfl⟩) ?_
    rintro r hs bs ⟨rfl, rfl, rfl⟩ _
    refine ⟨by simp [freeN], ?_⟩
    simp (disch := omega) only [go_sem]
    obtain ⟨z, hz⟩ := cutZ_pre out
    have hc := cutZ_lim hog
    rw [hov2] at hc
    rw [hc] at hz ⊢
    refine fin_intro [(0, 1)] [.own 1 (ints out)] [] [.rf 0 0 (lim (vl A - vl B).toNat).length] rfl (by simp (disch := omega) only [go_sem]) (by simp (disch := omega) only [go_sem]) (by simp) (by intro _; simp [tupA, AV.pu, AV.pu.puL, Ob.pu, pu_ints]) (.inr ⟨List.replicate z 0, rfl, by rw [← hz]⟩)
end Go.Ab
namespace Go.Ab
open Go Go.Proofs
set_option linter.unusedVariables false
set_option linter.unusedSimpArgs false

theorem con_minusN (a b : Nat) (h : b ≤ a) (la : (lim a).length ≤ 1000000) : Con Tryd.prog 117 false [.sl (lim (a)).length (ints (lim (a))), .sl (lim (b)).length (ints (lim (b)))] [] (numF (lim (a - b))) := by
  have := (con_minus false (lim a) (lim b) (gd_lim a) (gd_lim b) la (lim_mono h) (by rw [vl_lim, vl_lim]; omega)).num
  rwa [toN_sub] at this

theorem con_signedSum (s1 : Bool) (m1 : Nat) (s2 : Bool) (m2 : Nat) (l1 : (lim m1).length ≤ 1000000) (l2 : (lim m2).length ≤ 1000000) :
    Con Tryd.prog 77 false [.v (.bool s1), .sl (lim (m1)).length (ints (lim (m1))), .v (.bool s2), .sl (lim (m2)).length (ints (lim (m2)))] [] (isA (.tu [.v (.bool (sgS s1 m1 s2 m2)), .sl (lim (suM s1 m1 s2 m2)).length (ints (lim (suM s1 m1 s2 m2)))])) := by
  refine Con.frzA ?_
  have hge : (0 ≤ cmpI (m1 : Int) (m2 : Int)) ↔ m2 ≤ m1 := by rw [cmp_pos.2.2]; omega
  refine Con.of_aw Tryd.func77 rfl Tryd.ntmps77 (by simp) (by simp) (by simp) (W.sound ?_)
  show @W Tryd.prog 31 ⟨_⟩ ⟨fun x σ => @retW _ _ _ ⟨_⟩ _ ⟨_⟩ x σ⟩ _ _
  simp (disch := omega) only [go_sem]
  refine ifW_b (fun h1 => ?_) (fun h1 => ?_)
  · have h1' : s1 = s2 := by simpa using h1
    simp (disch := omega) only [go_sem, h1]
    subst h1'
    refine call_open (con_plusN m1 m2 (by omega) (by omega)) (by simp (disch := omega) only [go_sem]) ?_
    rintro r hs ⟨rfl, rfl, _⟩
    refine ⟨by simp [freeN], ?_⟩
    simp (disch := omega) only [go_sem]
    refine fin_val (by simp (disch := omega) only [go_sem]) ?_
    show snap _ 6 _ = _
    rw [sgS_same, suM_same]
    simp (disch := omega) only [go_sem]
  · have h1' : s1 ≠ s2 := by simpa using h1
    simp (disch := omega) only [go_sem, h1]
    refine call_closed (con_compare m1 m2 (by omega) (by omega)) (by simp (disch := omega) only [go_sem]) ?_
    rintro r hs ⟨rfl, rfl, _⟩
    refine ⟨by simp [freeN], ?_⟩
    simp (disch := omega) only [go_sem]
    refine ifW_dec (fun h2 => ?_) (fun h2 => ?_)
    · have h2' : m2 ≤ m1 := hge.1 (by omega)
      simp (disch := omega) only [go_sem, h2]
      refine call_open (con_minusN m1 m2 h2' (by omega)) (by simp (disch := omega) only [go_sem]) ?_
      rintro r hs ⟨rfl, rfl, _⟩
      refine ⟨by simp [freeN], ?_⟩
      simp (disch := omega) only [go_sem]
      refine fin_val (by simp (disch := omega) only [go_sem]) ?_
      show snap _ 6 _ = _
      rw [sgS_ge h1' h2', suM_ge h1' h2']
      simp (disch := omega) only [go_sem]
    · have h2' : ¬ m2 ≤ m1 := fun h => h2 (by have := hge.2 h; omega)
      simp (disch := omega) only [go_sem, h2]
      refine call_open (con_minusN m2 m1 (by omega) (by omega)) (by simp (disch := omega) only [go_sem]) ?_
      rintro r hs ⟨rfl, rfl, _⟩
      refine ⟨by simp [freeN], ?_⟩
      simp (disch := omega) only [go_sem]
      refine fin_val (by simp (disch := omega) only [go_sem]) ?_
      show snap _ 6 _ = _
      rw [sgS_lt h1' h2', suM_lt h1' h2']
      simp (disch := omega) only [go_sem]

theorem con_aligned (s1 : Bool) (m1 : Nat) (e1 : Int) (s2 : Bool) (m2 : Nat) (e2 : Int) (h1 : bl m1 ≤ 4000000) (h2 : bl m2 ≤ 4000000) (he1 : -1000000 ≤ e1 ∧ e1 ≤ 1000000) (he2 : -1000000 ≤ e2 ∧ e2 ≤ 1000000) :
    Con Tryd.prog 76 false [.ag [.v (.bool (s1)), .sl (lim (m1)).length (ints (lim (m1))), .v (.int .i64 (e1))], .ag [.v (.bool (s2)), .sl (lim (m2)).length (ints (lim (m2))), .v (.int .i64 (e2))]] [] (isA (.tu [.sl (lim (alA m1 e1 (alE m1 e1 m2 e2))).length (ints (lim (alA m1 e1 (alE m1 e1 m2 e2)))), .sl (lim (alA m2 e2 (alE m1 e1 m2 e2))).length (ints (lim (alA m2 e2 (alE m1 e1 m2 e2)))), .v (.int .i64 (alE m1 e1 m2 e2))])) := by
  refine Con.frzA ?_
  have l1 := len_bl h1
  have l2 := len_bl h2
  have hE := alE_ge (m1 := m1) (m2 := m2) he1.1 he2.1
  have hE2 := alE_le (m1 := m1) (m2 := m2) he1.2 he2.2
  have x1 : ∀ d : Int, (if 0 > d then 0 else d) = ((d.toNat : Nat) : Int) := fun d => by split <;> omega
  refine Con.of_aw Tryd.func76 rfl Tryd.ntmps76 (by simp) (by simp) (by simp) (W.sound ?_)
  show @W Tryd.prog 42 ⟨_⟩ ⟨fun x σ => @retW _ _ _ ⟨_⟩ _ ⟨_⟩ x σ⟩ _ _
  simp (disch := omega) only [go_sem]
  refine ifW_dec (fun c1 => ?_) (fun c1 => ?_)
  · have z1 : m1 = 0 := lim_eq_nil.1 (List.length_eq_zero_iff.1 (by omega))
    simp (disch := omega) only [go_sem, c1]
    refine ifW_dec (fun c2 => ?_) (fun c2 => ?_)
    · have z2 : m2 = 0 := lim_eq_nil.1 (List.length_eq_zero_iff.1 (by omega))
      have eE : alE m1 e1 m2 e2 = e1 := by unfold alE; rw [if_pos z2]
      simp (disch := omega) only [go_sem, c2]
      refine draw_of rfl [⟨0, [], []⟩, ⟨1, [], []⟩, ⟨2, [1], []⟩, ⟨3, [1], []⟩, ⟨4, [1, 3], []⟩, ⟨5, [1], []⟩, ⟨6, [1], []⟩, ⟨8, [1, 3], []⟩, ⟨9, [1, 3], []⟩, ⟨10, [1, 3, 9], []⟩, ⟨11, [1, 3, 9], []⟩, ⟨12, [1, 3, 9, 11], []⟩, ⟨13, [1, 3, 9], []⟩, ⟨14, [1, 3, 9], []⟩, ⟨16, [1, 3, 9, 11], []⟩, ⟨7, [9, 11], []⟩, ⟨15, [], []⟩, ⟨17, [], []⟩, ⟨18, [], []⟩, ⟨19, [], []⟩] (by kernel_rfl) ?_
      simp (disch := omega) only [go_sem, x1]
      refine call_open (con_upN m1 (e1 - e1).toNat (by omega) (by omega)) (by simp (disch := omega) only [go_sem, x1]) ?_
      rintro r hs ⟨rfl, rfl, _⟩
      refine ⟨by simp [freeN], ?_⟩
      simp (disch := omega) only [go_sem]
      refine call_open (con_upN m2 (e2 - e1).toNat (by omega) (by omega)) (by simp (disch := omega) only [go_sem, x1]) ?_
      rintro r hs ⟨rfl, rfl, _⟩
      refine ⟨by simp [freeN], ?_⟩
      simp (disch := omega) only [go_sem]
      refine fin_val (by simp (disch := omega) only [go_sem]) ?_
      show snap _ 6 _ = _
      rw [eE]; unfold alA
      simp (disch := omega) only [go_sem]
    · have z2 : m2 ≠ 0 := fun e => c2 (by rw [e, lim_zero]; rfl)
      have eE : alE m1 e1 m2 e2 = e2 := by unfold alE; rw [if_neg z2, if_pos z1]
      simp (disch := omega) only [go_sem, c2]
      refine draw_of rfl [⟨0, [], []⟩, ⟨1, [], []⟩, ⟨2, [1], []⟩, ⟨3, [1], []⟩, ⟨4, [1, 3], []⟩, ⟨5, [1], []⟩, ⟨6, [1], []⟩, ⟨8, [1, 3], []⟩, ⟨9, [1, 3], []⟩, ⟨10, [1, 3, 9], []⟩, ⟨11, [1, 3, 9], []⟩, ⟨12, [1, 3, 9, 11], []⟩, ⟨13, [1, 3, 9], []⟩, ⟨14, [1, 3, 9], []⟩, ⟨16, [1, 3, 9, 11], []⟩, ⟨7, [9, 11], []⟩, ⟨15, [], []⟩, ⟨17, [], []⟩, ⟨18, [], []⟩, ⟨19, [], []⟩] (by kernel_rfl) ?_
      simp (disch := omega) only [go_sem, x1]
      refine call_open (con_upN m1 (e1 - e2).toNat (by omega) (by omega)) (by simp (disch := omega) only [go_sem, x1]) ?_
      rintro r hs ⟨rfl, rfl, _⟩
      refine ⟨by simp [freeN], ?_⟩
      simp (disch := omega) only [go_sem]
      refine call_open (con_upN m2 (e2 - e2).toNat (by omega) (by omega)) (by simp (disch := omega) only [go_sem, x1]) ?_
      rintro r hs ⟨rfl, rfl, _⟩
      refine ⟨by simp [freeN], ?_⟩
      simp (disch := omega) only [go_sem]
      refine fin_val (by simp (disch := omega) only [go_sem]) ?_
      show snap _ 6 _ = _
      rw [eE]; unfold alA
      simp (disch := omega) only [go_sem]
  · have z1 : m1 ≠ 0 := fun e => c1 (by rw [e, lim_zero]; rfl)
    simp (disch := omega) only [go_sem, c1]
    refine ifW_dec (fun c2 => ?_) (fun c2 => ?_)
    · have z2 : m2 = 0 := lim_eq_nil.1 (List.length_eq_zero_iff.1 (by omega))
      have eE : alE m1 e1 m2 e2 = e1 := by unfold alE; rw [if_pos z2]
      simp (disch := omega) only [go_sem, c2]
      refine draw_of rfl [⟨0, [], []⟩, ⟨1, [], []⟩, ⟨2, [1], []⟩, ⟨3, [1], []⟩, ⟨4, [1, 3], []⟩, ⟨5, [1], []⟩, ⟨6, [1], []⟩, ⟨8, [1, 3], []⟩, ⟨9, [1, 3], []⟩, ⟨10, [1, 3, 9], []⟩, ⟨11, [1, 3, 9], []⟩, ⟨12, [1, 3, 9, 11], []⟩, ⟨13, [1, 3, 9], []⟩, ⟨14, [1, 3, 9], []⟩, ⟨16, [1, 3, 9, 11], []⟩, ⟨7, [9, 11], []⟩, ⟨15, [], []⟩, ⟨17, [], []⟩, ⟨18, [], []⟩, ⟨19, [], []⟩] (by kernel_rfl) ?_
      simp (disch := omega) only [go_sem, x1]
      refine call_open (con_upN m1 (e1 - e1).toNat (by omega) (by omega)) (by simp (disch := omega) only [go_sem, x1]) ?_
      rintro r hs ⟨rfl, rfl, _⟩
      refine ⟨by simp [freeN], ?_⟩
      simp (disch := omega) only [go_sem]
      refine call_open (con_upN m2 (e2 - e1).toNat (by omega) (by omega)) (by simp (disch := omega) only [go_sem, x1]) ?_
      rintro r hs ⟨rfl, rfl, _⟩
      refine ⟨by simp [freeN], ?_⟩
      simp (disch := omega) only [go_sem]
      refine fin_val (by simp (disch := omega) only [go_sem]) ?_
      show snap _ 6 _ = _
      rw [eE]; unfold alA
      simp (disch := omega) only [go_sem]
    · have z2 : m2 ≠ 0 := fun e => c2 (by rw [e, lim_zero]; rfl)
      have eE : (if e2 < e1 then e2 else e1) = alE m1 e1 m2 e2 := by unfold alE; rw [if_neg z2, if_neg z1]
      simp (disch := omega) only [go_sem, c2, eE]
      refine draw_of rfl [⟨0, [], []⟩, ⟨1, [], []⟩, ⟨2, [1], []⟩, ⟨3, [1], []⟩, ⟨4, [1, 3], []⟩, ⟨5, [1], []⟩, ⟨6, [1], []⟩, ⟨8, [1, 3], []⟩, ⟨9, [1, 3], []⟩, ⟨10, [1, 3, 9], []⟩, ⟨11, [1, 3, 9], []⟩, ⟨12, [1, 3, 9, 11], []⟩, ⟨13, [1, 3, 9], []⟩, ⟨14, [1, 3, 9], []⟩, ⟨16, [1, 3, 9, 11], []⟩, ⟨7, [9, 11], []⟩, ⟨15, [], []⟩, ⟨17, [], []⟩, ⟨18, [], []⟩, ⟨19, [], []⟩] (by kernel_rfl) ?_
      simp (disch := omega) only [go_sem, x1, eE]
      refine call_open (con_upN m1 (e1 - alE m1 e1 m2 e2).toNat (by omega) (by omega)) (by simp (disch := omega) only [go_sem, x1, eE]) ?_
      rintro r hs ⟨rfl, rfl, _⟩
      refine ⟨by simp [freeN], ?_⟩
      simp (disch := omega) only [go_sem]
      refine call_open (con_upN m2 (e2 - alE m1 e1 m2 e2).toNat (by omega) (by omega)) (by simp (disch := omega) only [go_sem, x1, eE]) ?_
      rintro r hs ⟨rfl, rfl, _⟩
      refine ⟨by simp [freeN], ?_⟩
      simp (disch := omega) only [go_sem]
      refine fin_val (by simp (disch := omega) only [go_sem]) ?_
      show snap _ 6 _ = _
      unfold alA
      simp (disch := omega) only [go_sem]

theorem con_plusX (s1 : Bool) (m1 : Nat) (e1 : Int) (s2 : Bool) (m2 : Nat) (e2 : Int) (h1 : bl m1 ≤ 4000000) (h2 : bl m2 ≤ 4000000) (he1 : -1000000 ≤ e1 ∧ e1 ≤ 1000000) (he2 : -1000000 ≤ e2 ∧ e2 ≤ 1000000) :
    Con Tryd.prog 44 false [.ag [.v (.bool (s1)), .sl (lim (m1)).length (ints (lim (m1))), .v (.int .i64 (e1))], .ag [.v (.bool (s2)), .sl (lim (m2)).length (ints (lim (m2))), .v (.int .i64 (e2))]] [] (isA (.ag [.v (.bool (adS s1 m1 e1 s2 m2 e2)), .sl (lim (adM s1 m1 e1 s2 m2 e2)).length (ints (lim (adM s1 m1 e1 s2 m2 e2))), .v (.int .i64 (alE m1 e1 m2 e2))])) := by
  refine Con.frzA ?_
  have hE := alE_ge (m1 := m1) (m2 := m2) he1.1 he2.1
  have b1 := bl_alA (e := e1) (E := alE m1 e1 m2 e2) (C := 2000000) h1 (by omega)
  have b2 := bl_alA (e := e2) (E := alE m1 e1 m2 e2) (C := 2000000) h2 (by omega)
  have l1 := len_bl b1
  have l2 := len_bl b2
  refine Con.of_aw Tryd.func44 rfl Tryd.ntmps44 (by simp) (by simp) (by simp) (W.sound ?_)
  show @W Tryd.prog 36 ⟨_⟩ ⟨fun x σ => @retW _ _ _ ⟨_⟩ _ ⟨_⟩ x σ⟩ _ _
  simp (disch := omega) only [go_sem]
  refine call_open (con_aligned s1 m1 e1 s2 m2 e2 h1 h2 he1 he2) (by simp (disch := omega) only [go_sem]) ?_
  rintro r hs ⟨rfl, rfl, _⟩
  refine ⟨by simp [freeN], ?_⟩
  simp (disch := omega) only [go_sem]
  unfold adS adM
  generalize alA m1 e1 (alE m1 e1 m2 e2) = A at *
  generalize alA m2 e2 (alE m1 e1 m2 e2) = B at *
  generalize alE m1 e1 m2 e2 = E at *
  refine call_open (con_signedSum s1 A s2 B (by omega) (by omega)) (by simp (disch := omega) only [go_sem]) ?_
  rintro r hs ⟨rfl, rfl, _⟩
  refine ⟨by simp [freeN], ?_⟩
  simp (disch := omega) only [go_sem]
  have hb := bl_suM (s1 := s1) (s2 := s2) b1 b2
  have hl : (lim (suM s1 A s2 B)).length ≤ 2000000 := by have := len_bl hb; omega
  have hq : decide ((0 : Int) < ((lim (suM s1 A s2 B)).length : Int)) = decide (suM s1 A s2 B ≠ 0) := by
    rw [decide_eq_decide]
    exact ⟨fun h e => by rw [e, lim_zero] at h; simp at h, fun h => by have := lim_ne h; omega⟩
  rw [← sgS_and]
  refine ifW_b (fun h3 => ?_) (fun h3 => ?_)
  · simp (disch := omega) only [go_sem, h3, hq]
    refine fin_val (by simp (disch := omega) only [go_sem]) ?_
    show snap _ 6 _ = _
    simp (disch := omega) only [go_sem, h3, Bool.true_and]
  · simp (disch := omega) only [go_sem, h3]
    refine fin_val (by simp (disch := omega) only [go_sem]) ?_
    show snap _ 6 _ = _
    simp (disch := omega) only [go_sem, h3, Bool.false_and]
end Go.Ab
namespace Go.Ab
open Go Go.Proofs
set_option linter.unusedVariables false
set_option linter.unusedSimpArgs false

set_option maxRecDepth 100000 in
theorem con_add (k1 : Int) (s1 : Bool) (m1 e1 k2 : Int) (s2 : Bool) (m2 e2 mode : Int) (h1 : flB k1 s1 m1 e1 = true) (h2 : flB k2 s2 m2 e2 = true) :
    Con Tryd.prog 31 true [.ag [.v (.int .i64 (k1)), .v (.bool (s1)), .v (.int .i64 (m1)), .v (.int .i64 (e1))], .ag [.v (.int .i64 (k2)), .v (.bool (s2)), .v (.int .i64 (m2)), .v (.int .i64 (e2))], .v (.int .i64 mode)] []
      (isA (.tu [.ag [.v (.int .i64 ((addV k1 s1 m1 e1 k2 s2 m2 e2 mode).k)), .v (.bool ((addV k1 s1 m1 e1 k2 s2 m2 e2 mode).s)), .v (.int .i64 ((addV k1 s1 m1 e1 k2 s2 m2 e2 mode).m)), .v (.int .i64 ((addV k1 s1 m1 e1 k2 s2 m2 e2 mode).e))], .v (.int .i64 (addG k1 s1 m1 e1 k2 s2 m2 e2 mode))])) := by
  obtain ⟨a1, a2, a3, a4⟩ := flB_rng h1
  obtain ⟨b1, b2, b3, b4⟩ := flB_rng h2
  obtain ⟨n1, rfl⟩ := Int.eq_ofNat_of_zero_le a1.1
  obtain ⟨n2, rfl⟩ := Int.eq_ofNat_of_zero_le b1.1
  have q1 : bl n1 ≤ 53 := bl_le.2 (by omega)
  have q2 : bl n2 ≤ 53 := bl_le.2 (by omega)
  have r1 : ((n1 : Nat) : Int).toNat = n1 := rfl
  have r2 : ((n2 : Nat) : Int).toNat = n2 := rfl
  by_cases c1 : k1 = 3
  · subst c1
    refine Con.of_aw Tryd.func31 rfl Tryd.ntmps31 (by simp) (by simp) (by simp) (W.sound ?_)
    show @W Tryd.prog 70 ⟨_⟩ ⟨fun x σ => @retW _ _ _ ⟨_⟩ _ ⟨_⟩ x σ⟩ _ _
    simp (disch := omega) only [go_sem]
    refine call_closed (con_hasKind 3 3 (n1 : Int) e1 k2 (n2 : Int) e2 s1 s2) (by simp (disch := omega) only [go_sem]) ?_
    rintro r hs ⟨rfl, rfl, _⟩
    refine ⟨by simp [freeN], ?_⟩
    simp (disch := omega) only [go_sem]
    refine call_closed (con_nan) (by simp (disch := omega) only [go_sem]) ?_
    rintro r hs ⟨rfl, rfl, _⟩
    refine ⟨by simp [freeN], ?_⟩
    simp (disch := omega) only [go_sem]
    rw [(addV_nan (.inl rfl)).1, (addV_nan (.inl rfl)).2]
    exact fin_valc (by simp (disch := omega) only [go_sem]) (by simp (disch := omega) only [go_sem]) isA_mk
  by_cases c2 : k2 = 3
  · subst c2
    refine Con.of_aw Tryd.func31 rfl Tryd.ntmps31 (by simp) (by simp) (by simp) (W.sound ?_)
    show @W Tryd.prog 70 ⟨_⟩ ⟨fun x σ => @retW _ _ _ ⟨_⟩ _ ⟨_⟩ x σ⟩ _ _
    simp (disch := omega) only [go_sem]
    refine call_closed (con_hasKind 3 k1 (n1 : Int) e1 3 (n2 : Int) e2 s1 s2) (by simp (disch := omega) only [go_sem]) ?_
    rintro r hs ⟨rfl, rfl, _⟩
    refine ⟨by simp [freeN], ?_⟩
    simp (disch := omega) only [go_sem]
    refine call_closed (con_nan) (by simp (disch := omega) only [go_sem]) ?_
    rintro r hs ⟨rfl, rfl, _⟩
    refine ⟨by simp [freeN], ?_⟩
    simp (disch := omega) only [go_sem]
    rw [(addV_nan (.inr rfl)).1, (addV_nan (.inr rfl)).2]
    exact fin_valc (by simp (disch := omega) only [go_sem]) (by simp (disch := omega) only [go_sem]) isA_mk
  by_cases d1 : k1 = 2
  · by_cases d2 : k2 = 2
    · by_cases hs : s1 = s2
      · subst d1
        subst d2
        subst hs
        have hx : (s1 != s1) = false := by simp
        refine Con.of_aw Tryd.func31 rfl Tryd.ntmps31 (by simp) (by simp) (by simp) (W.sound ?_)
        show @W Tryd.prog 70 ⟨_⟩ ⟨fun x σ => @retW _ _ _ ⟨_⟩ _ ⟨_⟩ x σ⟩ _ _
        simp (disch := omega) only [go_sem, hx]
        refine call_closed (con_hasKind 3 2 (n1 : Int) e1 2 (n2 : Int) e2 s1 s1) (by simp (disch := omega) only [go_sem, hx]) ?_
        rintro r hs ⟨rfl, rfl, _⟩
        refine ⟨by simp [freeN], ?_⟩
        simp (disch := omega) only [go_sem]
        simp (disch := omega) only [go_sem, hx]
        rw [(addV_inf1 rfl (by omega) (fun _ => rfl)).1, (addV_inf1 rfl (by omega) (fun _ => rfl)).2]
        exact fin_valc (by simp (disch := omega) only [go_sem]) (by simp (disch := omega) only [go_sem]) isA_mk
      · subst d1
        subst d2
        have hx : (s1 != s2) = true := by simpa using hs
        refine Con.of_aw Tryd.func31 rfl Tryd.ntmps31 (by simp) (by simp) (by simp) (W.sound ?_)
        show @W Tryd.prog 70 ⟨_⟩ ⟨fun x σ => @retW _ _ _ ⟨_⟩ _ ⟨_⟩ x σ⟩ _ _
        simp (disch := omega) only [go_sem, hx]
        refine call_closed (con_hasKind 3 2 (n1 : Int) e1 2 (n2 : Int) e2 s1 s2) (by simp (disch := omega) only [go_sem, hx]) ?_
        rintro r hs ⟨rfl, rfl, _⟩
        refine ⟨by simp [freeN], ?_⟩
        simp (disch := omega) only [go_sem]
        simp (disch := omega) only [go_sem, hx]
        refine call_closed (con_nan) (by simp (disch := omega) only [go_sem]) ?_
        rintro r hs ⟨rfl, rfl, _⟩
        refine ⟨by simp [freeN], ?_⟩
        simp (disch := omega) only [go_sem]
        rw [(addV_bad rfl rfl hs).1, (addV_bad rfl rfl hs).2]
        exact fin_valc (by simp (disch := omega) only [go_sem]) (by simp (disch := omega) only [go_sem]) isA_mk
    · subst d1
      refine Con.of_aw Tryd.func31 rfl Tryd.ntmps31 (by simp) (by simp) (by simp) (W.sound ?_)
      show @W Tryd.prog 70 ⟨_⟩ ⟨fun x σ => @retW _ _ _ ⟨_⟩ _ ⟨_⟩ x σ⟩ _ _
      simp (disch := omega) only [go_sem, c2, d2]
      refine call_closed (con_hasKind 3 2 (n1 : Int) e1 k2 (n2 : Int) e2 s1 s2) (by simp (disch := omega) only [go_sem, c2, d2]) ?_
      rintro r hs ⟨rfl, rfl, _⟩
      refine ⟨by simp [freeN], ?_⟩
      simp (disch := omega) only [go_sem]
      simp (disch := omega) only [go_sem, c2, d2]
      rw [(addV_inf1 rfl c2 (fun h => absurd h d2)).1, (addV_inf1 rfl c2 (fun h => absurd h d2)).2]
      exact fin_valc (by simp (disch := omega) only [go_sem]) (by simp (disch := omega) only [go_sem]) isA_mk
  by_cases d2 : k2 = 2
  · subst d2
    refine Con.of_aw Tryd.func31 rfl Tryd.ntmps31 (by simp) (by simp) (by simp) (W.sound ?_)
    show @W Tryd.prog 70 ⟨_⟩ ⟨fun x σ => @retW _ _ _ ⟨_⟩ _ ⟨_⟩ x σ⟩ _ _
    simp (disch := omega) only [go_sem, c1, d1]
    refine call_closed (con_hasKind 3 k1 (n1 : Int) e1 2 (n2 : Int) e2 s1 s2) (by simp (disch := omega) only [go_sem, c1, d1]) ?_
    rintro r hs ⟨rfl, rfl, _⟩
    refine ⟨by simp [freeN], ?_⟩
    simp (disch := omega) only [go_sem]
    simp (disch := omega) only [go_sem, c1, d1]
    rw [(addV_inf2 c1 d1 rfl).1, (addV_inf2 c1 d1 rfl).2]
    exact fin_valc (by simp (disch := omega) only [go_sem]) (by simp (disch := omega) only [go_sem]) isA_mk
  have g1 : xS k1 s1 = (s1 && decide (k1 = 1)) := rfl
  have g2 : xS k2 s2 = (s2 && decide (k2 = 1)) := rfl
  have fin : ∀ z, z = adZ k1 s1 k2 s2 mode → (addV k1 s1 n1 e1 k2 s2 n2 e2 mode = flV (adS (xS k1 s1) n1 e1 (xS k2 s2) n2 e2) (adM (xS k1 s1) n1 e1 (xS k2 s2) n2 e2) (alE n1 e1 n2 e2) mode z ∧ addG k1 s1 n1 e1 k2 s2 n2 e2 mode = flG (adS (xS k1 s1) n1 e1 (xS k2 s2) n2 e2) (adM (xS k1 s1) n1 e1 (xS k2 s2) n2 e2) (alE n1 e1 n2 e2) mode) := fun z hz => by rw [hz]; exact addV_fin c1 d1 c2 d2
  have hE := alE_ge (K := -1074) (m1 := n1) (m2 := n2) (e1 := e1) (e2 := e2) (by omega) (by omega)
  have hE2 := alE_le (K := 971) (m1 := n1) (m2 := n2) (e1 := e1) (e2 := e2) (by omega) (by omega)
  have hM : bl (adM (xS k1 s1) n1 e1 (xS k2 s2) n2 e2) ≤ 3000 := by
    have y1 := bl_alA (e := e1) (E := alE n1 e1 n2 e2) (C := 2900) q1 (by omega)
    have y2 := bl_alA (e := e2) (E := alE n1 e1 n2 e2) (C := 2900) q2 (by omega)
    exact Nat.le_trans (bl_suM y1 y2) (by omega)
  by_cases u1 : k1 = 0
  · have v1 : decide (k1 = 0) = true := decide_eq_true u1
    by_cases u2 : k2 = 0
    · have v2 : decide (k2 = 0) = true := decide_eq_true u2
      by_cases hs : s1 = s2
      · have hx : (s1 == s2) = true := by simpa using hs
        refine Con.of_aw Tryd.func31 rfl Tryd.ntmps31 (by simp) (by simp) (by simp) (W.sound ?_)
        show @W Tryd.prog 70 ⟨_⟩ ⟨fun x σ => @retW _ _ _ ⟨_⟩ _ ⟨_⟩ x σ⟩ _ _
        simp (disch := omega) only [go_sem, c1, c2, d1, d2, v1, v2, hx]
        refine call_closed (con_hasKind 3 k1 (n1 : Int) e1 k2 (n2 : Int) e2 s1 s2) (by simp (disch := omega) only [go_sem, c1, c2, d1, d2, v1, v2, hx]) ?_
        rintro r hs ⟨rfl, rfl, _⟩
        refine ⟨by simp [freeN], ?_⟩
        simp (disch := omega) only [go_sem]
        simp (disch := omega) only [go_sem, c1, c2, d1, d2, v1, v2, hx]
        refine draw_of rfl [⟨0, [], []⟩, ⟨2, [0], []⟩, ⟨5, [0, 2], []⟩, ⟨6, [0, 2], []⟩, ⟨1, [2], []⟩, ⟨3, [], []⟩, ⟨4, [], []⟩, ⟨7, [], []⟩, ⟨8, [], []⟩, ⟨9, [], []⟩, ⟨10, [], []⟩, ⟨11, [], []⟩] (by kernel_rfl) ?_
        simp (disch := omega) only [go_sem, c1, c2, d1, d2, v1, v2, hx]
        refine call_open (con_flexact k1 s1 n1 e1 (by omega)) (by simp (disch := omega) only [go_sem]) ?_
        rintro r hs ⟨rfl, rfl, _⟩
        refine ⟨by simp [freeN], ?_⟩
        simp (disch := omega) only [go_sem]
        refine call_open (con_flexact k2 s2 n2 e2 (by omega)) (by simp (disch := omega) only [go_sem]) ?_
        rintro r hs ⟨rfl, rfl, _⟩
        refine ⟨by simp [freeN], ?_⟩
        simp (disch := omega) only [go_sem]
        refine call_open (con_plusX (s1 && decide (k1 = 1)) n1 e1 (s2 && decide (k2 = 1)) n2 e2 (by omega) (by omega) (by omega) (by omega)) (by simp (disch := omega) only [go_sem]) ?_
        rintro r hs ⟨rfl, rfl, _⟩
        refine ⟨by simp [freeN], ?_⟩
        simp (disch := omega) only [go_sem]
        refine call_closed (con_float (adS (xS k1 s1) n1 e1 (xS k2 s2) n2 e2) (adM (xS k1 s1) n1 e1 (xS k2 s2) n2 e2) (alE n1 e1 n2 e2) mode (s1) (by omega) (by omega)) (by simp (disch := omega) only [go_sem, g1, g2]) ?_
        rintro r hs ⟨rfl, rfl, _⟩
        refine ⟨by simp [freeN], ?_⟩
        simp (disch := omega) only [go_sem]
        rw [(fin (s1) (by unfold adZ; rw [if_pos ⟨u1, u2, hs⟩])).1, (fin (s1) (by unfold adZ; rw [if_pos ⟨u1, u2, hs⟩])).2]
        exact fin_valc (by simp (disch := omega) only [go_sem]) (by simp (disch := omega) only [go_sem]) isA_mk
      · have hx : (s1 == s2) = false := by simpa using hs
        refine Con.of_aw Tryd.func31 rfl Tryd.ntmps31 (by simp) (by simp) (by simp) (W.sound ?_)
        show @W Tryd.prog 70 ⟨_⟩ ⟨fun x σ => @retW _ _ _ ⟨_⟩ _ ⟨_⟩ x σ⟩ _ _
        simp (disch := omega) only [go_sem, c1, c2, d1, d2, v1, v2, hx]
        refine call_closed (con_hasKind 3 k1 (n1 : Int) e1 k2 (n2 : Int) e2 s1 s2) (by simp (disch := omega) only [go_sem, c1, c2, d1, d2, v1, v2, hx]) ?_
        rintro r hs ⟨rfl, rfl, _⟩
        refine ⟨by simp [freeN], ?_⟩
        simp (disch := omega) only [go_sem]
        simp (disch := omega) only [go_sem, c1, c2, d1, d2, v1, v2, hx]
        refine draw_of rfl [⟨0, [], []⟩, ⟨2, [0], []⟩, ⟨5, [0, 2], []⟩, ⟨6, [0, 2], []⟩, ⟨1, [2], []⟩, ⟨3, [], []⟩, ⟨4, [], []⟩, ⟨7, [], []⟩, ⟨8, [], []⟩, ⟨9, [], []⟩, ⟨10, [], []⟩, ⟨11, [], []⟩] (by kernel_rfl) ?_
        simp (disch := omega) only [go_sem, c1, c2, d1, d2, v1, v2, hx]
        refine call_open (con_flexact k1 s1 n1 e1 (by omega)) (by simp (disch := omega) only [go_sem]) ?_
        rintro r hs ⟨rfl, rfl, _⟩
        refine ⟨by simp [freeN], ?_⟩
        simp (disch := omega) only [go_sem]
        refine call_open (con_flexact k2 s2 n2 e2 (by omega)) (by simp (disch := omega) only [go_sem]) ?_
        rintro r hs ⟨rfl, rfl, _⟩
        refine ⟨by simp [freeN], ?_⟩
        simp (disch := omega) only [go_sem]
        refine call_open (con_plusX (s1 && decide (k1 = 1)) n1 e1 (s2 && decide (k2 = 1)) n2 e2 (by omega) (by omega) (by omega) (by omega)) (by simp (disch := omega) only [go_sem]) ?_
        rintro r hs ⟨rfl, rfl, _⟩
        refine ⟨by simp [freeN], ?_⟩
        simp (disch := omega) only [go_sem]
        refine call_closed (con_float (adS (xS k1 s1) n1 e1 (xS k2 s2) n2 e2) (adM (xS k1 s1) n1 e1 (xS k2 s2) n2 e2) (alE n1 e1 n2 e2) mode (decide (mode = 3)) (by omega) (by omega)) (by simp (disch := omega) only [go_sem, g1, g2]) ?_
        rintro r hs ⟨rfl, rfl, _⟩
        refine ⟨by simp [freeN], ?_⟩
        simp (disch := omega) only [go_sem]
        rw [(fin (decide (mode = 3)) (by unfold adZ; rw [if_neg (fun h => hs h.2.2)])).1, (fin (decide (mode = 3)) (by unfold adZ; rw [if_neg (fun h => hs h.2.2)])).2]
        exact fin_valc (by simp (disch := omega) only [go_sem]) (by simp (disch := omega) only [go_sem]) isA_mk
    · have v2 : decide (k2 = 0) = false := decide_eq_false u2
      refine Con.of_aw Tryd.func31 rfl Tryd.ntmps31 (by simp) (by simp) (by simp) (W.sound ?_)
      show @W Tryd.prog 70 ⟨_⟩ ⟨fun x σ => @retW _ _ _ ⟨_⟩ _ ⟨_⟩ x σ⟩ _ _
      simp (disch := omega) only [go_sem, c1, c2, d1, d2, v1, v2]
      refine call_closed (con_hasKind 3 k1 (n1 : Int) e1 k2 (n2 : Int) e2 s1 s2) (by simp (disch := omega) only [go_sem, c1, c2, d1, d2, v1, v2]) ?_
      rintro r hs ⟨rfl, rfl, _⟩
      refine ⟨by simp [freeN], ?_⟩
      simp (disch := omega) only [go_sem]
      simp (disch := omega) only [go_sem, c1, c2, d1, d2, v1, v2]
      refine draw_of rfl [⟨0, [], []⟩, ⟨2, [0], []⟩, ⟨5, [0, 2], []⟩, ⟨6, [0, 2], []⟩, ⟨1, [2], []⟩, ⟨3, [], []⟩, ⟨4, [], []⟩, ⟨7, [], []⟩, ⟨8, [], []⟩, ⟨9, [], []⟩, ⟨10, [], []⟩, ⟨11, [], []⟩] (by kernel_rfl) ?_
      simp (disch := omega) only [go_sem, c1, c2, d1, d2, v1, v2]
      refine call_open (con_flexact k1 s1 n1 e1 (by omega)) (by simp (disch := omega) only [go_sem]) ?_
      rintro r hs ⟨rfl, rfl, _⟩
      refine ⟨by simp [freeN], ?_⟩
      simp (disch := omega) only [go_sem]
      refine call_open (con_flexact k2 s2 n2 e2 (by omega)) (by simp (disch := omega) only [go_sem]) ?_
      rintro r hs ⟨rfl, rfl, _⟩
      refine ⟨by simp [freeN], ?_⟩
      simp (disch := omega) only [go_sem]
      refine call_open (con_plusX (s1 && decide (k1 = 1)) n1 e1 (s2 && decide (k2 = 1)) n2 e2 (by omega) (by omega) (by omega) (by omega)) (by simp (disch := omega) only [go_sem]) ?_
      rintro r hs ⟨rfl, rfl, _⟩
      refine ⟨by simp [freeN], ?_⟩
      simp (disch := omega) only [go_sem]
      refine call_closed (con_float (adS (xS k1 s1) n1 e1 (xS k2 s2) n2 e2) (adM (xS k1 s1) n1 e1 (xS k2 s2) n2 e2) (alE n1 e1 n2 e2) mode (decide (mode = 3)) (by omega) (by omega)) (by simp (disch := omega) only [go_sem, g1, g2]) ?_
      rintro r hs ⟨rfl, rfl, _⟩
      refine ⟨by simp [freeN], ?_⟩
      simp (disch := omega) only [go_sem]
      rw [(fin (decide (mode = 3)) (by unfold adZ; rw [if_neg (fun h => u2 h.2.1)])).1, (fin (decide (mode = 3)) (by unfold adZ; rw [if_neg (fun h => u2 h.2.1)])).2]
      exact fin_valc (by simp (disch := omega) only [go_sem]) (by simp (disch := omega) only [go_sem]) isA_mk
  · have v1 : decide (k1 = 0) = false := decide_eq_false u1
    refine Con.of_aw Tryd.func31 rfl Tryd.ntmps31 (by simp) (by simp) (by simp) (W.sound ?_)
    show @W Tryd.prog 70 ⟨_⟩ ⟨fun x σ => @retW _ _ _ ⟨_⟩ _ ⟨_⟩ x σ⟩ _ _
    simp (disch := omega) only [go_sem, c1, c2, d1, d2, v1]
    refine call_closed (con_hasKind 3 k1 (n1 : Int) e1 k2 (n2 : Int) e2 s1 s2) (by simp (disch := omega) only [go_sem, c1, c2, d1, d2, v1]) ?_
    rintro r hs ⟨rfl, rfl, _⟩
    refine ⟨by simp [freeN], ?_⟩
    simp (disch := omega) only [go_sem]
    simp (disch := omega) only [go_sem, c1, c2, d1, d2, v1]
    refine draw_of rfl [⟨0, [], []⟩, ⟨2, [0], []⟩, ⟨5, [0, 2], []⟩, ⟨6, [0, 2], []⟩, ⟨1, [2], []⟩, ⟨3, [], []⟩, ⟨4, [], []⟩, ⟨7, [], []⟩, ⟨8, [], []⟩, ⟨9, [], []⟩, ⟨10, [], []⟩, ⟨11, [], []⟩] (by kernel_rfl) ?_
    simp (disch := omega) only [go_sem, c1, c2, d1, d2, v1]
    refine call_open (con_flexact k1 s1 n1 e1 (by omega)) (by simp (disch := omega) only [go_sem]) ?_
    rintro r hs ⟨rfl, rfl, _⟩
    refine ⟨by simp [freeN], ?_⟩
    simp (disch := omega) only [go_sem]
    refine call_open (con_flexact k2 s2 n2 e2 (by omega)) (by simp (disch := omega) only [go_sem]) ?_
    rintro r hs ⟨rfl, rfl, _⟩
    refine ⟨by simp [freeN], ?_⟩
    simp (disch := omega) only [go_sem]
    refine call_open (con_plusX (s1 && decide (k1 = 1)) n1 e1 (s2 && decide (k2 = 1)) n2 e2 (by omega) (by omega) (by omega) (by omega)) (by simp (disch := omega) only [go_sem]) ?_
    rintro r hs ⟨rfl, rfl, _⟩
    refine ⟨by simp [freeN], ?_⟩
    simp (disch := omega) only [go_sem]
    refine call_closed (con_float (adS (xS k1 s1) n1 e1 (xS k2 s2) n2 e2) (adM (xS k1 s1) n1 e1 (xS k2 s2) n2 e2) (alE n1 e1 n2 e2) mode (decide (mode = 3)) (by omega) (by omega)) (by simp (disch := omega) only [go_sem, g1, g2]) ?_
    rintro r hs ⟨rfl, rfl, _⟩
    refine ⟨by simp [freeN], ?_⟩
    simp (disch := omega) only [go_sem]
    rw [(fin (decide (mode = 3)) (by unfold adZ; rw [if_neg (fun h => u1 h.1)])).1, (fin (decide (mode = 3)) (by unfold adZ; rw [if_neg (fun h => u1 h.1)])).2]
    exact fin_valc (by simp (disch := omega) only [go_sem]) (by simp (disch := omega) only [go_sem]) isA_mk

end Go.Ab
namespace Go.Ab
open Go Go.Proofs
set_option linter.unusedVariables false
set_option linter.unusedSimpArgs false

end Go.Ab
namespace Go.Ab
open Go Go.Proofs
set_option linter.unusedVariables false
set_option linter.unusedSimpArgs false

end Go.Ab
namespace Go.Ab
open Go Go.Proofs
set_option linter.unusedVariables false
set_option linter.unusedSimpArgs false

theorem mul_canon {k1 : Int} {s1 : Bool} {m1 e1 k2 : Int} {s2 : Bool} {m2 e2 mode : Int} (z : Bool) (h1 : flB k1 s1 m1 e1 = true) (h2 : flB k2 s2 m2 e2 = true) :
    flV (oS ((l5dS k1 s1 m1 != l5dS k2 s2 m2) && decide (l5dM k1 m1 * l5dM k2 m2 ≠ 0)) (l5dM k1 m1 * l5dM k2 m2)) (oM (l5dM k1 m1 * l5dM k2 m2)) (oE (l5dM k1 m1 * l5dM k2 m2) (l5dE k1 m1 e1 + l5dE k2 m2 e2)) mode z = flV (muS k1 s1 m1 k2 s2 m2) (m1.toNat * m2.toNat) (e1 + e2) mode z ∧
    flG (oS ((l5dS k1 s1 m1 != l5dS k2 s2 m2) && decide (l5dM k1 m1 * l5dM k2 m2 ≠ 0)) (l5dM k1 m1 * l5dM k2 m2)) (oM (l5dM k1 m1 * l5dM k2 m2)) (oE (l5dM k1 m1 * l5dM k2 m2) (l5dE k1 m1 e1 + l5dE k2 m2 e2)) mode = flG (muS k1 s1 m1 k2 s2 m2) (m1.toNat * m2.toNat) (e1 + e2) mode := by
  obtain ⟨a1, a2, a3, a4, a5, _⟩ := flB_rng h1
  obtain ⟨b1, b2, b3, b4, b5, _⟩ := flB_rng h2
  rw [(flV_canon _ _ _ mode z).1, (flV_canon _ _ _ mode z).2]
  by_cases c : k1 = 1 ∧ k2 = 1
  · obtain ⟨c1, c2⟩ := c
    have n1 : m1.toNat ≠ 0 := by have := a5 c1; omega
    have n2 : m2.toNat ≠ 0 := by have := b5 c2; omega
    have o1 : oM m1.toNat ≠ 0 := fun e => n1 (oM_eq_zero.1 e)
    have o2 : oM m2.toNat ≠ 0 := fun e => n2 (oM_eq_zero.1 e)
    have hS : ((l5dS k1 s1 m1 != l5dS k2 s2 m2) && decide (l5dM k1 m1 * l5dM k2 m2 ≠ 0)) = muS k1 s1 m1 k2 s2 m2 := by
      unfold l5dS l5dM muS oS
      simp [c1, c2, n1, n2, o1, o2, Nat.mul_ne_zero n1 n2, Nat.mul_ne_zero o1 o2]
    rw [hS]
    have hM : l5dM k1 m1 * l5dM k2 m2 = oM m1.toNat * oM m2.toNat := by unfold l5dM; rw [if_pos c1, if_pos c2]
    have hE : l5dE k1 m1 e1 + l5dE k2 m2 e2 = e1 + e2 + ((tz m1.toNat + tz m2.toNat : Nat) : Int) := by
      unfold l5dE oE; rw [if_pos c1, if_pos c2, if_neg n1, if_neg n2]; omega
    have hp : m1.toNat * m2.toNat = oM m1.toNat * oM m2.toNat * 2 ^ (tz m1.toNat + tz m2.toNat) := by
      have q1 := @oM_mul m1.toNat
      have q2 := @oM_mul m2.toNat
      rw [Nat.pow_add]
      calc m1.toNat * m2.toNat = (oM m1.toNat * 2 ^ tz m1.toNat) * (oM m2.toNat * 2 ^ tz m2.toNat) := by rw [q1, q2]
        _ = _ := by rw [Nat.mul_mul_mul_comm]
    have h0 : oM m1.toNat * oM m2.toNat ≠ 0 := Nat.mul_ne_zero o1 o2
    rw [hM, hE, hp]
    generalize oM m1.toNat * oM m2.toNat = P at *
    generalize tz m1.toNat + tz m2.toNat = t at *
    rw [← (flV_norm _ P _ mode z).1, ← (flV_norm _ P _ mode z).2, ← (flV_norm _ (P * 2 ^ t) _ mode z).1, ← (flV_norm _ (P * 2 ^ t) _ mode z).2]
    have g0 : P * 2 ^ t ≠ 0 := Nat.mul_ne_zero h0 (Nat.pos_iff_ne_zero.1 (Nat.pow_pos (by omega)))
    have hoE : oE P (e1 + e2 + (t : Int)) = oE (P * 2 ^ t) (e1 + e2) := by
      unfold oE; rw [if_neg h0, if_neg g0, tz_mul_pow h0]; omega
    rw [oM_pow, hoE]
    exact ⟨rfl, rfl⟩
  · have hz : l5dM k1 m1 * l5dM k2 m2 = 0 := by
      unfold l5dM
      by_cases c1 : k1 = 1
      · rw [if_neg (fun c2 => c ⟨c1, c2⟩ : ¬ k2 = 1)]; simp
      · rw [if_neg c1]; simp
    have hz2 : m1.toNat * m2.toNat = 0 := by
      by_cases c1 : k1 = 1
      · have := (b4 (fun c2 => c ⟨c1, c2⟩)).1; rw [this]; simp
      · have := (a4 c1).1; rw [this]; simp
    unfold flV flG
    rw [if_pos hz, if_pos hz, if_pos hz2, if_pos hz2]
    exact ⟨rfl, rfl⟩

set_option maxRecDepth 100000 in
theorem con_l5mul (k1 : Int) (s1 : Bool) (m1 e1 k2 : Int) (s2 : Bool) (m2 e2 mode : Int) (h1 : flB k1 s1 m1 e1 = true) (h2 : flB k2 s2 m2 e2 = true) (hmode : 0 ≤ mode ∧ mode ≤ 4) :
    Con Tryd.prog 34 true [.ag [.v (.int .i64 (k1)), .v (.bool (s1)), .v (.int .i64 (m1)), .v (.int .i64 (e1))], .ag [.v (.int .i64 (k2)), .v (.bool (s2)), .v (.int .i64 (m2)), .v (.int .i64 (e2))], .v (.int .i64 mode)] []
      (isA (.tu [.ag [.v (.int .i64 ((mulV k1 s1 m1 e1 k2 s2 m2 e2 mode).k)), .v (.bool ((mulV k1 s1 m1 e1 k2 s2 m2 e2 mode).s)), .v (.int .i64 ((mulV k1 s1 m1 e1 k2 s2 m2 e2 mode).m)), .v (.int .i64 ((mulV k1 s1 m1 e1 k2 s2 m2 e2 mode).e))], .v (.int .i64 (mulG k1 s1 m1 e1 k2 s2 m2 e2 mode))])) := by
  have hr1 := (flB_rng h1).2.2.1
  have hr2 := (flB_rng h2).2.2.1
  obtain ⟨d1, d2⟩ := l5d_rng h1
  obtain ⟨f1, f2⟩ := l5d_rng h2
  obtain ⟨mc1, mc2⟩ := mul_canon (mode := mode) (s1 != s2) h1 h2
  obtain rfl | rfl | rfl | rfl : k1 = 0 ∨ k1 = 1 ∨ k1 = 2 ∨ k1 = 3 := by omega
  · obtain rfl | rfl | rfl | rfl : k2 = 0 ∨ k2 = 1 ∨ k2 = 2 ∨ k2 = 3 := by omega
    · refine Con.of_aw Tryd.func34 rfl Tryd.ntmps34 (by simp) (by simp) (by simp) (W.sound ?_)
      show @W Tryd.prog 67 ⟨_⟩ ⟨fun x σ => @retW _ _ _ ⟨_⟩ _ ⟨_⟩ x σ⟩ _ _
      simp (disch := omega) only [go_sem]
      refine draw_of rfl [⟨0, [], []⟩, ⟨2, [0], []⟩, ⟨5, [0, 2], []⟩, ⟨6, [0, 2], []⟩, ⟨1, [2], []⟩, ⟨3, [], []⟩, ⟨4, [], []⟩, ⟨7, [], []⟩, ⟨8, [], []⟩, ⟨9, [], []⟩, ⟨10, [], []⟩, ⟨11, [], []⟩] (by kernel_rfl) ?_
      simp (disch := omega) only [go_sem]
      refine call_open (con_l5dy (0) s1 m1 e1 h1) (by simp (disch := omega) only [go_sem]) ?_
      rintro r hs ⟨rfl, rfl, _⟩
      refine ⟨by simp [freeN], ?_⟩
      simp (disch := omega) only [go_sem]
      refine call_open (con_l5dy (0) s2 m2 e2 h2) (by simp (disch := omega) only [go_sem]) ?_
      rintro r hs ⟨rfl, rfl, _⟩
      refine ⟨by simp [freeN], ?_⟩
      simp (disch := omega) only [go_sem]
      refine call_open (con_l4mul (l5dS (0) s1 m1) (l5dM (0) m1) (l5dE (0) m1 e1) (l5dS (0) s2 m2) (l5dM (0) m2) (l5dE (0) m2 e2) (by omega) (by omega) (by omega) (by omega)) (by simp (disch := omega) only [go_sem]) ?_
      rintro r hs ⟨rfl, rfl, _⟩
      refine ⟨by simp [freeN], ?_⟩
      simp (disch := omega) only [go_sem]
      have q3 := bl_mulle (l5dM (0) m1) (l5dM (0) m2)
      have q4 := bl_mono (oM_le (l5dM (0) m1 * l5dM (0) m2))
      have q5 := oE_rng (m := l5dM (0) m1 * l5dM (0) m2) (e := l5dE (0) m1 e1 + l5dE (0) m2 e2) (lo := -2148) (hi := 2048) (Nat.le_refl _) (by omega) (by omega) (by omega)
      refine call_closed (con_l5round (oS ((l5dS (0) s1 m1 != l5dS (0) s2 m2) && decide (l5dM (0) m1 * l5dM (0) m2 ≠ 0)) (l5dM (0) m1 * l5dM (0) m2)) (oM (l5dM (0) m1 * l5dM (0) m2)) (oE (l5dM (0) m1 * l5dM (0) m2) (l5dE (0) m1 e1 + l5dE (0) m2 e2)) mode (s1 != s2) (oM_odd _) (oS_z _ _) hmode (by omega) (by omega)) (by simp (disch := omega) only [go_sem]) ?_
      rintro r hs ⟨rfl, rfl, _⟩
      refine ⟨by simp [freeN], ?_⟩
      simp (disch := omega) only [go_sem]
      rw [mc1, mc2]
      refine fin_valc (by simp (disch := omega) only [go_sem]) (by simp (disch := omega) only [go_sem]) ⟨rfl, rfl, rfl⟩
    · refine Con.of_aw Tryd.func34 rfl Tryd.ntmps34 (by simp) (by simp) (by simp) (W.sound ?_)
      show @W Tryd.prog 67 ⟨_⟩ ⟨fun x σ => @retW _ _ _ ⟨_⟩ _ ⟨_⟩ x σ⟩ _ _
      simp (disch := omega) only [go_sem]
      refine draw_of rfl [⟨0, [], []⟩, ⟨2, [0], []⟩, ⟨5, [0, 2], []⟩, ⟨6, [0, 2], []⟩, ⟨1, [2], []⟩, ⟨3, [], []⟩, ⟨4, [], []⟩, ⟨7, [], []⟩, ⟨8, [], []⟩, ⟨9, [], []⟩, ⟨10, [], []⟩, ⟨11, [], []⟩] (by kernel_rfl) ?_
      simp (disch := omega) only [go_sem]
      refine call_open (con_l5dy (0) s1 m1 e1 h1) (by simp (disch := omega) only [go_sem]) ?_
      rintro r hs ⟨rfl, rfl, _⟩
      refine ⟨by simp [freeN], ?_⟩
      simp (disch := omega) only [go_sem]
      refine call_open (con_l5dy (1) s2 m2 e2 h2) (by simp (disch := omega) only [go_sem]) ?_
      rintro r hs ⟨rfl, rfl, _⟩
      refine ⟨by simp [freeN], ?_⟩
      simp (disch := omega) only [go_sem]
      refine call_open (con_l4mul (l5dS (0) s1 m1) (l5dM (0) m1) (l5dE (0) m1 e1) (l5dS (1) s2 m2) (l5dM (1) m2) (l5dE (1) m2 e2) (by omega) (by omega) (by omega) (by omega)) (by simp (disch := omega) only [go_sem]) ?_
      rintro r hs ⟨rfl, rfl, _⟩
      refine ⟨by simp [freeN], ?_⟩
      simp (disch := omega) only [go_sem]
      have q3 := bl_mulle (l5dM (0) m1) (l5dM (1) m2)
      have q4 := bl_mono (oM_le (l5dM (0) m1 * l5dM (1) m2))
      have q5 := oE_rng (m := l5dM (0) m1 * l5dM (1) m2) (e := l5dE (0) m1 e1 + l5dE (1) m2 e2) (lo := -2148) (hi := 2048) (Nat.le_refl _) (by omega) (by omega) (by omega)
      refine call_closed (con_l5round (oS ((l5dS (0) s1 m1 != l5dS (1) s2 m2) && decide (l5dM (0) m1 * l5dM (1) m2 ≠ 0)) (l5dM (0) m1 * l5dM (1) m2)) (oM (l5dM (0) m1 * l5dM (1) m2)) (oE (l5dM (0) m1 * l5dM (1) m2) (l5dE (0) m1 e1 + l5dE (1) m2 e2)) mode (s1 != s2) (oM_odd _) (oS_z _ _) hmode (by omega) (by omega)) (by simp (disch := omega) only [go_sem]) ?_
      rintro r hs ⟨rfl, rfl, _⟩
      refine ⟨by simp [freeN], ?_⟩
      simp (disch := omega) only [go_sem]
      rw [mc1, mc2]
      refine fin_valc (by simp (disch := omega) only [go_sem]) (by simp (disch := omega) only [go_sem]) ⟨rfl, rfl, rfl⟩
    · refine Con.of_aw Tryd.func34 rfl Tryd.ntmps34 (by simp) (by simp) (by simp) (W.sound ?_)
      show @W Tryd.prog 67 ⟨_⟩ ⟨fun x σ => @retW _ _ _ ⟨_⟩ _ ⟨_⟩ x σ⟩ _ _
      simp (disch := omega) only [go_sem]
      refine call_closed (con_l5bad) (by simp (disch := omega) only [go_sem]) ?_
      rintro r hs ⟨rfl, rfl, _⟩
      refine ⟨by simp [freeN], ?_⟩
      simp (disch := omega) only [go_sem]
      refine fin_valc (by simp (disch := omega) only [go_sem]) (by simp (disch := omega) only [go_sem]) ⟨rfl, rfl, rfl⟩
    · refine Con.of_aw Tryd.func34 rfl Tryd.ntmps34 (by simp) (by simp) (by simp) (W.sound ?_)
      show @W Tryd.prog 67 ⟨_⟩ ⟨fun x σ => @retW _ _ _ ⟨_⟩ _ ⟨_⟩ x σ⟩ _ _
      simp (disch := omega) only [go_sem]
      refine call_closed (con_l5nan) (by simp (disch := omega) only [go_sem]) ?_
      rintro r hs ⟨rfl, rfl, _⟩
      refine ⟨by simp [freeN], ?_⟩
      simp (disch := omega) only [go_sem]
      refine fin_valc (by simp (disch := omega) only [go_sem]) (by simp (disch := omega) only [go_sem]) ⟨rfl, rfl, rfl⟩
  · obtain rfl | rfl | rfl | rfl : k2 = 0 ∨ k2 = 1 ∨ k2 = 2 ∨ k2 = 3 := by omega
    · refine Con.of_aw Tryd.func34 rfl Tryd.ntmps34 (by simp) (by simp) (by simp) (W.sound ?_)
      show @W Tryd.prog 67 ⟨_⟩ ⟨fun x σ => @retW _ _ _ ⟨_⟩ _ ⟨_⟩ x σ⟩ _ _
      simp (disch := omega) only [go_sem]
      refine draw_of rfl [⟨0, [], []⟩, ⟨2, [0], []⟩, ⟨5, [0, 2], []⟩, ⟨6, [0, 2], []⟩, ⟨1, [2], []⟩, ⟨3, [], []⟩, ⟨4, [], []⟩, ⟨7, [], []⟩, ⟨8, [], []⟩, ⟨9, [], []⟩, ⟨10, [], []⟩, ⟨11, [], []⟩] (by kernel_rfl) ?_
      simp (disch := omega) only [go_sem]
      refine call_open (con_l5dy (1) s1 m1 e1 h1) (by simp (disch := omega) only [go_sem]) ?_
      rintro r hs ⟨rfl, rfl, _⟩
      refine ⟨by simp [freeN], ?_⟩
      simp (disch := omega) only [go_sem]
      refine call_open (con_l5dy (0) s2 m2 e2 h2) (by simp (disch := omega) only [go_sem]) ?_
      rintro r hs ⟨rfl, rfl, _⟩
      refine ⟨by simp [freeN], ?_⟩
      simp (disch := omega) only [go_sem]
      refine call_open (con_l4mul (l5dS (1) s1 m1) (l5dM (1) m1) (l5dE (1) m1 e1) (l5dS (0) s2 m2) (l5dM (0) m2) (l5dE (0) m2 e2) (by omega) (by omega) (by omega) (by omega)) (by simp (disch := omega) only [go_sem]) ?_
      rintro r hs ⟨rfl, rfl, _⟩
      refine ⟨by simp [freeN], ?_⟩
      simp (disch := omega) only [go_sem]
      have q3 := bl_mulle (l5dM (1) m1) (l5dM (0) m2)
      have q4 := bl_mono (oM_le (l5dM (1) m1 * l5dM (0) m2))
      have q5 := oE_rng (m := l5dM (1) m1 * l5dM (0) m2) (e := l5dE (1) m1 e1 + l5dE (0) m2 e2) (lo := -2148) (hi := 2048) (Nat.le_refl _) (by omega) (by omega) (by omega)
      refine call_closed (con_l5round (oS ((l5dS (1) s1 m1 != l5dS (0) s2 m2) && decide (l5dM (1) m1 * l5dM (0) m2 ≠ 0)) (l5dM (1) m1 * l5dM (0) m2)) (oM (l5dM (1) m1 * l5dM (0) m2)) (oE (l5dM (1) m1 * l5dM (0) m2) (l5dE (1) m1 e1 + l5dE (0) m2 e2)) mode (s1 != s2) (oM_odd _) (oS_z _ _) hmode (by omega) (by omega)) (by simp (disch := omega) only [go_sem]) ?_
      rintro r hs ⟨rfl, rfl, _⟩
      refine ⟨by simp [freeN], ?_⟩
      simp (disch := omega) only [go_sem]
      rw [mc1, mc2]
      refine fin_valc (by simp (disch := omega) only [go_sem]) (by simp (disch := omega) only [go_sem]) ⟨rfl, rfl, rfl⟩
    · refine Con.of_aw Tryd.func34 rfl Tryd.ntmps34 (by simp) (by simp) (by simp) (W.sound ?_)
      show @W Tryd.prog 67 ⟨_⟩ ⟨fun x σ => @retW _ _ _ ⟨_⟩ _ ⟨_⟩ x σ⟩ _ _
      simp (disch := omega) only [go_sem]
      refine draw_of rfl [⟨0, [], []⟩, ⟨2, [0], []⟩, ⟨5, [0, 2], []⟩, ⟨6, [0, 2], []⟩, ⟨1, [2], []⟩, ⟨3, [], []⟩, ⟨4, [], []⟩, ⟨7, [], []⟩, ⟨8, [], []⟩, ⟨9, [], []⟩, ⟨10, [], []⟩, ⟨11, [], []⟩] (by kernel_rfl) ?_
      simp (disch := omega) only [go_sem]
      refine call_open (con_l5dy (1) s1 m1 e1 h1) (by simp (disch := omega) only [go_sem]) ?_
      rintro r hs ⟨rfl, rfl, _⟩
      refine ⟨by simp [freeN], ?_⟩
      simp (disch := omega) only [go_sem]
      refine call_open (con_l5dy (1) s2 m2 e2 h2) (by simp (disch := omega) only [go_sem]) ?_
      rintro r hs ⟨rfl, rfl, _⟩
      refine ⟨by simp [freeN], ?_⟩
      simp (disch := omega) only [go_sem]
      refine call_open (con_l4mul (l5dS (1) s1 m1) (l5dM (1) m1) (l5dE (1) m1 e1) (l5dS (1) s2 m2) (l5dM (1) m2) (l5dE (1) m2 e2) (by omega) (by omega) (by omega) (by omega)) (by simp (disch := omega) only [go_sem]) ?_
      rintro r hs ⟨rfl, rfl, _⟩
      refine ⟨by simp [freeN], ?_⟩
      simp (disch := omega) only [go_sem]
      have q3 := bl_mulle (l5dM (1) m1) (l5dM (1) m2)
      have q4 := bl_mono (oM_le (l5dM (1) m1 * l5dM (1) m2))
      have q5 := oE_rng (m := l5dM (1) m1 * l5dM (1) m2) (e := l5dE (1) m1 e1 + l5dE (1) m2 e2) (lo := -2148) (hi := 2048) (Nat.le_refl _) (by omega) (by omega) (by omega)
      refine call_closed (con_l5round (oS ((l5dS (1) s1 m1 != l5dS (1) s2 m2) && decide (l5dM (1) m1 * l5dM (1) m2 ≠ 0)) (l5dM (1) m1 * l5dM (1) m2)) (oM (l5dM (1) m1 * l5dM (1) m2)) (oE (l5dM (1) m1 * l5dM (1) m2) (l5dE (1) m1 e1 + l5dE (1) m2 e2)) mode (s1 != s2) (oM_odd _) (oS_z _ _) hmode (by omega) (by omega)) (by simp (disch := omega) only [go_sem]) ?_
      rintro r hs ⟨rfl, rfl, _⟩
      refine ⟨by simp [freeN], ?_⟩
      simp (disch := omega) only [go_sem]
      rw [mc1, mc2]
      refine fin_valc (by simp (disch := omega) only [go_sem]) (by simp (disch := omega) only [go_sem]) ⟨rfl, rfl, rfl⟩
    · refine Con.of_aw Tryd.func34 rfl Tryd.ntmps34 (by simp) (by simp) (by simp) (W.sound ?_)
      show @W Tryd.prog 67 ⟨_⟩ ⟨fun x σ => @retW _ _ _ ⟨_⟩ _ ⟨_⟩ x σ⟩ _ _
      simp (disch := omega) only [go_sem]
      refine fin_valc (by simp (disch := omega) only [go_sem]) (by simp (disch := omega) only [go_sem]) ⟨rfl, rfl, rfl⟩
    · refine Con.of_aw Tryd.func34 rfl Tryd.ntmps34 (by simp) (by simp) (by simp) (W.sound ?_)
      show @W Tryd.prog 67 ⟨_⟩ ⟨fun x σ => @retW _ _ _ ⟨_⟩ _ ⟨_⟩ x σ⟩ _ _
      simp (disch := omega) only [go_sem]
      refine call_closed (con_l5nan) (by simp (disch := omega) only [go_sem]) ?_
      rintro r hs ⟨rfl, rfl, _⟩
      refine ⟨by simp [freeN], ?_⟩
      simp (disch := omega) only [go_sem]
      refine fin_valc (by simp (disch := omega) only [go_sem]) (by simp (disch := omega) only [go_sem]) ⟨rfl, rfl, rfl⟩
  · obtain rfl | rfl | rfl | rfl : k2 = 0 ∨ k2 = 1 ∨ k2 = 2 ∨ k2 = 3 := by omega
    · refine Con.of_aw Tryd.func34 rfl Tryd.ntmps34 (by simp) (by simp) (by simp) (W.sound ?_)
      show @W Tryd.prog 67 ⟨_⟩ ⟨fun x σ => @retW _ _ _ ⟨_⟩ _ ⟨_⟩ x σ⟩ _ _
      simp (disch := omega) only [go_sem]
      refine call_closed (con_l5bad) (by simp (disch := omega) only [go_sem]) ?_
      rintro r hs ⟨rfl, rfl, _⟩
      refine ⟨by simp [freeN], ?_⟩
      simp (disch := omega) only [go_sem]
      refine fin_valc (by simp (disch := omega) only [go_sem]) (by simp (disch := omega) only [go_sem]) ⟨rfl, rfl, rfl⟩
    · refine Con.of_aw Tryd.func34 rfl Tryd.ntmps34 (by simp) (by simp) (by simp) (W.sound ?_)
      show @W Tryd.prog 67 ⟨_⟩ ⟨fun x σ => @retW _ _ _ ⟨_⟩ _ ⟨_⟩ x σ⟩ _ _
      simp (disch := omega) only [go_sem]
      refine fin_valc (by simp (disch := omega) only [go_sem]) (by simp (disch := omega) only [go_sem]) ⟨rfl, rfl, rfl⟩
    · refine Con.of_aw Tryd.func34 rfl Tryd.ntmps34 (by simp) (by simp) (by simp) (W.sound ?_)
      show @W Tryd.prog 67 ⟨_⟩ ⟨fun x σ => @retW _ _ _ ⟨_⟩ _ ⟨_⟩ x σ⟩ _ _
      simp (disch := omega) only [go_sem]
      refine fin_valc (by simp (disch := omega) only [go_sem]) (by simp (disch := omega) only [go_sem]) ⟨rfl, rfl, rfl⟩
    · refine Con.of_aw Tryd.func34 rfl Tryd.ntmps34 (by simp) (by simp) (by simp) (W.sound ?_)
      show @W Tryd.prog 67 ⟨_⟩ ⟨fun x σ => @retW _ _ _ ⟨_⟩ _ ⟨_⟩ x σ⟩ _ _
      simp (disch := omega) only [go_sem]
      refine call_closed (con_l5nan) (by simp (disch := omega) only [go_sem]) ?_
      rintro r hs ⟨rfl, rfl, _⟩
      refine ⟨by simp [freeN], ?_⟩
      simp (disch := omega) only [go_sem]
      refine fin_valc (by simp (disch := omega) only [go_sem]) (by simp (disch := omega) only [go_sem]) ⟨rfl, rfl, rfl⟩
  · obtain rfl | rfl | rfl | rfl : k2 = 0 ∨ k2 = 1 ∨ k2 = 2 ∨ k2 = 3 := by omega
    · refine Con.of_aw Tryd.func34 rfl Tryd.ntmps34 (by simp) (by simp) (by simp) (W.sound ?_)
      show @W Tryd.prog 67 ⟨_⟩ ⟨fun x σ => @retW _ _ _ ⟨_⟩ _ ⟨_⟩ x σ⟩ _ _
      simp (disch := omega) only [go_sem]
      refine call_closed (con_l5nan) (by simp (disch := omega) only [go_sem]) ?_
      rintro r hs ⟨rfl, rfl, _⟩
      refine ⟨by simp [freeN], ?_⟩
      simp (disch := omega) only [go_sem]
      refine fin_valc (by simp (disch := omega) only [go_sem]) (by simp (disch := omega) only [go_sem]) ⟨rfl, rfl, rfl⟩
    · refine Con.of_aw Tryd.func34 rfl Tryd.ntmps34 (by simp) (by simp) (by simp) (W.sound ?_)
      show @W Tryd.prog 67 ⟨_⟩ ⟨fun x σ => @retW _ _ _ ⟨_⟩ _ ⟨_⟩ x σ⟩ _ _
      simp (disch := omega) only [go_sem]
      refine call_closed (con_l5nan) (by simp (disch := omega) only [go_sem]) ?_
      rintro r hs ⟨rfl, rfl, _⟩
      refine ⟨by simp [freeN], ?_⟩
      simp (disch := omega) only [go_sem]
      refine fin_valc (by simp (disch := omega) only [go_sem]) (by simp (disch := omega) only [go_sem]) ⟨rfl, rfl, rfl⟩
    · refine Con.of_aw Tryd.func34 rfl Tryd.ntmps34 (by simp) (by simp) (by simp) (W.sound ?_)
      show @W Tryd.prog 67 ⟨_⟩ ⟨fun x σ => @retW _ _ _ ⟨_⟩ _ ⟨_⟩ x σ⟩ _ _
      simp (disch := omega) only [go_sem]
      refine call_closed (con_l5nan) (by simp (disch := omega) only [go_sem]) ?_
      rintro r hs ⟨rfl, rfl, _⟩
      refine ⟨by simp [freeN], ?_⟩
      simp (disch := omega) only [go_sem]
      refine fin_valc (by simp (disch := omega) only [go_sem]) (by simp (disch := omega) only [go_sem]) ⟨rfl, rfl, rfl⟩
    · refine Con.of_aw Tryd.func34 rfl Tryd.ntmps34 (by simp) (by simp) (by simp) (W.sound ?_)
      show @W Tryd.prog 67 ⟨_⟩ ⟨fun x σ => @retW _ _ _ ⟨_⟩ _ ⟨_⟩ x σ⟩ _ _
      simp (disch := omega) only [go_sem]
      refine call_closed (con_l5nan) (by simp (disch := omega) only [go_sem]) ?_
      rintro r hs ⟨rfl, rfl, _⟩
      refine ⟨by simp [freeN], ?_⟩
      simp (disch := omega) only [go_sem]
      refine fin_valc (by simp (disch := omega) only [go_sem]) (by simp (disch := omega) only [go_sem]) ⟨rfl, rfl, rfl⟩

end Go.Ab
namespace Go.Ab
open Go Go.Proofs
set_option linter.unusedVariables false
set_option linter.unusedSimpArgs false

section
variable {k1 : Int} {s1 : Bool} {m1 e1 k2 : Int} {s2 : Bool} {m2 e2 mode : Int}
theorem mulV_nan (h : k1 = 3 ∨ k2 = 3) : mulV k1 s1 m1 e1 k2 s2 m2 e2 mode = ⟨3, false, 0, 0⟩ ∧ mulG k1 s1 m1 e1 k2 s2 m2 e2 mode = 0 := by
  have h' : (decide (k1 = 3) || decide (k2 = 3)) = true := by simpa using h
  unfold mulV mulG; rw [if_pos h', if_pos h']; exact ⟨rfl, rfl⟩
theorem mulV_bad (h0 : ¬ (k1 = 3 ∨ k2 = 3)) (h1 : k1 = 2 ∨ k2 = 2) (h2 : k1 = 0 ∨ k2 = 0) : mulV k1 s1 m1 e1 k2 s2 m2 e2 mode = ⟨3, false, 0, 0⟩ ∧ mulG k1 s1 m1 e1 k2 s2 m2 e2 mode = 16 := by
  have h0' : ¬ (decide (k1 = 3) || decide (k2 = 3)) = true := by simpa using h0
  have h1' : (decide (k1 = 2) || decide (k2 = 2)) = true := by simpa using h1
  have h2' : (decide (k1 = 0) || decide (k2 = 0)) = true := by simpa using h2
  unfold mulV mulG; rw [if_neg h0', if_neg h0', if_pos h1', if_pos h1', if_pos h2', if_pos h2']; exact ⟨rfl, rfl⟩
theorem mulV_inf (h0 : ¬ (k1 = 3 ∨ k2 = 3)) (h1 : k1 = 2 ∨ k2 = 2) (h2 : ¬ (k1 = 0 ∨ k2 = 0)) : mulV k1 s1 m1 e1 k2 s2 m2 e2 mode = ⟨2, s1 != s2, 0, 0⟩ ∧ mulG k1 s1 m1 e1 k2 s2 m2 e2 mode = 0 := by
  have h0' : ¬ (decide (k1 = 3) || decide (k2 = 3)) = true := by simpa using h0
  have h1' : (decide (k1 = 2) || decide (k2 = 2)) = true := by simpa using h1
  have h2' : ¬ (decide (k1 = 0) || decide (k2 = 0)) = true := by simpa using h2
  unfold mulV mulG; rw [if_neg h0', if_neg h0', if_pos h1', if_pos h1', if_neg h2', if_neg h2']; exact ⟨rfl, rfl⟩
theorem mulV_fin (h0 : ¬ (k1 = 3 ∨ k2 = 3)) (h1 : ¬ (k1 = 2 ∨ k2 = 2)) : mulV k1 s1 m1 e1 k2 s2 m2 e2 mode = flV (muS k1 s1 m1 k2 s2 m2) (m1.toNat * m2.toNat) (e1 + e2) mode (s1 != s2) ∧ mulG k1 s1 m1 e1 k2 s2 m2 e2 mode = flG (muS k1 s1 m1 k2 s2 m2) (m1.toNat * m2.toNat) (e1 + e2) mode := by
  have h0' : ¬ (decide (k1 = 3) || decide (k2 = 3)) = true := by simpa using h0
  have h1' : ¬ (decide (k1 = 2) || decide (k2 = 2)) = true := by simpa using h1
  unfold mulV mulG; rw [if_neg h0', if_neg h0', if_neg h1', if_neg h1']; exact ⟨rfl, rfl⟩
end
theorem inf_flB (s : Bool) : flB 2 s 0 0 = true := by unfold flB; simp
theorem nan_flB : flB 3 false 0 0 = true := by unfold flB; simp
theorem zero_flB (s : Bool) : flB 0 s 0 0 = true := by unfold flB; simp

theorem con_areFloats3 (mode k1 : Int) (s1 : Bool) (m1 e1 k2 : Int) (s2 : Bool) (m2 e2 k3 : Int) (s3 : Bool) (m3 e3 : Int) :
    Con Tryd.prog 29 true [.v (.int .i64 mode), .sl 3 [.v (.int .i64 k1), .v (.bool s1), .v (.int .i64 m1), .v (.int .i64 e1), .v (.int .i64 k2), .v (.bool s2), .v (.int .i64 m2), .v (.int .i64 e2), .v (.int .i64 k3), .v (.bool s3), .v (.int .i64 m3), .v (.int .i64 e3)]] []
      (isA (.v (.bool (modeB mode && (flB k1 s1 m1 e1 && (flB k2 s2 m2 e2 && flB k3 s3 m3 e3)))))) := by
  have := con_areFloats mode [⟨k1, s1, m1, e1⟩, ⟨k2, s2, m2, e2⟩, ⟨k3, s3, m3, e3⟩] (by simp)
  simp only [List.all_cons, List.all_nil, Bool.and_true] at this
  exact this

theorem con_isFinite (k : Int) (s : Bool) (m e : Int) : Con Tryd.prog 39 true [.ag [.v (.int .i64 (k)), .v (.bool (s)), .v (.int .i64 (m)), .v (.int .i64 (e))]] [] (isA (.v (.bool (decide (k = 0) || decide (k = 1))))) := by
  refine Con.of_aw Tryd.func39 rfl Tryd.ntmps39 (by simp) (by simp) (by simp) (W.sound ?_)
  show @W Tryd.prog 11 ⟨_⟩ ⟨fun x σ => @retW _ _ _ ⟨_⟩ _ ⟨_⟩ x σ⟩ _ _
  simp (disch := omega) only [go_sem]
  repeat' first
    | simp (disch := omega) only [go_sem, *]
    | (with_reducible refine ifW_dec (fun _ => ?_) (fun _ => ?_))
    | (with_reducible refine ifW_not (fun _ => ?_) (fun _ => ?_))
    | (with_reducible refine ifW_nb (fun _ => ?_) (fun _ => ?_))
    | (with_reducible refine ifW_b (fun _ => ?_) (fun _ => ?_))
  all_goals exact fin_valc (by simp (disch := omega) only [go_sem]) (by simp (disch := omega) only [go_sem]) ⟨by simp_all [tupA] <;> omega, rfl, rfl⟩

theorem con_FlFma (k1 : Int) (s1 : Bool) (m1 e1 k2 : Int) (s2 : Bool) (m2 e2 k3 : Int) (s3 : Bool) (m3 e3 mode : Int) :
    Con Tryd.prog 15 true [.ag [.v (.int .i64 (k1)), .v (.bool (s1)), .v (.int .i64 (m1)), .v (.int .i64 (e1))], .ag [.v (.int .i64 (k2)), .v (.bool (s2)), .v (.int .i64 (m2)), .v (.int .i64 (e2))], .ag [.v (.int .i64 (k3)), .v (.bool (s3)), .v (.int .i64 (m3)), .v (.int .i64 (e3))], .v (.int .i64 mode)] []
      (isA (if (modeB mode && (flB k1 s1 m1 e1 && (flB k2 s2 m2 e2 && flB k3 s3 m3 e3))) = true then .tu [.ag [.v (.int .i64 ((fmaV k1 s1 m1 e1 k2 s2 m2 e2 k3 s3 m3 e3 mode).k)), .v (.bool ((fmaV k1 s1 m1 e1 k2 s2 m2 e2 k3 s3 m3 e3 mode).s)), .v (.int .i64 ((fmaV k1 s1 m1 e1 k2 s2 m2 e2 k3 s3 m3 e3 mode).m)), .v (.int .i64 ((fmaV k1 s1 m1 e1 k2 s2 m2 e2 k3 s3 m3 e3 mode).e))], .v (.int .i64 (fmaG k1 s1 m1 e1 k2 s2 m2 e2 k3 s3 m3 e3 mode))]
        else .tu [.ag [.v (.int .i64 (3)), .v (.bool (false)), .v (.int .i64 (0)), .v (.int .i64 (0))], .v (.int .i64 16)])) := by
  by_cases hv : (modeB mode && (flB k1 s1 m1 e1 && (flB k2 s2 m2 e2 && flB k3 s3 m3 e3))) = true
  · rw [if_pos hv]
    have h' := hv
    simp only [Bool.and_eq_true, modeB, decide_eq_true_eq] at h'
    obtain ⟨hmode, h1, h2, h3⟩ := h'
    obtain ⟨a1, a2, a3, a4⟩ := flB_rng h1
    obtain ⟨b1, b2, b3, b4⟩ := flB_rng h2
    obtain ⟨g1, g2, g3, g4⟩ := flB_rng h3
    have cm := con_mul k1 s1 m1 e1 k2 s2 m2 e2 mode h1 h2
    cases hf1 : (decide (k1 = 0) || decide (k1 = 1)) with
    | false =>
      have hf1' : ¬ (k1 = 0 ∨ k1 = 1) := by simpa using hf1
      by_cases c3 : k1 = 3 ∨ k2 = 3
      · rw [(mulV_nan c3).1, (mulV_nan c3).2] at cm
        rw [(fmaV_nan c3).1, (fmaV_nan c3).2]
        refine Con.of_aw Tryd.func15 rfl Tryd.ntmps15 (by simp) (by simp) (by simp) (W.sound ?_)
        show @W Tryd.prog 88 ⟨_⟩ ⟨fun x σ => @retW _ _ _ ⟨_⟩ _ ⟨_⟩ x σ⟩ _ _
        simp (disch := omega) only [go_sem]
        refine call_closed (con_areFloats3 mode k1 s1 m1 e1 k2 s2 m2 e2 k3 s3 m3 e3) (by simp (disch := omega) only [go_sem]) ?_
        rintro r hs ⟨rfl, rfl, _⟩
        refine ⟨by simp [freeN], ?_⟩
        simp (disch := omega) only [go_sem]
        simp (disch := omega) only [go_sem, hv]
        refine call_closed (con_isFinite k1 s1 m1 e1) (by simp (disch := omega) only [go_sem]) ?_
        rintro r hs ⟨rfl, rfl, _⟩
        refine ⟨by simp [freeN], ?_⟩
        simp (disch := omega) only [go_sem]
        simp (disch := omega) only [go_sem, hf1]
        refine call_closed (cm) (by simp (disch := omega) only [go_sem]) ?_
        rintro r hs ⟨rfl, rfl, _⟩
        refine ⟨by simp [freeN], ?_⟩
        simp (disch := omega) only [go_sem]
        refine call_closed (con_add 3 false 0 0 k3 s3 m3 e3 mode nan_flB h3) (by simp (disch := omega) only [go_sem]) ?_
        rintro r hs ⟨rfl, rfl, _⟩
        refine ⟨by simp [freeN], ?_⟩
        simp (disch := omega) only [go_sem]
        rw [(addV_nan (.inl rfl)).1, (addV_nan (.inl rfl)).2]
        exact fin_valc (by simp (disch := omega) only [go_sem]) (by simp (disch := omega) only [go_sem]) isA_mk
      have c2 : k1 = 2 ∨ k2 = 2 := by omega
      by_cases c0 : k1 = 0 ∨ k2 = 0
      · rw [(mulV_bad c3 c2 c0).1, (mulV_bad c3 c2 c0).2] at cm
        rw [(fmaV_bad c3 c2 c0).1, (fmaV_bad c3 c2 c0).2]
        refine Con.of_aw Tryd.func15 rfl Tryd.ntmps15 (by simp) (by simp) (by simp) (W.sound ?_)
        show @W Tryd.prog 88 ⟨_⟩ ⟨fun x σ => @retW _ _ _ ⟨_⟩ _ ⟨_⟩ x σ⟩ _ _
        simp (disch := omega) only [go_sem]
        refine call_closed (con_areFloats3 mode k1 s1 m1 e1 k2 s2 m2 e2 k3 s3 m3 e3) (by simp (disch := omega) only [go_sem]) ?_
        rintro r hs ⟨rfl, rfl, _⟩
        refine ⟨by simp [freeN], ?_⟩
        simp (disch := omega) only [go_sem]
        simp (disch := omega) only [go_sem, hv]
        refine call_closed (con_isFinite k1 s1 m1 e1) (by simp (disch := omega) only [go_sem]) ?_
        rintro r hs ⟨rfl, rfl, _⟩
        refine ⟨by simp [freeN], ?_⟩
        simp (disch := omega) only [go_sem]
        simp (disch := omega) only [go_sem, hf1]
        refine call_closed (cm) (by simp (disch := omega) only [go_sem]) ?_
        rintro r hs ⟨rfl, rfl, _⟩
        refine ⟨by simp [freeN], ?_⟩
        simp (disch := omega) only [go_sem]
        exact fin_valc (by simp (disch := omega) only [go_sem]) (by simp (disch := omega) only [go_sem]) isA_mk
      rw [(mulV_inf c3 c2 c0).1, (mulV_inf c3 c2 c0).2] at cm
      rw [(fmaV_inf c3 c2 c0).1, (fmaV_inf c3 c2 c0).2]
      refine Con.of_aw Tryd.func15 rfl Tryd.ntmps15 (by simp) (by simp) (by simp) (W.sound ?_)
      show @W Tryd.prog 88 ⟨_⟩ ⟨fun x σ => @retW _ _ _ ⟨_⟩ _ ⟨_⟩ x σ⟩ _ _
      simp (disch := omega) only [go_sem]
      refine call_closed (con_areFloats3 mode k1 s1 m1 e1 k2 s2 m2 e2 k3 s3 m3 e3) (by simp (disch := omega) only [go_sem]) ?_
      rintro r hs ⟨rfl, rfl, _⟩
      refine ⟨by simp [freeN], ?_⟩
      simp (disch := omega) only [go_sem]
      simp (disch := omega) only [go_sem, hv]
      refine call_closed (con_isFinite k1 s1 m1 e1) (by simp (disch := omega) only [go_sem]) ?_
      rintro r hs ⟨rfl, rfl, _⟩
      refine ⟨by simp [freeN], ?_⟩
      simp (disch := omega) only [go_sem]
      simp (disch := omega) only [go_sem, hf1]
      refine call_closed (cm) (by simp (disch := omega) only [go_sem]) ?_
      rintro r hs ⟨rfl, rfl, _⟩
      refine ⟨by simp [freeN], ?_⟩
      simp (disch := omega) only [go_sem]
      refine call_closed (con_add 2 (s1 != s2) 0 0 k3 s3 m3 e3 mode (inf_flB _) h3) (by simp (disch := omega) only [go_sem]) ?_
      rintro r hs ⟨rfl, rfl, _⟩
      refine ⟨by simp [freeN], ?_⟩
      simp (disch := omega) only [go_sem]
      exact fin_valc (by simp (disch := omega) only [go_sem]) (by simp (disch := omega) only [go_sem]) isA_mk
    | true =>
    have hf1' : k1 = 0 ∨ k1 = 1 := by simpa using hf1
    cases hf2 : (decide (k2 = 0) || decide (k2 = 1)) with
    | false =>
      have hf2' : ¬ (k2 = 0 ∨ k2 = 1) := by simpa using hf2
      by_cases c3 : k1 = 3 ∨ k2 = 3
      · rw [(mulV_nan c3).1, (mulV_nan c3).2] at cm
        rw [(fmaV_nan c3).1, (fmaV_nan c3).2]
        refine Con.of_aw Tryd.func15 rfl Tryd.ntmps15 (by simp) (by simp) (by simp) (W.sound ?_)
        show @W Tryd.prog 88 ⟨_⟩ ⟨fun x σ => @retW _ _ _ ⟨_⟩ _ ⟨_⟩ x σ⟩ _ _
        simp (disch := omega) only [go_sem]
        refine call_closed (con_areFloats3 mode k1 s1 m1 e1 k2 s2 m2 e2 k3 s3 m3 e3) (by simp (disch := omega) only [go_sem]) ?_
        rintro r hs ⟨rfl, rfl, _⟩
        refine ⟨by simp [freeN], ?_⟩
        simp (disch := omega) only [go_sem]
        simp (disch := omega) only [go_sem, hv]
        refine call_closed (con_isFinite k1 s1 m1 e1) (by simp (disch := omega) only [go_sem]) ?_
        rintro r hs ⟨rfl, rfl, _⟩
        refine ⟨by simp [freeN], ?_⟩
        simp (disch := omega) only [go_sem]
        simp (disch := omega) only [go_sem, hf1]
        refine call_closed (con_isFinite k2 s2 m2 e2) (by simp (disch := omega) only [go_sem, hf1]) ?_
        rintro r hs ⟨rfl, rfl, _⟩
        refine ⟨by simp [freeN], ?_⟩
        simp (disch := omega) only [go_sem]
        simp (disch := omega) only [go_sem, hf2]
        refine call_closed (cm) (by simp (disch := omega) only [go_sem]) ?_
        rintro r hs ⟨rfl, rfl, _⟩
        refine ⟨by simp [freeN], ?_⟩
        simp (disch := omega) only [go_sem]
        refine call_closed (con_add 3 false 0 0 k3 s3 m3 e3 mode nan_flB h3) (by simp (disch := omega) only [go_sem]) ?_
        rintro r hs ⟨rfl, rfl, _⟩
        refine ⟨by simp [freeN], ?_⟩
        simp (disch := omega) only [go_sem]
        rw [(addV_nan (.inl rfl)).1, (addV_nan (.inl rfl)).2]
        exact fin_valc (by simp (disch := omega) only [go_sem]) (by simp (disch := omega) only [go_sem]) isA_mk
      have c2 : k1 = 2 ∨ k2 = 2 := by omega
      by_cases c0 : k1 = 0 ∨ k2 = 0
      · rw [(mulV_bad c3 c2 c0).1, (mulV_bad c3 c2 c0).2] at cm
        rw [(fmaV_bad c3 c2 c0).1, (fmaV_bad c3 c2 c0).2]
        refine Con.of_aw Tryd.func15 rfl Tryd.ntmps15 (by simp) (by simp) (by simp) (W.sound ?_)
        show @W Tryd.prog 88 ⟨_⟩ ⟨fun x σ => @retW _ _ _ ⟨_⟩ _ ⟨_⟩ x σ⟩ _ _
        simp (disch := omega) only [go_sem]
        refine call_closed (con_areFloats3 mode k1 s1 m1 e1 k2 s2 m2 e2 k3 s3 m3 e3) (by simp (disch := omega) only [go_sem]) ?_
        rintro r hs ⟨rfl, rfl, _⟩
        refine ⟨by simp [freeN], ?_⟩
        simp (disch := omega) only [go_sem]
        simp (disch := omega) only [go_sem, hv]
        refine call_closed (con_isFinite k1 s1 m1 e1) (by simp (disch := omega) only [go_sem]) ?_
        rintro r hs ⟨rfl, rfl, _⟩
        refine ⟨by simp [freeN], ?_⟩
        simp (disch := omega) only [go_sem]
        simp (disch := omega) only [go_sem, hf1]
        refine call_closed (con_isFinite k2 s2 m2 e2) (by simp (disch := omega) only [go_sem, hf1]) ?_
        rintro r hs ⟨rfl, rfl, _⟩
        refine ⟨by simp [freeN], ?_⟩
        simp (disch := omega) only [go_sem]
        simp (disch := omega) only [go_sem, hf2]
        refine call_closed (cm) (by simp (disch := omega) only [go_sem]) ?_
        rintro r hs ⟨rfl, rfl, _⟩
        refine ⟨by simp [freeN], ?_⟩
        simp (disch := omega) only [go_sem]
        exact fin_valc (by simp (disch := omega) only [go_sem]) (by simp (disch := omega) only [go_sem]) isA_mk
      rw [(mulV_inf c3 c2 c0).1, (mulV_inf c3 c2 c0).2] at cm
      rw [(fmaV_inf c3 c2 c0).1, (fmaV_inf c3 c2 c0).2]
      refine Con.of_aw Tryd.func15 rfl Tryd.ntmps15 (by simp) (by simp) (by simp) (W.sound ?_)
      show @W Tryd.prog 88 ⟨_⟩ ⟨fun x σ => @retW _ _ _ ⟨_⟩ _ ⟨_⟩ x σ⟩ _ _
      simp (disch := omega) only [go_sem]
      refine call_closed (con_areFloats3 mode k1 s1 m1 e1 k2 s2 m2 e2 k3 s3 m3 e3) (by simp (disch := omega) only [go_sem]) ?_
      rintro r hs ⟨rfl, rfl, _⟩
      refine ⟨by simp [freeN], ?_⟩
      simp (disch := omega) only [go_sem]
      simp (disch := omega) only [go_sem, hv]
      refine call_closed (con_isFinite k1 s1 m1 e1) (by simp (disch := omega) only [go_sem]) ?_
      rintro r hs ⟨rfl, rfl, _⟩
      refine ⟨by simp [freeN], ?_⟩
      simp (disch := omega) only [go_sem]
      simp (disch := omega) only [go_sem, hf1]
      refine call_closed (con_isFinite k2 s2 m2 e2) (by simp (disch := omega) only [go_sem, hf1]) ?_
      rintro r hs ⟨rfl, rfl, _⟩
      refine ⟨by simp [freeN], ?_⟩
      simp (disch := omega) only [go_sem]
      simp (disch := omega) only [go_sem, hf2]
      refine call_closed (cm) (by simp (disch := omega) only [go_sem]) ?_
      rintro r hs ⟨rfl, rfl, _⟩
      refine ⟨by simp [freeN], ?_⟩
      simp (disch := omega) only [go_sem]
      refine call_closed (con_add 2 (s1 != s2) 0 0 k3 s3 m3 e3 mode (inf_flB _) h3) (by simp (disch := omega) only [go_sem]) ?_
      rintro r hs ⟨rfl, rfl, _⟩
      refine ⟨by simp [freeN], ?_⟩
      simp (disch := omega) only [go_sem]
      exact fin_valc (by simp (disch := omega) only [go_sem]) (by simp (disch := omega) only [go_sem]) isA_mk
    | true =>
    have hf2' : k2 = 0 ∨ k2 = 1 := by simpa using hf2
    have c3 : ¬ (k1 = 3 ∨ k2 = 3) := by omega
    have c2 : ¬ (k1 = 2 ∨ k2 = 2) := by omega
    cases hf3 : (decide (k3 = 0) || decide (k3 = 1)) with
    | false =>
      have hf3' : ¬ (k3 = 0 ∨ k3 = 1) := by simpa using hf3
      have c4 : k3 = 2 ∨ k3 = 3 := by omega
      rw [(fmaV_c c3 c2 c4).1, (fmaV_c c3 c2 c4).2]
      refine Con.of_aw Tryd.func15 rfl Tryd.ntmps15 (by simp) (by simp) (by simp) (W.sound ?_)
      show @W Tryd.prog 88 ⟨_⟩ ⟨fun x σ => @retW _ _ _ ⟨_⟩ _ ⟨_⟩ x σ⟩ _ _
      simp (disch := omega) only [go_sem]
      refine call_closed (con_areFloats3 mode k1 s1 m1 e1 k2 s2 m2 e2 k3 s3 m3 e3) (by simp (disch := omega) only [go_sem]) ?_
      rintro r hs ⟨rfl, rfl, _⟩
      refine ⟨by simp [freeN], ?_⟩
      simp (disch := omega) only [go_sem]
      simp (disch := omega) only [go_sem, hv]
      refine call_closed (con_isFinite k1 s1 m1 e1) (by simp (disch := omega) only [go_sem]) ?_
      rintro r hs ⟨rfl, rfl, _⟩
      refine ⟨by simp [freeN], ?_⟩
      simp (disch := omega) only [go_sem]
      simp (disch := omega) only [go_sem, hf1]
      refine call_closed (con_isFinite k2 s2 m2 e2) (by simp (disch := omega) only [go_sem, hf1]) ?_
      rintro r hs ⟨rfl, rfl, _⟩
      refine ⟨by simp [freeN], ?_⟩
      simp (disch := omega) only [go_sem]
      simp (disch := omega) only [go_sem, hf2]
      refine call_closed (con_isFinite k3 s3 m3 e3) (by simp (disch := omega) only [go_sem]) ?_
      rintro r hs ⟨rfl, rfl, _⟩
      refine ⟨by simp [freeN], ?_⟩
      simp (disch := omega) only [go_sem]
      simp (disch := omega) only [go_sem, hf3]
      exact fin_valc (by simp (disch := omega) only [go_sem]) (by simp (disch := omega) only [go_sem]) isA_mk
    | true =>
    have hf3' : k3 = 0 ∨ k3 = 1 := by simpa using hf3
    have c4 : ¬ (k3 = 2 ∨ k3 = 3) := by omega
    obtain ⟨n1, rfl⟩ := Int.eq_ofNat_of_zero_le a1.1
    obtain ⟨n2, rfl⟩ := Int.eq_ofNat_of_zero_le b1.1
    obtain ⟨n3, rfl⟩ := Int.eq_ofNat_of_zero_le g1.1
    have q1 : bl n1 ≤ 53 := bl_le.2 (by omega)
    have q2 : bl n2 ≤ 53 := bl_le.2 (by omega)
    have q3 : bl n3 ≤ 53 := bl_le.2 (by omega)
    have q4 := bl_mulle n1 n2
    have r1 : ((n1 : Nat) : Int).toNat = n1 := rfl
    have r2 : ((n2 : Nat) : Int).toNat = n2 := rfl
    have r3 : ((n3 : Nat) : Int).toNat = n3 := rfl
    have x1 : xS k3 s3 = (s3 && decide (k3 = 1)) := rfl
    have x2 : muS k1 s1 n1 k2 s2 n2 = (((s1 && decide (k1 = 1)) != (s2 && decide (k2 = 1))) && decide (n1 * n2 ≠ 0)) := rfl
    have fin : ∀ z, z = fmZ k1 s1 k2 s2 k3 s3 mode → (fmaV k1 s1 n1 e1 k2 s2 n2 e2 k3 s3 n3 e3 mode = flV (adS (muS k1 s1 n1 k2 s2 n2) (n1 * n2) (e1 + e2) (xS k3 s3) n3 e3) (adM (muS k1 s1 n1 k2 s2 n2) (n1 * n2) (e1 + e2) (xS k3 s3) n3 e3) (alE (n1 * n2) (e1 + e2) n3 e3) mode z ∧ fmaG k1 s1 n1 e1 k2 s2 n2 e2 k3 s3 n3 e3 mode = flG (adS (muS k1 s1 n1 k2 s2 n2) (n1 * n2) (e1 + e2) (xS k3 s3) n3 e3) (adM (muS k1 s1 n1 k2 s2 n2) (n1 * n2) (e1 + e2) (xS k3 s3) n3 e3) (alE (n1 * n2) (e1 + e2) n3 e3) mode) := fun z hz => by rw [hz]; exact fmaV_fin c3 c2 c4
    have hE := alE_ge (K := -2148) (m1 := n1 * n2) (m2 := n3) (e1 := e1 + e2) (e2 := e3) (by omega) (by omega)
    have hE2 := alE_le (K := 1942) (m1 := n1 * n2) (m2 := n3) (e1 := e1 + e2) (e2 := e3) (by omega) (by omega)
    have hM : bl (adM (muS k1 s1 n1 k2 s2 n2) (n1 * n2) (e1 + e2) (xS k3 s3) n3 e3) ≤ 6000 := by
      have y1 := bl_alA (B := 106) (e := e1 + e2) (E := alE (n1 * n2) (e1 + e2) n3 e3) (C := 5000) (show bl (n1 * n2) ≤ 106 by omega) (by omega)
      have y2 := bl_alA (B := 106) (e := e3) (E := alE (n1 * n2) (e1 + e2) n3 e3) (C := 5000) (show bl n3 ≤ 106 by omega) (by omega)
      exact Nat.le_trans (bl_suM y1 y2) (by omega)
    by_cases z0 : k1 = 0 ∨ k2 = 0
    · have z0' : (decide (k1 = 0) || decide (k2 = 0)) = true := by simpa using z0
      by_cases z3 : k3 = 0
      · have z3' : decide (k3 = 0) = true := decide_eq_true z3
        by_cases hs : s3 = (s1 != s2)
        · have hs' : (s3 == (s1 != s2)) = true := by simpa using hs
          have hs2 : ((s1 != s2) == s3) = true := by rw [← hs]; simp
          refine Con.of_aw Tryd.func15 rfl Tryd.ntmps15 (by simp) (by simp) (by simp) (W.sound ?_)
          show @W Tryd.prog 88 ⟨_⟩ ⟨fun x σ => @retW _ _ _ ⟨_⟩ _ ⟨_⟩ x σ⟩ _ _
          simp (disch := omega) only [go_sem]
          refine call_closed (con_areFloats3 mode k1 s1 (n1 : Int) e1 k2 s2 (n2 : Int) e2 k3 s3 (n3 : Int) e3) (by simp (disch := omega) only [go_sem]) ?_
          rintro r hs ⟨rfl, rfl, _⟩
          refine ⟨by simp [freeN], ?_⟩
          simp (disch := omega) only [go_sem]
          simp (disch := omega) only [go_sem, hv]
          refine call_closed (con_isFinite k1 s1 (n1 : Int) e1) (by simp (disch := omega) only [go_sem]) ?_
          rintro r hs ⟨rfl, rfl, _⟩
          refine ⟨by simp [freeN], ?_⟩
          simp (disch := omega) only [go_sem]
          simp (disch := omega) only [go_sem, hf1]
          refine call_closed (con_isFinite k2 s2 (n2 : Int) e2) (by simp (disch := omega) only [go_sem, hf1]) ?_
          rintro r hs ⟨rfl, rfl, _⟩
          refine ⟨by simp [freeN], ?_⟩
          simp (disch := omega) only [go_sem]
          simp (disch := omega) only [go_sem, hf2]
          refine call_closed (con_isFinite k3 s3 (n3 : Int) e3) (by simp (disch := omega) only [go_sem]) ?_
          rintro r hs ⟨rfl, rfl, _⟩
          refine ⟨by simp [freeN], ?_⟩
          simp (disch := omega) only [go_sem]
          simp (disch := omega) only [go_sem, hf3]
          refine call_closed (con_hasKind 0 k1 (n1 : Int) e1 k2 (n2 : Int) e2 s1 s2) (by simp (disch := omega) only [go_sem]) ?_
          rintro r hs ⟨rfl, rfl, _⟩
          refine ⟨by simp [freeN], ?_⟩
          simp (disch := omega) only [go_sem]
          simp (disch := omega) only [go_sem, z0', z3', hs', hs2]
          refine draw_of rfl [⟨0, [], []⟩, ⟨2, [0], []⟩, ⟨5, [0, 2], []⟩, ⟨8, [0, 2, 5], []⟩, ⟨9, [0, 2, 5], []⟩, ⟨1, [2, 5], []⟩, ⟨3, [5], []⟩, ⟨4, [5], []⟩, ⟨6, [], []⟩, ⟨7, [], []⟩, ⟨10, [], []⟩, ⟨11, [], []⟩, ⟨12, [], []⟩, ⟨13, [], []⟩, ⟨14, [], []⟩] (by kernel_rfl) ?_
          simp (disch := omega) only [go_sem, z0', z3', hs', hs2]
          refine call_open (con_flexact k1 s1 n1 e1 (by omega)) (by simp (disch := omega) only [go_sem]) ?_
          rintro r hs ⟨rfl, rfl, _⟩
          refine ⟨by simp [freeN], ?_⟩
          simp (disch := omega) only [go_sem]
          refine call_open (con_flexact k2 s2 n2 e2 (by omega)) (by simp (disch := omega) only [go_sem]) ?_
          rintro r hs ⟨rfl, rfl, _⟩
          refine ⟨by simp [freeN], ?_⟩
          simp (disch := omega) only [go_sem]
          refine call_open (con_timesX (s1 && decide (k1 = 1)) n1 e1 (s2 && decide (k2 = 1)) n2 e2 (by omega) (by omega) (by omega) (by omega)) (by simp (disch := omega) only [go_sem]) ?_
          rintro r hs ⟨rfl, rfl, _⟩
          refine ⟨by simp [freeN], ?_⟩
          simp (disch := omega) only [go_sem]
          refine call_open (con_flexact k3 s3 n3 e3 (by omega)) (by simp (disch := omega) only [go_sem]) ?_
          rintro r hs ⟨rfl, rfl, _⟩
          refine ⟨by simp [freeN], ?_⟩
          simp (disch := omega) only [go_sem]
          refine call_open (con_plusX (((s1 && decide (k1 = 1)) != (s2 && decide (k2 = 1))) && decide (n1 * n2 ≠ 0)) (n1 * n2) (e1 + e2) (s3 && decide (k3 = 1)) n3 e3 (by omega) (by omega) (by omega) (by omega)) (by simp (disch := omega) only [go_sem]) ?_
          rintro r hs ⟨rfl, rfl, _⟩
          refine ⟨by simp [freeN], ?_⟩
          simp (disch := omega) only [go_sem]
          refine call_closed (con_float (adS (muS k1 s1 n1 k2 s2 n2) (n1 * n2) (e1 + e2) (xS k3 s3) n3 e3) (adM (muS k1 s1 n1 k2 s2 n2) (n1 * n2) (e1 + e2) (xS k3 s3) n3 e3) (alE (n1 * n2) (e1 + e2) n3 e3) mode (s3) (by omega) (by omega)) (by simp (disch := omega) only [go_sem, x1, x2]) ?_
          rintro r hs ⟨rfl, rfl, _⟩
          refine ⟨by simp [freeN], ?_⟩
          simp (disch := omega) only [go_sem]
          rw [(fin (s3) (by unfold fmZ; rw [if_pos ⟨z0, z3, hs⟩])).1, (fin (s3) (by unfold fmZ; rw [if_pos ⟨z0, z3, hs⟩])).2]
          exact fin_valc (by simp (disch := omega) only [go_sem]) (by simp (disch := omega) only [go_sem]) isA_mk
        · have hs' : (s3 == (s1 != s2)) = false := by simpa using hs
          have hs2 : ((s1 != s2) == s3) = false := by rw [Bool.beq_comm]; exact hs'
          refine Con.of_aw Tryd.func15 rfl Tryd.ntmps15 (by simp) (by simp) (by simp) (W.sound ?_)
          show @W Tryd.prog 88 ⟨_⟩ ⟨fun x σ => @retW _ _ _ ⟨_⟩ _ ⟨_⟩ x σ⟩ _ _
          simp (disch := omega) only [go_sem]
          refine call_closed (con_areFloats3 mode k1 s1 (n1 : Int) e1 k2 s2 (n2 : Int) e2 k3 s3 (n3 : Int) e3) (by simp (disch := omega) only [go_sem]) ?_
          rintro r hs ⟨rfl, rfl, _⟩
          refine ⟨by simp [freeN], ?_⟩
          simp (disch := omega) only [go_sem]
          simp (disch := omega) only [go_sem, hv]
          refine call_closed (con_isFinite k1 s1 (n1 : Int) e1) (by simp (disch := omega) only [go_sem]) ?_
          rintro r hs ⟨rfl, rfl, _⟩
          refine ⟨by simp [freeN], ?_⟩
          simp (disch := omega) only [go_sem]
          simp (disch := omega) only [go_sem, hf1]
          refine call_closed (con_isFinite k2 s2 (n2 : Int) e2) (by simp (disch := omega) only [go_sem, hf1]) ?_
          rintro r hs ⟨rfl, rfl, _⟩
          refine ⟨by simp [freeN], ?_⟩
          simp (disch := omega) only [go_sem]
          simp (disch := omega) only [go_sem, hf2]
          refine call_closed (con_isFinite k3 s3 (n3 : Int) e3) (by simp (disch := omega) only [go_sem]) ?_
          rintro r hs ⟨rfl, rfl, _⟩
          refine ⟨by simp [freeN], ?_⟩
          simp (disch := omega) only [go_sem]
          simp (disch := omega) only [go_sem, hf3]
          refine call_closed (con_hasKind 0 k1 (n1 : Int) e1 k2 (n2 : Int) e2 s1 s2) (by simp (disch := omega) only [go_sem]) ?_
          rintro r hs ⟨rfl, rfl, _⟩
          refine ⟨by simp [freeN], ?_⟩
          simp (disch := omega) only [go_sem]
          simp (disch := omega) only [go_sem, z0', z3', hs', hs2]
          refine draw_of rfl [⟨0, [], []⟩, ⟨2, [0], []⟩, ⟨5, [0, 2], []⟩, ⟨8, [0, 2, 5], []⟩, ⟨9, [0, 2, 5], []⟩, ⟨1, [2, 5], []⟩, ⟨3, [5], []⟩, ⟨4, [5], []⟩, ⟨6, [], []⟩, ⟨7, [], []⟩, ⟨10, [], []⟩, ⟨11, [], []⟩, ⟨12, [], []⟩, ⟨13, [], []⟩, ⟨14, [], []⟩] (by kernel_rfl) ?_
          simp (disch := omega) only [go_sem, z0', z3', hs', hs2]
          refine call_open (con_flexact k1 s1 n1 e1 (by omega)) (by simp (disch := omega) only [go_sem]) ?_
          rintro r hs ⟨rfl, rfl, _⟩
          refine ⟨by simp [freeN], ?_⟩
          simp (disch := omega) only [go_sem]
          refine call_open (con_flexact k2 s2 n2 e2 (by omega)) (by simp (disch := omega) only [go_sem]) ?_
          rintro r hs ⟨rfl, rfl, _⟩
          refine ⟨by simp [freeN], ?_⟩
          simp (disch := omega) only [go_sem]
          refine call_open (con_timesX (s1 && decide (k1 = 1)) n1 e1 (s2 && decide (k2 = 1)) n2 e2 (by omega) (by omega) (by omega) (by omega)) (by simp (disch := omega) only [go_sem]) ?_
          rintro r hs ⟨rfl, rfl, _⟩
          refine ⟨by simp [freeN], ?_⟩
          simp (disch := omega) only [go_sem]
          refine call_open (con_flexact k3 s3 n3 e3 (by omega)) (by simp (disch := omega) only [go_sem]) ?_
          rintro r hs ⟨rfl, rfl, _⟩
          refine ⟨by simp [freeN], ?_⟩
          simp (disch := omega) only [go_sem]
          refine call_open (con_plusX (((s1 && decide (k1 = 1)) != (s2 && decide (k2 = 1))) && decide (n1 * n2 ≠ 0)) (n1 * n2) (e1 + e2) (s3 && decide (k3 = 1)) n3 e3 (by omega) (by omega) (by omega) (by omega)) (by simp (disch := omega) only [go_sem]) ?_
          rintro r hs ⟨rfl, rfl, _⟩
          refine ⟨by simp [freeN], ?_⟩
          simp (disch := omega) only [go_sem]
          refine call_closed (con_float (adS (muS k1 s1 n1 k2 s2 n2) (n1 * n2) (e1 + e2) (xS k3 s3) n3 e3) (adM (muS k1 s1 n1 k2 s2 n2) (n1 * n2) (e1 + e2) (xS k3 s3) n3 e3) (alE (n1 * n2) (e1 + e2) n3 e3) mode (decide (mode = 3)) (by omega) (by omega)) (by simp (disch := omega) only [go_sem, x1, x2]) ?_
          rintro r hs ⟨rfl, rfl, _⟩
          refine ⟨by simp [freeN], ?_⟩
          simp (disch := omega) only [go_sem]
          rw [(fin (decide (mode = 3)) (by unfold fmZ; rw [if_neg (fun h => hs h.2.2)])).1, (fin (decide (mode = 3)) (by unfold fmZ; rw [if_neg (fun h => hs h.2.2)])).2]
          exact fin_valc (by simp (disch := omega) only [go_sem]) (by simp (disch := omega) only [go_sem]) isA_mk
      · have z3' : decide (k3 = 0) = false := decide_eq_false z3
        refine Con.of_aw Tryd.func15 rfl Tryd.ntmps15 (by simp) (by simp) (by simp) (W.sound ?_)
        show @W Tryd.prog 88 ⟨_⟩ ⟨fun x σ => @retW _ _ _ ⟨_⟩ _ ⟨_⟩ x σ⟩ _ _
        simp (disch := omega) only [go_sem]
        refine call_closed (con_areFloats3 mode k1 s1 (n1 : Int) e1 k2 s2 (n2 : Int) e2 k3 s3 (n3 : Int) e3) (by simp (disch := omega) only [go_sem]) ?_
        rintro r hs ⟨rfl, rfl, _⟩
        refine ⟨by simp [freeN], ?_⟩
        simp (disch := omega) only [go_sem]
        simp (disch := omega) only [go_sem, hv]
        refine call_closed (con_isFinite k1 s1 (n1 : Int) e1) (by simp (disch := omega) only [go_sem]) ?_
        rintro r hs ⟨rfl, rfl, _⟩
        refine ⟨by simp [freeN], ?_⟩
        simp (disch := omega) only [go_sem]
        simp (disch := omega) only [go_sem, hf1]
        refine call_closed (con_isFinite k2 s2 (n2 : Int) e2) (by simp (disch := omega) only [go_sem, hf1]) ?_
        rintro r hs ⟨rfl, rfl, _⟩
        refine ⟨by simp [freeN], ?_⟩
        simp (disch := omega) only [go_sem]
        simp (disch := omega) only [go_sem, hf2]
        refine call_closed (con_isFinite k3 s3 (n3 : Int) e3) (by simp (disch := omega) only [go_sem]) ?_
        rintro r hs ⟨rfl, rfl, _⟩
        refine ⟨by simp [freeN], ?_⟩
        simp (disch := omega) only [go_sem]
        simp (disch := omega) only [go_sem, hf3]
        refine call_closed (con_hasKind 0 k1 (n1 : Int) e1 k2 (n2 : Int) e2 s1 s2) (by simp (disch := omega) only [go_sem]) ?_
        rintro r hs ⟨rfl, rfl, _⟩
        refine ⟨by simp [freeN], ?_⟩
        simp (disch := omega) only [go_sem]
        simp (disch := omega) only [go_sem, z0', z3']
        refine draw_of rfl [⟨0, [], []⟩, ⟨2, [0], []⟩, ⟨5, [0, 2], []⟩, ⟨8, [0, 2, 5], []⟩, ⟨9, [0, 2, 5], []⟩, ⟨1, [2, 5], []⟩, ⟨3, [5], []⟩, ⟨4, [5], []⟩, ⟨6, [], []⟩, ⟨7, [], []⟩, ⟨10, [], []⟩, ⟨11, [], []⟩, ⟨12, [], []⟩, ⟨13, [], []⟩, ⟨14, [], []⟩] (by kernel_rfl) ?_
        simp (disch := omega) only [go_sem, z0', z3']
        refine call_open (con_flexact k1 s1 n1 e1 (by omega)) (by simp (disch := omega) only [go_sem]) ?_
        rintro r hs ⟨rfl, rfl, _⟩
        refine ⟨by simp [freeN], ?_⟩
        simp (disch := omega) only [go_sem]
        refine call_open (con_flexact k2 s2 n2 e2 (by omega)) (by simp (disch := omega) only [go_sem]) ?_
        rintro r hs ⟨rfl, rfl, _⟩
        refine ⟨by simp [freeN], ?_⟩
        simp (disch := omega) only [go_sem]
        refine call_open (con_timesX (s1 && decide (k1 = 1)) n1 e1 (s2 && decide (k2 = 1)) n2 e2 (by omega) (by omega) (by omega) (by omega)) (by simp (disch := omega) only [go_sem]) ?_
        rintro r hs ⟨rfl, rfl, _⟩
        refine ⟨by simp [freeN], ?_⟩
        simp (disch := omega) only [go_sem]
        refine call_open (con_flexact k3 s3 n3 e3 (by omega)) (by simp (disch := omega) only [go_sem]) ?_
        rintro r hs ⟨rfl, rfl, _⟩
        refine ⟨by simp [freeN], ?_⟩
        simp (disch := omega) only [go_sem]
        refine call_open (con_plusX (((s1 && decide (k1 = 1)) != (s2 && decide (k2 = 1))) && decide (n1 * n2 ≠ 0)) (n1 * n2) (e1 + e2) (s3 && decide (k3 = 1)) n3 e3 (by omega) (by omega) (by omega) (by omega)) (by simp (disch := omega) only [go_sem]) ?_
        rintro r hs ⟨rfl, rfl, _⟩
        refine ⟨by simp [freeN], ?_⟩
        simp (disch := omega) only [go_sem]
        refine call_closed (con_float (adS (muS k1 s1 n1 k2 s2 n2) (n1 * n2) (e1 + e2) (xS k3 s3) n3 e3) (adM (muS k1 s1 n1 k2 s2 n2) (n1 * n2) (e1 + e2) (xS k3 s3) n3 e3) (alE (n1 * n2) (e1 + e2) n3 e3) mode (decide (mode = 3)) (by omega) (by omega)) (by simp (disch := omega) only [go_sem, x1, x2]) ?_
        rintro r hs ⟨rfl, rfl, _⟩
        refine ⟨by simp [freeN], ?_⟩
        simp (disch := omega) only [go_sem]
        rw [(fin (decide (mode = 3)) (by unfold fmZ; rw [if_neg (fun h => z3 h.2.1)])).1, (fin (decide (mode = 3)) (by unfold fmZ; rw [if_neg (fun h => z3 h.2.1)])).2]
        exact fin_valc (by simp (disch := omega) only [go_sem]) (by simp (disch := omega) only [go_sem]) isA_mk
    · have z0' : (decide (k1 = 0) || decide (k2 = 0)) = false := by simpa using z0
      refine Con.of_aw Tryd.func15 rfl Tryd.ntmps15 (by simp) (by simp) (by simp) (W.sound ?_)
      show @W Tryd.prog 88 ⟨_⟩ ⟨fun x σ => @retW _ _ _ ⟨_⟩ _ ⟨_⟩ x σ⟩ _ _
      simp (disch := omega) only [go_sem]
      refine call_closed (con_areFloats3 mode k1 s1 (n1 : Int) e1 k2 s2 (n2 : Int) e2 k3 s3 (n3 : Int) e3) (by simp (disch := omega) only [go_sem]) ?_
      rintro r hs ⟨rfl, rfl, _⟩
      refine ⟨by simp [freeN], ?_⟩
      simp (disch := omega) only [go_sem]
      simp (disch := omega) only [go_sem, hv]
      refine call_closed (con_isFinite k1 s1 (n1 : Int) e1) (by simp (disch := omega) only [go_sem]) ?_
      rintro r hs ⟨rfl, rfl, _⟩
      refine ⟨by simp [freeN], ?_⟩
      simp (disch := omega) only [go_sem]
      simp (disch := omega) only [go_sem, hf1]
      refine call_closed (con_isFinite k2 s2 (n2 : Int) e2) (by simp (disch := omega) only [go_sem, hf1]) ?_
      rintro r hs ⟨rfl, rfl, _⟩
      refine ⟨by simp [freeN], ?_⟩
      simp (disch := omega) only [go_sem]
      simp (disch := omega) only [go_sem, hf2]
      refine call_closed (con_isFinite k3 s3 (n3 : Int) e3) (by simp (disch := omega) only [go_sem]) ?_
      rintro r hs ⟨rfl, rfl, _⟩
      refine ⟨by simp [freeN], ?_⟩
      simp (disch := omega) only [go_sem]
      simp (disch := omega) only [go_sem, hf3]
      refine call_closed (con_hasKind 0 k1 (n1 : Int) e1 k2 (n2 : Int) e2 s1 s2) (by simp (disch := omega) only [go_sem]) ?_
      rintro r hs ⟨rfl, rfl, _⟩
      refine ⟨by simp [freeN], ?_⟩
      simp (disch := omega) only [go_sem]
      simp (disch := omega) only [go_sem, z0']
      refine draw_of rfl [⟨0, [], []⟩, ⟨2, [0], []⟩, ⟨5, [0, 2], []⟩, ⟨8, [0, 2, 5], []⟩, ⟨9, [0, 2, 5], []⟩, ⟨1, [2, 5], []⟩, ⟨3, [5], []⟩, ⟨4, [5], []⟩, ⟨6, [], []⟩, ⟨7, [], []⟩, ⟨10, [], []⟩, ⟨11, [], []⟩, ⟨12, [], []⟩, ⟨13, [], []⟩, ⟨14, [], []⟩] (by kernel_rfl) ?_
      simp (disch := omega) only [go_sem, z0']
      refine call_open (con_flexact k1 s1 n1 e1 (by omega)) (by simp (disch := omega) only [go_sem]) ?_
      rintro r hs ⟨rfl, rfl, _⟩
      refine ⟨by simp [freeN], ?_⟩
      simp (disch := omega) only [go_sem]
      refine call_open (con_flexact k2 s2 n2 e2 (by omega)) (by simp (disch := omega) only [go_sem]) ?_
      rintro r hs ⟨rfl, rfl, _⟩
      refine ⟨by simp [freeN], ?_⟩
      simp (disch := omega) only [go_sem]
      refine call_open (con_timesX (s1 && decide (k1 = 1)) n1 e1 (s2 && decide (k2 = 1)) n2 e2 (by omega) (by omega) (by omega) (by omega)) (by simp (disch := omega) only [go_sem]) ?_
      rintro r hs ⟨rfl, rfl, _⟩
      refine ⟨by simp [freeN], ?_⟩
      simp (disch := omega) only [go_sem]
      refine call_open (con_flexact k3 s3 n3 e3 (by omega)) (by simp (disch := omega) only [go_sem]) ?_
      rintro r hs ⟨rfl, rfl, _⟩
      refine ⟨by simp [freeN], ?_⟩
      simp (disch := omega) only [go_sem]
      refine call_open (con_plusX (((s1 && decide (k1 = 1)) != (s2 && decide (k2 = 1))) && decide (n1 * n2 ≠ 0)) (n1 * n2) (e1 + e2) (s3 && decide (k3 = 1)) n3 e3 (by omega) (by omega) (by omega) (by omega)) (by simp (disch := omega) only [go_sem]) ?_
      rintro r hs ⟨rfl, rfl, _⟩
      refine ⟨by simp [freeN], ?_⟩
      simp (disch := omega) only [go_sem]
      refine call_closed (con_float (adS (muS k1 s1 n1 k2 s2 n2) (n1 * n2) (e1 + e2) (xS k3 s3) n3 e3) (adM (muS k1 s1 n1 k2 s2 n2) (n1 * n2) (e1 + e2) (xS k3 s3) n3 e3) (alE (n1 * n2) (e1 + e2) n3 e3) mode (decide (mode = 3)) (by omega) (by omega)) (by simp (disch := omega) only [go_sem, x1, x2]) ?_
      rintro r hs ⟨rfl, rfl, _⟩
      refine ⟨by simp [freeN], ?_⟩
      simp (disch := omega) only [go_sem]
      rw [(fin (decide (mode = 3)) (by unfold fmZ; rw [if_neg (fun h => z0 h.1)])).1, (fin (decide (mode = 3)) (by unfold fmZ; rw [if_neg (fun h => z0 h.1)])).2]
      exact fin_valc (by simp (disch := omega) only [go_sem]) (by simp (disch := omega) only [go_sem]) isA_mk
  · rw [if_neg hv]
    have hv' : (modeB mode && (flB k1 s1 m1 e1 && (flB k2 s2 m2 e2 && flB k3 s3 m3 e3))) = false := by simpa using hv
    refine Con.of_aw Tryd.func15 rfl Tryd.ntmps15 (by simp) (by simp) (by simp) (W.sound ?_)
    show @W Tryd.prog 88 ⟨_⟩ ⟨fun x σ => @retW _ _ _ ⟨_⟩ _ ⟨_⟩ x σ⟩ _ _
    simp (disch := omega) only [go_sem]
    refine call_closed (con_areFloats3 mode k1 s1 m1 e1 k2 s2 m2 e2 k3 s3 m3 e3) (by simp (disch := omega) only [go_sem]) ?_
    rintro r hs ⟨rfl, rfl, _⟩
    refine ⟨by simp [freeN], ?_⟩
    simp (disch := omega) only [go_sem]
    simp (disch := omega) only [go_sem, hv']
    refine call_closed (con_nan) (by simp (disch := omega) only [go_sem]) ?_
    rintro r hs ⟨rfl, rfl, _⟩
    refine ⟨by simp [freeN], ?_⟩
    simp (disch := omega) only [go_sem]
    exact fin_valc (by simp (disch := omega) only [go_sem]) (by simp (disch := omega) only [go_sem]) isA_mk
end Go.Ab
namespace Go.Ab
open Go Go.Proofs
set_option linter.unusedVariables false
set_option linter.unusedSimpArgs false

/-- A product of the reference's numbers, in its one form. -/
def lmS (k1 : Int) (s1 : Bool) (m1 k2 : Int) (s2 : Bool) (m2 : Int) : Bool := oS ((l5dS k1 s1 m1 != l5dS k2 s2 m2) && decide (l5dM k1 m1 * l5dM k2 m2 ≠ 0)) (l5dM k1 m1 * l5dM k2 m2)
def lmM (k1 m1 k2 m2 : Int) : Nat := oM (l5dM k1 m1 * l5dM k2 m2)
def lmE (k1 m1 e1 k2 m2 e2 : Int) : Int := oE (l5dM k1 m1 * l5dM k2 m2) (l5dE k1 m1 e1 + l5dE k2 m2 e2)

theorem lm_z {k1 : Int} {s1 : Bool} {m1 k2 : Int} {s2 : Bool} {m2 : Int} (h : lmM k1 m1 k2 m2 = 0) : lmS k1 s1 m1 k2 s2 m2 = false := by
  unfold lmS oS; rw [if_pos (oM_eq_zero.1 h)]
theorem lm_rng {k1 : Int} {s1 : Bool} {m1 e1 k2 : Int} {s2 : Bool} {m2 e2 : Int} (h1 : flB k1 s1 m1 e1 = true) (h2 : flB k2 s2 m2 e2 = true) : bl (lmM k1 m1 k2 m2) ≤ 106 ∧ (-2148 ≤ lmE k1 m1 e1 k2 m2 e2 ∧ lmE k1 m1 e1 k2 m2 e2 ≤ 2048 + 106) := by
  obtain ⟨d1, d2⟩ := l5d_rng h1
  obtain ⟨f1, f2⟩ := l5d_rng h2
  have q3 := bl_mulle (l5dM k1 m1) (l5dM k2 m2)
  have q4 := bl_mono (oM_le (l5dM k1 m1 * l5dM k2 m2))
  have q5 := oE_rng (m := l5dM k1 m1 * l5dM k2 m2) (e := l5dE k1 m1 e1 + l5dE k2 m2 e2) (lo := -2148) (hi := 2048) (Nat.le_refl _) (by omega) (by omega) (by omega)
  unfold lmM lmE
  omega
theorem lm_dv {k1 : Int} {s1 : Bool} {m1 e1 k2 : Int} {s2 : Bool} {m2 e2 : Int} (h1 : flB k1 s1 m1 e1 = true) (h2 : flB k2 s2 m2 e2 = true) :
    dv 2148 (lmS k1 s1 m1 k2 s2 m2) (lmM k1 m1 k2 m2) (lmE k1 m1 e1 k2 m2 e2) = dv 2148 (muS k1 s1 m1 k2 s2 m2) (m1.toNat * m2.toNat) (e1 + e2) := by
  obtain ⟨a1, a2, _⟩ := flB_rng h1
  obtain ⟨b1, b2, _⟩ := flB_rng h2
  obtain ⟨d1, d2⟩ := l5d_rng h1
  obtain ⟨f1, f2⟩ := l5d_rng h2
  have e1' : muS k1 s1 m1 k2 s2 m2 = ((xS k1 s1 != xS k2 s2) && decide (m1.toNat * m2.toNat ≠ 0)) := rfl
  unfold lmS lmM lmE
  rw [dv_norm (by omega), dv_oS, dv_and, e1', dv_and]
  have k0 : (2148 : Nat) = 1074 + 1074 := rfl
  rw [k0, dv_mul (by omega) (by omega), dv_mul (by omega) (by omega), l5d_dv (by omega) h1, l5d_dv (by omega) h2]

theorem fma_canon {k1 : Int} {s1 : Bool} {m1 e1 k2 : Int} {s2 : Bool} {m2 e2 k3 : Int} {s3 : Bool} {m3 e3 mode : Int} (z : Bool) (h1 : flB k1 s1 m1 e1 = true) (h2 : flB k2 s2 m2 e2 = true) (h3 : flB k3 s3 m3 e3 = true)
    {Q : Bool} {P : Nat} {R : Int} (hQ : adS (lmS k1 s1 m1 k2 s2 m2) (lmM k1 m1 k2 m2) (lmE k1 m1 e1 k2 m2 e2) (l5dS k3 s3 m3) (l5dM k3 m3) (l5dE k3 m3 e3) = Q) (hP : adM (lmS k1 s1 m1 k2 s2 m2) (lmM k1 m1 k2 m2) (lmE k1 m1 e1 k2 m2 e2) (l5dS k3 s3 m3) (l5dM k3 m3) (l5dE k3 m3 e3) = P) (hR : alE (lmM k1 m1 k2 m2) (lmE k1 m1 e1 k2 m2 e2) (l5dM k3 m3) (l5dE k3 m3 e3) = R) :
    flV (oS Q P) (oM P) (oE P R) mode z = flV (adS (muS k1 s1 m1 k2 s2 m2) (m1.toNat * m2.toNat) (e1 + e2) (xS k3 s3) m3.toNat e3) (adM (muS k1 s1 m1 k2 s2 m2) (m1.toNat * m2.toNat) (e1 + e2) (xS k3 s3) m3.toNat e3) (alE (m1.toNat * m2.toNat) (e1 + e2) m3.toNat e3) mode z ∧
    flG (oS Q P) (oM P) (oE P R) mode = flG (adS (muS k1 s1 m1 k2 s2 m2) (m1.toNat * m2.toNat) (e1 + e2) (xS k3 s3) m3.toNat e3) (adM (muS k1 s1 m1 k2 s2 m2) (m1.toNat * m2.toNat) (e1 + e2) (xS k3 s3) m3.toNat e3) (alE (m1.toNat * m2.toNat) (e1 + e2) m3.toNat e3) mode := by
  obtain ⟨a1, a2, _⟩ := flB_rng h1
  obtain ⟨b1, b2, _⟩ := flB_rng h2
  obtain ⟨g1, g2, _⟩ := flB_rng h3
  obtain ⟨_, f2⟩ := l5d_rng h3
  obtain ⟨_, w2⟩ := lm_rng h1 h2
  subst hQ; subst hP; subst hR
  rw [(flV_canon _ _ _ mode z).1, (flV_canon _ _ _ mode z).2]
  refine flV_same (K := 2148) mode z (alE_ge (by omega) (by omega)) (alE_ge (by omega) (by omega)) ?_
  rw [ad_dv (by omega) (by omega), ad_dv (by omega) (by omega), lm_dv h1 h2, l5d_dv (by omega) h3]

set_option maxRecDepth 100000 in
theorem con_fmaS_nan (k1 : Int) (s1 : Bool) (m1 e1 k2 : Int) (s2 : Bool) (m2 e2 k3 : Int) (s3 : Bool) (m3 e3 mode : Int) (hmode : 0 ≤ mode ∧ mode ≤ 4) (h1 : flB k1 s1 m1 e1 = true) (h2 : flB k2 s2 m2 e2 = true) (h3 : flB k3 s3 m3 e3 = true) (c3 : k1 = 3 ∨ k2 = 3) :
    Con Tryd.prog 14 true [.ag [.v (.int .i64 (k1)), .v (.bool (s1)), .v (.int .i64 (m1)), .v (.int .i64 (e1))], .ag [.v (.int .i64 (k2)), .v (.bool (s2)), .v (.int .i64 (m2)), .v (.int .i64 (e2))], .ag [.v (.int .i64 (k3)), .v (.bool (s3)), .v (.int .i64 (m3)), .v (.int .i64 (e3))], .v (.int .i64 mode)] []
      (isA (.tu [.ag [.v (.int .i64 ((fmaV k1 s1 m1 e1 k2 s2 m2 e2 k3 s3 m3 e3 mode).k)), .v (.bool ((fmaV k1 s1 m1 e1 k2 s2 m2 e2 k3 s3 m3 e3 mode).s)), .v (.int .i64 ((fmaV k1 s1 m1 e1 k2 s2 m2 e2 k3 s3 m3 e3 mode).m)), .v (.int .i64 ((fmaV k1 s1 m1 e1 k2 s2 m2 e2 k3 s3 m3 e3 mode).e))], .v (.int .i64 (fmaG k1 s1 m1 e1 k2 s2 m2 e2 k3 s3 m3 e3 mode))])) := by
  have e0 : ((0 &&& 2 : Nat) : Int) = 0 := rfl
  have e3' : ((3 &&& 2 : Nat) : Int) = 2 := rfl
  have hv1 : (modeB mode && (flB k1 s1 m1 e1 && flB k2 s2 m2 e2)) = true := by rw [h1, h2, modeB]; simp [hmode]
  obtain ⟨a1, a2, a3, a4⟩ := flB_rng h1
  obtain ⟨b1, b2, b3, b4⟩ := flB_rng h2
  obtain ⟨g1, g2, g3, g4⟩ := flB_rng h3
  have cm := con_l5mul k1 s1 m1 e1 k2 s2 m2 e2 mode h1 h2 hmode
  by_cases d1 : k1 = 3
  · have u1 : decide (k1 = 3) = true := decide_eq_true (by omega)
    rw [(mulV_nan c3).1, (mulV_nan c3).2] at cm
    rw [(fmaV_nan c3).1, (fmaV_nan c3).2]
    refine Con.of_aw Tryd.func14 rfl Tryd.ntmps14 (by simp) (by simp) (by simp) (W.sound ?_)
    show @W Tryd.prog 116 ⟨_⟩ ⟨fun x σ => @retW _ _ _ ⟨_⟩ _ ⟨_⟩ x σ⟩ _ _
    simp (disch := omega) only [go_sem]
    refine call_closed (con_l5ok k1 s1 m1 e1 k2 s2 m2 e2 mode) (by simp (disch := omega) only [go_sem]) ?_
    rintro r hs ⟨rfl, rfl, _⟩
    refine ⟨by simp [freeN], ?_⟩
    simp (disch := omega) only [go_sem]
    simp (disch := omega) only [go_sem, hv1]
    refine call_closed (con_flokS k3 s3 m3 e3) (by simp (disch := omega) only [go_sem]) ?_
    rintro r hs ⟨rfl, rfl, _⟩
    refine ⟨by simp [freeN], ?_⟩
    simp (disch := omega) only [go_sem]
    simp (disch := omega) only [go_sem, h3, u1]
    refine call_closed (cm) (by simp (disch := omega) only [go_sem]) ?_
    rintro r hs ⟨rfl, rfl, _⟩
    refine ⟨by simp [freeN], ?_⟩
    simp (disch := omega) only [go_sem]
    simp (disch := omega) only [go_sem, e0]
    refine call_closed (con_l5add 3 false 0 0 k3 s3 m3 e3 mode nan_flB h3 hmode) (by simp (disch := omega) only [go_sem]) ?_
    rintro r hs ⟨rfl, rfl, _⟩
    refine ⟨by simp [freeN], ?_⟩
    simp (disch := omega) only [go_sem]
    rw [(addV_nan (.inl rfl)).1, (addV_nan (.inl rfl)).2]
    exact fin_valc (by simp (disch := omega) only [go_sem]) (by simp (disch := omega) only [go_sem]) isA_mk
  have u1 : decide (k1 = 3) = false := decide_eq_false (by omega)
  have u2 : decide (k2 = 3) = true := decide_eq_true (by omega)
  rw [(mulV_nan c3).1, (mulV_nan c3).2] at cm
  rw [(fmaV_nan c3).1, (fmaV_nan c3).2]
  refine Con.of_aw Tryd.func14 rfl Tryd.ntmps14 (by simp) (by simp) (by simp) (W.sound ?_)
  show @W Tryd.prog 116 ⟨_⟩ ⟨fun x σ => @retW _ _ _ ⟨_⟩ _ ⟨_⟩ x σ⟩ _ _
  simp (disch := omega) only [go_sem]
  refine call_closed (con_l5ok k1 s1 m1 e1 k2 s2 m2 e2 mode) (by simp (disch := omega) only [go_sem]) ?_
  rintro r hs ⟨rfl, rfl, _⟩
  refine ⟨by simp [freeN], ?_⟩
  simp (disch := omega) only [go_sem]
  simp (disch := omega) only [go_sem, hv1]
  refine call_closed (con_flokS k3 s3 m3 e3) (by simp (disch := omega) only [go_sem]) ?_
  rintro r hs ⟨rfl, rfl, _⟩
  refine ⟨by simp [freeN], ?_⟩
  simp (disch := omega) only [go_sem]
  simp (disch := omega) only [go_sem, h3, u1, u2]
  refine call_closed (cm) (by simp (disch := omega) only [go_sem]) ?_
  rintro r hs ⟨rfl, rfl, _⟩
  refine ⟨by simp [freeN], ?_⟩
  simp (disch := omega) only [go_sem]
  simp (disch := omega) only [go_sem, e0]
  refine call_closed (con_l5add 3 false 0 0 k3 s3 m3 e3 mode nan_flB h3 hmode) (by simp (disch := omega) only [go_sem]) ?_
  rintro r hs ⟨rfl, rfl, _⟩
  refine ⟨by simp [freeN], ?_⟩
  simp (disch := omega) only [go_sem]
  rw [(addV_nan (.inl rfl)).1, (addV_nan (.inl rfl)).2]
  exact fin_valc (by simp (disch := omega) only [go_sem]) (by simp (disch := omega) only [go_sem]) isA_mk

set_option maxRecDepth 100000 in
theorem con_fmaS_inf (k1 : Int) (s1 : Bool) (m1 e1 k2 : Int) (s2 : Bool) (m2 e2 k3 : Int) (s3 : Bool) (m3 e3 mode : Int) (hmode : 0 ≤ mode ∧ mode ≤ 4) (h1 : flB k1 s1 m1 e1 = true) (h2 : flB k2 s2 m2 e2 = true) (h3 : flB k3 s3 m3 e3 = true) (c3 : ¬ (k1 = 3 ∨ k2 = 3)) (c2 : k1 = 2 ∨ k2 = 2) :
    Con Tryd.prog 14 true [.ag [.v (.int .i64 (k1)), .v (.bool (s1)), .v (.int .i64 (m1)), .v (.int .i64 (e1))], .ag [.v (.int .i64 (k2)), .v (.bool (s2)), .v (.int .i64 (m2)), .v (.int .i64 (e2))], .ag [.v (.int .i64 (k3)), .v (.bool (s3)), .v (.int .i64 (m3)), .v (.int .i64 (e3))], .v (.int .i64 mode)] []
      (isA (.tu [.ag [.v (.int .i64 ((fmaV k1 s1 m1 e1 k2 s2 m2 e2 k3 s3 m3 e3 mode).k)), .v (.bool ((fmaV k1 s1 m1 e1 k2 s2 m2 e2 k3 s3 m3 e3 mode).s)), .v (.int .i64 ((fmaV k1 s1 m1 e1 k2 s2 m2 e2 k3 s3 m3 e3 mode).m)), .v (.int .i64 ((fmaV k1 s1 m1 e1 k2 s2 m2 e2 k3 s3 m3 e3 mode).e))], .v (.int .i64 (fmaG k1 s1 m1 e1 k2 s2 m2 e2 k3 s3 m3 e3 mode))])) := by
  have e0 : ((0 &&& 2 : Nat) : Int) = 0 := rfl
  have e3' : ((3 &&& 2 : Nat) : Int) = 2 := rfl
  have hv1 : (modeB mode && (flB k1 s1 m1 e1 && flB k2 s2 m2 e2)) = true := by rw [h1, h2, modeB]; simp [hmode]
  obtain ⟨a1, a2, a3, a4⟩ := flB_rng h1
  obtain ⟨b1, b2, b3, b4⟩ := flB_rng h2
  obtain ⟨g1, g2, g3, g4⟩ := flB_rng h3
  have cm := con_l5mul k1 s1 m1 e1 k2 s2 m2 e2 mode h1 h2 hmode
  have u1 : decide (k1 = 3) = false := decide_eq_false (by omega)
  have u2 : decide (k2 = 3) = false := decide_eq_false (by omega)
  by_cases d3 : k1 = 2
  · have u3 : decide (k1 = 2) = true := decide_eq_true (by omega)
    by_cases c0 : k1 = 0 ∨ k2 = 0
    · rw [(mulV_bad c3 c2 c0).1, (mulV_bad c3 c2 c0).2] at cm
      rw [(fmaV_bad c3 c2 c0).1, (fmaV_bad c3 c2 c0).2]
      refine Con.of_aw Tryd.func14 rfl Tryd.ntmps14 (by simp) (by simp) (by simp) (W.sound ?_)
      show @W Tryd.prog 116 ⟨_⟩ ⟨fun x σ => @retW _ _ _ ⟨_⟩ _ ⟨_⟩ x σ⟩ _ _
      simp (disch := omega) only [go_sem]
      refine call_closed (con_l5ok k1 s1 m1 e1 k2 s2 m2 e2 mode) (by simp (disch := omega) only [go_sem]) ?_
      rintro r hs ⟨rfl, rfl, _⟩
      refine ⟨by simp [freeN], ?_⟩
      simp (disch := omega) only [go_sem]
      simp (disch := omega) only [go_sem, hv1]
      refine call_closed (con_flokS k3 s3 m3 e3) (by simp (disch := omega) only [go_sem]) ?_
      rintro r hs ⟨rfl, rfl, _⟩
      refine ⟨by simp [freeN], ?_⟩
      simp (disch := omega) only [go_sem]
      simp (disch := omega) only [go_sem, h3, u1, u2, u3]
      refine call_closed (cm) (by simp (disch := omega) only [go_sem]) ?_
      rintro r hs ⟨rfl, rfl, _⟩
      refine ⟨by simp [freeN], ?_⟩
      simp (disch := omega) only [go_sem]
      exact fin_valc (by simp (disch := omega) only [go_sem]) (by simp (disch := omega) only [go_sem]) isA_mk
    rw [(mulV_inf c3 c2 c0).1, (mulV_inf c3 c2 c0).2] at cm
    rw [(fmaV_inf c3 c2 c0).1, (fmaV_inf c3 c2 c0).2]
    refine Con.of_aw Tryd.func14 rfl Tryd.ntmps14 (by simp) (by simp) (by simp) (W.sound ?_)
    show @W Tryd.prog 116 ⟨_⟩ ⟨fun x σ => @retW _ _ _ ⟨_⟩ _ ⟨_⟩ x σ⟩ _ _
    simp (disch := omega) only [go_sem]
    refine call_closed (con_l5ok k1 s1 m1 e1 k2 s2 m2 e2 mode) (by simp (disch := omega) only [go_sem]) ?_
    rintro r hs ⟨rfl, rfl, _⟩
    refine ⟨by simp [freeN], ?_⟩
    simp (disch := omega) only [go_sem]
    simp (disch := omega) only [go_sem, hv1]
    refine call_closed (con_flokS k3 s3 m3 e3) (by simp (disch := omega) only [go_sem]) ?_
    rintro r hs ⟨rfl, rfl, _⟩
    refine ⟨by simp [freeN], ?_⟩
    simp (disch := omega) only [go_sem]
    simp (disch := omega) only [go_sem, h3, u1, u2, u3]
    refine call_closed (cm) (by simp (disch := omega) only [go_sem]) ?_
    rintro r hs ⟨rfl, rfl, _⟩
    refine ⟨by simp [freeN], ?_⟩
    simp (disch := omega) only [go_sem]
    simp (disch := omega) only [go_sem, e0]
    refine call_closed (con_l5add 2 (s1 != s2) 0 0 k3 s3 m3 e3 mode (inf_flB _) h3 hmode) (by simp (disch := omega) only [go_sem]) ?_
    rintro r hs ⟨rfl, rfl, _⟩
    refine ⟨by simp [freeN], ?_⟩
    simp (disch := omega) only [go_sem]
    exact fin_valc (by simp (disch := omega) only [go_sem]) (by simp (disch := omega) only [go_sem]) isA_mk
  have u3 : decide (k1 = 2) = false := decide_eq_false (by omega)
  have u4 : decide (k2 = 2) = true := decide_eq_true (by omega)
  by_cases c0 : k1 = 0 ∨ k2 = 0
  · rw [(mulV_bad c3 c2 c0).1, (mulV_bad c3 c2 c0).2] at cm
    rw [(fmaV_bad c3 c2 c0).1, (fmaV_bad c3 c2 c0).2]
    refine Con.of_aw Tryd.func14 rfl Tryd.ntmps14 (by simp) (by simp) (by simp) (W.sound ?_)
    show @W Tryd.prog 116 ⟨_⟩ ⟨fun x σ => @retW _ _ _ ⟨_⟩ _ ⟨_⟩ x σ⟩ _ _
    simp (disch := omega) only [go_sem]
    refine call_closed (con_l5ok k1 s1 m1 e1 k2 s2 m2 e2 mode) (by simp (disch := omega) only [go_sem]) ?_
    rintro r hs ⟨rfl, rfl, _⟩
    refine ⟨by simp [freeN], ?_⟩
    simp (disch := omega) only [go_sem]
    simp (disch := omega) only [go_sem, hv1]
    refine call_closed (con_flokS k3 s3 m3 e3) (by simp (disch := omega) only [go_sem]) ?_
    rintro r hs ⟨rfl, rfl, _⟩
    refine ⟨by simp [freeN], ?_⟩
    simp (disch := omega) only [go_sem]
    simp (disch := omega) only [go_sem, h3, u1, u2, u3, u4]
    refine call_closed (cm) (by simp (disch := omega) only [go_sem]) ?_
    rintro r hs ⟨rfl, rfl, _⟩
    refine ⟨by simp [freeN], ?_⟩
    simp (disch := omega) only [go_sem]
    exact fin_valc (by simp (disch := omega) only [go_sem]) (by simp (disch := omega) only [go_sem]) isA_mk
  rw [(mulV_inf c3 c2 c0).1, (mulV_inf c3 c2 c0).2] at cm
  rw [(fmaV_inf c3 c2 c0).1, (fmaV_inf c3 c2 c0).2]
  refine Con.of_aw Tryd.func14 rfl Tryd.ntmps14 (by simp) (by simp) (by simp) (W.sound ?_)
  show @W Tryd.prog 116 ⟨_⟩ ⟨fun x σ => @retW _ _ _ ⟨_⟩ _ ⟨_⟩ x σ⟩ _ _
  simp (disch := omega) only [go_sem]
  refine call_closed (con_l5ok k1 s1 m1 e1 k2 s2 m2 e2 mode) (by simp (disch := omega) only [go_sem]) ?_
  rintro r hs ⟨rfl, rfl, _⟩
  refine ⟨by simp [freeN], ?_⟩
  simp (disch := omega) only [go_sem]
  simp (disch := omega) only [go_sem, hv1]
  refine call_closed (con_flokS k3 s3 m3 e3) (by simp (disch := omega) only [go_sem]) ?_
  rintro r hs ⟨rfl, rfl, _⟩
  refine ⟨by simp [freeN], ?_⟩
  simp (disch := omega) only [go_sem]
  simp (disch := omega) only [go_sem, h3, u1, u2, u3, u4]
  refine call_closed (cm) (by simp (disch := omega) only [go_sem]) ?_
  rintro r hs ⟨rfl, rfl, _⟩
  refine ⟨by simp [freeN], ?_⟩
  simp (disch := omega) only [go_sem]
  simp (disch := omega) only [go_sem, e0]
  refine call_closed (con_l5add 2 (s1 != s2) 0 0 k3 s3 m3 e3 mode (inf_flB _) h3 hmode) (by simp (disch := omega) only [go_sem]) ?_
  rintro r hs ⟨rfl, rfl, _⟩
  refine ⟨by simp [freeN], ?_⟩
  simp (disch := omega) only [go_sem]
  exact fin_valc (by simp (disch := omega) only [go_sem]) (by simp (disch := omega) only [go_sem]) isA_mk

set_option maxRecDepth 100000 in
theorem con_fmaS_c (k1 : Int) (s1 : Bool) (m1 e1 k2 : Int) (s2 : Bool) (m2 e2 k3 : Int) (s3 : Bool) (m3 e3 mode : Int) (hmode : 0 ≤ mode ∧ mode ≤ 4) (h1 : flB k1 s1 m1 e1 = true) (h2 : flB k2 s2 m2 e2 = true) (h3 : flB k3 s3 m3 e3 = true) (c3 : ¬ (k1 = 3 ∨ k2 = 3)) (c2 : ¬ (k1 = 2 ∨ k2 = 2)) (d5 : 2 ≤ k3) :
    Con Tryd.prog 14 true [.ag [.v (.int .i64 (k1)), .v (.bool (s1)), .v (.int .i64 (m1)), .v (.int .i64 (e1))], .ag [.v (.int .i64 (k2)), .v (.bool (s2)), .v (.int .i64 (m2)), .v (.int .i64 (e2))], .ag [.v (.int .i64 (k3)), .v (.bool (s3)), .v (.int .i64 (m3)), .v (.int .i64 (e3))], .v (.int .i64 mode)] []
      (isA (.tu [.ag [.v (.int .i64 ((fmaV k1 s1 m1 e1 k2 s2 m2 e2 k3 s3 m3 e3 mode).k)), .v (.bool ((fmaV k1 s1 m1 e1 k2 s2 m2 e2 k3 s3 m3 e3 mode).s)), .v (.int .i64 ((fmaV k1 s1 m1 e1 k2 s2 m2 e2 k3 s3 m3 e3 mode).m)), .v (.int .i64 ((fmaV k1 s1 m1 e1 k2 s2 m2 e2 k3 s3 m3 e3 mode).e))], .v (.int .i64 (fmaG k1 s1 m1 e1 k2 s2 m2 e2 k3 s3 m3 e3 mode))])) := by
  have e0 : ((0 &&& 2 : Nat) : Int) = 0 := rfl
  have e3' : ((3 &&& 2 : Nat) : Int) = 2 := rfl
  have hv1 : (modeB mode && (flB k1 s1 m1 e1 && flB k2 s2 m2 e2)) = true := by rw [h1, h2, modeB]; simp [hmode]
  obtain ⟨a1, a2, a3, a4⟩ := flB_rng h1
  obtain ⟨b1, b2, b3, b4⟩ := flB_rng h2
  obtain ⟨g1, g2, g3, g4⟩ := flB_rng h3
  have cm := con_l5mul k1 s1 m1 e1 k2 s2 m2 e2 mode h1 h2 hmode
  have u1 : decide (k1 = 3) = false := decide_eq_false (by omega)
  have u2 : decide (k2 = 3) = false := decide_eq_false (by omega)
  have u3 : decide (k1 = 2) = false := decide_eq_false (by omega)
  have u4 : decide (k2 = 2) = false := decide_eq_false (by omega)
  have c4 : k3 = 2 ∨ k3 = 3 := by omega
  have u5 : decide (2 ≤ k3) = true := decide_eq_true (by omega)
  rw [(fmaV_c c3 c2 c4).1, (fmaV_c c3 c2 c4).2]
  rw [(mulV_fin c3 c2).1, (mulV_fin c3 c2).2] at cm
  have hin := flG_in (muS k1 s1 m1 k2 s2 m2) (m1.toNat * m2.toNat) (e1 + e2) mode
  have hne : decide (flG (muS k1 s1 m1 k2 s2 m2) (m1.toNat * m2.toNat) (e1 + e2) mode = 16) = false := decide_eq_false (by omega)
  have hc : (addV 0 false 0 0 k3 s3 m3 e3 mode = ⟨k3, s3, m3, e3⟩) ∧ addG 0 false 0 0 k3 s3 m3 e3 mode = 0 := by
    by_cases y : k3 = 3
    · have := g4.1 (by omega)
      have := g4.2.2 y
      rw [(addV_nan (.inr y)).1, (addV_nan (.inr y)).2]
      simp [*]
    · exact addV_inf2 (by omega) (by omega) (by omega)
  have hk := flV_k (muS k1 s1 m1 k2 s2 m2) (m1.toNat * m2.toNat) (e1 + e2) mode (s1 != s2)
  generalize flV (muS k1 s1 m1 k2 s2 m2) (m1.toNat * m2.toNat) (e1 + e2) mode (s1 != s2) = PV at *
  generalize flG (muS k1 s1 m1 k2 s2 m2) (m1.toNat * m2.toNat) (e1 + e2) mode = GV at *
  rcases hk with hk | hk | ⟨hk, hg⟩
  · refine Con.of_aw Tryd.func14 rfl Tryd.ntmps14 (by simp) (by simp) (by simp) (W.sound ?_)
    show @W Tryd.prog 116 ⟨_⟩ ⟨fun x σ => @retW _ _ _ ⟨_⟩ _ ⟨_⟩ x σ⟩ _ _
    simp (disch := omega) only [go_sem]
    refine call_closed (con_l5ok k1 s1 m1 e1 k2 s2 m2 e2 mode) (by simp (disch := omega) only [go_sem]) ?_
    rintro r hs ⟨rfl, rfl, _⟩
    refine ⟨by simp [freeN], ?_⟩
    simp (disch := omega) only [go_sem]
    simp (disch := omega) only [go_sem, hv1]
    refine call_closed (con_flokS k3 s3 m3 e3) (by simp (disch := omega) only [go_sem]) ?_
    rintro r hs ⟨rfl, rfl, _⟩
    refine ⟨by simp [freeN], ?_⟩
    simp (disch := omega) only [go_sem]
    simp (disch := omega) only [go_sem, h3, u1, u2, u3, u4, u5]
    refine call_closed (cm) (by simp (disch := omega) only [go_sem]) ?_
    rintro r hs ⟨rfl, rfl, _⟩
    refine ⟨by simp [freeN], ?_⟩
    simp (disch := omega) only [go_sem]
    simp (disch := omega) only [go_sem, hne, hk]
    refine call_closed (con_l5add 0 false 0 0 k3 s3 m3 e3 mode (zero_flB _) h3 hmode) (by simp (disch := omega) only [go_sem]) ?_
    rintro r hs ⟨rfl, rfl, _⟩
    refine ⟨by simp [freeN], ?_⟩
    simp (disch := omega) only [go_sem]
    rw [hc.1, hc.2]
    exact fin_valc (by simp (disch := omega) only [go_sem]) (by simp (disch := omega) only [go_sem]) isA_mk
  · refine Con.of_aw Tryd.func14 rfl Tryd.ntmps14 (by simp) (by simp) (by simp) (W.sound ?_)
    show @W Tryd.prog 116 ⟨_⟩ ⟨fun x σ => @retW _ _ _ ⟨_⟩ _ ⟨_⟩ x σ⟩ _ _
    simp (disch := omega) only [go_sem]
    refine call_closed (con_l5ok k1 s1 m1 e1 k2 s2 m2 e2 mode) (by simp (disch := omega) only [go_sem]) ?_
    rintro r hs ⟨rfl, rfl, _⟩
    refine ⟨by simp [freeN], ?_⟩
    simp (disch := omega) only [go_sem]
    simp (disch := omega) only [go_sem, hv1]
    refine call_closed (con_flokS k3 s3 m3 e3) (by simp (disch := omega) only [go_sem]) ?_
    rintro r hs ⟨rfl, rfl, _⟩
    refine ⟨by simp [freeN], ?_⟩
    simp (disch := omega) only [go_sem]
    simp (disch := omega) only [go_sem, h3, u1, u2, u3, u4, u5]
    refine call_closed (cm) (by simp (disch := omega) only [go_sem]) ?_
    rintro r hs ⟨rfl, rfl, _⟩
    refine ⟨by simp [freeN], ?_⟩
    simp (disch := omega) only [go_sem]
    simp (disch := omega) only [go_sem, hne, hk]
    refine call_closed (con_l5add 0 false 0 0 k3 s3 m3 e3 mode (zero_flB _) h3 hmode) (by simp (disch := omega) only [go_sem]) ?_
    rintro r hs ⟨rfl, rfl, _⟩
    refine ⟨by simp [freeN], ?_⟩
    simp (disch := omega) only [go_sem]
    rw [hc.1, hc.2]
    exact fin_valc (by simp (disch := omega) only [go_sem]) (by simp (disch := omega) only [go_sem]) isA_mk
  · refine Con.of_aw Tryd.func14 rfl Tryd.ntmps14 (by simp) (by simp) (by simp) (W.sound ?_)
    show @W Tryd.prog 116 ⟨_⟩ ⟨fun x σ => @retW _ _ _ ⟨_⟩ _ ⟨_⟩ x σ⟩ _ _
    simp (disch := omega) only [go_sem]
    refine call_closed (con_l5ok k1 s1 m1 e1 k2 s2 m2 e2 mode) (by simp (disch := omega) only [go_sem]) ?_
    rintro r hs ⟨rfl, rfl, _⟩
    refine ⟨by simp [freeN], ?_⟩
    simp (disch := omega) only [go_sem]
    simp (disch := omega) only [go_sem, hv1]
    refine call_closed (con_flokS k3 s3 m3 e3) (by simp (disch := omega) only [go_sem]) ?_
    rintro r hs ⟨rfl, rfl, _⟩
    refine ⟨by simp [freeN], ?_⟩
    simp (disch := omega) only [go_sem]
    simp (disch := omega) only [go_sem, h3, u1, u2, u3, u4, u5]
    refine call_closed (cm) (by simp (disch := omega) only [go_sem]) ?_
    rintro r hs ⟨rfl, rfl, _⟩
    refine ⟨by simp [freeN], ?_⟩
    simp (disch := omega) only [go_sem]
    simp (disch := omega) only [go_sem, hk, hg, e3']
    refine call_closed (con_l5add 0 false 0 0 k3 s3 m3 e3 mode (zero_flB _) h3 hmode) (by simp (disch := omega) only [go_sem]) ?_
    rintro r hs ⟨rfl, rfl, _⟩
    refine ⟨by simp [freeN], ?_⟩
    simp (disch := omega) only [go_sem]
    rw [hc.1, hc.2]
    exact fin_valc (by simp (disch := omega) only [go_sem]) (by simp (disch := omega) only [go_sem]) isA_mk

set_option maxRecDepth 100000 in
theorem con_fmaS_fin1 (k1 : Int) (s1 : Bool) (m1 e1 k2 : Int) (s2 : Bool) (m2 e2 k3 : Int) (s3 : Bool) (m3 e3 mode : Int) (hmode : 0 ≤ mode ∧ mode ≤ 4) (h1 : flB k1 s1 m1 e1 = true) (h2 : flB k2 s2 m2 e2 = true) (h3 : flB k3 s3 m3 e3 = true) (c3 : ¬ (k1 = 3 ∨ k2 = 3)) (c2 : ¬ (k1 = 2 ∨ k2 = 2)) (d5 : ¬ 2 ≤ k3) (z1 : k1 = 0) :
    Con Tryd.prog 14 true [.ag [.v (.int .i64 (k1)), .v (.bool (s1)), .v (.int .i64 (m1)), .v (.int .i64 (e1))], .ag [.v (.int .i64 (k2)), .v (.bool (s2)), .v (.int .i64 (m2)), .v (.int .i64 (e2))], .ag [.v (.int .i64 (k3)), .v (.bool (s3)), .v (.int .i64 (m3)), .v (.int .i64 (e3))], .v (.int .i64 mode)] []
      (isA (.tu [.ag [.v (.int .i64 ((fmaV k1 s1 m1 e1 k2 s2 m2 e2 k3 s3 m3 e3 mode).k)), .v (.bool ((fmaV k1 s1 m1 e1 k2 s2 m2 e2 k3 s3 m3 e3 mode).s)), .v (.int .i64 ((fmaV k1 s1 m1 e1 k2 s2 m2 e2 k3 s3 m3 e3 mode).m)), .v (.int .i64 ((fmaV k1 s1 m1 e1 k2 s2 m2 e2 k3 s3 m3 e3 mode).e))], .v (.int .i64 (fmaG k1 s1 m1 e1 k2 s2 m2 e2 k3 s3 m3 e3 mode))])) := by
  have e0 : ((0 &&& 2 : Nat) : Int) = 0 := rfl
  have e3' : ((3 &&& 2 : Nat) : Int) = 2 := rfl
  have hv1 : (modeB mode && (flB k1 s1 m1 e1 && flB k2 s2 m2 e2)) = true := by rw [h1, h2, modeB]; simp [hmode]
  obtain ⟨a1, a2, a3, a4⟩ := flB_rng h1
  obtain ⟨b1, b2, b3, b4⟩ := flB_rng h2
  obtain ⟨g1, g2, g3, g4⟩ := flB_rng h3
  have u1 : decide (k1 = 3) = false := decide_eq_false (by omega)
  have u2 : decide (k2 = 3) = false := decide_eq_false (by omega)
  have u3 : decide (k1 = 2) = false := decide_eq_false (by omega)
  have u4 : decide (k2 = 2) = false := decide_eq_false (by omega)
  have c4 : ¬ (k3 = 2 ∨ k3 = 3) := by omega
  have u5 : decide (2 ≤ k3) = false := decide_eq_false (by omega)
  obtain ⟨n1, rfl⟩ := Int.eq_ofNat_of_zero_le a1.1
  obtain ⟨n2, rfl⟩ := Int.eq_ofNat_of_zero_le b1.1
  obtain ⟨n3, rfl⟩ := Int.eq_ofNat_of_zero_le g1.1
  have r1 : ((n1 : Nat) : Int).toNat = n1 := rfl
  have r2 : ((n2 : Nat) : Int).toNat = n2 := rfl
  have r3 : ((n3 : Nat) : Int).toNat = n3 := rfl
  obtain ⟨d1, d2⟩ := l5d_rng h1
  obtain ⟨f1, f2⟩ := l5d_rng h2
  obtain ⟨w1, w2⟩ := l5d_rng h3
  obtain ⟨y1, y2⟩ := lm_rng h1 h2
  have fin : ∀ z, z = fmZ k1 s1 k2 s2 k3 s3 mode → (fmaV k1 s1 n1 e1 k2 s2 n2 e2 k3 s3 n3 e3 mode = flV (adS (muS k1 s1 n1 k2 s2 n2) (n1 * n2) (e1 + e2) (xS k3 s3) n3 e3) (adM (muS k1 s1 n1 k2 s2 n2) (n1 * n2) (e1 + e2) (xS k3 s3) n3 e3) (alE (n1 * n2) (e1 + e2) n3 e3) mode z ∧ fmaG k1 s1 n1 e1 k2 s2 n2 e2 k3 s3 n3 e3 mode = flG (adS (muS k1 s1 n1 k2 s2 n2) (n1 * n2) (e1 + e2) (xS k3 s3) n3 e3) (adM (muS k1 s1 n1 k2 s2 n2) (n1 * n2) (e1 + e2) (xS k3 s3) n3 e3) (alE (n1 * n2) (e1 + e2) n3 e3) mode) := fun z hz => by rw [hz]; exact fmaV_fin c3 c2 c4
  have cmul := con_l4mul (l5dS k1 s1 n1) (l5dM k1 n1) (l5dE k1 n1 e1) (l5dS k2 s2 n2) (l5dM k2 n2) (l5dE k2 n2 e2) (by omega) (by omega) (by omega) (by omega)
  have cadd := con_l4add (lmS k1 s1 n1 k2 s2 n2) (lmM k1 n1 k2 n2) (lmE k1 n1 e1 k2 n2 e2) (l5dS k3 s3 n3) (l5dM k3 n3) (l5dE k3 n3 e3) (by omega) (by omega) (by omega) (by omega) lm_z l5d_z
  have hE := alE_ge (K := -2148) (m1 := lmM k1 n1 k2 n2) (m2 := l5dM k3 n3) (e1 := lmE k1 n1 e1 k2 n2 e2) (e2 := l5dE k3 n3 e3) (by omega) (by omega)
  have hE2 := alE_le (K := 2154) (m1 := lmM k1 n1 k2 n2) (m2 := l5dM k3 n3) (e1 := lmE k1 n1 e1 k2 n2 e2) (e2 := l5dE k3 n3 e3) (by omega) (by omega)
  have hM : bl (adM (lmS k1 s1 n1 k2 s2 n2) (lmM k1 n1 k2 n2) (lmE k1 n1 e1 k2 n2 e2) (l5dS k3 s3 n3) (l5dM k3 n3) (l5dE k3 n3 e3)) ≤ 6000 := by
    have t1 := bl_alA (B := 106) (e := lmE k1 n1 e1 k2 n2 e2) (E := alE (lmM k1 n1 k2 n2) (lmE k1 n1 e1 k2 n2 e2) (l5dM k3 n3) (l5dE k3 n3 e3)) (C := 5000) y1 (by omega)
    have t2 := bl_alA (B := 106) (e := l5dE k3 n3 e3) (E := alE (lmM k1 n1 k2 n2) (lmE k1 n1 e1 k2 n2 e2) (l5dM k3 n3) (l5dE k3 n3 e3)) (C := 5000) (show bl (l5dM k3 n3) ≤ 106 by omega) (by omega)
    exact Nat.le_trans (bl_suM t1 t2) (by omega)
  obtain ⟨P, hP⟩ : ∃ P, adM (lmS k1 s1 n1 k2 s2 n2) (lmM k1 n1 k2 n2) (lmE k1 n1 e1 k2 n2 e2) (l5dS k3 s3 n3) (l5dM k3 n3) (l5dE k3 n3 e3) = P := ⟨_, rfl⟩
  obtain ⟨Q, hQ⟩ : ∃ Q, adS (lmS k1 s1 n1 k2 s2 n2) (lmM k1 n1 k2 n2) (lmE k1 n1 e1 k2 n2 e2) (l5dS k3 s3 n3) (l5dM k3 n3) (l5dE k3 n3 e3) = Q := ⟨_, rfl⟩
  obtain ⟨R, hR⟩ : ∃ R, alE (lmM k1 n1 k2 n2) (lmE k1 n1 e1 k2 n2 e2) (l5dM k3 n3) (l5dE k3 n3 e3) = R := ⟨_, rfl⟩
  have hcan := fun z => fma_canon (mode := mode) z h1 h2 h3 hQ hP hR
  simp only [r1, r2, r3] at hcan
  rw [hP, hQ, hR] at cadd
  rw [hP] at hM
  rw [hR] at hE hE2
  unfold lmS lmM lmE at cadd
  have q4 := bl_mono (oM_le P)
  have q5 := oE_rng (m := P) (e := R) (lo := -2148) (hi := 2154) (Nat.le_refl _) (by omega) (by omega) (by omega)
  have z0 : k1 = 0 ∨ k2 = 0 := .inl z1
  have y3 : decide (k1 = 0) = true := decide_eq_true (by omega)
  by_cases z3 : k3 = 0
  · have z3' : decide (k3 = 0) = true := decide_eq_true z3
    by_cases hs : s3 = (s1 != s2)
    · have hs2 : ((s1 != s2) == s3) = true := by rw [← hs]; simp
      refine Con.of_aw Tryd.func14 rfl Tryd.ntmps14 (by simp) (by simp) (by simp) (W.sound ?_)
      show @W Tryd.prog 116 ⟨_⟩ ⟨fun x σ => @retW _ _ _ ⟨_⟩ _ ⟨_⟩ x σ⟩ _ _
      simp (disch := omega) only [go_sem]
      refine call_closed (con_l5ok k1 s1 (n1 : Int) e1 k2 s2 (n2 : Int) e2 mode) (by simp (disch := omega) only [go_sem]) ?_
      rintro r hs ⟨rfl, rfl, _⟩
      refine ⟨by simp [freeN], ?_⟩
      simp (disch := omega) only [go_sem]
      simp (disch := omega) only [go_sem, hv1]
      refine call_closed (con_flokS k3 s3 (n3 : Int) e3) (by simp (disch := omega) only [go_sem]) ?_
      rintro r hs ⟨rfl, rfl, _⟩
      refine ⟨by simp [freeN], ?_⟩
      simp (disch := omega) only [go_sem]
      simp (disch := omega) only [go_sem, h3, u1, u2, u3, u4, u5, y3, z3', hs2]
      refine draw_of rfl [⟨0, [], []⟩, ⟨2, [0], []⟩, ⟨5, [0, 2], []⟩, ⟨8, [0, 2, 5], []⟩, ⟨9, [0, 2, 5], []⟩, ⟨1, [2, 5], []⟩, ⟨3, [5], []⟩, ⟨4, [5], []⟩, ⟨6, [], []⟩, ⟨7, [], []⟩, ⟨10, [], []⟩, ⟨11, [], []⟩, ⟨12, [], []⟩, ⟨13, [], []⟩, ⟨14, [], []⟩] (by kernel_rfl) ?_
      simp (disch := omega) only [go_sem, u1, u2, u3, u4, u5, y3, z3', hs2]
      refine call_open (con_l5dy k1 s1 n1 e1 h1) (by simp (disch := omega) only [go_sem]) ?_
      rintro r hs ⟨rfl, rfl, _⟩
      refine ⟨by simp [freeN], ?_⟩
      simp (disch := omega) only [go_sem]
      refine call_open (con_l5dy k2 s2 n2 e2 h2) (by simp (disch := omega) only [go_sem]) ?_
      rintro r hs ⟨rfl, rfl, _⟩
      refine ⟨by simp [freeN], ?_⟩
      simp (disch := omega) only [go_sem]
      refine call_open (cmul) (by simp (disch := omega) only [go_sem]) ?_
      rintro r hs ⟨rfl, rfl, _⟩
      refine ⟨by simp [freeN], ?_⟩
      simp (disch := omega) only [go_sem]
      refine call_open (con_l5dy k3 s3 n3 e3 h3) (by simp (disch := omega) only [go_sem]) ?_
      rintro r hs ⟨rfl, rfl, _⟩
      refine ⟨by simp [freeN], ?_⟩
      simp (disch := omega) only [go_sem]
      refine call_open (cadd) (by simp (disch := omega) only [go_sem]) ?_
      rintro r hs ⟨rfl, rfl, _⟩
      refine ⟨by simp [freeN], ?_⟩
      simp (disch := omega) only [go_sem]
      refine call_closed (con_l5round (oS Q P) (oM P) (oE P R) mode (s1 != s2) (oM_odd _) (oS_z _ _) hmode (by omega) (by omega)) (by simp (disch := omega) only [go_sem]) ?_
      rintro r hs ⟨rfl, rfl, _⟩
      refine ⟨by simp [freeN], ?_⟩
      simp (disch := omega) only [go_sem]
      rw [(hcan (s1 != s2)).1, (hcan (s1 != s2)).2, (fin (s1 != s2) (by unfold fmZ; rw [if_pos ⟨z0, z3, hs⟩]; exact hs.symm)).1, (fin (s1 != s2) (by unfold fmZ; rw [if_pos ⟨z0, z3, hs⟩]; exact hs.symm)).2]
      exact fin_valc (by simp (disch := omega) only [go_sem]) (by simp (disch := omega) only [go_sem]) isA_mk
    · have hs2 : ((s1 != s2) == s3) = false := by rw [Bool.beq_comm]; simpa using hs
      refine Con.of_aw Tryd.func14 rfl Tryd.ntmps14 (by simp) (by simp) (by simp) (W.sound ?_)
      show @W Tryd.prog 116 ⟨_⟩ ⟨fun x σ => @retW _ _ _ ⟨_⟩ _ ⟨_⟩ x σ⟩ _ _
      simp (disch := omega) only [go_sem]
      refine call_closed (con_l5ok k1 s1 (n1 : Int) e1 k2 s2 (n2 : Int) e2 mode) (by simp (disch := omega) only [go_sem]) ?_
      rintro r hs ⟨rfl, rfl, _⟩
      refine ⟨by simp [freeN], ?_⟩
      simp (disch := omega) only [go_sem]
      simp (disch := omega) only [go_sem, hv1]
      refine call_closed (con_flokS k3 s3 (n3 : Int) e3) (by simp (disch := omega) only [go_sem]) ?_
      rintro r hs ⟨rfl, rfl, _⟩
      refine ⟨by simp [freeN], ?_⟩
      simp (disch := omega) only [go_sem]
      simp (disch := omega) only [go_sem, h3, u1, u2, u3, u4, u5, y3, z3', hs2]
      refine draw_of rfl [⟨0, [], []⟩, ⟨2, [0], []⟩, ⟨5, [0, 2], []⟩, ⟨8, [0, 2, 5], []⟩, ⟨9, [0, 2, 5], []⟩, ⟨1, [2, 5], []⟩, ⟨3, [5], []⟩, ⟨4, [5], []⟩, ⟨6, [], []⟩, ⟨7, [], []⟩, ⟨10, [], []⟩, ⟨11, [], []⟩, ⟨12, [], []⟩, ⟨13, [], []⟩, ⟨14, [], []⟩] (by kernel_rfl) ?_
      simp (disch := omega) only [go_sem, u1, u2, u3, u4, u5, y3, z3', hs2]
      refine call_open (con_l5dy k1 s1 n1 e1 h1) (by simp (disch := omega) only [go_sem]) ?_
      rintro r hs ⟨rfl, rfl, _⟩
      refine ⟨by simp [freeN], ?_⟩
      simp (disch := omega) only [go_sem]
      refine call_open (con_l5dy k2 s2 n2 e2 h2) (by simp (disch := omega) only [go_sem]) ?_
      rintro r hs ⟨rfl, rfl, _⟩
      refine ⟨by simp [freeN], ?_⟩
      simp (disch := omega) only [go_sem]
      refine call_open (cmul) (by simp (disch := omega) only [go_sem]) ?_
      rintro r hs ⟨rfl, rfl, _⟩
      refine ⟨by simp [freeN], ?_⟩
      simp (disch := omega) only [go_sem]
      refine call_open (con_l5dy k3 s3 n3 e3 h3) (by simp (disch := omega) only [go_sem]) ?_
      rintro r hs ⟨rfl, rfl, _⟩
      refine ⟨by simp [freeN], ?_⟩
      simp (disch := omega) only [go_sem]
      refine call_open (cadd) (by simp (disch := omega) only [go_sem]) ?_
      rintro r hs ⟨rfl, rfl, _⟩
      refine ⟨by simp [freeN], ?_⟩
      simp (disch := omega) only [go_sem]
      refine call_closed (con_l5round (oS Q P) (oM P) (oE P R) mode (decide (mode = 3)) (oM_odd _) (oS_z _ _) hmode (by omega) (by omega)) (by simp (disch := omega) only [go_sem]) ?_
      rintro r hs ⟨rfl, rfl, _⟩
      refine ⟨by simp [freeN], ?_⟩
      simp (disch := omega) only [go_sem]
      rw [(hcan (decide (mode = 3))).1, (hcan (decide (mode = 3))).2, (fin (decide (mode = 3)) (by unfold fmZ; rw [if_neg (fun h => hs h.2.2)])).1, (fin (decide (mode = 3)) (by unfold fmZ; rw [if_neg (fun h => hs h.2.2)])).2]
      exact fin_valc (by simp (disch := omega) only [go_sem]) (by simp (disch := omega) only [go_sem]) isA_mk
  · have z3' : decide (k3 = 0) = false := decide_eq_false z3
    refine Con.of_aw Tryd.func14 rfl Tryd.ntmps14 (by simp) (by simp) (by simp) (W.sound ?_)
    show @W Tryd.prog 116 ⟨_⟩ ⟨fun x σ => @retW _ _ _ ⟨_⟩ _ ⟨_⟩ x σ⟩ _ _
    simp (disch := omega) only [go_sem]
    refine call_closed (con_l5ok k1 s1 (n1 : Int) e1 k2 s2 (n2 : Int) e2 mode) (by simp (disch := omega) only [go_sem]) ?_
    rintro r hs ⟨rfl, rfl, _⟩
    refine ⟨by simp [freeN], ?_⟩
    simp (disch := omega) only [go_sem]
    simp (disch := omega) only [go_sem, hv1]
    refine call_closed (con_flokS k3 s3 (n3 : Int) e3) (by simp (disch := omega) only [go_sem]) ?_
    rintro r hs ⟨rfl, rfl, _⟩
    refine ⟨by simp [freeN], ?_⟩
    simp (disch := omega) only [go_sem]
    simp (disch := omega) only [go_sem, h3, u1, u2, u3, u4, u5, y3, z3']
    refine draw_of rfl [⟨0, [], []⟩, ⟨2, [0], []⟩, ⟨5, [0, 2], []⟩, ⟨8, [0, 2, 5], []⟩, ⟨9, [0, 2, 5], []⟩, ⟨1, [2, 5], []⟩, ⟨3, [5], []⟩, ⟨4, [5], []⟩, ⟨6, [], []⟩, ⟨7, [], []⟩, ⟨10, [], []⟩, ⟨11, [], []⟩, ⟨12, [], []⟩, ⟨13, [], []⟩, ⟨14, [], []⟩] (by kernel_rfl) ?_
    simp (disch := omega) only [go_sem, u1, u2, u3, u4, u5, y3, z3']
    refine call_open (con_l5dy k1 s1 n1 e1 h1) (by simp (disch := omega) only [go_sem]) ?_
    rintro r hs ⟨rfl, rfl, _⟩
    refine ⟨by simp [freeN], ?_⟩
    simp (disch := omega) only [go_sem]
    refine call_open (con_l5dy k2 s2 n2 e2 h2) (by simp (disch := omega) only [go_sem]) ?_
    rintro r hs ⟨rfl, rfl, _⟩
    refine ⟨by simp [freeN], ?_⟩
    simp (disch := omega) only [go_sem]
    refine call_open (cmul) (by simp (disch := omega) only [go_sem]) ?_
    rintro r hs ⟨rfl, rfl, _⟩
    refine ⟨by simp [freeN], ?_⟩
    simp (disch := omega) only [go_sem]
    refine call_open (con_l5dy k3 s3 n3 e3 h3) (by simp (disch := omega) only [go_sem]) ?_
    rintro r hs ⟨rfl, rfl, _⟩
    refine ⟨by simp [freeN], ?_⟩
    simp (disch := omega) only [go_sem]
    refine call_open (cadd) (by simp (disch := omega) only [go_sem]) ?_
    rintro r hs ⟨rfl, rfl, _⟩
    refine ⟨by simp [freeN], ?_⟩
    simp (disch := omega) only [go_sem]
    refine call_closed (con_l5round (oS Q P) (oM P) (oE P R) mode (decide (mode = 3)) (oM_odd _) (oS_z _ _) hmode (by omega) (by omega)) (by simp (disch := omega) only [go_sem]) ?_
    rintro r hs ⟨rfl, rfl, _⟩
    refine ⟨by simp [freeN], ?_⟩
    simp (disch := omega) only [go_sem]
    rw [(hcan (decide (mode = 3))).1, (hcan (decide (mode = 3))).2, (fin (decide (mode = 3)) (by unfold fmZ; rw [if_neg (fun h => z3 h.2.1)])).1, (fin (decide (mode = 3)) (by unfold fmZ; rw [if_neg (fun h => z3 h.2.1)])).2]
    exact fin_valc (by simp (disch := omega) only [go_sem]) (by simp (disch := omega) only [go_sem]) isA_mk

set_option maxRecDepth 100000 in
theorem con_fmaS_fin2 (k1 : Int) (s1 : Bool) (m1 e1 k2 : Int) (s2 : Bool) (m2 e2 k3 : Int) (s3 : Bool) (m3 e3 mode : Int) (hmode : 0 ≤ mode ∧ mode ≤ 4) (h1 : flB k1 s1 m1 e1 = true) (h2 : flB k2 s2 m2 e2 = true) (h3 : flB k3 s3 m3 e3 = true) (c3 : ¬ (k1 = 3 ∨ k2 = 3)) (c2 : ¬ (k1 = 2 ∨ k2 = 2)) (d5 : ¬ 2 ≤ k3) (z1 : ¬ k1 = 0) (z2 : k2 = 0) :
    Con Tryd.prog 14 true [.ag [.v (.int .i64 (k1)), .v (.bool (s1)), .v (.int .i64 (m1)), .v (.int .i64 (e1))], .ag [.v (.int .i64 (k2)), .v (.bool (s2)), .v (.int .i64 (m2)), .v (.int .i64 (e2))], .ag [.v (.int .i64 (k3)), .v (.bool (s3)), .v (.int .i64 (m3)), .v (.int .i64 (e3))], .v (.int .i64 mode)] []
      (isA (.tu [.ag [.v (.int .i64 ((fmaV k1 s1 m1 e1 k2 s2 m2 e2 k3 s3 m3 e3 mode).k)), .v (.bool ((fmaV k1 s1 m1 e1 k2 s2 m2 e2 k3 s3 m3 e3 mode).s)), .v (.int .i64 ((fmaV k1 s1 m1 e1 k2 s2 m2 e2 k3 s3 m3 e3 mode).m)), .v (.int .i64 ((fmaV k1 s1 m1 e1 k2 s2 m2 e2 k3 s3 m3 e3 mode).e))], .v (.int .i64 (fmaG k1 s1 m1 e1 k2 s2 m2 e2 k3 s3 m3 e3 mode))])) := by
  have e0 : ((0 &&& 2 : Nat) : Int) = 0 := rfl
  have e3' : ((3 &&& 2 : Nat) : Int) = 2 := rfl
  have hv1 : (modeB mode && (flB k1 s1 m1 e1 && flB k2 s2 m2 e2)) = true := by rw [h1, h2, modeB]; simp [hmode]
  obtain ⟨a1, a2, a3, a4⟩ := flB_rng h1
  obtain ⟨b1, b2, b3, b4⟩ := flB_rng h2
  obtain ⟨g1, g2, g3, g4⟩ := flB_rng h3
  have u1 : decide (k1 = 3) = false := decide_eq_false (by omega)
  have u2 : decide (k2 = 3) = false := decide_eq_false (by omega)
  have u3 : decide (k1 = 2) = false := decide_eq_false (by omega)
  have u4 : decide (k2 = 2) = false := decide_eq_false (by omega)
  have c4 : ¬ (k3 = 2 ∨ k3 = 3) := by omega
  have u5 : decide (2 ≤ k3) = false := decide_eq_false (by omega)
  obtain ⟨n1, rfl⟩ := Int.eq_ofNat_of_zero_le a1.1
  obtain ⟨n2, rfl⟩ := Int.eq_ofNat_of_zero_le b1.1
  obtain ⟨n3, rfl⟩ := Int.eq_ofNat_of_zero_le g1.1
  have r1 : ((n1 : Nat) : Int).toNat = n1 := rfl
  have r2 : ((n2 : Nat) : Int).toNat = n2 := rfl
  have r3 : ((n3 : Nat) : Int).toNat = n3 := rfl
  obtain ⟨d1, d2⟩ := l5d_rng h1
  obtain ⟨f1, f2⟩ := l5d_rng h2
  obtain ⟨w1, w2⟩ := l5d_rng h3
  obtain ⟨y1, y2⟩ := lm_rng h1 h2
  have fin : ∀ z, z = fmZ k1 s1 k2 s2 k3 s3 mode → (fmaV k1 s1 n1 e1 k2 s2 n2 e2 k3 s3 n3 e3 mode = flV (adS (muS k1 s1 n1 k2 s2 n2) (n1 * n2) (e1 + e2) (xS k3 s3) n3 e3) (adM (muS k1 s1 n1 k2 s2 n2) (n1 * n2) (e1 + e2) (xS k3 s3) n3 e3) (alE (n1 * n2) (e1 + e2) n3 e3) mode z ∧ fmaG k1 s1 n1 e1 k2 s2 n2 e2 k3 s3 n3 e3 mode = flG (adS (muS k1 s1 n1 k2 s2 n2) (n1 * n2) (e1 + e2) (xS k3 s3) n3 e3) (adM (muS k1 s1 n1 k2 s2 n2) (n1 * n2) (e1 + e2) (xS k3 s3) n3 e3) (alE (n1 * n2) (e1 + e2) n3 e3) mode) := fun z hz => by rw [hz]; exact fmaV_fin c3 c2 c4
  have cmul := con_l4mul (l5dS k1 s1 n1) (l5dM k1 n1) (l5dE k1 n1 e1) (l5dS k2 s2 n2) (l5dM k2 n2) (l5dE k2 n2 e2) (by omega) (by omega) (by omega) (by omega)
  have cadd := con_l4add (lmS k1 s1 n1 k2 s2 n2) (lmM k1 n1 k2 n2) (lmE k1 n1 e1 k2 n2 e2) (l5dS k3 s3 n3) (l5dM k3 n3) (l5dE k3 n3 e3) (by omega) (by omega) (by omega) (by omega) lm_z l5d_z
  have hE := alE_ge (K := -2148) (m1 := lmM k1 n1 k2 n2) (m2 := l5dM k3 n3) (e1 := lmE k1 n1 e1 k2 n2 e2) (e2 := l5dE k3 n3 e3) (by omega) (by omega)
  have hE2 := alE_le (K := 2154) (m1 := lmM k1 n1 k2 n2) (m2 := l5dM k3 n3) (e1 := lmE k1 n1 e1 k2 n2 e2) (e2 := l5dE k3 n3 e3) (by omega) (by omega)
  have hM : bl (adM (lmS k1 s1 n1 k2 s2 n2) (lmM k1 n1 k2 n2) (lmE k1 n1 e1 k2 n2 e2) (l5dS k3 s3 n3) (l5dM k3 n3) (l5dE k3 n3 e3)) ≤ 6000 := by
    have t1 := bl_alA (B := 106) (e := lmE k1 n1 e1 k2 n2 e2) (E := alE (lmM k1 n1 k2 n2) (lmE k1 n1 e1 k2 n2 e2) (l5dM k3 n3) (l5dE k3 n3 e3)) (C := 5000) y1 (by omega)
    have t2 := bl_alA (B := 106) (e := l5dE k3 n3 e3) (E := alE (lmM k1 n1 k2 n2) (lmE k1 n1 e1 k2 n2 e2) (l5dM k3 n3) (l5dE k3 n3 e3)) (C := 5000) (show bl (l5dM k3 n3) ≤ 106 by omega) (by omega)
    exact Nat.le_trans (bl_suM t1 t2) (by omega)
  obtain ⟨P, hP⟩ : ∃ P, adM (lmS k1 s1 n1 k2 s2 n2) (lmM k1 n1 k2 n2) (lmE k1 n1 e1 k2 n2 e2) (l5dS k3 s3 n3) (l5dM k3 n3) (l5dE k3 n3 e3) = P := ⟨_, rfl⟩
  obtain ⟨Q, hQ⟩ : ∃ Q, adS (lmS k1 s1 n1 k2 s2 n2) (lmM k1 n1 k2 n2) (lmE k1 n1 e1 k2 n2 e2) (l5dS k3 s3 n3) (l5dM k3 n3) (l5dE k3 n3 e3) = Q := ⟨_, rfl⟩
  obtain ⟨R, hR⟩ : ∃ R, alE (lmM k1 n1 k2 n2) (lmE k1 n1 e1 k2 n2 e2) (l5dM k3 n3) (l5dE k3 n3 e3) = R := ⟨_, rfl⟩
  have hcan := fun z => fma_canon (mode := mode) z h1 h2 h3 hQ hP hR
  simp only [r1, r2, r3] at hcan
  rw [hP, hQ, hR] at cadd
  rw [hP] at hM
  rw [hR] at hE hE2
  unfold lmS lmM lmE at cadd
  have q4 := bl_mono (oM_le P)
  have q5 := oE_rng (m := P) (e := R) (lo := -2148) (hi := 2154) (Nat.le_refl _) (by omega) (by omega) (by omega)
  have z0 : k1 = 0 ∨ k2 = 0 := .inr z2
  have y3 : decide (k1 = 0) = false := decide_eq_false (by omega)
  have y4 : decide (k2 = 0) = true := decide_eq_true (by omega)
  by_cases z3 : k3 = 0
  · have z3' : decide (k3 = 0) = true := decide_eq_true z3
    by_cases hs : s3 = (s1 != s2)
    · have hs2 : ((s1 != s2) == s3) = true := by rw [← hs]; simp
      refine Con.of_aw Tryd.func14 rfl Tryd.ntmps14 (by simp) (by simp) (by simp) (W.sound ?_)
      show @W Tryd.prog 116 ⟨_⟩ ⟨fun x σ => @retW _ _ _ ⟨_⟩ _ ⟨_⟩ x σ⟩ _ _
      simp (disch := omega) only [go_sem]
      refine call_closed (con_l5ok k1 s1 (n1 : Int) e1 k2 s2 (n2 : Int) e2 mode) (by simp (disch := omega) only [go_sem]) ?_
      rintro r hs ⟨rfl, rfl, _⟩
      refine ⟨by simp [freeN], ?_⟩
      simp (disch := omega) only [go_sem]
      simp (disch := omega) only [go_sem, hv1]
      refine call_closed (con_flokS k3 s3 (n3 : Int) e3) (by simp (disch := omega) only [go_sem]) ?_
      rintro r hs ⟨rfl, rfl, _⟩
      refine ⟨by simp [freeN], ?_⟩
      simp (disch := omega) only [go_sem]
      simp (disch := omega) only [go_sem, h3, u1, u2, u3, u4, u5, y3, y4, z3', hs2]
      refine draw_of rfl [⟨0, [], []⟩, ⟨2, [0], []⟩, ⟨5, [0, 2], []⟩, ⟨8, [0, 2, 5], []⟩, ⟨9, [0, 2, 5], []⟩, ⟨1, [2, 5], []⟩, ⟨3, [5], []⟩, ⟨4, [5], []⟩, ⟨6, [], []⟩, ⟨7, [], []⟩, ⟨10, [], []⟩, ⟨11, [], []⟩, ⟨12, [], []⟩, ⟨13, [], []⟩, ⟨14, [], []⟩] (by kernel_rfl) ?_
      simp (disch := omega) only [go_sem, u1, u2, u3, u4, u5, y3, y4, z3', hs2]
      refine call_open (con_l5dy k1 s1 n1 e1 h1) (by simp (disch := omega) only [go_sem]) ?_
      rintro r hs ⟨rfl, rfl, _⟩
      refine ⟨by simp [freeN], ?_⟩
      simp (disch := omega) only [go_sem]
      refine call_open (con_l5dy k2 s2 n2 e2 h2) (by simp (disch := omega) only [go_sem]) ?_
      rintro r hs ⟨rfl, rfl, _⟩
      refine ⟨by simp [freeN], ?_⟩
      simp (disch := omega) only [go_sem]
      refine call_open (cmul) (by simp (disch := omega) only [go_sem]) ?_
      rintro r hs ⟨rfl, rfl, _⟩
      refine ⟨by simp [freeN], ?_⟩
      simp (disch := omega) only [go_sem]
      refine call_open (con_l5dy k3 s3 n3 e3 h3) (by simp (disch := omega) only [go_sem]) ?_
      rintro r hs ⟨rfl, rfl, _⟩
      refine ⟨by simp [freeN], ?_⟩
      simp (disch := omega) only [go_sem]
      refine call_open (cadd) (by simp (disch := omega) only [go_sem]) ?_
      rintro r hs ⟨rfl, rfl, _⟩
      refine ⟨by simp [freeN], ?_⟩
      simp (disch := omega) only [go_sem]
      refine call_closed (con_l5round (oS Q P) (oM P) (oE P R) mode (s1 != s2) (oM_odd _) (oS_z _ _) hmode (by omega) (by omega)) (by simp (disch := omega) only [go_sem]) ?_
      rintro r hs ⟨rfl, rfl, _⟩
      refine ⟨by simp [freeN], ?_⟩
      simp (disch := omega) only [go_sem]
      rw [(hcan (s1 != s2)).1, (hcan (s1 != s2)).2, (fin (s1 != s2) (by unfold fmZ; rw [if_pos ⟨z0, z3, hs⟩]; exact hs.symm)).1, (fin (s1 != s2) (by unfold fmZ; rw [if_pos ⟨z0, z3, hs⟩]; exact hs.symm)).2]
      exact fin_valc (by simp (disch := omega) only [go_sem]) (by simp (disch := omega) only [go_sem]) isA_mk
    · have hs2 : ((s1 != s2) == s3) = false := by rw [Bool.beq_comm]; simpa using hs
      refine Con.of_aw Tryd.func14 rfl Tryd.ntmps14 (by simp) (by simp) (by simp) (W.sound ?_)
      show @W Tryd.prog 116 ⟨_⟩ ⟨fun x σ => @retW _ _ _ ⟨_⟩ _ ⟨_⟩ x σ⟩ _ _
      simp (disch := omega) only [go_sem]
      refine call_closed (con_l5ok k1 s1 (n1 : Int) e1 k2 s2 (n2 : Int) e2 mode) (by simp (disch := omega) only [go_sem]) ?_
      rintro r hs ⟨rfl, rfl, _⟩
      refine ⟨by simp [freeN], ?_⟩
      simp (disch := omega) only [go_sem]
      simp (disch := omega) only [go_sem, hv1]
      refine call_closed (con_flokS k3 s3 (n3 : Int) e3) (by simp (disch := omega) only [go_sem]) ?_
      rintro r hs ⟨rfl, rfl, _⟩
      refine ⟨by simp [freeN], ?_⟩
      simp (disch := omega) only [go_sem]
      simp (disch := omega) only [go_sem, h3, u1, u2, u3, u4, u5, y3, y4, z3', hs2]
      refine draw_of rfl [⟨0, [], []⟩, ⟨2, [0], []⟩, ⟨5, [0, 2], []⟩, ⟨8, [0, 2, 5], []⟩, ⟨9, [0, 2, 5], []⟩, ⟨1, [2, 5], []⟩, ⟨3, [5], []⟩, ⟨4, [5], []⟩, ⟨6, [], []⟩, ⟨7, [], []⟩, ⟨10, [], []⟩, ⟨11, [], []⟩, ⟨12, [], []⟩, ⟨13, [], []⟩, ⟨14, [], []⟩] (by kernel_rfl) ?_
      simp (disch := omega) only [go_sem, u1, u2, u3, u4, u5, y3, y4, z3', hs2]
      refine call_open (con_l5dy k1 s1 n1 e1 h1) (by simp (disch := omega) only [go_sem]) ?_
      rintro r hs ⟨rfl, rfl, _⟩
      refine ⟨by simp [freeN], ?_⟩
      simp (disch := omega) only [go_sem]
      refine call_open (con_l5dy k2 s2 n2 e2 h2) (by simp (disch := omega) only [go_sem]) ?_
      rintro r hs ⟨rfl, rfl, _⟩
      refine ⟨by simp [freeN], ?_⟩
      simp (disch := omega) only [go_sem]
      refine call_open (cmul) (by simp (disch := omega) only [go_sem]) ?_
      rintro r hs ⟨rfl, rfl, _⟩
      refine ⟨by simp [freeN], ?_⟩
      simp (disch := omega) only [go_sem]
      refine call_open (con_l5dy k3 s3 n3 e3 h3) (by simp (disch := omega) only [go_sem]) ?_
      rintro r hs ⟨rfl, rfl, _⟩
      refine ⟨by simp [freeN], ?_⟩
      simp (disch := omega) only [go_sem]
      refine call_open (cadd) (by simp (disch := omega) only [go_sem]) ?_
      rintro r hs ⟨rfl, rfl, _⟩
      refine ⟨by simp [freeN], ?_⟩
      simp (disch := omega) only [go_sem]
      refine call_closed (con_l5round (oS Q P) (oM P) (oE P R) mode (decide (mode = 3)) (oM_odd _) (oS_z _ _) hmode (by omega) (by omega)) (by simp (disch := omega) only [go_sem]) ?_
      rintro r hs ⟨rfl, rfl, _⟩
      refine ⟨by simp [freeN], ?_⟩
      simp (disch := omega) only [go_sem]
      rw [(hcan (decide (mode = 3))).1, (hcan (decide (mode = 3))).2, (fin (decide (mode = 3)) (by unfold fmZ; rw [if_neg (fun h => hs h.2.2)])).1, (fin (decide (mode = 3)) (by unfold fmZ; rw [if_neg (fun h => hs h.2.2)])).2]
      exact fin_valc (by simp (disch := omega) only [go_sem]) (by simp (disch := omega) only [go_sem]) isA_mk
  · have z3' : decide (k3 = 0) = false := decide_eq_false z3
    refine Con.of_aw Tryd.func14 rfl Tryd.ntmps14 (by simp) (by simp) (by simp) (W.sound ?_)
    show @W Tryd.prog 116 ⟨_⟩ ⟨fun x σ => @retW _ _ _ ⟨_⟩ _ ⟨_⟩ x σ⟩ _ _
    simp (disch := omega) only [go_sem]
    refine call_closed (con_l5ok k1 s1 (n1 : Int) e1 k2 s2 (n2 : Int) e2 mode) (by simp (disch := omega) only [go_sem]) ?_
    rintro r hs ⟨rfl, rfl, _⟩
    refine ⟨by simp [freeN], ?_⟩
    simp (disch := omega) only [go_sem]
    simp (disch := omega) only [go_sem, hv1]
    refine call_closed (con_flokS k3 s3 (n3 : Int) e3) (by simp (disch := omega) only [go_sem]) ?_
    rintro r hs ⟨rfl, rfl, _⟩
    refine ⟨by simp [freeN], ?_⟩
    simp (disch := omega) only [go_sem]
    simp (disch := omega) only [go_sem, h3, u1, u2, u3, u4, u5, y3, y4, z3']
    refine draw_of rfl [⟨0, [], []⟩, ⟨2, [0], []⟩, ⟨5, [0, 2], []⟩, ⟨8, [0, 2, 5], []⟩, ⟨9, [0, 2, 5], []⟩, ⟨1, [2, 5], []⟩, ⟨3, [5], []⟩, ⟨4, [5], []⟩, ⟨6, [], []⟩, ⟨7, [], []⟩, ⟨10, [], []⟩, ⟨11, [], []⟩, ⟨12, [], []⟩, ⟨13, [], []⟩, ⟨14, [], []⟩] (by kernel_rfl) ?_
    simp (disch := omega) only [go_sem, u1, u2, u3, u4, u5, y3, y4, z3']
    refine call_open (con_l5dy k1 s1 n1 e1 h1) (by simp (disch := omega) only [go_sem]) ?_
    rintro r hs ⟨rfl, rfl, _⟩
    refine ⟨by simp [freeN], ?_⟩
    simp (disch := omega) only [go_sem]
    refine call_open (con_l5dy k2 s2 n2 e2 h2) (by simp (disch := omega) only [go_sem]) ?_
    rintro r hs ⟨rfl, rfl, _⟩
    refine ⟨by simp [freeN], ?_⟩
    simp (disch := omega) only [go_sem]
    refine call_open (cmul) (by simp (disch := omega) only [go_sem]) ?_
    rintro r hs ⟨rfl, rfl, _⟩
    refine ⟨by simp [freeN], ?_⟩
    simp (disch := omega) only [go_sem]
    refine call_open (con_l5dy k3 s3 n3 e3 h3) (by simp (disch := omega) only [go_sem]) ?_
    rintro r hs ⟨rfl, rfl, _⟩
    refine ⟨by simp [freeN], ?_⟩
    simp (disch := omega) only [go_sem]
    refine call_open (cadd) (by simp (disch := omega) only [go_sem]) ?_
    rintro r hs ⟨rfl, rfl, _⟩
    refine ⟨by simp [freeN], ?_⟩
    simp (disch := omega) only [go_sem]
    refine call_closed (con_l5round (oS Q P) (oM P) (oE P R) mode (decide (mode = 3)) (oM_odd _) (oS_z _ _) hmode (by omega) (by omega)) (by simp (disch := omega) only [go_sem]) ?_
    rintro r hs ⟨rfl, rfl, _⟩
    refine ⟨by simp [freeN], ?_⟩
    simp (disch := omega) only [go_sem]
    rw [(hcan (decide (mode = 3))).1, (hcan (decide (mode = 3))).2, (fin (decide (mode = 3)) (by unfold fmZ; rw [if_neg (fun h => z3 h.2.1)])).1, (fin (decide (mode = 3)) (by unfold fmZ; rw [if_neg (fun h => z3 h.2.1)])).2]
    exact fin_valc (by simp (disch := omega) only [go_sem]) (by simp (disch := omega) only [go_sem]) isA_mk

set_option maxRecDepth 100000 in
theorem con_fmaS_fin3 (k1 : Int) (s1 : Bool) (m1 e1 k2 : Int) (s2 : Bool) (m2 e2 k3 : Int) (s3 : Bool) (m3 e3 mode : Int) (hmode : 0 ≤ mode ∧ mode ≤ 4) (h1 : flB k1 s1 m1 e1 = true) (h2 : flB k2 s2 m2 e2 = true) (h3 : flB k3 s3 m3 e3 = true) (c3 : ¬ (k1 = 3 ∨ k2 = 3)) (c2 : ¬ (k1 = 2 ∨ k2 = 2)) (d5 : ¬ 2 ≤ k3) (z1 : ¬ k1 = 0) (z2 : ¬ k2 = 0) :
    Con Tryd.prog 14 true [.ag [.v (.int .i64 (k1)), .v (.bool (s1)), .v (.int .i64 (m1)), .v (.int .i64 (e1))], .ag [.v (.int .i64 (k2)), .v (.bool (s2)), .v (.int .i64 (m2)), .v (.int .i64 (e2))], .ag [.v (.int .i64 (k3)), .v (.bool (s3)), .v (.int .i64 (m3)), .v (.int .i64 (e3))], .v (.int .i64 mode)] []
      (isA (.tu [.ag [.v (.int .i64 ((fmaV k1 s1 m1 e1 k2 s2 m2 e2 k3 s3 m3 e3 mode).k)), .v (.bool ((fmaV k1 s1 m1 e1 k2 s2 m2 e2 k3 s3 m3 e3 mode).s)), .v (.int .i64 ((fmaV k1 s1 m1 e1 k2 s2 m2 e2 k3 s3 m3 e3 mode).m)), .v (.int .i64 ((fmaV k1 s1 m1 e1 k2 s2 m2 e2 k3 s3 m3 e3 mode).e))], .v (.int .i64 (fmaG k1 s1 m1 e1 k2 s2 m2 e2 k3 s3 m3 e3 mode))])) := by
  have e0 : ((0 &&& 2 : Nat) : Int) = 0 := rfl
  have e3' : ((3 &&& 2 : Nat) : Int) = 2 := rfl
  have hv1 : (modeB mode && (flB k1 s1 m1 e1 && flB k2 s2 m2 e2)) = true := by rw [h1, h2, modeB]; simp [hmode]
  obtain ⟨a1, a2, a3, a4⟩ := flB_rng h1
  obtain ⟨b1, b2, b3, b4⟩ := flB_rng h2
  obtain ⟨g1, g2, g3, g4⟩ := flB_rng h3
  have u1 : decide (k1 = 3) = false := decide_eq_false (by omega)
  have u2 : decide (k2 = 3) = false := decide_eq_false (by omega)
  have u3 : decide (k1 = 2) = false := decide_eq_false (by omega)
  have u4 : decide (k2 = 2) = false := decide_eq_false (by omega)
  have c4 : ¬ (k3 = 2 ∨ k3 = 3) := by omega
  have u5 : decide (2 ≤ k3) = false := decide_eq_false (by omega)
  obtain ⟨n1, rfl⟩ := Int.eq_ofNat_of_zero_le a1.1
  obtain ⟨n2, rfl⟩ := Int.eq_ofNat_of_zero_le b1.1
  obtain ⟨n3, rfl⟩ := Int.eq_ofNat_of_zero_le g1.1
  have r1 : ((n1 : Nat) : Int).toNat = n1 := rfl
  have r2 : ((n2 : Nat) : Int).toNat = n2 := rfl
  have r3 : ((n3 : Nat) : Int).toNat = n3 := rfl
  obtain ⟨d1, d2⟩ := l5d_rng h1
  obtain ⟨f1, f2⟩ := l5d_rng h2
  obtain ⟨w1, w2⟩ := l5d_rng h3
  obtain ⟨y1, y2⟩ := lm_rng h1 h2
  have fin : ∀ z, z = fmZ k1 s1 k2 s2 k3 s3 mode → (fmaV k1 s1 n1 e1 k2 s2 n2 e2 k3 s3 n3 e3 mode = flV (adS (muS k1 s1 n1 k2 s2 n2) (n1 * n2) (e1 + e2) (xS k3 s3) n3 e3) (adM (muS k1 s1 n1 k2 s2 n2) (n1 * n2) (e1 + e2) (xS k3 s3) n3 e3) (alE (n1 * n2) (e1 + e2) n3 e3) mode z ∧ fmaG k1 s1 n1 e1 k2 s2 n2 e2 k3 s3 n3 e3 mode = flG (adS (muS k1 s1 n1 k2 s2 n2) (n1 * n2) (e1 + e2) (xS k3 s3) n3 e3) (adM (muS k1 s1 n1 k2 s2 n2) (n1 * n2) (e1 + e2) (xS k3 s3) n3 e3) (alE (n1 * n2) (e1 + e2) n3 e3) mode) := fun z hz => by rw [hz]; exact fmaV_fin c3 c2 c4
  have cmul := con_l4mul (l5dS k1 s1 n1) (l5dM k1 n1) (l5dE k1 n1 e1) (l5dS k2 s2 n2) (l5dM k2 n2) (l5dE k2 n2 e2) (by omega) (by omega) (by omega) (by omega)
  have cadd := con_l4add (lmS k1 s1 n1 k2 s2 n2) (lmM k1 n1 k2 n2) (lmE k1 n1 e1 k2 n2 e2) (l5dS k3 s3 n3) (l5dM k3 n3) (l5dE k3 n3 e3) (by omega) (by omega) (by omega) (by omega) lm_z l5d_z
  have hE := alE_ge (K := -2148) (m1 := lmM k1 n1 k2 n2) (m2 := l5dM k3 n3) (e1 := lmE k1 n1 e1 k2 n2 e2) (e2 := l5dE k3 n3 e3) (by omega) (by omega)
  have hE2 := alE_le (K := 2154) (m1 := lmM k1 n1 k2 n2) (m2 := l5dM k3 n3) (e1 := lmE k1 n1 e1 k2 n2 e2) (e2 := l5dE k3 n3 e3) (by omega) (by omega)
  have hM : bl (adM (lmS k1 s1 n1 k2 s2 n2) (lmM k1 n1 k2 n2) (lmE k1 n1 e1 k2 n2 e2) (l5dS k3 s3 n3) (l5dM k3 n3) (l5dE k3 n3 e3)) ≤ 6000 := by
    have t1 := bl_alA (B := 106) (e := lmE k1 n1 e1 k2 n2 e2) (E := alE (lmM k1 n1 k2 n2) (lmE k1 n1 e1 k2 n2 e2) (l5dM k3 n3) (l5dE k3 n3 e3)) (C := 5000) y1 (by omega)
    have t2 := bl_alA (B := 106) (e := l5dE k3 n3 e3) (E := alE (lmM k1 n1 k2 n2) (lmE k1 n1 e1 k2 n2 e2) (l5dM k3 n3) (l5dE k3 n3 e3)) (C := 5000) (show bl (l5dM k3 n3) ≤ 106 by omega) (by omega)
    exact Nat.le_trans (bl_suM t1 t2) (by omega)
  obtain ⟨P, hP⟩ : ∃ P, adM (lmS k1 s1 n1 k2 s2 n2) (lmM k1 n1 k2 n2) (lmE k1 n1 e1 k2 n2 e2) (l5dS k3 s3 n3) (l5dM k3 n3) (l5dE k3 n3 e3) = P := ⟨_, rfl⟩
  obtain ⟨Q, hQ⟩ : ∃ Q, adS (lmS k1 s1 n1 k2 s2 n2) (lmM k1 n1 k2 n2) (lmE k1 n1 e1 k2 n2 e2) (l5dS k3 s3 n3) (l5dM k3 n3) (l5dE k3 n3 e3) = Q := ⟨_, rfl⟩
  obtain ⟨R, hR⟩ : ∃ R, alE (lmM k1 n1 k2 n2) (lmE k1 n1 e1 k2 n2 e2) (l5dM k3 n3) (l5dE k3 n3 e3) = R := ⟨_, rfl⟩
  have hcan := fun z => fma_canon (mode := mode) z h1 h2 h3 hQ hP hR
  simp only [r1, r2, r3] at hcan
  rw [hP, hQ, hR] at cadd
  rw [hP] at hM
  rw [hR] at hE hE2
  unfold lmS lmM lmE at cadd
  have q4 := bl_mono (oM_le P)
  have q5 := oE_rng (m := P) (e := R) (lo := -2148) (hi := 2154) (Nat.le_refl _) (by omega) (by omega) (by omega)
  have z0 : ¬ (k1 = 0 ∨ k2 = 0) := by omega
  have y3 : decide (k1 = 0) = false := decide_eq_false (by omega)
  have y4 : decide (k2 = 0) = false := decide_eq_false (by omega)
  refine Con.of_aw Tryd.func14 rfl Tryd.ntmps14 (by simp) (by simp) (by simp) (W.sound ?_)
  show @W Tryd.prog 116 ⟨_⟩ ⟨fun x σ => @retW _ _ _ ⟨_⟩ _ ⟨_⟩ x σ⟩ _ _
  simp (disch := omega) only [go_sem]
  refine call_closed (con_l5ok k1 s1 (n1 : Int) e1 k2 s2 (n2 : Int) e2 mode) (by simp (disch := omega) only [go_sem]) ?_
  rintro r hs ⟨rfl, rfl, _⟩
  refine ⟨by simp [freeN], ?_⟩
  simp (disch := omega) only [go_sem]
  simp (disch := omega) only [go_sem, hv1]
  refine call_closed (con_flokS k3 s3 (n3 : Int) e3) (by simp (disch := omega) only [go_sem]) ?_
  rintro r hs ⟨rfl, rfl, _⟩
  refine ⟨by simp [freeN], ?_⟩
  simp (disch := omega) only [go_sem]
  simp (disch := omega) only [go_sem, h3, u1, u2, u3, u4, u5, y3, y4]
  refine draw_of rfl [⟨0, [], []⟩, ⟨2, [0], []⟩, ⟨5, [0, 2], []⟩, ⟨8, [0, 2, 5], []⟩, ⟨9, [0, 2, 5], []⟩, ⟨1, [2, 5], []⟩, ⟨3, [5], []⟩, ⟨4, [5], []⟩, ⟨6, [], []⟩, ⟨7, [], []⟩, ⟨10, [], []⟩, ⟨11, [], []⟩, ⟨12, [], []⟩, ⟨13, [], []⟩, ⟨14, [], []⟩] (by kernel_rfl) ?_
  simp (disch := omega) only [go_sem, u1, u2, u3, u4, u5, y3, y4]
  refine call_open (con_l5dy k1 s1 n1 e1 h1) (by simp (disch := omega) only [go_sem]) ?_
  rintro r hs ⟨rfl, rfl, _⟩
  refine ⟨by simp [freeN], ?_⟩
  simp (disch := omega) only [go_sem]
  refine call_open (con_l5dy k2 s2 n2 e2 h2) (by simp (disch := omega) only [go_sem]) ?_
  rintro r hs ⟨rfl, rfl, _⟩
  refine ⟨by simp [freeN], ?_⟩
  simp (disch := omega) only [go_sem]
  refine call_open (cmul) (by simp (disch := omega) only [go_sem]) ?_
  rintro r hs ⟨rfl, rfl, _⟩
  refine ⟨by simp [freeN], ?_⟩
  simp (disch := omega) only [go_sem]
  refine call_open (con_l5dy k3 s3 n3 e3 h3) (by simp (disch := omega) only [go_sem]) ?_
  rintro r hs ⟨rfl, rfl, _⟩
  refine ⟨by simp [freeN], ?_⟩
  simp (disch := omega) only [go_sem]
  refine call_open (cadd) (by simp (disch := omega) only [go_sem]) ?_
  rintro r hs ⟨rfl, rfl, _⟩
  refine ⟨by simp [freeN], ?_⟩
  simp (disch := omega) only [go_sem]
  refine call_closed (con_l5round (oS Q P) (oM P) (oE P R) mode (decide (mode = 3)) (oM_odd _) (oS_z _ _) hmode (by omega) (by omega)) (by simp (disch := omega) only [go_sem]) ?_
  rintro r hs ⟨rfl, rfl, _⟩
  refine ⟨by simp [freeN], ?_⟩
  simp (disch := omega) only [go_sem]
  rw [(hcan (decide (mode = 3))).1, (hcan (decide (mode = 3))).2, (fin (decide (mode = 3)) (by unfold fmZ; rw [if_neg (fun h => z0 h.1)])).1, (fin (decide (mode = 3)) (by unfold fmZ; rw [if_neg (fun h => z0 h.1)])).2]
  exact fin_valc (by simp (disch := omega) only [go_sem]) (by simp (disch := omega) only [go_sem]) isA_mk

theorem con_FlFmaS (k1 : Int) (s1 : Bool) (m1 e1 k2 : Int) (s2 : Bool) (m2 e2 k3 : Int) (s3 : Bool) (m3 e3 mode : Int) :
    Con Tryd.prog 14 true [.ag [.v (.int .i64 (k1)), .v (.bool (s1)), .v (.int .i64 (m1)), .v (.int .i64 (e1))], .ag [.v (.int .i64 (k2)), .v (.bool (s2)), .v (.int .i64 (m2)), .v (.int .i64 (e2))], .ag [.v (.int .i64 (k3)), .v (.bool (s3)), .v (.int .i64 (m3)), .v (.int .i64 (e3))], .v (.int .i64 mode)] []
      (isA (if (modeB mode && (flB k1 s1 m1 e1 && (flB k2 s2 m2 e2 && flB k3 s3 m3 e3))) = true then .tu [.ag [.v (.int .i64 ((fmaV k1 s1 m1 e1 k2 s2 m2 e2 k3 s3 m3 e3 mode).k)), .v (.bool ((fmaV k1 s1 m1 e1 k2 s2 m2 e2 k3 s3 m3 e3 mode).s)), .v (.int .i64 ((fmaV k1 s1 m1 e1 k2 s2 m2 e2 k3 s3 m3 e3 mode).m)), .v (.int .i64 ((fmaV k1 s1 m1 e1 k2 s2 m2 e2 k3 s3 m3 e3 mode).e))], .v (.int .i64 (fmaG k1 s1 m1 e1 k2 s2 m2 e2 k3 s3 m3 e3 mode))]
        else .tu [.ag [.v (.int .i64 (3)), .v (.bool (false)), .v (.int .i64 (0)), .v (.int .i64 (0))], .v (.int .i64 16)])) := by
  have hq : ∀ b1 b2 b3 : Bool, (modeB mode && (b1 && (b2 && b3))) = ((modeB mode && (b1 && b2)) && b3) := fun b1 b2 b3 => by simp only [Bool.and_assoc]
  by_cases hv : (modeB mode && (flB k1 s1 m1 e1 && (flB k2 s2 m2 e2 && flB k3 s3 m3 e3))) = true
  · rw [if_pos hv]
    have h' := hv
    simp only [Bool.and_eq_true, modeB, decide_eq_true_eq] at h'
    obtain ⟨hmode, h1, h2, h3⟩ := h'
    by_cases c3 : k1 = 3 ∨ k2 = 3
    · exact con_fmaS_nan k1 s1 m1 e1 k2 s2 m2 e2 k3 s3 m3 e3 mode hmode h1 h2 h3 c3
    by_cases c2 : k1 = 2 ∨ k2 = 2
    · exact con_fmaS_inf k1 s1 m1 e1 k2 s2 m2 e2 k3 s3 m3 e3 mode hmode h1 h2 h3 c3 c2
    by_cases d5 : 2 ≤ k3
    · exact con_fmaS_c k1 s1 m1 e1 k2 s2 m2 e2 k3 s3 m3 e3 mode hmode h1 h2 h3 c3 c2 d5
    by_cases z1 : k1 = 0
    · exact con_fmaS_fin1 k1 s1 m1 e1 k2 s2 m2 e2 k3 s3 m3 e3 mode hmode h1 h2 h3 c3 c2 d5 z1
    by_cases z2 : k2 = 0
    · exact con_fmaS_fin2 k1 s1 m1 e1 k2 s2 m2 e2 k3 s3 m3 e3 mode hmode h1 h2 h3 c3 c2 d5 z1 z2
    · exact con_fmaS_fin3 k1 s1 m1 e1 k2 s2 m2 e2 k3 s3 m3 e3 mode hmode h1 h2 h3 c3 c2 d5 z1 z2
  · rw [if_neg hv]
    have hv' : ((modeB mode && (flB k1 s1 m1 e1 && flB k2 s2 m2 e2)) && flB k3 s3 m3 e3) = false := by rw [← hq]; simpa using hv
    refine Con.of_aw Tryd.func14 rfl Tryd.ntmps14 (by simp) (by simp) (by simp) (W.sound ?_)
    show @W Tryd.prog 116 ⟨_⟩ ⟨fun x σ => @retW _ _ _ ⟨_⟩ _ ⟨_⟩ x σ⟩ _ _
    simp (disch := omega) only [go_sem]
    refine call_closed (con_l5ok k1 s1 m1 e1 k2 s2 m2 e2 mode) (by simp (disch := omega) only [go_sem]) ?_
    rintro r hs ⟨rfl, rfl, _⟩
    refine ⟨by simp [freeN], ?_⟩
    simp (disch := omega) only [go_sem]
    refine ifW_b (fun h => ?_) (fun h => ?_)
    · have h3 : flB k3 s3 m3 e3 = false := by rw [h] at hv'; simpa using hv'
      simp (disch := omega) only [go_sem, h]
      refine call_closed (con_flokS k3 s3 m3 e3) (by simp (disch := omega) only [go_sem]) ?_
      rintro r hs ⟨rfl, rfl, _⟩
      refine ⟨by simp [freeN], ?_⟩
      simp (disch := omega) only [go_sem]
      simp (disch := omega) only [go_sem, h3]
      refine call_closed (con_l5bad) (by simp (disch := omega) only [go_sem]) ?_
      rintro r hs ⟨rfl, rfl, _⟩
      refine ⟨by simp [freeN], ?_⟩
      simp (disch := omega) only [go_sem]
      exact fin_valc (by simp (disch := omega) only [go_sem]) (by simp (disch := omega) only [go_sem]) isA_mk
    · simp (disch := omega) only [go_sem, h]
      refine call_closed (con_l5bad) (by simp (disch := omega) only [go_sem]) ?_
      rintro r hs ⟨rfl, rfl, _⟩
      refine ⟨by simp [freeN], ?_⟩
      simp (disch := omega) only [go_sem]
      exact fin_valc (by simp (disch := omega) only [go_sem]) (by simp (disch := omega) only [go_sem]) isA_mk
end Go.Ab
namespace Go.Ab
open Go Go.Proofs
set_option linter.unusedVariables false
set_option linter.unusedSimpArgs false

theorem law_FlFma (k1 : Int) (s1 : Bool) (m1 e1 k2 : Int) (s2 : Bool) (m2 e2 k3 : Int) (s3 : Bool) (m3 e3 mode : Int) : Con Tryd.prog 5 true [.ag [.v (.int .i64 (k1)), .v (.bool (s1)), .v (.int .i64 (m1)), .v (.int .i64 (e1))], .ag [.v (.int .i64 (k2)), .v (.bool (s2)), .v (.int .i64 (m2)), .v (.int .i64 (e2))], .ag [.v (.int .i64 (k3)), .v (.bool (s3)), .v (.int .i64 (m3)), .v (.int .i64 (e3))], .v (.int .i64 mode)] [] (isA (.v (.bool true))) := by
  have c1 := con_FlFmaS k1 s1 m1 e1 k2 s2 m2 e2 k3 s3 m3 e3 mode
  have c2 := con_FlFma k1 s1 m1 e1 k2 s2 m2 e2 k3 s3 m3 e3 mode
  generalize fmaV k1 s1 m1 e1 k2 s2 m2 e2 k3 s3 m3 e3 mode = V at *
  generalize fmaG k1 s1 m1 e1 k2 s2 m2 e2 k3 s3 m3 e3 mode = G at *
  refine Con.of_aw Tryd.func5 rfl Tryd.ntmps5 (by simp) (by simp) (by simp) (W.sound ?_)
  show @W Tryd.prog 44 ⟨_⟩ ⟨fun x σ => @retW _ _ _ ⟨_⟩ _ ⟨_⟩ x σ⟩ _ _
  simp (disch := omega) only [go_sem]
  by_cases hm : (modeB mode && (flB k1 s1 m1 e1 && (flB k2 s2 m2 e2 && flB k3 s3 m3 e3))) = true
  · rw [if_pos hm] at c1 c2
    refine draw_of rfl [⟨0, [], []⟩, ⟨2, [0], []⟩, ⟨4, [0, 2], []⟩, ⟨6, [0, 2, 4], []⟩, ⟨11, [0, 2, 4], []⟩, ⟨1, [2, 4], [110000000]⟩, ⟨3, [4], [110000000]⟩, ⟨5, [], [110000000]⟩, ⟨7, [], [110000000]⟩, ⟨8, [], [110000000]⟩, ⟨9, [], [110000000]⟩, ⟨10, [], [110000000]⟩, ⟨12, [], []⟩, ⟨13, [], []⟩] (by kernel_rfl) ?_
    simp (disch := omega) only [go_sem]
    refine call_open (con_toFl k1 s1 m1 e1) (by simp (disch := omega) only [go_sem]) ?_
    rintro r hs ⟨rfl, rfl, _⟩
    refine ⟨by simp [freeN], ?_⟩
    simp (disch := omega) only [go_sem]
    refine call_open (con_toFl k2 s2 m2 e2) (by simp (disch := omega) only [go_sem]) ?_
    rintro r hs ⟨rfl, rfl, _⟩
    refine ⟨by simp [freeN], ?_⟩
    simp (disch := omega) only [go_sem]
    refine call_open (con_toFl k3 s3 m3 e3) (by simp (disch := omega) only [go_sem]) ?_
    rintro r hs ⟨rfl, rfl, _⟩
    refine ⟨by simp [freeN], ?_⟩
    simp (disch := omega) only [go_sem]
    refine call_closed (c1) (by simp (disch := omega) only [go_sem]) ?_
    rintro r hs ⟨rfl, rfl, _⟩
    refine ⟨by simp [freeN], ?_⟩
    simp (disch := omega) only [go_sem]
    refine draw_of rfl [⟨0, [], []⟩, ⟨2, [0], []⟩, ⟨4, [0, 2], []⟩, ⟨6, [0, 2, 4], []⟩, ⟨11, [0, 2, 4], []⟩, ⟨1, [2, 4], [130000000]⟩, ⟨3, [4], [130000000]⟩, ⟨5, [], [130000000]⟩, ⟨7, [], [130000000]⟩, ⟨8, [], [130000000]⟩, ⟨9, [], [130000000]⟩, ⟨10, [], [130000000]⟩, ⟨12, [], []⟩, ⟨13, [], []⟩] (by kernel_rfl) ?_
    simp (disch := omega) only [go_sem]
    refine call_open (con_toFl k1 s1 m1 e1) (by simp (disch := omega) only [go_sem]) ?_
    rintro r hs ⟨rfl, rfl, _⟩
    refine ⟨by simp [freeN], ?_⟩
    simp (disch := omega) only [go_sem]
    refine call_open (con_toFl k2 s2 m2 e2) (by simp (disch := omega) only [go_sem]) ?_
    rintro r hs ⟨rfl, rfl, _⟩
    refine ⟨by simp [freeN], ?_⟩
    simp (disch := omega) only [go_sem]
    refine call_open (con_toFl k3 s3 m3 e3) (by simp (disch := omega) only [go_sem]) ?_
    rintro r hs ⟨rfl, rfl, _⟩
    refine ⟨by simp [freeN], ?_⟩
    simp (disch := omega) only [go_sem]
    refine call_closed (c2) (by simp (disch := omega) only [go_sem]) ?_
    rintro r hs ⟨rfl, rfl, _⟩
    refine ⟨by simp [freeN], ?_⟩
    simp (disch := omega) only [go_sem]
    refine call_closed (con_eqFl V.k V.s V.m V.e) (by simp (disch := omega) only [go_sem]) ?_
    rintro r hs ⟨rfl, rfl, _⟩
    refine ⟨by simp [freeN], ?_⟩
    simp (disch := omega) only [go_sem]
    exact fin_valc (by simp (disch := omega) only [go_sem]) (by simp (disch := omega) only [go_sem]) isA_mk
  · rw [if_neg hm] at c1 c2
    refine draw_of rfl [⟨0, [], []⟩, ⟨2, [0], []⟩, ⟨4, [0, 2], []⟩, ⟨6, [0, 2, 4], []⟩, ⟨11, [0, 2, 4], []⟩, ⟨1, [2, 4], [110000000]⟩, ⟨3, [4], [110000000]⟩, ⟨5, [], [110000000]⟩, ⟨7, [], [110000000]⟩, ⟨8, [], [110000000]⟩, ⟨9, [], [110000000]⟩, ⟨10, [], [110000000]⟩, ⟨12, [], []⟩, ⟨13, [], []⟩] (by kernel_rfl) ?_
    simp (disch := omega) only [go_sem]
    refine call_open (con_toFl k1 s1 m1 e1) (by simp (disch := omega) only [go_sem]) ?_
    rintro r hs ⟨rfl, rfl, _⟩
    refine ⟨by simp [freeN], ?_⟩
    simp (disch := omega) only [go_sem]
    refine call_open (con_toFl k2 s2 m2 e2) (by simp (disch := omega) only [go_sem]) ?_
    rintro r hs ⟨rfl, rfl, _⟩
    refine ⟨by simp [freeN], ?_⟩
    simp (disch := omega) only [go_sem]
    refine call_open (con_toFl k3 s3 m3 e3) (by simp (disch := omega) only [go_sem]) ?_
    rintro r hs ⟨rfl, rfl, _⟩
    refine ⟨by simp [freeN], ?_⟩
    simp (disch := omega) only [go_sem]
    refine call_closed (c1) (by simp (disch := omega) only [go_sem]) ?_
    rintro r hs ⟨rfl, rfl, _⟩
    refine ⟨by simp [freeN], ?_⟩
    simp (disch := omega) only [go_sem]
    refine draw_of rfl [⟨0, [], []⟩, ⟨2, [0], []⟩, ⟨4, [0, 2], []⟩, ⟨6, [0, 2, 4], []⟩, ⟨11, [0, 2, 4], []⟩, ⟨1, [2, 4], [130000000]⟩, ⟨3, [4], [130000000]⟩, ⟨5, [], [130000000]⟩, ⟨7, [], [130000000]⟩, ⟨8, [], [130000000]⟩, ⟨9, [], [130000000]⟩, ⟨10, [], [130000000]⟩, ⟨12, [], []⟩, ⟨13, [], []⟩] (by kernel_rfl) ?_
    simp (disch := omega) only [go_sem]
    refine call_open (con_toFl k1 s1 m1 e1) (by simp (disch := omega) only [go_sem]) ?_
    rintro r hs ⟨rfl, rfl, _⟩
    refine ⟨by simp [freeN], ?_⟩
    simp (disch := omega) only [go_sem]
    refine call_open (con_toFl k2 s2 m2 e2) (by simp (disch := omega) only [go_sem]) ?_
    rintro r hs ⟨rfl, rfl, _⟩
    refine ⟨by simp [freeN], ?_⟩
    simp (disch := omega) only [go_sem]
    refine call_open (con_toFl k3 s3 m3 e3) (by simp (disch := omega) only [go_sem]) ?_
    rintro r hs ⟨rfl, rfl, _⟩
    refine ⟨by simp [freeN], ?_⟩
    simp (disch := omega) only [go_sem]
    refine call_closed (c2) (by simp (disch := omega) only [go_sem]) ?_
    rintro r hs ⟨rfl, rfl, _⟩
    refine ⟨by simp [freeN], ?_⟩
    simp (disch := omega) only [go_sem]
    refine call_closed (con_eqFl 3 false 0 0) (by simp (disch := omega) only [go_sem]) ?_
    rintro r hs ⟨rfl, rfl, _⟩
    refine ⟨by simp [freeN], ?_⟩
    simp (disch := omega) only [go_sem]
    exact fin_valc (by simp (disch := omega) only [go_sem]) (by simp (disch := omega) only [go_sem]) isA_mk
end Go.Ab
namespace Go.Proofs.YtkmldlminmlcnaaDoor
open Go.ChangeShapes Go.WideShapes Go.ChangeAt Go.RowKit Go.Ab

theorem own : ownKnob Tryd.prog.godebug = none := by kernel_rfl
theorem laidOut : laidOutB Tryd.prog = true := by kernel_rfl
theorem tabs_g1 : Tryd.prog.globalNamed "math/bits.deBruijn64tab" = some 1 := by kernel_rfl
theorem tabs_t1 : (Tryd.prog.globals[1]?).map (·.type) = some 165 := by kernel_rfl
theorem tabs_u1 : Tryd.prog.underlying 165 = some (.array 64 5) := by kernel_rfl
theorem tabs_e1 : Tryd.prog.underlying 5 = some (.int .u8) := by kernel_rfl
theorem tabs_c1 : Tryd.prog.cellsOf 5 = 1 := by kernel_rfl
theorem tabs_k1 : Tryd.prog.cellsOf 165 = 64 := by kernel_rfl
noncomputable def laidList : List (String × DataW Unit) := [("math/bits.deBruijn32tab", Rows.laid_math_bits_deBruijn32tab), ("math/bits.deBruijn64tab", Rows.laid_math_bits_deBruijn64tab)]

theorem tabs_gd {W : World} (h : laidMetH Tryd.prog laidList W) : Gd W := by
  have h' : laidMet Tryd.prog laidList W := h
  have h2 : laidMet Tryd.prog [("math/bits.deBruijn64tab", Lib.tabData .u8 (Lib.deBruijn64tab.map Int.ofNat))] W := laidMet.tail h'
  have hT := Lib.tabIs_of_head tabs_g1 tabs_t1 tabs_u1 tabs_e1 tabs_c1 tabs_k1 h2
  intro g l hg
  unfold glb at hg
  split at hg
  · rename_i e
    subst e
    cases hg
    have hc : ∀ i, i < Lib.deBruijn64tab.length → W.cell? ⟨1, i, none⟩ = some (.int .u8 ((Lib.deBruijn64tab.getD i 0 : Nat) : Int)) := fun i hi => by
      have := hT.cell tabs_g1 i (by simpa using hi)
      rw [this]
      simp [List.getD, hi]
    exact ⟨cell_blk (hc 0 (by decide)), hc⟩
  · cases hg

/-- A world that meets the condition: the settled one, the tables laid. -/
noncomputable def laidWorld (os : Os) : World :=
  let w0 := World.holding Tryd.prog os ⟨#[], #[], []⟩
  { w0 with heap := (w0.heap.modify 1 fun
      | .cells _ t frozen => .cells (Lib.deBruijn64tab.map fun z => Value.int .u8 (Int.ofNat z)).toArray t frozen
      | o => o).modify 0 fun
      | .cells _ t frozen => .cells (Lib.deBruijn32tab.map fun z => Value.int .u8 (Int.ofNat z)).toArray t frozen
      | o => o }
theorem laidWorld_met (os : Os) (args : Array Value) : laidMetH Tryd.prog laidList ((laidWorld os).forCall (fun _ _ => 0) ⟨#[], args, []⟩).memory :=
  laidMetH_of_parts (laidMet_of_run' 8 (by kernel_rfl) (by kernel_rfl)) (by kernel_rfl)
end Go.Proofs.YtkmldlminmlcnaaDoor
