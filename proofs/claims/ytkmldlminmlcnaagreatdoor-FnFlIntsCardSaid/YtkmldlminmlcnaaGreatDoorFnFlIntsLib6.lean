/- What the proof of this claim stands on: the walks of the functions and the plain laws, part 6. -/
import Derived.Test.YtkmldlminmlcnaaGreatDoorFnFlIntsLib5
import Derived.Test.YtkmldlminmlcnaaGreatDoorRows
import Derived.Test.YtkmldlminmlcnaaGreatDoorCards
import Derived.Test.YtkmldlminmlcnaaGreatDoorTie
import Derived.Handed
import Derived.ChangeSame
import Derived.JoinedOf
import Derived.RowKit
import Derived.WalkKit
import Derived.ProofKit
import Derived.OpenShut
import Derived.LaidLaws
import Derived.LaidHandle
import Derived.SevenTiedAt
import Derived.Stop.LaidErr
import Derived.Lib.LaidTab
namespace Go.Ab
open Go Go.Proofs
set_option linter.unusedVariables false
set_option linter.unusedSimpArgs false

theorem wholeB_lim {s : Bool} {m : Nat} (h : (lim m).length ≤ 100) (hs : m = 0 → s = false) : wholeB s (lim m) = true := by
  unfold wholeB
  rw [natB_of m h, Bool.true_and]
  by_cases h0 : m = 0
  · rw [hs h0]; rfl
  · have := lim_ne h0
    rw [decide_eq_false (show ¬ (lim m).length = 0 by omega), Bool.and_false]; rfl

theorem bit_len {n : Nat} {B : Nat} (h : bl n ≤ B) (hB : B ≤ 4000) : (lim n).length ≤ 2 ^ 40 := by have := len_bl h; omega

set_option maxRecDepth 100000 in
set_option maxHeartbeats 1000000 in
theorem law_FlInts (l : List UInt8) (hl : l.length ≤ 9223372036854775807) : Con Tryz.prog 3 true [.sl l.length (bytesA l)] [] (isA (.v (.bool true))) := by
  refine Con.of_aw Tryz.func3 rfl Tryz.ntmps3 (by simp) (by simp) (by simp) (W.sound ?_)
  show @W Tryz.prog 110 ⟨_⟩ ⟨fun x σ => @retW _ _ _ ⟨_⟩ _ ⟨_⟩ x σ⟩ _ _
  simp (disch := omega) only [go_sem]
  refine call_open (con_DrawFlOfInt l hl) (by simp (disch := omega) only [go_sem]) ?_
  rintro r hs ⟨rfl, -, ⟨n, mode, hn, rfl⟩⟩
  refine ⟨by simp [freeN], ?_⟩
  simp (disch := omega) only [go_sem]
  have cf := con_FlOfInt n mode hn
  by_cases p1 : 0 ≤ mode
  case neg =>
    rw [if_neg (by unfold modeB; rw [decide_eq_false p1]; simp)] at cf
    have q1 : decide (0 ≤ mode) = false := decide_eq_false p1
    refine call_closed (cf) (by simp (disch := omega) only [go_sem]) ?_
    rintro r hs ⟨rfl, rfl, _⟩
    refine ⟨by simp [freeN], ?_⟩
    simp (disch := omega) only [go_sem]
    refine call_open (con_DrawFlToInt l hl) (by simp (disch := omega) only [go_sem]) ?_
    rintro r hs ⟨rfl, -, ⟨G, how, rfl⟩⟩
    refine ⟨by simp [freeN], ?_⟩
    unfold FlV.cs
    simp (disch := omega) only [go_sem]
    have ct := con_FlToInt G.k G.s G.m G.e how
    have dG := con_FlDy G.k G.s G.m G.e
    cases hok : (modeB how && flB G.k G.s G.m G.e && (decide (G.k = 0) || decide (G.k = 1)))
    · rw [hok, if_neg (by simp)] at ct
      refine call_open (ct) (by simp (disch := omega) only [go_sem]) ?_
      rintro r hs ⟨rfl, rfl, _⟩
      refine ⟨by simp [freeN], ?_⟩
      simp (disch := omega) only [go_sem]
      simp (disch := omega) only [go_sem, q1]
      cases hd : (flB G.k G.s G.m G.e && (decide (G.k = 0) || decide (G.k = 1)))
      · rw [hd, if_neg (by simp)] at dG
        refine call_open (dG) (by simp (disch := omega) only [go_sem]) ?_
        rintro r hs ⟨rfl, rfl, _⟩
        refine ⟨by simp [freeN], ?_⟩
        simp (disch := omega) only [go_sem]
        exact fin_valc (by simp (disch := omega) only [go_sem]) (by simp (disch := omega) only [go_sem]) isA_mk
      · rw [hd, if_pos rfl] at dG
        have hmh : modeB how = false := by rw [Bool.and_assoc, hd, Bool.and_true] at hok; exact hok
        unfold modeB at hmh
        refine call_open (dG) (by simp (disch := omega) only [go_sem]) ?_
        rintro r hs ⟨rfl, rfl, _⟩
        refine ⟨by simp [freeN], ?_⟩
        simp (disch := omega) only [go_sem]
        by_cases hh : how < 0
        · have h1 : decide (how < 0) = true := decide_eq_true hh
          simp (disch := omega) only [go_sem, h1]
          exact fin_valc (by simp (disch := omega) only [go_sem]) (by simp (disch := omega) only [go_sem]) isA_mk
        · have h1 : decide (how < 0) = false := decide_eq_false hh
          have h2 : decide (4 < how) = true := by
            refine decide_eq_true ?_
            rw [decide_eq_true (show 0 ≤ how by omega), Bool.true_and, decide_eq_false_iff_not] at hmh
            omega
          simp (disch := omega) only [go_sem, h1, h2]
          exact fin_valc (by simp (disch := omega) only [go_sem]) (by simp (disch := omega) only [go_sem]) isA_mk
    · rw [hok, if_pos rfl] at ct
      have hd : (flB G.k G.s G.m G.e && (decide (G.k = 0) || decide (G.k = 1))) = true := by rw [Bool.and_assoc, Bool.and_eq_true] at hok; exact hok.2
      have hmh : modeB how = true := by rw [Bool.and_assoc, Bool.and_eq_true] at hok; exact hok.1
      rw [hd, if_pos rfl] at dG
      rw [Bool.and_eq_true] at hd
      obtain ⟨a1, a2, a3, a4, a5, a6⟩ := flB_rng hd.1
      have hm53 : G.m.toNat < 2 ^ 53 := by omega
      have hiv := @iv_bl (xS G.k G.s) G.m.toNat G.e how hm53 a2.2
      have hz : G.m.toNat = 0 → G.e = 0 := by
        intro h0
        by_cases h1 : G.k = 1
        · have := a5 h1; omega
        · exact (a4 h1).2
      have hy := dyB_canon (xS G.k G.s) G.m.toNat G.e
      rw [dyFit_fl hm53 a2] at hy
      obtain ⟨v1, v2⟩ := @iv_dy (xS G.k G.s) G.m.toNat G.e how hz
      have v3 := @iv_sgn (xS G.k G.s) G.m.toNat G.e how hz
      have hf1 : dyFit (ivM (xS G.k G.s) G.m.toNat G.e how) 0 = true := dyFit_gen (by omega) (by omega)
      have hf2 : dyFit (roM (oS (xS G.k G.s) G.m.toNat) (oM G.m.toNat) (oE G.m.toNat G.e) 0 how) (roE (oM G.m.toNat) (oE G.m.toNat G.e) 0) = true := by
        unfold dyFit at hf1 ⊢; rw [v1, v2]; exact hf1
      have cd := con_DyRound _ _ _ how hy hmh hf2
      rw [v1, v2, v3] at cd
      have lw := len_bl hiv
      have co := con_DyOfS (roS (xS G.k G.s) G.m.toNat G.e 0 how && decide (ivM (xS G.k G.s) G.m.toNat G.e how ≠ 0)) (ivM (xS G.k G.s) G.m.toNat G.e how) 0 (wholeB_lim (by omega) (fun h => by rw [h]; simp)) (by omega)
      rw [hf1, if_pos rfl] at co
      have hlo : (lim (oM (ivM (xS G.k G.s) G.m.toNat G.e how))).length ≤ 2 ^ 40 := bit_len (Nat.le_trans (bl_mono (oM_le _)) hiv) (by omega)
      rw [show (G.s && decide (G.k = 1)) = xS G.k G.s from rfl] at dG
      refine call_open (ct) (by simp (disch := omega) only [go_sem]) ?_
      rintro r hs ⟨rfl, rfl, _⟩
      refine ⟨by simp [freeN], ?_⟩
      simp (disch := omega) only [go_sem]
      simp (disch := omega) only [go_sem, q1]
      generalize (roS (xS G.k G.s) G.m.toNat G.e 0 how && decide (ivM (xS G.k G.s) G.m.toNat G.e how ≠ 0)) = W1 at *
      generalize ivM (xS G.k G.s) G.m.toNat G.e how = W2 at *
      have cs := con_sameDy (oS W1 W2) (oM W2) (oE W2 0) (oS W1 W2) (oM W2) (oE W2 0) hlo hlo
      rw [show (decide (oE W2 0 = oE W2 0) && ((oS W1 W2 == oS W1 W2) && decide (oM W2 = oM W2))) = true by simp] at cs
      refine call_open (dG) (by simp (disch := omega) only [go_sem]) ?_
      rintro r hs ⟨rfl, rfl, _⟩
      refine ⟨by simp [freeN], ?_⟩
      simp (disch := omega) only [go_sem]
      refine call_open (cd) (by simp (disch := omega) only [go_sem]) ?_
      rintro r hs ⟨rfl, rfl, _⟩
      refine ⟨by simp [freeN], ?_⟩
      simp (disch := omega) only [go_sem]
      refine call_open (co) (by simp (disch := omega) only [go_sem]) ?_
      rintro r hs ⟨rfl, rfl, _⟩
      refine ⟨by simp [freeN], ?_⟩
      simp (disch := omega) only [go_sem]
      refine call_closed (cs) (by simp (disch := omega) only [go_sem]) ?_
      rintro r hs ⟨rfl, rfl, _⟩
      refine ⟨by simp [freeN], ?_⟩
      simp (disch := omega) only [go_sem]
      exact fin_valc (by simp (disch := omega) only [go_sem]) (by simp (disch := omega) only [go_sem]) isA_mk
  by_cases p2 : mode ≤ 4
  case neg =>
    rw [if_neg (by unfold modeB; rw [decide_eq_false p2]; simp)] at cf
    have q1 : decide (0 ≤ mode) = true := decide_eq_true p1
    have q2 : decide (mode ≤ 4) = false := decide_eq_false p2
    refine call_closed (cf) (by simp (disch := omega) only [go_sem]) ?_
    rintro r hs ⟨rfl, rfl, _⟩
    refine ⟨by simp [freeN], ?_⟩
    simp (disch := omega) only [go_sem]
    refine call_open (con_DrawFlToInt l hl) (by simp (disch := omega) only [go_sem]) ?_
    rintro r hs ⟨rfl, -, ⟨G, how, rfl⟩⟩
    refine ⟨by simp [freeN], ?_⟩
    unfold FlV.cs
    simp (disch := omega) only [go_sem]
    have ct := con_FlToInt G.k G.s G.m G.e how
    have dG := con_FlDy G.k G.s G.m G.e
    cases hok : (modeB how && flB G.k G.s G.m G.e && (decide (G.k = 0) || decide (G.k = 1)))
    · rw [hok, if_neg (by simp)] at ct
      refine call_open (ct) (by simp (disch := omega) only [go_sem]) ?_
      rintro r hs ⟨rfl, rfl, _⟩
      refine ⟨by simp [freeN], ?_⟩
      simp (disch := omega) only [go_sem]
      simp (disch := omega) only [go_sem, q1, q2]
      cases hd : (flB G.k G.s G.m G.e && (decide (G.k = 0) || decide (G.k = 1)))
      · rw [hd, if_neg (by simp)] at dG
        refine call_open (dG) (by simp (disch := omega) only [go_sem]) ?_
        rintro r hs ⟨rfl, rfl, _⟩
        refine ⟨by simp [freeN], ?_⟩
        simp (disch := omega) only [go_sem]
        exact fin_valc (by simp (disch := omega) only [go_sem]) (by simp (disch := omega) only [go_sem]) isA_mk
      · rw [hd, if_pos rfl] at dG
        have hmh : modeB how = false := by rw [Bool.and_assoc, hd, Bool.and_true] at hok; exact hok
        unfold modeB at hmh
        refine call_open (dG) (by simp (disch := omega) only [go_sem]) ?_
        rintro r hs ⟨rfl, rfl, _⟩
        refine ⟨by simp [freeN], ?_⟩
        simp (disch := omega) only [go_sem]
        by_cases hh : how < 0
        · have h1 : decide (how < 0) = true := decide_eq_true hh
          simp (disch := omega) only [go_sem, h1]
          exact fin_valc (by simp (disch := omega) only [go_sem]) (by simp (disch := omega) only [go_sem]) isA_mk
        · have h1 : decide (how < 0) = false := decide_eq_false hh
          have h2 : decide (4 < how) = true := by
            refine decide_eq_true ?_
            rw [decide_eq_true (show 0 ≤ how by omega), Bool.true_and, decide_eq_false_iff_not] at hmh
            omega
          simp (disch := omega) only [go_sem, h1, h2]
          exact fin_valc (by simp (disch := omega) only [go_sem]) (by simp (disch := omega) only [go_sem]) isA_mk
    · rw [hok, if_pos rfl] at ct
      have hd : (flB G.k G.s G.m G.e && (decide (G.k = 0) || decide (G.k = 1))) = true := by rw [Bool.and_assoc, Bool.and_eq_true] at hok; exact hok.2
      have hmh : modeB how = true := by rw [Bool.and_assoc, Bool.and_eq_true] at hok; exact hok.1
      rw [hd, if_pos rfl] at dG
      rw [Bool.and_eq_true] at hd
      obtain ⟨a1, a2, a3, a4, a5, a6⟩ := flB_rng hd.1
      have hm53 : G.m.toNat < 2 ^ 53 := by omega
      have hiv := @iv_bl (xS G.k G.s) G.m.toNat G.e how hm53 a2.2
      have hz : G.m.toNat = 0 → G.e = 0 := by
        intro h0
        by_cases h1 : G.k = 1
        · have := a5 h1; omega
        · exact (a4 h1).2
      have hy := dyB_canon (xS G.k G.s) G.m.toNat G.e
      rw [dyFit_fl hm53 a2] at hy
      obtain ⟨v1, v2⟩ := @iv_dy (xS G.k G.s) G.m.toNat G.e how hz
      have v3 := @iv_sgn (xS G.k G.s) G.m.toNat G.e how hz
      have hf1 : dyFit (ivM (xS G.k G.s) G.m.toNat G.e how) 0 = true := dyFit_gen (by omega) (by omega)
      have hf2 : dyFit (roM (oS (xS G.k G.s) G.m.toNat) (oM G.m.toNat) (oE G.m.toNat G.e) 0 how) (roE (oM G.m.toNat) (oE G.m.toNat G.e) 0) = true := by
        unfold dyFit at hf1 ⊢; rw [v1, v2]; exact hf1
      have cd := con_DyRound _ _ _ how hy hmh hf2
      rw [v1, v2, v3] at cd
      have lw := len_bl hiv
      have co := con_DyOfS (roS (xS G.k G.s) G.m.toNat G.e 0 how && decide (ivM (xS G.k G.s) G.m.toNat G.e how ≠ 0)) (ivM (xS G.k G.s) G.m.toNat G.e how) 0 (wholeB_lim (by omega) (fun h => by rw [h]; simp)) (by omega)
      rw [hf1, if_pos rfl] at co
      have hlo : (lim (oM (ivM (xS G.k G.s) G.m.toNat G.e how))).length ≤ 2 ^ 40 := bit_len (Nat.le_trans (bl_mono (oM_le _)) hiv) (by omega)
      rw [show (G.s && decide (G.k = 1)) = xS G.k G.s from rfl] at dG
      refine call_open (ct) (by simp (disch := omega) only [go_sem]) ?_
      rintro r hs ⟨rfl, rfl, _⟩
      refine ⟨by simp [freeN], ?_⟩
      simp (disch := omega) only [go_sem]
      simp (disch := omega) only [go_sem, q1, q2]
      generalize (roS (xS G.k G.s) G.m.toNat G.e 0 how && decide (ivM (xS G.k G.s) G.m.toNat G.e how ≠ 0)) = W1 at *
      generalize ivM (xS G.k G.s) G.m.toNat G.e how = W2 at *
      have cs := con_sameDy (oS W1 W2) (oM W2) (oE W2 0) (oS W1 W2) (oM W2) (oE W2 0) hlo hlo
      rw [show (decide (oE W2 0 = oE W2 0) && ((oS W1 W2 == oS W1 W2) && decide (oM W2 = oM W2))) = true by simp] at cs
      refine call_open (dG) (by simp (disch := omega) only [go_sem]) ?_
      rintro r hs ⟨rfl, rfl, _⟩
      refine ⟨by simp [freeN], ?_⟩
      simp (disch := omega) only [go_sem]
      refine call_open (cd) (by simp (disch := omega) only [go_sem]) ?_
      rintro r hs ⟨rfl, rfl, _⟩
      refine ⟨by simp [freeN], ?_⟩
      simp (disch := omega) only [go_sem]
      refine call_open (co) (by simp (disch := omega) only [go_sem]) ?_
      rintro r hs ⟨rfl, rfl, _⟩
      refine ⟨by simp [freeN], ?_⟩
      simp (disch := omega) only [go_sem]
      refine call_closed (cs) (by simp (disch := omega) only [go_sem]) ?_
      rintro r hs ⟨rfl, rfl, _⟩
      refine ⟨by simp [freeN], ?_⟩
      simp (disch := omega) only [go_sem]
      exact fin_valc (by simp (disch := omega) only [go_sem]) (by simp (disch := omega) only [go_sem]) isA_mk
  have q1 : decide (0 ≤ mode) = true := decide_eq_true p1
  have q2 : decide (mode ≤ 4) = true := decide_eq_true p2
  rw [if_pos (by unfold modeB; rw [q1, q2]; rfl)] at cf
  obtain ⟨vF, kF, lF, eF⟩ := @fl_int n.natAbs (decide (n < 0)) mode (by omega)
  generalize flV (decide (n < 0)) n.natAbs 0 mode false = F at *
  generalize flG (decide (n < 0)) n.natAbs 0 mode = fg at *
  have c1 := con_FlToInt F.k F.s F.m F.e 1
  rw [if_pos (by rw [vF, Bool.and_true, show modeB 1 = true by decide, Bool.true_and]; simpa using kF)] at c1
  obtain ⟨f1, f2, f3, f4, f5, f6⟩ := flB_rng vF
  have hivF := @iv_bl (xS F.k F.s) F.m.toNat F.e 1 (by omega) f2.2
  by_cases g0 : fg = 0
  · have hg : decide (fg = 0) = true := decide_eq_true g0
    have hg2 : decide (fg ≠ 0) = false := decide_eq_false (by simpa using g0)
    obtain ⟨i1, i2⟩ := iv_int (K := 1074) 1 (by omega) (eF g0)
    have hsg : (roS (xS F.k F.s) F.m.toNat F.e 0 1 && decide (n.natAbs ≠ 0)) = decide (n < 0) := by
      by_cases h0 : n = 0
      · rw [h0]; simp
      · rw [i2 (by omega), decide_eq_true (show n.natAbs ≠ 0 by omega), Bool.and_true]
    rw [i1, hsg] at c1
    have cw := con_WholeOfS n hn
    have lN : (lim n.natAbs).length ≤ 2 ^ 40 := bit_len (B := 64) (bl_le.2 (by omega)) (by omega)
    have cs1 := con_sameWhole (decide (n < 0)) n.natAbs (decide (n < 0)) n.natAbs lN lN
    rw [show ((decide (n < 0) == decide (n < 0)) && decide (n.natAbs = n.natAbs)) = true by simp] at cs1
    by_cases r1 : -9007199254740992 < n
    · have s1 : decide (-9007199254740992 < n) = true := decide_eq_true r1
      by_cases r2 : n < 9007199254740992
      · have s2 : decide (n < 9007199254740992) = true := decide_eq_true r2
        refine call_closed (cf) (by simp (disch := omega) only [go_sem]) ?_
        rintro r hs ⟨rfl, rfl, _⟩
        refine ⟨by simp [freeN], ?_⟩
        simp (disch := omega) only [go_sem]
        refine call_open (con_DrawFlToInt l hl) (by simp (disch := omega) only [go_sem]) ?_
        rintro r hs ⟨rfl, -, ⟨G, how, rfl⟩⟩
        refine ⟨by simp [freeN], ?_⟩
        unfold FlV.cs
        simp (disch := omega) only [go_sem]
        have ct := con_FlToInt G.k G.s G.m G.e how
        have dG := con_FlDy G.k G.s G.m G.e
        cases hok : (modeB how && flB G.k G.s G.m G.e && (decide (G.k = 0) || decide (G.k = 1)))
        · rw [hok, if_neg (by simp)] at ct
          refine call_open (ct) (by simp (disch := omega) only [go_sem]) ?_
          rintro r hs ⟨rfl, rfl, _⟩
          refine ⟨by simp [freeN], ?_⟩
          simp (disch := omega) only [go_sem]
          simp (disch := omega) only [go_sem, q1, q2]
          refine call_open (c1) (by simp (disch := omega) only [go_sem]) ?_
          rintro r hs ⟨rfl, rfl, _⟩
          refine ⟨by simp [freeN], ?_⟩
          simp (disch := omega) only [go_sem]
          refine draw_of rfl [⟨0, [], []⟩, ⟨1, [], []⟩, ⟨2, [], []⟩, ⟨3, [], []⟩, ⟨4, [], []⟩, ⟨5, [], []⟩, ⟨6, [], []⟩, ⟨7, [6], []⟩, ⟨8, [6], []⟩, ⟨9, [], []⟩, ⟨10, [], []⟩, ⟨11, [], []⟩, ⟨12, [], []⟩, ⟨13, [], []⟩, ⟨14, [], []⟩, ⟨15, [], []⟩, ⟨16, [], []⟩, ⟨17, [], []⟩, ⟨18, [], []⟩, ⟨19, [], []⟩, ⟨20, [], []⟩, ⟨21, [], []⟩, ⟨22, [], []⟩, ⟨23, [], []⟩, ⟨24, [], []⟩] (by kernel_rfl) ?_
          simp (disch := omega) only [go_sem, hg]
          refine call_open (cw) (by simp (disch := omega) only [go_sem]) ?_
          rintro r hs ⟨rfl, rfl, _⟩
          refine ⟨by simp [freeN], ?_⟩
          simp (disch := omega) only [go_sem]
          refine call_closed (cs1) (by simp (disch := omega) only [go_sem]) ?_
          rintro r hs ⟨rfl, rfl, _⟩
          refine ⟨by simp [freeN], ?_⟩
          simp (disch := omega) only [go_sem]
          simp (disch := omega) only [go_sem, s1, s2, hg, hg2]
          cases hd : (flB G.k G.s G.m G.e && (decide (G.k = 0) || decide (G.k = 1)))
          · rw [hd, if_neg (by simp)] at dG
            refine call_open (dG) (by simp (disch := omega) only [go_sem]) ?_
            rintro r hs ⟨rfl, rfl, _⟩
            refine ⟨by simp [freeN], ?_⟩
            simp (disch := omega) only [go_sem]
            exact fin_valc (by simp (disch := omega) only [go_sem]) (by simp (disch := omega) only [go_sem]) isA_mk
          · rw [hd, if_pos rfl] at dG
            have hmh : modeB how = false := by rw [Bool.and_assoc, hd, Bool.and_true] at hok; exact hok
            unfold modeB at hmh
            refine call_open (dG) (by simp (disch := omega) only [go_sem]) ?_
            rintro r hs ⟨rfl, rfl, _⟩
            refine ⟨by simp [freeN], ?_⟩
            simp (disch := omega) only [go_sem]
            by_cases hh : how < 0
            · have h1 : decide (how < 0) = true := decide_eq_true hh
              simp (disch := omega) only [go_sem, h1]
              exact fin_valc (by simp (disch := omega) only [go_sem]) (by simp (disch := omega) only [go_sem]) isA_mk
            · have h1 : decide (how < 0) = false := decide_eq_false hh
              have h2 : decide (4 < how) = true := by
                refine decide_eq_true ?_
                rw [decide_eq_true (show 0 ≤ how by omega), Bool.true_and, decide_eq_false_iff_not] at hmh
                omega
              simp (disch := omega) only [go_sem, h1, h2]
              exact fin_valc (by simp (disch := omega) only [go_sem]) (by simp (disch := omega) only [go_sem]) isA_mk
        · rw [hok, if_pos rfl] at ct
          have hd : (flB G.k G.s G.m G.e && (decide (G.k = 0) || decide (G.k = 1))) = true := by rw [Bool.and_assoc, Bool.and_eq_true] at hok; exact hok.2
          have hmh : modeB how = true := by rw [Bool.and_assoc, Bool.and_eq_true] at hok; exact hok.1
          rw [hd, if_pos rfl] at dG
          rw [Bool.and_eq_true] at hd
          obtain ⟨a1, a2, a3, a4, a5, a6⟩ := flB_rng hd.1
          have hm53 : G.m.toNat < 2 ^ 53 := by omega
          have hiv := @iv_bl (xS G.k G.s) G.m.toNat G.e how hm53 a2.2
          have hz : G.m.toNat = 0 → G.e = 0 := by
            intro h0
            by_cases h1 : G.k = 1
            · have := a5 h1; omega
            · exact (a4 h1).2
          have hy := dyB_canon (xS G.k G.s) G.m.toNat G.e
          rw [dyFit_fl hm53 a2] at hy
          obtain ⟨v1, v2⟩ := @iv_dy (xS G.k G.s) G.m.toNat G.e how hz
          have v3 := @iv_sgn (xS G.k G.s) G.m.toNat G.e how hz
          have hf1 : dyFit (ivM (xS G.k G.s) G.m.toNat G.e how) 0 = true := dyFit_gen (by omega) (by omega)
          have hf2 : dyFit (roM (oS (xS G.k G.s) G.m.toNat) (oM G.m.toNat) (oE G.m.toNat G.e) 0 how) (roE (oM G.m.toNat) (oE G.m.toNat G.e) 0) = true := by
            unfold dyFit at hf1 ⊢; rw [v1, v2]; exact hf1
          have cd := con_DyRound _ _ _ how hy hmh hf2
          rw [v1, v2, v3] at cd
          have lw := len_bl hiv
          have co := con_DyOfS (roS (xS G.k G.s) G.m.toNat G.e 0 how && decide (ivM (xS G.k G.s) G.m.toNat G.e how ≠ 0)) (ivM (xS G.k G.s) G.m.toNat G.e how) 0 (wholeB_lim (by omega) (fun h => by rw [h]; simp)) (by omega)
          rw [hf1, if_pos rfl] at co
          have hlo : (lim (oM (ivM (xS G.k G.s) G.m.toNat G.e how))).length ≤ 2 ^ 40 := bit_len (Nat.le_trans (bl_mono (oM_le _)) hiv) (by omega)
          rw [show (G.s && decide (G.k = 1)) = xS G.k G.s from rfl] at dG
          refine call_open (ct) (by simp (disch := omega) only [go_sem]) ?_
          rintro r hs ⟨rfl, rfl, _⟩
          refine ⟨by simp [freeN], ?_⟩
          simp (disch := omega) only [go_sem]
          simp (disch := omega) only [go_sem, q1, q2]
          refine call_open (c1) (by simp (disch := omega) only [go_sem]) ?_
          rintro r hs ⟨rfl, rfl, _⟩
          refine ⟨by simp [freeN], ?_⟩
          simp (disch := omega) only [go_sem]
          refine draw_of rfl [⟨0, [], []⟩, ⟨1, [], []⟩, ⟨2, [], []⟩, ⟨3, [], []⟩, ⟨4, [], []⟩, ⟨5, [], []⟩, ⟨6, [], []⟩, ⟨7, [6], []⟩, ⟨8, [6], []⟩, ⟨9, [], []⟩, ⟨10, [], []⟩, ⟨11, [], []⟩, ⟨12, [], []⟩, ⟨13, [], []⟩, ⟨14, [], []⟩, ⟨15, [], []⟩, ⟨16, [], []⟩, ⟨17, [], []⟩, ⟨18, [], []⟩, ⟨19, [], []⟩, ⟨20, [], []⟩, ⟨21, [], []⟩, ⟨22, [], []⟩, ⟨23, [], []⟩, ⟨24, [], []⟩] (by kernel_rfl) ?_
          simp (disch := omega) only [go_sem, hg]
          refine call_open (cw) (by simp (disch := omega) only [go_sem]) ?_
          rintro r hs ⟨rfl, rfl, _⟩
          refine ⟨by simp [freeN], ?_⟩
          simp (disch := omega) only [go_sem]
          refine call_closed (cs1) (by simp (disch := omega) only [go_sem]) ?_
          rintro r hs ⟨rfl, rfl, _⟩
          refine ⟨by simp [freeN], ?_⟩
          simp (disch := omega) only [go_sem]
          simp (disch := omega) only [go_sem, s1, s2, hg, hg2]
          generalize (roS (xS G.k G.s) G.m.toNat G.e 0 how && decide (ivM (xS G.k G.s) G.m.toNat G.e how ≠ 0)) = W1 at *
          generalize ivM (xS G.k G.s) G.m.toNat G.e how = W2 at *
          have cs := con_sameDy (oS W1 W2) (oM W2) (oE W2 0) (oS W1 W2) (oM W2) (oE W2 0) hlo hlo
          rw [show (decide (oE W2 0 = oE W2 0) && ((oS W1 W2 == oS W1 W2) && decide (oM W2 = oM W2))) = true by simp] at cs
          refine call_open (dG) (by simp (disch := omega) only [go_sem]) ?_
          rintro r hs ⟨rfl, rfl, _⟩
          refine ⟨by simp [freeN], ?_⟩
          simp (disch := omega) only [go_sem]
          refine call_open (cd) (by simp (disch := omega) only [go_sem]) ?_
          rintro r hs ⟨rfl, rfl, _⟩
          refine ⟨by simp [freeN], ?_⟩
          simp (disch := omega) only [go_sem]
          refine call_open (co) (by simp (disch := omega) only [go_sem]) ?_
          rintro r hs ⟨rfl, rfl, _⟩
          refine ⟨by simp [freeN], ?_⟩
          simp (disch := omega) only [go_sem]
          refine call_closed (cs) (by simp (disch := omega) only [go_sem]) ?_
          rintro r hs ⟨rfl, rfl, _⟩
          refine ⟨by simp [freeN], ?_⟩
          simp (disch := omega) only [go_sem]
          exact fin_valc (by simp (disch := omega) only [go_sem]) (by simp (disch := omega) only [go_sem]) isA_mk
      · have s2 : decide (n < 9007199254740992) = false := decide_eq_false r2
        refine call_closed (cf) (by simp (disch := omega) only [go_sem]) ?_
        rintro r hs ⟨rfl, rfl, _⟩
        refine ⟨by simp [freeN], ?_⟩
        simp (disch := omega) only [go_sem]
        refine call_open (con_DrawFlToInt l hl) (by simp (disch := omega) only [go_sem]) ?_
        rintro r hs ⟨rfl, -, ⟨G, how, rfl⟩⟩
        refine ⟨by simp [freeN], ?_⟩
        unfold FlV.cs
        simp (disch := omega) only [go_sem]
        have ct := con_FlToInt G.k G.s G.m G.e how
        have dG := con_FlDy G.k G.s G.m G.e
        cases hok : (modeB how && flB G.k G.s G.m G.e && (decide (G.k = 0) || decide (G.k = 1)))
        · rw [hok, if_neg (by simp)] at ct
          refine call_open (ct) (by simp (disch := omega) only [go_sem]) ?_
          rintro r hs ⟨rfl, rfl, _⟩
          refine ⟨by simp [freeN], ?_⟩
          simp (disch := omega) only [go_sem]
          simp (disch := omega) only [go_sem, q1, q2]
          refine call_open (c1) (by simp (disch := omega) only [go_sem]) ?_
          rintro r hs ⟨rfl, rfl, _⟩
          refine ⟨by simp [freeN], ?_⟩
          simp (disch := omega) only [go_sem]
          refine draw_of rfl [⟨0, [], []⟩, ⟨1, [], []⟩, ⟨2, [], []⟩, ⟨3, [], []⟩, ⟨4, [], []⟩, ⟨5, [], []⟩, ⟨6, [], []⟩, ⟨7, [6], []⟩, ⟨8, [6], []⟩, ⟨9, [], []⟩, ⟨10, [], []⟩, ⟨11, [], []⟩, ⟨12, [], []⟩, ⟨13, [], []⟩, ⟨14, [], []⟩, ⟨15, [], []⟩, ⟨16, [], []⟩, ⟨17, [], []⟩, ⟨18, [], []⟩, ⟨19, [], []⟩, ⟨20, [], []⟩, ⟨21, [], []⟩, ⟨22, [], []⟩, ⟨23, [], []⟩, ⟨24, [], []⟩] (by kernel_rfl) ?_
          simp (disch := omega) only [go_sem, hg]
          refine call_open (cw) (by simp (disch := omega) only [go_sem]) ?_
          rintro r hs ⟨rfl, rfl, _⟩
          refine ⟨by simp [freeN], ?_⟩
          simp (disch := omega) only [go_sem]
          refine call_closed (cs1) (by simp (disch := omega) only [go_sem]) ?_
          rintro r hs ⟨rfl, rfl, _⟩
          refine ⟨by simp [freeN], ?_⟩
          simp (disch := omega) only [go_sem]
          simp (disch := omega) only [go_sem, s1, s2, hg, hg2]
          cases hd : (flB G.k G.s G.m G.e && (decide (G.k = 0) || decide (G.k = 1)))
          · rw [hd, if_neg (by simp)] at dG
            refine call_open (dG) (by simp (disch := omega) only [go_sem]) ?_
            rintro r hs ⟨rfl, rfl, _⟩
            refine ⟨by simp [freeN], ?_⟩
            simp (disch := omega) only [go_sem]
            exact fin_valc (by simp (disch := omega) only [go_sem]) (by simp (disch := omega) only [go_sem]) isA_mk
          · rw [hd, if_pos rfl] at dG
            have hmh : modeB how = false := by rw [Bool.and_assoc, hd, Bool.and_true] at hok; exact hok
            unfold modeB at hmh
            refine call_open (dG) (by simp (disch := omega) only [go_sem]) ?_
            rintro r hs ⟨rfl, rfl, _⟩
            refine ⟨by simp [freeN], ?_⟩
            simp (disch := omega) only [go_sem]
            by_cases hh : how < 0
            · have h1 : decide (how < 0) = true := decide_eq_true hh
              simp (disch := omega) only [go_sem, h1]
              exact fin_valc (by simp (disch := omega) only [go_sem]) (by simp (disch := omega) only [go_sem]) isA_mk
            · have h1 : decide (how < 0) = false := decide_eq_false hh
              have h2 : decide (4 < how) = true := by
                refine decide_eq_true ?_
                rw [decide_eq_true (show 0 ≤ how by omega), Bool.true_and, decide_eq_false_iff_not] at hmh
                omega
              simp (disch := omega) only [go_sem, h1, h2]
              exact fin_valc (by simp (disch := omega) only [go_sem]) (by simp (disch := omega) only [go_sem]) isA_mk
        · rw [hok, if_pos rfl] at ct
          have hd : (flB G.k G.s G.m G.e && (decide (G.k = 0) || decide (G.k = 1))) = true := by rw [Bool.and_assoc, Bool.and_eq_true] at hok; exact hok.2
          have hmh : modeB how = true := by rw [Bool.and_assoc, Bool.and_eq_true] at hok; exact hok.1
          rw [hd, if_pos rfl] at dG
          rw [Bool.and_eq_true] at hd
          obtain ⟨a1, a2, a3, a4, a5, a6⟩ := flB_rng hd.1
          have hm53 : G.m.toNat < 2 ^ 53 := by omega
          have hiv := @iv_bl (xS G.k G.s) G.m.toNat G.e how hm53 a2.2
          have hz : G.m.toNat = 0 → G.e = 0 := by
            intro h0
            by_cases h1 : G.k = 1
            · have := a5 h1; omega
            · exact (a4 h1).2
          have hy := dyB_canon (xS G.k G.s) G.m.toNat G.e
          rw [dyFit_fl hm53 a2] at hy
          obtain ⟨v1, v2⟩ := @iv_dy (xS G.k G.s) G.m.toNat G.e how hz
          have v3 := @iv_sgn (xS G.k G.s) G.m.toNat G.e how hz
          have hf1 : dyFit (ivM (xS G.k G.s) G.m.toNat G.e how) 0 = true := dyFit_gen (by omega) (by omega)
          have hf2 : dyFit (roM (oS (xS G.k G.s) G.m.toNat) (oM G.m.toNat) (oE G.m.toNat G.e) 0 how) (roE (oM G.m.toNat) (oE G.m.toNat G.e) 0) = true := by
            unfold dyFit at hf1 ⊢; rw [v1, v2]; exact hf1
          have cd := con_DyRound _ _ _ how hy hmh hf2
          rw [v1, v2, v3] at cd
          have lw := len_bl hiv
          have co := con_DyOfS (roS (xS G.k G.s) G.m.toNat G.e 0 how && decide (ivM (xS G.k G.s) G.m.toNat G.e how ≠ 0)) (ivM (xS G.k G.s) G.m.toNat G.e how) 0 (wholeB_lim (by omega) (fun h => by rw [h]; simp)) (by omega)
          rw [hf1, if_pos rfl] at co
          have hlo : (lim (oM (ivM (xS G.k G.s) G.m.toNat G.e how))).length ≤ 2 ^ 40 := bit_len (Nat.le_trans (bl_mono (oM_le _)) hiv) (by omega)
          rw [show (G.s && decide (G.k = 1)) = xS G.k G.s from rfl] at dG
          refine call_open (ct) (by simp (disch := omega) only [go_sem]) ?_
          rintro r hs ⟨rfl, rfl, _⟩
          refine ⟨by simp [freeN], ?_⟩
          simp (disch := omega) only [go_sem]
          simp (disch := omega) only [go_sem, q1, q2]
          refine call_open (c1) (by simp (disch := omega) only [go_sem]) ?_
          rintro r hs ⟨rfl, rfl, _⟩
          refine ⟨by simp [freeN], ?_⟩
          simp (disch := omega) only [go_sem]
          refine draw_of rfl [⟨0, [], []⟩, ⟨1, [], []⟩, ⟨2, [], []⟩, ⟨3, [], []⟩, ⟨4, [], []⟩, ⟨5, [], []⟩, ⟨6, [], []⟩, ⟨7, [6], []⟩, ⟨8, [6], []⟩, ⟨9, [], []⟩, ⟨10, [], []⟩, ⟨11, [], []⟩, ⟨12, [], []⟩, ⟨13, [], []⟩, ⟨14, [], []⟩, ⟨15, [], []⟩, ⟨16, [], []⟩, ⟨17, [], []⟩, ⟨18, [], []⟩, ⟨19, [], []⟩, ⟨20, [], []⟩, ⟨21, [], []⟩, ⟨22, [], []⟩, ⟨23, [], []⟩, ⟨24, [], []⟩] (by kernel_rfl) ?_
          simp (disch := omega) only [go_sem, hg]
          refine call_open (cw) (by simp (disch := omega) only [go_sem]) ?_
          rintro r hs ⟨rfl, rfl, _⟩
          refine ⟨by simp [freeN], ?_⟩
          simp (disch := omega) only [go_sem]
          refine call_closed (cs1) (by simp (disch := omega) only [go_sem]) ?_
          rintro r hs ⟨rfl, rfl, _⟩
          refine ⟨by simp [freeN], ?_⟩
          simp (disch := omega) only [go_sem]
          simp (disch := omega) only [go_sem, s1, s2, hg, hg2]
          generalize (roS (xS G.k G.s) G.m.toNat G.e 0 how && decide (ivM (xS G.k G.s) G.m.toNat G.e how ≠ 0)) = W1 at *
          generalize ivM (xS G.k G.s) G.m.toNat G.e how = W2 at *
          have cs := con_sameDy (oS W1 W2) (oM W2) (oE W2 0) (oS W1 W2) (oM W2) (oE W2 0) hlo hlo
          rw [show (decide (oE W2 0 = oE W2 0) && ((oS W1 W2 == oS W1 W2) && decide (oM W2 = oM W2))) = true by simp] at cs
          refine call_open (dG) (by simp (disch := omega) only [go_sem]) ?_
          rintro r hs ⟨rfl, rfl, _⟩
          refine ⟨by simp [freeN], ?_⟩
          simp (disch := omega) only [go_sem]
          refine call_open (cd) (by simp (disch := omega) only [go_sem]) ?_
          rintro r hs ⟨rfl, rfl, _⟩
          refine ⟨by simp [freeN], ?_⟩
          simp (disch := omega) only [go_sem]
          refine call_open (co) (by simp (disch := omega) only [go_sem]) ?_
          rintro r hs ⟨rfl, rfl, _⟩
          refine ⟨by simp [freeN], ?_⟩
          simp (disch := omega) only [go_sem]
          refine call_closed (cs) (by simp (disch := omega) only [go_sem]) ?_
          rintro r hs ⟨rfl, rfl, _⟩
          refine ⟨by simp [freeN], ?_⟩
          simp (disch := omega) only [go_sem]
          exact fin_valc (by simp (disch := omega) only [go_sem]) (by simp (disch := omega) only [go_sem]) isA_mk
    · have s1 : decide (-9007199254740992 < n) = false := decide_eq_false r1
      refine call_closed (cf) (by simp (disch := omega) only [go_sem]) ?_
      rintro r hs ⟨rfl, rfl, _⟩
      refine ⟨by simp [freeN], ?_⟩
      simp (disch := omega) only [go_sem]
      refine call_open (con_DrawFlToInt l hl) (by simp (disch := omega) only [go_sem]) ?_
      rintro r hs ⟨rfl, -, ⟨G, how, rfl⟩⟩
      refine ⟨by simp [freeN], ?_⟩
      unfold FlV.cs
      simp (disch := omega) only [go_sem]
      have ct := con_FlToInt G.k G.s G.m G.e how
      have dG := con_FlDy G.k G.s G.m G.e
      cases hok : (modeB how && flB G.k G.s G.m G.e && (decide (G.k = 0) || decide (G.k = 1)))
      · rw [hok, if_neg (by simp)] at ct
        refine call_open (ct) (by simp (disch := omega) only [go_sem]) ?_
        rintro r hs ⟨rfl, rfl, _⟩
        refine ⟨by simp [freeN], ?_⟩
        simp (disch := omega) only [go_sem]
        simp (disch := omega) only [go_sem, q1, q2]
        refine call_open (c1) (by simp (disch := omega) only [go_sem]) ?_
        rintro r hs ⟨rfl, rfl, _⟩
        refine ⟨by simp [freeN], ?_⟩
        simp (disch := omega) only [go_sem]
        refine draw_of rfl [⟨0, [], []⟩, ⟨1, [], []⟩, ⟨2, [], []⟩, ⟨3, [], []⟩, ⟨4, [], []⟩, ⟨5, [], []⟩, ⟨6, [], []⟩, ⟨7, [6], []⟩, ⟨8, [6], []⟩, ⟨9, [], []⟩, ⟨10, [], []⟩, ⟨11, [], []⟩, ⟨12, [], []⟩, ⟨13, [], []⟩, ⟨14, [], []⟩, ⟨15, [], []⟩, ⟨16, [], []⟩, ⟨17, [], []⟩, ⟨18, [], []⟩, ⟨19, [], []⟩, ⟨20, [], []⟩, ⟨21, [], []⟩, ⟨22, [], []⟩, ⟨23, [], []⟩, ⟨24, [], []⟩] (by kernel_rfl) ?_
        simp (disch := omega) only [go_sem, hg]
        refine call_open (cw) (by simp (disch := omega) only [go_sem]) ?_
        rintro r hs ⟨rfl, rfl, _⟩
        refine ⟨by simp [freeN], ?_⟩
        simp (disch := omega) only [go_sem]
        refine call_closed (cs1) (by simp (disch := omega) only [go_sem]) ?_
        rintro r hs ⟨rfl, rfl, _⟩
        refine ⟨by simp [freeN], ?_⟩
        simp (disch := omega) only [go_sem]
        simp (disch := omega) only [go_sem, s1, hg, hg2]
        cases hd : (flB G.k G.s G.m G.e && (decide (G.k = 0) || decide (G.k = 1)))
        · rw [hd, if_neg (by simp)] at dG
          refine call_open (dG) (by simp (disch := omega) only [go_sem]) ?_
          rintro r hs ⟨rfl, rfl, _⟩
          refine ⟨by simp [freeN], ?_⟩
          simp (disch := omega) only [go_sem]
          exact fin_valc (by simp (disch := omega) only [go_sem]) (by simp (disch := omega) only [go_sem]) isA_mk
        · rw [hd, if_pos rfl] at dG
          have hmh : modeB how = false := by rw [Bool.and_assoc, hd, Bool.and_true] at hok; exact hok
          unfold modeB at hmh
          refine call_open (dG) (by simp (disch := omega) only [go_sem]) ?_
          rintro r hs ⟨rfl, rfl, _⟩
          refine ⟨by simp [freeN], ?_⟩
          simp (disch := omega) only [go_sem]
          by_cases hh : how < 0
          · have h1 : decide (how < 0) = true := decide_eq_true hh
            simp (disch := omega) only [go_sem, h1]
            exact fin_valc (by simp (disch := omega) only [go_sem]) (by simp (disch := omega) only [go_sem]) isA_mk
          · have h1 : decide (how < 0) = false := decide_eq_false hh
            have h2 : decide (4 < how) = true := by
              refine decide_eq_true ?_
              rw [decide_eq_true (show 0 ≤ how by omega), Bool.true_and, decide_eq_false_iff_not] at hmh
              omega
            simp (disch := omega) only [go_sem, h1, h2]
            exact fin_valc (by simp (disch := omega) only [go_sem]) (by simp (disch := omega) only [go_sem]) isA_mk
      · rw [hok, if_pos rfl] at ct
        have hd : (flB G.k G.s G.m G.e && (decide (G.k = 0) || decide (G.k = 1))) = true := by rw [Bool.and_assoc, Bool.and_eq_true] at hok; exact hok.2
        have hmh : modeB how = true := by rw [Bool.and_assoc, Bool.and_eq_true] at hok; exact hok.1
        rw [hd, if_pos rfl] at dG
        rw [Bool.and_eq_true] at hd
        obtain ⟨a1, a2, a3, a4, a5, a6⟩ := flB_rng hd.1
        have hm53 : G.m.toNat < 2 ^ 53 := by omega
        have hiv := @iv_bl (xS G.k G.s) G.m.toNat G.e how hm53 a2.2
        have hz : G.m.toNat = 0 → G.e = 0 := by
          intro h0
          by_cases h1 : G.k = 1
          · have := a5 h1; omega
          · exact (a4 h1).2
        have hy := dyB_canon (xS G.k G.s) G.m.toNat G.e
        rw [dyFit_fl hm53 a2] at hy
        obtain ⟨v1, v2⟩ := @iv_dy (xS G.k G.s) G.m.toNat G.e how hz
        have v3 := @iv_sgn (xS G.k G.s) G.m.toNat G.e how hz
        have hf1 : dyFit (ivM (xS G.k G.s) G.m.toNat G.e how) 0 = true := dyFit_gen (by omega) (by omega)
        have hf2 : dyFit (roM (oS (xS G.k G.s) G.m.toNat) (oM G.m.toNat) (oE G.m.toNat G.e) 0 how) (roE (oM G.m.toNat) (oE G.m.toNat G.e) 0) = true := by
          unfold dyFit at hf1 ⊢; rw [v1, v2]; exact hf1
        have cd := con_DyRound _ _ _ how hy hmh hf2
        rw [v1, v2, v3] at cd
        have lw := len_bl hiv
        have co := con_DyOfS (roS (xS G.k G.s) G.m.toNat G.e 0 how && decide (ivM (xS G.k G.s) G.m.toNat G.e how ≠ 0)) (ivM (xS G.k G.s) G.m.toNat G.e how) 0 (wholeB_lim (by omega) (fun h => by rw [h]; simp)) (by omega)
        rw [hf1, if_pos rfl] at co
        have hlo : (lim (oM (ivM (xS G.k G.s) G.m.toNat G.e how))).length ≤ 2 ^ 40 := bit_len (Nat.le_trans (bl_mono (oM_le _)) hiv) (by omega)
        rw [show (G.s && decide (G.k = 1)) = xS G.k G.s from rfl] at dG
        refine call_open (ct) (by simp (disch := omega) only [go_sem]) ?_
        rintro r hs ⟨rfl, rfl, _⟩
        refine ⟨by simp [freeN], ?_⟩
        simp (disch := omega) only [go_sem]
        simp (disch := omega) only [go_sem, q1, q2]
        refine call_open (c1) (by simp (disch := omega) only [go_sem]) ?_
        rintro r hs ⟨rfl, rfl, _⟩
        refine ⟨by simp [freeN], ?_⟩
        simp (disch := omega) only [go_sem]
        refine draw_of rfl [⟨0, [], []⟩, ⟨1, [], []⟩, ⟨2, [], []⟩, ⟨3, [], []⟩, ⟨4, [], []⟩, ⟨5, [], []⟩, ⟨6, [], []⟩, ⟨7, [6], []⟩, ⟨8, [6], []⟩, ⟨9, [], []⟩, ⟨10, [], []⟩, ⟨11, [], []⟩, ⟨12, [], []⟩, ⟨13, [], []⟩, ⟨14, [], []⟩, ⟨15, [], []⟩, ⟨16, [], []⟩, ⟨17, [], []⟩, ⟨18, [], []⟩, ⟨19, [], []⟩, ⟨20, [], []⟩, ⟨21, [], []⟩, ⟨22, [], []⟩, ⟨23, [], []⟩, ⟨24, [], []⟩] (by kernel_rfl) ?_
        simp (disch := omega) only [go_sem, hg]
        refine call_open (cw) (by simp (disch := omega) only [go_sem]) ?_
        rintro r hs ⟨rfl, rfl, _⟩
        refine ⟨by simp [freeN], ?_⟩
        simp (disch := omega) only [go_sem]
        refine call_closed (cs1) (by simp (disch := omega) only [go_sem]) ?_
        rintro r hs ⟨rfl, rfl, _⟩
        refine ⟨by simp [freeN], ?_⟩
        simp (disch := omega) only [go_sem]
        simp (disch := omega) only [go_sem, s1, hg, hg2]
        generalize (roS (xS G.k G.s) G.m.toNat G.e 0 how && decide (ivM (xS G.k G.s) G.m.toNat G.e how ≠ 0)) = W1 at *
        generalize ivM (xS G.k G.s) G.m.toNat G.e how = W2 at *
        have cs := con_sameDy (oS W1 W2) (oM W2) (oE W2 0) (oS W1 W2) (oM W2) (oE W2 0) hlo hlo
        rw [show (decide (oE W2 0 = oE W2 0) && ((oS W1 W2 == oS W1 W2) && decide (oM W2 = oM W2))) = true by simp] at cs
        refine call_open (dG) (by simp (disch := omega) only [go_sem]) ?_
        rintro r hs ⟨rfl, rfl, _⟩
        refine ⟨by simp [freeN], ?_⟩
        simp (disch := omega) only [go_sem]
        refine call_open (cd) (by simp (disch := omega) only [go_sem]) ?_
        rintro r hs ⟨rfl, rfl, _⟩
        refine ⟨by simp [freeN], ?_⟩
        simp (disch := omega) only [go_sem]
        refine call_open (co) (by simp (disch := omega) only [go_sem]) ?_
        rintro r hs ⟨rfl, rfl, _⟩
        refine ⟨by simp [freeN], ?_⟩
        simp (disch := omega) only [go_sem]
        refine call_closed (cs) (by simp (disch := omega) only [go_sem]) ?_
        rintro r hs ⟨rfl, rfl, _⟩
        refine ⟨by simp [freeN], ?_⟩
        simp (disch := omega) only [go_sem]
        exact fin_valc (by simp (disch := omega) only [go_sem]) (by simp (disch := omega) only [go_sem]) isA_mk
  · have hg : decide (fg = 0) = false := decide_eq_false g0
    have hg2 : decide (fg ≠ 0) = true := decide_eq_true g0
    have hbig : ¬ n.natAbs < 2 ^ 53 := fun h => g0 (lF h)
    by_cases r1 : -9007199254740992 < n
    · have s1 : decide (-9007199254740992 < n) = true := decide_eq_true r1
      have s2 : decide (n < 9007199254740992) = false := decide_eq_false (by omega)
      refine call_closed (cf) (by simp (disch := omega) only [go_sem]) ?_
      rintro r hs ⟨rfl, rfl, _⟩
      refine ⟨by simp [freeN], ?_⟩
      simp (disch := omega) only [go_sem]
      refine call_open (con_DrawFlToInt l hl) (by simp (disch := omega) only [go_sem]) ?_
      rintro r hs ⟨rfl, -, ⟨G, how, rfl⟩⟩
      refine ⟨by simp [freeN], ?_⟩
      unfold FlV.cs
      simp (disch := omega) only [go_sem]
      have ct := con_FlToInt G.k G.s G.m G.e how
      have dG := con_FlDy G.k G.s G.m G.e
      cases hok : (modeB how && flB G.k G.s G.m G.e && (decide (G.k = 0) || decide (G.k = 1)))
      · rw [hok, if_neg (by simp)] at ct
        refine call_open (ct) (by simp (disch := omega) only [go_sem]) ?_
        rintro r hs ⟨rfl, rfl, _⟩
        refine ⟨by simp [freeN], ?_⟩
        simp (disch := omega) only [go_sem]
        simp (disch := omega) only [go_sem, q1, q2]
        refine call_open (c1) (by simp (disch := omega) only [go_sem]) ?_
        rintro r hs ⟨rfl, rfl, _⟩
        refine ⟨by simp [freeN], ?_⟩
        simp (disch := omega) only [go_sem]
        refine draw_of rfl [⟨0, [], []⟩, ⟨1, [], []⟩, ⟨2, [], []⟩, ⟨3, [], []⟩, ⟨4, [], []⟩, ⟨5, [], []⟩, ⟨6, [], []⟩, ⟨7, [6], []⟩, ⟨8, [6], []⟩, ⟨9, [], []⟩, ⟨10, [], []⟩, ⟨11, [], []⟩, ⟨12, [], []⟩, ⟨13, [], []⟩, ⟨14, [], []⟩, ⟨15, [], []⟩, ⟨16, [], []⟩, ⟨17, [], []⟩, ⟨18, [], []⟩, ⟨19, [], []⟩, ⟨20, [], []⟩, ⟨21, [], []⟩, ⟨22, [], []⟩, ⟨23, [], []⟩, ⟨24, [], []⟩] (by kernel_rfl) ?_
        simp (disch := omega) only [go_sem, hg]
        simp (disch := omega) only [go_sem, s1, s2, hg, hg2]
        cases hd : (flB G.k G.s G.m G.e && (decide (G.k = 0) || decide (G.k = 1)))
        · rw [hd, if_neg (by simp)] at dG
          refine call_open (dG) (by simp (disch := omega) only [go_sem]) ?_
          rintro r hs ⟨rfl, rfl, _⟩
          refine ⟨by simp [freeN], ?_⟩
          simp (disch := omega) only [go_sem]
          exact fin_valc (by simp (disch := omega) only [go_sem]) (by simp (disch := omega) only [go_sem]) isA_mk
        · rw [hd, if_pos rfl] at dG
          have hmh : modeB how = false := by rw [Bool.and_assoc, hd, Bool.and_true] at hok; exact hok
          unfold modeB at hmh
          refine call_open (dG) (by simp (disch := omega) only [go_sem]) ?_
          rintro r hs ⟨rfl, rfl, _⟩
          refine ⟨by simp [freeN], ?_⟩
          simp (disch := omega) only [go_sem]
          by_cases hh : how < 0
          · have h1 : decide (how < 0) = true := decide_eq_true hh
            simp (disch := omega) only [go_sem, h1]
            exact fin_valc (by simp (disch := omega) only [go_sem]) (by simp (disch := omega) only [go_sem]) isA_mk
          · have h1 : decide (how < 0) = false := decide_eq_false hh
            have h2 : decide (4 < how) = true := by
              refine decide_eq_true ?_
              rw [decide_eq_true (show 0 ≤ how by omega), Bool.true_and, decide_eq_false_iff_not] at hmh
              omega
            simp (disch := omega) only [go_sem, h1, h2]
            exact fin_valc (by simp (disch := omega) only [go_sem]) (by simp (disch := omega) only [go_sem]) isA_mk
      · rw [hok, if_pos rfl] at ct
        have hd : (flB G.k G.s G.m G.e && (decide (G.k = 0) || decide (G.k = 1))) = true := by rw [Bool.and_assoc, Bool.and_eq_true] at hok; exact hok.2
        have hmh : modeB how = true := by rw [Bool.and_assoc, Bool.and_eq_true] at hok; exact hok.1
        rw [hd, if_pos rfl] at dG
        rw [Bool.and_eq_true] at hd
        obtain ⟨a1, a2, a3, a4, a5, a6⟩ := flB_rng hd.1
        have hm53 : G.m.toNat < 2 ^ 53 := by omega
        have hiv := @iv_bl (xS G.k G.s) G.m.toNat G.e how hm53 a2.2
        have hz : G.m.toNat = 0 → G.e = 0 := by
          intro h0
          by_cases h1 : G.k = 1
          · have := a5 h1; omega
          · exact (a4 h1).2
        have hy := dyB_canon (xS G.k G.s) G.m.toNat G.e
        rw [dyFit_fl hm53 a2] at hy
        obtain ⟨v1, v2⟩ := @iv_dy (xS G.k G.s) G.m.toNat G.e how hz
        have v3 := @iv_sgn (xS G.k G.s) G.m.toNat G.e how hz
        have hf1 : dyFit (ivM (xS G.k G.s) G.m.toNat G.e how) 0 = true := dyFit_gen (by omega) (by omega)
        have hf2 : dyFit (roM (oS (xS G.k G.s) G.m.toNat) (oM G.m.toNat) (oE G.m.toNat G.e) 0 how) (roE (oM G.m.toNat) (oE G.m.toNat G.e) 0) = true := by
          unfold dyFit at hf1 ⊢; rw [v1, v2]; exact hf1
        have cd := con_DyRound _ _ _ how hy hmh hf2
        rw [v1, v2, v3] at cd
        have lw := len_bl hiv
        have co := con_DyOfS (roS (xS G.k G.s) G.m.toNat G.e 0 how && decide (ivM (xS G.k G.s) G.m.toNat G.e how ≠ 0)) (ivM (xS G.k G.s) G.m.toNat G.e how) 0 (wholeB_lim (by omega) (fun h => by rw [h]; simp)) (by omega)
        rw [hf1, if_pos rfl] at co
        have hlo : (lim (oM (ivM (xS G.k G.s) G.m.toNat G.e how))).length ≤ 2 ^ 40 := bit_len (Nat.le_trans (bl_mono (oM_le _)) hiv) (by omega)
        rw [show (G.s && decide (G.k = 1)) = xS G.k G.s from rfl] at dG
        refine call_open (ct) (by simp (disch := omega) only [go_sem]) ?_
        rintro r hs ⟨rfl, rfl, _⟩
        refine ⟨by simp [freeN], ?_⟩
        simp (disch := omega) only [go_sem]
        simp (disch := omega) only [go_sem, q1, q2]
        refine call_open (c1) (by simp (disch := omega) only [go_sem]) ?_
        rintro r hs ⟨rfl, rfl, _⟩
        refine ⟨by simp [freeN], ?_⟩
        simp (disch := omega) only [go_sem]
        refine draw_of rfl [⟨0, [], []⟩, ⟨1, [], []⟩, ⟨2, [], []⟩, ⟨3, [], []⟩, ⟨4, [], []⟩, ⟨5, [], []⟩, ⟨6, [], []⟩, ⟨7, [6], []⟩, ⟨8, [6], []⟩, ⟨9, [], []⟩, ⟨10, [], []⟩, ⟨11, [], []⟩, ⟨12, [], []⟩, ⟨13, [], []⟩, ⟨14, [], []⟩, ⟨15, [], []⟩, ⟨16, [], []⟩, ⟨17, [], []⟩, ⟨18, [], []⟩, ⟨19, [], []⟩, ⟨20, [], []⟩, ⟨21, [], []⟩, ⟨22, [], []⟩, ⟨23, [], []⟩, ⟨24, [], []⟩] (by kernel_rfl) ?_
        simp (disch := omega) only [go_sem, hg]
        simp (disch := omega) only [go_sem, s1, s2, hg, hg2]
        generalize (roS (xS G.k G.s) G.m.toNat G.e 0 how && decide (ivM (xS G.k G.s) G.m.toNat G.e how ≠ 0)) = W1 at *
        generalize ivM (xS G.k G.s) G.m.toNat G.e how = W2 at *
        have cs := con_sameDy (oS W1 W2) (oM W2) (oE W2 0) (oS W1 W2) (oM W2) (oE W2 0) hlo hlo
        rw [show (decide (oE W2 0 = oE W2 0) && ((oS W1 W2 == oS W1 W2) && decide (oM W2 = oM W2))) = true by simp] at cs
        refine call_open (dG) (by simp (disch := omega) only [go_sem]) ?_
        rintro r hs ⟨rfl, rfl, _⟩
        refine ⟨by simp [freeN], ?_⟩
        simp (disch := omega) only [go_sem]
        refine call_open (cd) (by simp (disch := omega) only [go_sem]) ?_
        rintro r hs ⟨rfl, rfl, _⟩
        refine ⟨by simp [freeN], ?_⟩
        simp (disch := omega) only [go_sem]
        refine call_open (co) (by simp (disch := omega) only [go_sem]) ?_
        rintro r hs ⟨rfl, rfl, _⟩
        refine ⟨by simp [freeN], ?_⟩
        simp (disch := omega) only [go_sem]
        refine call_closed (cs) (by simp (disch := omega) only [go_sem]) ?_
        rintro r hs ⟨rfl, rfl, _⟩
        refine ⟨by simp [freeN], ?_⟩
        simp (disch := omega) only [go_sem]
        exact fin_valc (by simp (disch := omega) only [go_sem]) (by simp (disch := omega) only [go_sem]) isA_mk
    · have s1 : decide (-9007199254740992 < n) = false := decide_eq_false r1
      refine call_closed (cf) (by simp (disch := omega) only [go_sem]) ?_
      rintro r hs ⟨rfl, rfl, _⟩
      refine ⟨by simp [freeN], ?_⟩
      simp (disch := omega) only [go_sem]
      refine call_open (con_DrawFlToInt l hl) (by simp (disch := omega) only [go_sem]) ?_
      rintro r hs ⟨rfl, -, ⟨G, how, rfl⟩⟩
      refine ⟨by simp [freeN], ?_⟩
      unfold FlV.cs
      simp (disch := omega) only [go_sem]
      have ct := con_FlToInt G.k G.s G.m G.e how
      have dG := con_FlDy G.k G.s G.m G.e
      cases hok : (modeB how && flB G.k G.s G.m G.e && (decide (G.k = 0) || decide (G.k = 1)))
      · rw [hok, if_neg (by simp)] at ct
        refine call_open (ct) (by simp (disch := omega) only [go_sem]) ?_
        rintro r hs ⟨rfl, rfl, _⟩
        refine ⟨by simp [freeN], ?_⟩
        simp (disch := omega) only [go_sem]
        simp (disch := omega) only [go_sem, q1, q2]
        refine call_open (c1) (by simp (disch := omega) only [go_sem]) ?_
        rintro r hs ⟨rfl, rfl, _⟩
        refine ⟨by simp [freeN], ?_⟩
        simp (disch := omega) only [go_sem]
        refine draw_of rfl [⟨0, [], []⟩, ⟨1, [], []⟩, ⟨2, [], []⟩, ⟨3, [], []⟩, ⟨4, [], []⟩, ⟨5, [], []⟩, ⟨6, [], []⟩, ⟨7, [6], []⟩, ⟨8, [6], []⟩, ⟨9, [], []⟩, ⟨10, [], []⟩, ⟨11, [], []⟩, ⟨12, [], []⟩, ⟨13, [], []⟩, ⟨14, [], []⟩, ⟨15, [], []⟩, ⟨16, [], []⟩, ⟨17, [], []⟩, ⟨18, [], []⟩, ⟨19, [], []⟩, ⟨20, [], []⟩, ⟨21, [], []⟩, ⟨22, [], []⟩, ⟨23, [], []⟩, ⟨24, [], []⟩] (by kernel_rfl) ?_
        simp (disch := omega) only [go_sem, hg]
        simp (disch := omega) only [go_sem, s1, hg, hg2]
        cases hd : (flB G.k G.s G.m G.e && (decide (G.k = 0) || decide (G.k = 1)))
        · rw [hd, if_neg (by simp)] at dG
          refine call_open (dG) (by simp (disch := omega) only [go_sem]) ?_
          rintro r hs ⟨rfl, rfl, _⟩
          refine ⟨by simp [freeN], ?_⟩
          simp (disch := omega) only [go_sem]
          exact fin_valc (by simp (disch := omega) only [go_sem]) (by simp (disch := omega) only [go_sem]) isA_mk
        · rw [hd, if_pos rfl] at dG
          have hmh : modeB how = false := by rw [Bool.and_assoc, hd, Bool.and_true] at hok; exact hok
          unfold modeB at hmh
          refine call_open (dG) (by simp (disch := omega) only [go_sem]) ?_
          rintro r hs ⟨rfl, rfl, _⟩
          refine ⟨by simp [freeN], ?_⟩
          simp (disch := omega) only [go_sem]
          by_cases hh : how < 0
          · have h1 : decide (how < 0) = true := decide_eq_true hh
            simp (disch := omega) only [go_sem, h1]
            exact fin_valc (by simp (disch := omega) only [go_sem]) (by simp (disch := omega) only [go_sem]) isA_mk
          · have h1 : decide (how < 0) = false := decide_eq_false hh
            have h2 : decide (4 < how) = true := by
              refine decide_eq_true ?_
              rw [decide_eq_true (show 0 ≤ how by omega), Bool.true_and, decide_eq_false_iff_not] at hmh
              omega
            simp (disch := omega) only [go_sem, h1, h2]
            exact fin_valc (by simp (disch := omega) only [go_sem]) (by simp (disch := omega) only [go_sem]) isA_mk
      · rw [hok, if_pos rfl] at ct
        have hd : (flB G.k G.s G.m G.e && (decide (G.k = 0) || decide (G.k = 1))) = true := by rw [Bool.and_assoc, Bool.and_eq_true] at hok; exact hok.2
        have hmh : modeB how = true := by rw [Bool.and_assoc, Bool.and_eq_true] at hok; exact hok.1
        rw [hd, if_pos rfl] at dG
        rw [Bool.and_eq_true] at hd
        obtain ⟨a1, a2, a3, a4, a5, a6⟩ := flB_rng hd.1
        have hm53 : G.m.toNat < 2 ^ 53 := by omega
        have hiv := @iv_bl (xS G.k G.s) G.m.toNat G.e how hm53 a2.2
        have hz : G.m.toNat = 0 → G.e = 0 := by
          intro h0
          by_cases h1 : G.k = 1
          · have := a5 h1; omega
          · exact (a4 h1).2
        have hy := dyB_canon (xS G.k G.s) G.m.toNat G.e
        rw [dyFit_fl hm53 a2] at hy
        obtain ⟨v1, v2⟩ := @iv_dy (xS G.k G.s) G.m.toNat G.e how hz
        have v3 := @iv_sgn (xS G.k G.s) G.m.toNat G.e how hz
        have hf1 : dyFit (ivM (xS G.k G.s) G.m.toNat G.e how) 0 = true := dyFit_gen (by omega) (by omega)
        have hf2 : dyFit (roM (oS (xS G.k G.s) G.m.toNat) (oM G.m.toNat) (oE G.m.toNat G.e) 0 how) (roE (oM G.m.toNat) (oE G.m.toNat G.e) 0) = true := by
          unfold dyFit at hf1 ⊢; rw [v1, v2]; exact hf1
        have cd := con_DyRound _ _ _ how hy hmh hf2
        rw [v1, v2, v3] at cd
        have lw := len_bl hiv
        have co := con_DyOfS (roS (xS G.k G.s) G.m.toNat G.e 0 how && decide (ivM (xS G.k G.s) G.m.toNat G.e how ≠ 0)) (ivM (xS G.k G.s) G.m.toNat G.e how) 0 (wholeB_lim (by omega) (fun h => by rw [h]; simp)) (by omega)
        rw [hf1, if_pos rfl] at co
        have hlo : (lim (oM (ivM (xS G.k G.s) G.m.toNat G.e how))).length ≤ 2 ^ 40 := bit_len (Nat.le_trans (bl_mono (oM_le _)) hiv) (by omega)
        rw [show (G.s && decide (G.k = 1)) = xS G.k G.s from rfl] at dG
        refine call_open (ct) (by simp (disch := omega) only [go_sem]) ?_
        rintro r hs ⟨rfl, rfl, _⟩
        refine ⟨by simp [freeN], ?_⟩
        simp (disch := omega) only [go_sem]
        simp (disch := omega) only [go_sem, q1, q2]
        refine call_open (c1) (by simp (disch := omega) only [go_sem]) ?_
        rintro r hs ⟨rfl, rfl, _⟩
        refine ⟨by simp [freeN], ?_⟩
        simp (disch := omega) only [go_sem]
        refine draw_of rfl [⟨0, [], []⟩, ⟨1, [], []⟩, ⟨2, [], []⟩, ⟨3, [], []⟩, ⟨4, [], []⟩, ⟨5, [], []⟩, ⟨6, [], []⟩, ⟨7, [6], []⟩, ⟨8, [6], []⟩, ⟨9, [], []⟩, ⟨10, [], []⟩, ⟨11, [], []⟩, ⟨12, [], []⟩, ⟨13, [], []⟩, ⟨14, [], []⟩, ⟨15, [], []⟩, ⟨16, [], []⟩, ⟨17, [], []⟩, ⟨18, [], []⟩, ⟨19, [], []⟩, ⟨20, [], []⟩, ⟨21, [], []⟩, ⟨22, [], []⟩, ⟨23, [], []⟩, ⟨24, [], []⟩] (by kernel_rfl) ?_
        simp (disch := omega) only [go_sem, hg]
        simp (disch := omega) only [go_sem, s1, hg, hg2]
        generalize (roS (xS G.k G.s) G.m.toNat G.e 0 how && decide (ivM (xS G.k G.s) G.m.toNat G.e how ≠ 0)) = W1 at *
        generalize ivM (xS G.k G.s) G.m.toNat G.e how = W2 at *
        have cs := con_sameDy (oS W1 W2) (oM W2) (oE W2 0) (oS W1 W2) (oM W2) (oE W2 0) hlo hlo
        rw [show (decide (oE W2 0 = oE W2 0) && ((oS W1 W2 == oS W1 W2) && decide (oM W2 = oM W2))) = true by simp] at cs
        refine call_open (dG) (by simp (disch := omega) only [go_sem]) ?_
        rintro r hs ⟨rfl, rfl, _⟩
        refine ⟨by simp [freeN], ?_⟩
        simp (disch := omega) only [go_sem]
        refine call_open (cd) (by simp (disch := omega) only [go_sem]) ?_
        rintro r hs ⟨rfl, rfl, _⟩
        refine ⟨by simp [freeN], ?_⟩
        simp (disch := omega) only [go_sem]
        refine call_open (co) (by simp (disch := omega) only [go_sem]) ?_
        rintro r hs ⟨rfl, rfl, _⟩
        refine ⟨by simp [freeN], ?_⟩
        simp (disch := omega) only [go_sem]
        refine call_closed (cs) (by simp (disch := omega) only [go_sem]) ?_
        rintro r hs ⟨rfl, rfl, _⟩
        refine ⟨by simp [freeN], ?_⟩
        simp (disch := omega) only [go_sem]
        exact fin_valc (by simp (disch := omega) only [go_sem]) (by simp (disch := omega) only [go_sem]) isA_mk
end Go.Ab
namespace Go.Proofs.YtkmldlminmlcnaaGreatDoor
open Go.ChangeShapes Go.WideShapes Go.ChangeAt Go.RowKit Go.Ab

theorem own : ownKnob Tryz.prog.godebug = none := by kernel_rfl
theorem laidOut : laidOutB Tryz.prog = true := by kernel_rfl
theorem tabs_g1 : Tryz.prog.globalNamed "math/bits.deBruijn64tab" = some 1 := by kernel_rfl
theorem tabs_t1 : (Tryz.prog.globals[1]?).map (·.type) = some 164 := by kernel_rfl
theorem tabs_u1 : Tryz.prog.underlying 164 = some (.array 64 5) := by kernel_rfl
theorem tabs_e1 : Tryz.prog.underlying 5 = some (.int .u8) := by kernel_rfl
theorem tabs_c1 : Tryz.prog.cellsOf 5 = 1 := by kernel_rfl
theorem tabs_k1 : Tryz.prog.cellsOf 164 = 64 := by kernel_rfl
noncomputable def laidList : List (String × DataW Unit) := [("math/bits.deBruijn32tab", Rows.laid_math_bits_deBruijn32tab), ("math/bits.deBruijn64tab", Rows.laid_math_bits_deBruijn64tab)]

theorem tabs_gd {W : World} (h : laidMetH Tryz.prog laidList W) : Gd W := by
  have h' : laidMet Tryz.prog laidList W := h
  have h2 : laidMet Tryz.prog [("math/bits.deBruijn64tab", Lib.tabData .u8 (Lib.deBruijn64tab.map Int.ofNat))] W := laidMet.tail h'
  have hT := Lib.tabIs_of_head tabs_g1 tabs_t1 tabs_u1 tabs_e1 tabs_c1 tabs_k1 h2
  intro g l hg
  unfold glb at hg
  split at hg
  · rename_i e
    subst e
    cases hg
    have hc : ∀ i, i < Lib.deBruijn64tab.length → W.cell? ⟨1, i, none⟩ = some (.int .u8 ((Lib.deBruijn64tab.getD i 0 : Nat) : Int)) := fun i hi => by
      have := hT.cell tabs_g1 i (by simpa using hi)
      rw [this]
      simp [List.getD, hi]
    exact ⟨cell_blk (hc 0 (by decide)), hc⟩
  · cases hg

/-- A world that meets the condition: the settled one, the tables laid. -/
noncomputable def laidWorld (os : Os) : World :=
  let w0 := World.holding Tryz.prog os ⟨#[], #[], []⟩
  { w0 with heap := (w0.heap.modify 1 fun
      | .cells _ t frozen => .cells (Lib.deBruijn64tab.map fun z => Value.int .u8 (Int.ofNat z)).toArray t frozen
      | o => o).modify 0 fun
      | .cells _ t frozen => .cells (Lib.deBruijn32tab.map fun z => Value.int .u8 (Int.ofNat z)).toArray t frozen
      | o => o }
theorem laidWorld_met (os : Os) (args : Array Value) : laidMetH Tryz.prog laidList ((laidWorld os).forCall (fun _ _ => 0) ⟨#[], args, []⟩).memory :=
  laidMetH_of_parts (laidMet_of_run' 8 (by kernel_rfl) (by kernel_rfl)) (by kernel_rfl)
end Go.Proofs.YtkmldlminmlcnaaGreatDoor
namespace Go.Ab
open Go
set_option linter.unusedVariables false

/-- A slice of bytes, read. -/
theorem frep_bytes {R : Nat → Prop} {W : World} {a : Addr} {len cap : Nat} {zs : List Int} (hle : len ≤ cap) (hz : zs.length = cap) (hc : ∀ i, i < zs.length → W.cell? (a.add i) = some (.int .u8 (zs.getD i 0))) (hw : ∀ n ∈ zs, 0 ≤ n ∧ n < 256) (hR : ∀ b, b < W.heap.size → R b) :
    FRep R W (.slice (some a) len cap) (.sl ((zs.take len).map fun n => UInt8.ofNat n.toNat).length (bytesA ((zs.take len).map fun n => UInt8.ofNat n.toNat))) := by
  have hl : ((zs.take len).map fun n => UInt8.ofNat n.toNat).length = len := by rw [List.length_map, List.length_take]; omega
  have hil : (bytesA ((zs.take len).map fun n => UInt8.ofNat n.toNat)).length = len := by unfold bytesA; rw [List.length_map, hl]
  rw [hl]
  obtain ⟨b, o, sp⟩ := a
  have hsp : 0 < len → sp = none := fun h0 => by
    have h1 := World.cell?_spot (hc 0 (by omega))
    simpa [Addr.add] using h1
  refine .sl _ len cap _ (fun i => .int .u8 (zs.getD i 0)) b o hle (fun h0 => ?_) (fun i hi => ?_) (fun i hi => ?_)
  · have hs := hsp (by omega)
    subst hs
    exact ⟨rfl, hR _ (cell_blk (hc 0 (by omega)))⟩
  · have hs := hsp (by omega)
    subst hs
    have h1 := hc i (by omega)
    rw [add_at] at h1
    exact h1
  · have : (bytesA ((zs.take len).map fun n => UInt8.ofNat n.toNat))[i] = .v (.int .u8 (zs.getD i 0)) := by
      have hi2 : i < zs.length := by omega
      have hm := hw zs[i] (List.getElem_mem hi2)
      simp only [bytesA, List.getElem_map, List.getElem_take, List.getD_eq_getElem?_getD]
      rw [List.getElem?_eq_getElem hi2]
      simp only [Option.getD_some]
      congr 2
      rw [UInt8.toNat_ofNat']
      omega
    rw [this]
    exact .v _

theorem lit_u8 {n : Int} (h : (Lit.int .u8 n).wf = true) : 0 ≤ n ∧ n < 256 := by
  have h' : IntKind.u8.min ≤ n ∧ n ≤ IntKind.u8.max := by simpa [Lit.wf] using h
  have h1 : IntKind.u8.min = 0 := rfl
  have h2 : IntKind.u8.max = 255 := rfl
  omega

theorem open_bs {H : Type} {enc : TypeId × Value → H} {P : Program} {W : World} {t e fuel : Nat} {cs : List Value} {x : DataW H × List MemPlace} (ht : P.underlying t = some (.slice e)) (he : P.underlying e = some (.int .u8)) (hc : P.cellsOf e = 1)
    (h : DataW.trod enc P W 0 (fun _ => true) true fuel t cs = some x) :
    ∃ (v : Value) (l : List UInt8), cs = [v] ∧ l.length ≤ maxLen ∧ FRep (fun b => b < W.heap.size) W v (.sl l.length (bytesA l)) := by
  rcases ChangeShapes.open_ints ht he hc h with ⟨rfl, _⟩ | ⟨a, len, cap, zs, rfl, _, hl, hm, hz, _, hcell, hwf⟩
  · exact ⟨_, [], rfl, Nat.zero_le _, frep_nil⟩
  · rw [if_pos rfl] at hz
    refine ⟨_, _, rfl, ?_, frep_bytes hl hz hcell (fun n hn => lit_u8 (hwf n hn)) (fun _ h => h)⟩
    rw [List.length_map, List.length_take]; omega

theorem repA_one {R : Nat → Prop} {ι : Nat → Option Blk} {w : World} {x : Value} {a : AV} (h1 : Rep R ι w x a) : RepA R ι w #[x] [a] :=
  ⟨rfl, fun i h => match i, h with
    | 0, _ => h1⟩
end Go.Ab
