/- What the proof of this claim stands on: the walks of the functions and the plain laws, part 5. -/
import Derived.Test.YtkmldlminmlcnaaGreatDoorFnNextsLib4
import Derived.Laws.StructEq
import Derived.Test.YtkmldlminmlcnaaGreatDoorRows
import Derived.Test.YtkmldlminmlcnaaGreatDoorCards
import Derived.Test.YtkmldlminmlcnaaGreatDoorTie
import Derived.Handed
import Derived.ChangeSame
import Derived.JoinedOf
import Derived.RowKit
import Derived.WalkKit
import Derived.ProofKit
import Derived.OpenShut
import Derived.LaidLaws
import Derived.LaidHandle
import Derived.SevenTiedAt
import Derived.Stop.LaidErr
import Derived.Lib.LaidTab
namespace Go.Ab
open Go Go.Proofs
set_option linter.unusedVariables false
set_option linter.unusedSimpArgs false

theorem con_l5nan : Con Tryz.prog 113 true [] [] (isA (.ag [.v (.int .i64 (3)), .v (.bool (false)), .v (.int .i64 (0)), .v (.int .i64 (0))])) := by
  refine Con.of_aw Tryz.func113 rfl Tryz.ntmps113 (by simp) (by simp) (by simp) (W.sound ?_)
  show @W Tryz.prog 2 ⟨_⟩ ⟨fun x σ => @retW _ _ _ ⟨_⟩ _ ⟨_⟩ x σ⟩ _ _
  simp (disch := omega) only [go_sem]
  exact fin_valc (by simp (disch := omega) only [go_sem]) (by simp (disch := omega) only [go_sem]) isA_mk

theorem con_l5most (s : Bool) : Con Tryz.prog 136 true [.v (.bool s)] [] (isA (.ag [.v (.int .i64 (1)), .v (.bool (s)), .v (.int .i64 (9007199254740991)), .v (.int .i64 (971))])) := by
  refine Con.of_aw Tryz.func136 rfl Tryz.ntmps136 (by simp) (by simp) (by simp) (W.sound ?_)
  show @W Tryz.prog 5 ⟨_⟩ ⟨fun x σ => @retW _ _ _ ⟨_⟩ _ ⟨_⟩ x σ⟩ _ _
  simp (disch := omega) only [go_sem]
  exact fin_valc (by simp (disch := omega) only [go_sem]) (by simp (disch := omega) only [go_sem]) isA_mk

theorem sr_eq {s : Bool} {m : Nat} {e low mode : Int} (hodd : m % 2 = 1) : srM s m e low mode = oM (roM s m e low mode) ∧ srE s m e low mode = oE (roM s m e low mode) (roE m e low) := by
  refine ⟨rfl, ?_⟩
  unfold srE
  by_cases h : low ≤ e ∨ m = 0
  · have h0 : m ≠ 0 := fun e => by omega
    rw [if_pos h]
    unfold roM roE oE
    rw [if_pos h, if_pos h, if_neg h0, tz_odd hodd]; simp
  · rw [if_neg h]
    unfold roE
    rw [if_neg h]

theorem roS_eq {s : Bool} {m : Nat} {e low mode : Int} (h : roM s m e low mode ≠ 0) : oS (roS s m e low mode) (roM s m e low mode) = s := by
  unfold oS; rw [if_neg h]
  unfold roS roM at *
  by_cases hc : low ≤ e ∨ m = 0
  · rw [if_pos hc]
  · rw [if_neg hc] at h ⊢
    simp [h]

theorem oE_bnd {m : Nat} {e : Int} {B : Nat} (h : bl m ≤ B) (he : -1000000 ≤ e ∧ e ≤ 1000000) : -1000000 ≤ oE m e ∧ oE m e ≤ 1000000 + B := by
  unfold oE
  by_cases h0 : m = 0
  · rw [if_pos h0]; omega
  · rw [if_neg h0]; have := tz_lt_bl h0; omega

set_option maxRecDepth 100000 in
set_option maxHeartbeats 1000000 in
theorem con_l5round (s : Bool) (m : Nat) (e mode : Int) (z : Bool) (hodd : m % 2 = 1 ∨ m = 0) (hs : m = 0 → s = false) (hmode : 0 ≤ mode ∧ mode ≤ 4) (hm : bl m ≤ 100000) (he : -100000 ≤ e ∧ e ≤ 100000) :
    Con Tryz.prog 119 true [.ag [.v (.bool (s)), .sl (lim (m)).length (ints (lim (m))), .v (.int .i64 (e))], .v (.int .i64 mode), .v (.bool z)] []
      (isA (.tu [.ag [.v (.int .i64 ((flV s m e mode z).k)), .v (.bool ((flV s m e mode z).s)), .v (.int .i64 ((flV s m e mode z).m)), .v (.int .i64 ((flV s m e mode z).e))], .v (.int .i64 (flG s m e mode))])) := by
  have hl := len_bl hm
  refine Con.of_aw Tryz.func119 rfl Tryz.ntmps119 (by simp) (by simp) (by simp) (W.sound ?_)
  show @W Tryz.prog 105 ⟨_⟩ ⟨fun x σ => @retW _ _ _ ⟨_⟩ _ ⟨_⟩ x σ⟩ _ _
  simp (disch := omega) only [go_sem]
  refine ifW_dec (fun h1 => ?_) (fun h1 => ?_)
  · have h0 : m = 0 := lim_eq_nil.1 (List.length_eq_zero_iff.1 (by omega))
    simp (disch := omega) only [go_sem, h1]
    refine fin_valc (by simp (disch := omega) only [go_sem]) (by simp (disch := omega) only [go_sem]) ⟨?_, rfl, rfl⟩
    simp only [tupA, flV, flG, h0, if_true]
  · have h0 : m ≠ 0 := fun e => h1 (by rw [e, lim_zero]; rfl)
    have hod : m % 2 = 1 := hodd.resolve_right h0
    simp (disch := omega) only [go_sem, h1]
    have etop : (if m = 0 then (0 : Int) else e + (bl m : Int)) = (bl m : Int) + e := by rw [if_neg h0]; omega
    refine call_closed (con_l4top s m e (by omega) (by omega)) (by simp (disch := omega) only [go_sem, etop]) ?_
    rintro r hs ⟨rfl, rfl, _⟩
    refine ⟨by simp [freeN], ?_⟩
    simp (disch := omega) only [go_sem]
    simp (disch := omega) only [go_sem, etop]
    have hL0 : flLow ((bl m : Int) + e) = (if -1074 > (bl m : Int) + e - 53 then -1074 else (bl m : Int) + e - 53) := rfl
    have hVG : ∀ (k mm ee fg : Int), flK s mode (roM s m e (flLow (bl m + e)) mode) (roE m e (flLow (bl m + e))) = k → flMm s mode (roM s m e (flLow (bl m + e)) mode) (roE m e (flLow (bl m + e))) = mm → flEe s mode (roM s m e (flLow (bl m + e)) mode) (roE m e (flLow (bl m + e))) = ee →
        flFl (bl m + e) (roX m e (flLow (bl m + e))) (roM s m e (flLow (bl m + e)) mode) (roE m e (flLow (bl m + e))) = fg →
        AV.tu [.ag [.v (.int .i64 k), .v (.bool s), .v (.int .i64 mm), .v (.int .i64 ee)], .v (.int .i64 fg)] = .tu [.ag [.v (.int .i64 ((flV s m e mode z).k)), .v (.bool ((flV s m e mode z).s)), .v (.int .i64 ((flV s m e mode z).m)), .v (.int .i64 ((flV s m e mode z).e))], .v (.int .i64 (flG s m e mode))] := by
      intro k mm ee fg g1 g2 g3 g4
      unfold flV flG
      rw [if_neg h0, if_neg h0, g1, g2, g3, g4]
    have hform := ro_form (s := s) (m := m) (e := e) (mode := mode) h0
    refine ifW_dec (fun h2 => ?_) (fun h2 => ?_)
    · have hL : flLow ((bl m : Int) + e) = -1074 := by unfold flLow; rw [if_pos (by omega)]
      simp (disch := omega) only [go_sem, h2]
      have hbl := ro_bl (s := s) (e := e) (low := -1074) (mode := mode) hm
      have hroE : -1000000 ≤ roE m e (-1074) ∧ roE m e (-1074) ≤ 1000000 := by unfold roE; split <;> omega
      obtain ⟨q1, q2⟩ := sr_eq (s := s) (e := e) (low := -1074) (mode := mode) hod
      have q3 := roS_eq (s := s) (m := m) (e := e) (low := -1074) (mode := mode)
      refine call_open (con_l4round s m e (-1074) mode hodd hs hmode (by omega) (by omega) (by omega)) (by simp (disch := omega) only [go_sem, etop]) ?_
      rintro r hs ⟨rfl, rfl, _⟩
      refine ⟨by simp [freeN], ?_⟩
      simp (disch := omega) only [go_sem]
      rw [hL] at hVG hform
      generalize srM s m e (-1074) mode = xm at *
      generalize srE s m e (-1074) mode = xe at *
      generalize oS (roS s m e (-1074) mode) (roM s m e (-1074) mode) = xs at *
      generalize hrm : roM s m e (-1074) mode = rm at *
      generalize hre : roE m e (-1074) = re at *
      generalize hrx : roX m e (-1074) = same at *
      have hxm0 : ((lim xm).length : Int) = 0 ↔ rm = 0 := by rw [q1, ← oM_eq_zero]; exact ⟨fun h => lim_eq_nil.1 (List.length_eq_zero_iff.1 (by omega)), fun h => by rw [h, lim_zero]; rfl⟩
      have hxmb : bl xm ≤ 100001 := by rw [q1]; exact Nat.le_trans (bl_mono (oM_le rm)) hbl
      have lxm := len_bl hxmb
      have hxeb : -2000000 ≤ xe ∧ xe ≤ 2000000 := by have := oE_bnd hbl hroE; omega
      have etop2 : rm ≠ 0 → (if xm = 0 then (0 : Int) else xe + (bl xm : Int)) = (bl rm : Int) + re := fun h => by
        have h2 := bl_oM h
        have h3 : xm ≠ 0 := by rw [q1]; exact fun e => h (oM_eq_zero.1 e)
        rw [if_neg h3, q2, q1]; unfold oE; rw [if_neg h]; omega
      refine ifW_nb (fun h3 => ?_) (fun h3 => ?_)
      · simp (disch := omega) only [go_sem, h3]
        refine call_closed (con_l4top s m e (by omega) (by omega)) (by simp (disch := omega) only [go_sem, etop]) ?_
        rintro r hs ⟨rfl, rfl, _⟩
        refine ⟨by simp [freeN], ?_⟩
        simp (disch := omega) only [go_sem]
        simp (disch := omega) only [go_sem, etop]
        refine ifW_dec (fun h4 => ?_) (fun h4 => ?_)
        · have hfl : flFlags (bl m + e) same = 5 := by unfold flFlags; rw [h3, if_neg (by simp), if_pos (by omega)]
          have e5 : ((1 ||| 4 : Nat) : Int) = 5 := rfl
          simp (disch := omega) only [go_sem, h4, e5]
          refine ifW_dec (fun h5 => ?_) (fun h5 => ?_)
          · have hr0 : rm = 0 := hxm0.1 h5
            simp (disch := omega) only [go_sem, h5]
            refine fin_valc (by simp (disch := omega) only [go_sem]) (by simp (disch := omega) only [go_sem]) ⟨?_, rfl, rfl⟩
            refine hVG 0 0 0 5 (by simp [flK, hr0]) (by simp [flMm, hr0]) (by simp [flEe, hr0]) (by simp [flFl, hr0, hfl])
          · have hr0 : rm ≠ 0 := fun e => h5 (hxm0.2 e)
            have et2 := etop2 hr0
            have hxs : xs = s := q3 hr0
            have hff := hform hr0
            have hM := flM_lt hr0 hff
            simp (disch := omega) only [go_sem, h5]
            refine call_closed (con_l4top xs xm xe (by omega) (by omega)) (by simp (disch := omega) only [go_sem, et2]) ?_
            rintro r hs ⟨rfl, rfl, _⟩
            refine ⟨by simp [freeN], ?_⟩
            simp (disch := omega) only [go_sem]
            simp (disch := omega) only [go_sem, et2]
            refine ifW_dec (fun h6 => ?_) (fun h6 => ?_)
            · have hov : ∀ (k mm ee : Int), k = (if ovB s mode then 1 else 2) → mm = (if ovB s mode then 9007199254740991 else 0) → ee = (if ovB s mode then 971 else 0) → AV.tu [.ag [.v (.int .i64 k), .v (.bool s), .v (.int .i64 mm), .v (.int .i64 ee)], .v (.int .i64 3)] = .tu [.ag [.v (.int .i64 ((flV s m e mode z).k)), .v (.bool ((flV s m e mode z).s)), .v (.int .i64 ((flV s m e mode z).m)), .v (.int .i64 ((flV s m e mode z).e))], .v (.int .i64 (flG s m e mode))] := by
                rintro k mm ee rfl rfl rfl
                exact hVG _ _ _ 3 (by unfold flK; rw [if_neg hr0, if_pos h6]) (by unfold flMm; rw [if_neg hr0, if_pos h6]) (by unfold flEe; rw [if_neg hr0, if_pos h6]) (by unfold flFl; rw [if_pos ⟨hr0, h6⟩])
              clear hVG hform hrm hrx q3 hxs et2 hfl
              obtain rfl | rfl | rfl | rfl | rfl : mode = 0 ∨ mode = 1 ∨ mode = 2 ∨ mode = 3 ∨ mode = 4 := by omega
              · cases s
                · simp (disch := omega) only [go_sem, h6]
                  refine fin_valc (by simp (disch := omega) only [go_sem]) (by simp (disch := omega) only [go_sem]) ⟨?_, rfl, rfl⟩
                  exact hov _ _ _ rfl rfl rfl
                · simp (disch := omega) only [go_sem, h6]
                  refine fin_valc (by simp (disch := omega) only [go_sem]) (by simp (disch := omega) only [go_sem]) ⟨?_, rfl, rfl⟩
                  exact hov _ _ _ rfl rfl rfl
              · cases s
                · simp (disch := omega) only [go_sem, h6]
                  refine call_closed (con_l5most false) (by simp (disch := omega) only [go_sem]) ?_
                  rintro r hs ⟨rfl, rfl, _⟩
                  refine ⟨by simp [freeN], ?_⟩
                  simp (disch := omega) only [go_sem]
                  refine fin_valc (by simp (disch := omega) only [go_sem]) (by simp (disch := omega) only [go_sem]) ⟨?_, rfl, rfl⟩
                  exact hov _ _ _ rfl rfl rfl
                · simp (disch := omega) only [go_sem, h6]
                  refine call_closed (con_l5most true) (by simp (disch := omega) only [go_sem]) ?_
                  rintro r hs ⟨rfl, rfl, _⟩
                  refine ⟨by simp [freeN], ?_⟩
                  simp (disch := omega) only [go_sem]
                  refine fin_valc (by simp (disch := omega) only [go_sem]) (by simp (disch := omega) only [go_sem]) ⟨?_, rfl, rfl⟩
                  exact hov _ _ _ rfl rfl rfl
              · cases s
                · simp (disch := omega) only [go_sem, h6]
                  refine fin_valc (by simp (disch := omega) only [go_sem]) (by simp (disch := omega) only [go_sem]) ⟨?_, rfl, rfl⟩
                  exact hov _ _ _ rfl rfl rfl
                · simp (disch := omega) only [go_sem, h6]
                  refine call_closed (con_l5most true) (by simp (disch := omega) only [go_sem]) ?_
                  rintro r hs ⟨rfl, rfl, _⟩
                  refine ⟨by simp [freeN], ?_⟩
                  simp (disch := omega) only [go_sem]
                  refine fin_valc (by simp (disch := omega) only [go_sem]) (by simp (disch := omega) only [go_sem]) ⟨?_, rfl, rfl⟩
                  exact hov _ _ _ rfl rfl rfl
              · cases s
                · simp (disch := omega) only [go_sem, h6]
                  refine call_closed (con_l5most false) (by simp (disch := omega) only [go_sem]) ?_
                  rintro r hs ⟨rfl, rfl, _⟩
                  refine ⟨by simp [freeN], ?_⟩
                  simp (disch := omega) only [go_sem]
                  refine fin_valc (by simp (disch := omega) only [go_sem]) (by simp (disch := omega) only [go_sem]) ⟨?_, rfl, rfl⟩
                  exact hov _ _ _ rfl rfl rfl
                · simp (disch := omega) only [go_sem, h6]
                  refine fin_valc (by simp (disch := omega) only [go_sem]) (by simp (disch := omega) only [go_sem]) ⟨?_, rfl, rfl⟩
                  exact hov _ _ _ rfl rfl rfl
              · cases s
                · simp (disch := omega) only [go_sem, h6]
                  refine fin_valc (by simp (disch := omega) only [go_sem]) (by simp (disch := omega) only [go_sem]) ⟨?_, rfl, rfl⟩
                  exact hov _ _ _ rfl rfl rfl
                · simp (disch := omega) only [go_sem, h6]
                  refine fin_valc (by simp (disch := omega) only [go_sem]) (by simp (disch := omega) only [go_sem]) ⟨?_, rfl, rfl⟩
                  exact hov _ _ _ rfl rfl rfl
            · simp (disch := omega) only [go_sem, h6]
              refine call_closed (con_l4top xs xm xe (by omega) (by omega)) (by simp (disch := omega) only [go_sem, et2]) ?_
              rintro r hs ⟨rfl, rfl, _⟩
              refine ⟨by simp [freeN], ?_⟩
              simp (disch := omega) only [go_sem]
              simp (disch := omega) only [go_sem, et2]
              have hfin : ∀ mm : Int, mm = (flM rm re : Int) → AV.tu [.ag [.v (.int .i64 1), .v (.bool xs), .v (.int .i64 mm), .v (.int .i64 (flE rm re))], .v (.int .i64 5)] = .tu [.ag [.v (.int .i64 ((flV s m e mode z).k)), .v (.bool ((flV s m e mode z).s)), .v (.int .i64 ((flV s m e mode z).m)), .v (.int .i64 ((flV s m e mode z).e))], .v (.int .i64 (flG s m e mode))] := by
                rintro mm rfl
                rw [hxs]
                exact hVG 1 _ _ 5 (by unfold flK; rw [if_neg hr0, if_neg (by omega)]) (by unfold flMm; rw [if_neg hr0, if_neg (by omega)]) (by unfold flEe; rw [if_neg hr0, if_neg (by omega)]) (by unfold flFl; rw [if_neg (by omega), hfl])
              have ek : xe - flE rm re = (((oE rm re - flE rm re).toNat : Nat) : Int) := by omega
              have hk9 : (oE rm re - flE rm re).toNat ≤ 53 := by have h9 := hM; unfold flM at h9; rw [bl_mul_pow (fun e => hr0 (oM_eq_zero.1 e))] at h9; omega
              have hM6 : flM rm re < 2 ^ 53 := Nat.lt_of_lt_of_le (bl_lt _) (Nat.pow_le_pow_right (by omega) hM)
              have eM : xm * 2 ^ (oE rm re - flE rm re).toNat = flM rm re := by rw [q1]; rfl
              generalize hkk : (oE rm re - flE rm re).toNat = kk at *
              refine ifW_dec (fun h7 => ?_) (fun h7 => ?_)
              · have eE : flE rm re = -1074 := by unfold flE flLow; rw [if_pos (by omega)]
                simp (disch := omega) only [go_sem, h7]
                rw [eE] at ek hfin
                try rw [← et2] at hfin
                refine draw_of rfl [⟨0, [], []⟩, ⟨1, [], []⟩, ⟨2, [], []⟩, ⟨3, [2], []⟩, ⟨4, [2], []⟩, ⟨5, [2], []⟩, ⟨6, [2, 5], []⟩, ⟨7, [2, 5], []⟩, ⟨8, [2, 5, 7], []⟩, ⟨9, [2, 5], []⟩, ⟨12, [2, 5, 7], []⟩, ⟨14, [2, 5, 7], []⟩, ⟨10, [2], []⟩, ⟨11, [2], []⟩, ⟨13, [], []⟩, ⟨15, [], []⟩, ⟨16, [], []⟩] (by kernel_rfl) ?_
                simp (disch := omega) only [go_sem]
                refine call_open (con_l2shlF xm kk (by omega) (by omega)) (by simp (disch := omega) only [go_sem, ek, et2]) ?_
                rintro r hs ⟨rfl, rfl, _⟩
                refine ⟨by simp [freeN], ?_⟩
                simp (disch := omega) only [go_sem]
                refine call_closed (con_l2int (xm * 2 ^ kk) (by rw [eM]; omega)) (by simp (disch := omega) only [go_sem]) ?_
                rintro r hs ⟨rfl, rfl, _⟩
                refine ⟨by simp [freeN], ?_⟩
                simp (disch := omega) only [go_sem]
                refine fin_valc (by simp (disch := omega) only [go_sem]) (by simp (disch := omega) only [go_sem]) ⟨?_, rfl, rfl⟩
                exact hfin ((xm * 2 ^ kk : Nat) : Int) (by rw [eM])
              · have eE : flE rm re = (bl rm : Int) + re - 53 := by unfold flE flLow; rw [if_neg (by omega)]
                simp (disch := omega) only [go_sem, h7]
                rw [eE] at ek hfin
                try rw [← et2] at hfin
                refine draw_of rfl [⟨0, [], []⟩, ⟨1, [], []⟩, ⟨2, [], []⟩, ⟨3, [2], []⟩, ⟨4, [2], []⟩, ⟨5, [2], []⟩, ⟨6, [2, 5], []⟩, ⟨7, [2, 5], []⟩, ⟨8, [2, 5, 7], []⟩, ⟨9, [2, 5], []⟩, ⟨12, [2, 5, 7], []⟩, ⟨14, [2, 5, 7], []⟩, ⟨10, [2], []⟩, ⟨11, [2], []⟩, ⟨13, [], []⟩, ⟨15, [], []⟩, ⟨16, [], []⟩] (by kernel_rfl) ?_
                simp (disch := omega) only [go_sem]
                refine call_open (con_l2shlF xm kk (by omega) (by omega)) (by simp (disch := omega) only [go_sem, ek, et2]) ?_
                rintro r hs ⟨rfl, rfl, _⟩
                refine ⟨by simp [freeN], ?_⟩
                simp (disch := omega) only [go_sem]
                refine call_closed (con_l2int (xm * 2 ^ kk) (by rw [eM]; omega)) (by simp (disch := omega) only [go_sem]) ?_
                rintro r hs ⟨rfl, rfl, _⟩
                refine ⟨by simp [freeN], ?_⟩
                simp (disch := omega) only [go_sem]
                refine fin_valc (by simp (disch := omega) only [go_sem]) (by simp (disch := omega) only [go_sem]) ⟨?_, rfl, rfl⟩
                exact hfin ((xm * 2 ^ kk : Nat) : Int) (by rw [eM])
        · have hfl : flFlags (bl m + e) same = 1 := by unfold flFlags; rw [h3, if_neg (by simp), if_neg (by omega)]
          have e5 := (rfl : (0 : Nat) = 0)
          simp (disch := omega) only [go_sem, h4]
          refine ifW_dec (fun h5 => ?_) (fun h5 => ?_)
          · have hr0 : rm = 0 := hxm0.1 h5
            simp (disch := omega) only [go_sem, h5]
            refine fin_valc (by simp (disch := omega) only [go_sem]) (by simp (disch := omega) only [go_sem]) ⟨?_, rfl, rfl⟩
            refine hVG 0 0 0 1 (by simp [flK, hr0]) (by simp [flMm, hr0]) (by simp [flEe, hr0]) (by simp [flFl, hr0, hfl])
          · have hr0 : rm ≠ 0 := fun e => h5 (hxm0.2 e)
            have et2 := etop2 hr0
            have hxs : xs = s := q3 hr0
            have hff := hform hr0
            have hM := flM_lt hr0 hff
            simp (disch := omega) only [go_sem, h5]
            refine call_closed (con_l4top xs xm xe (by omega) (by omega)) (by simp (disch := omega) only [go_sem, et2]) ?_
            rintro r hs ⟨rfl, rfl, _⟩
            refine ⟨by simp [freeN], ?_⟩
            simp (disch := omega) only [go_sem]
            simp (disch := omega) only [go_sem, et2]
            refine ifW_dec (fun h6 => ?_) (fun h6 => ?_)
            · have hov : ∀ (k mm ee : Int), k = (if ovB s mode then 1 else 2) → mm = (if ovB s mode then 9007199254740991 else 0) → ee = (if ovB s mode then 971 else 0) → AV.tu [.ag [.v (.int .i64 k), .v (.bool s), .v (.int .i64 mm), .v (.int .i64 ee)], .v (.int .i64 3)] = .tu [.ag [.v (.int .i64 ((flV s m e mode z).k)), .v (.bool ((flV s m e mode z).s)), .v (.int .i64 ((flV s m e mode z).m)), .v (.int .i64 ((flV s m e mode z).e))], .v (.int .i64 (flG s m e mode))] := by
                rintro k mm ee rfl rfl rfl
                exact hVG _ _ _ 3 (by unfold flK; rw [if_neg hr0, if_pos h6]) (by unfold flMm; rw [if_neg hr0, if_pos h6]) (by unfold flEe; rw [if_neg hr0, if_pos h6]) (by unfold flFl; rw [if_pos ⟨hr0, h6⟩])
              clear hVG hform hrm hrx q3 hxs et2 hfl
              obtain rfl | rfl | rfl | rfl | rfl : mode = 0 ∨ mode = 1 ∨ mode = 2 ∨ mode = 3 ∨ mode = 4 := by omega
              · cases s
                · simp (disch := omega) only [go_sem, h6]
                  refine fin_valc (by simp (disch := omega) only [go_sem]) (by simp (disch := omega) only [go_sem]) ⟨?_, rfl, rfl⟩
                  exact hov _ _ _ rfl rfl rfl
                · simp (disch := omega) only [go_sem, h6]
                  refine fin_valc (by simp (disch := omega) only [go_sem]) (by simp (disch := omega) only [go_sem]) ⟨?_, rfl, rfl⟩
                  exact hov _ _ _ rfl rfl rfl
              · cases s
                · simp (disch := omega) only [go_sem, h6]
                  refine call_closed (con_l5most false) (by simp (disch := omega) only [go_sem]) ?_
                  rintro r hs ⟨rfl, rfl, _⟩
                  refine ⟨by simp [freeN], ?_⟩
                  simp (disch := omega) only [go_sem]
                  refine fin_valc (by simp (disch := omega) only [go_sem]) (by simp (disch := omega) only [go_sem]) ⟨?_, rfl, rfl⟩
                  exact hov _ _ _ rfl rfl rfl
                · simp (disch := omega) only [go_sem, h6]
                  refine call_closed (con_l5most true) (by simp (disch := omega) only [go_sem]) ?_
                  rintro r hs ⟨rfl, rfl, _⟩
                  refine ⟨by simp [freeN], ?_⟩
                  simp (disch := omega) only [go_sem]
                  refine fin_valc (by simp (disch := omega) only [go_sem]) (by simp (disch := omega) only [go_sem]) ⟨?_, rfl, rfl⟩
                  exact hov _ _ _ rfl rfl rfl
              · cases s
                · simp (disch := omega) only [go_sem, h6]
                  refine fin_valc (by simp (disch := omega) only [go_sem]) (by simp (disch := omega) only [go_sem]) ⟨?_, rfl, rfl⟩
                  exact hov _ _ _ rfl rfl rfl
                · simp (disch := omega) only [go_sem, h6]
                  refine call_closed (con_l5most true) (by simp (disch := omega) only [go_sem]) ?_
                  rintro r hs ⟨rfl, rfl, _⟩
                  refine ⟨by simp [freeN], ?_⟩
                  simp (disch := omega) only [go_sem]
                  refine fin_valc (by simp (disch := omega) only [go_sem]) (by simp (disch := omega) only [go_sem]) ⟨?_, rfl, rfl⟩
                  exact hov _ _ _ rfl rfl rfl
              · cases s
                · simp (disch := omega) only [go_sem, h6]
                  refine call_closed (con_l5most false) (by simp (disch := omega) only [go_sem]) ?_
                  rintro r hs ⟨rfl, rfl, _⟩
                  refine ⟨by simp [freeN], ?_⟩
                  simp (disch := omega) only [go_sem]
                  refine fin_valc (by simp (disch := omega) only [go_sem]) (by simp (disch := omega) only [go_sem]) ⟨?_, rfl, rfl⟩
                  exact hov _ _ _ rfl rfl rfl
                · simp (disch := omega) only [go_sem, h6]
                  refine fin_valc (by simp (disch := omega) only [go_sem]) (by simp (disch := omega) only [go_sem]) ⟨?_, rfl, rfl⟩
                  exact hov _ _ _ rfl rfl rfl
              · cases s
                · simp (disch := omega) only [go_sem, h6]
                  refine fin_valc (by simp (disch := omega) only [go_sem]) (by simp (disch := omega) only [go_sem]) ⟨?_, rfl, rfl⟩
                  exact hov _ _ _ rfl rfl rfl
                · simp (disch := omega) only [go_sem, h6]
                  refine fin_valc (by simp (disch := omega) only [go_sem]) (by simp (disch := omega) only [go_sem]) ⟨?_, rfl, rfl⟩
                  exact hov _ _ _ rfl rfl rfl
            · simp (disch := omega) only [go_sem, h6]
              refine call_closed (con_l4top xs xm xe (by omega) (by omega)) (by simp (disch := omega) only [go_sem, et2]) ?_
              rintro r hs ⟨rfl, rfl, _⟩
              refine ⟨by simp [freeN], ?_⟩
              simp (disch := omega) only [go_sem]
              simp (disch := omega) only [go_sem, et2]
              have hfin : ∀ mm : Int, mm = (flM rm re : Int) → AV.tu [.ag [.v (.int .i64 1), .v (.bool xs), .v (.int .i64 mm), .v (.int .i64 (flE rm re))], .v (.int .i64 1)] = .tu [.ag [.v (.int .i64 ((flV s m e mode z).k)), .v (.bool ((flV s m e mode z).s)), .v (.int .i64 ((flV s m e mode z).m)), .v (.int .i64 ((flV s m e mode z).e))], .v (.int .i64 (flG s m e mode))] := by
                rintro mm rfl
                rw [hxs]
                exact hVG 1 _ _ 1 (by unfold flK; rw [if_neg hr0, if_neg (by omega)]) (by unfold flMm; rw [if_neg hr0, if_neg (by omega)]) (by unfold flEe; rw [if_neg hr0, if_neg (by omega)]) (by unfold flFl; rw [if_neg (by omega), hfl])
              have ek : xe - flE rm re = (((oE rm re - flE rm re).toNat : Nat) : Int) := by omega
              have hk9 : (oE rm re - flE rm re).toNat ≤ 53 := by have h9 := hM; unfold flM at h9; rw [bl_mul_pow (fun e => hr0 (oM_eq_zero.1 e))] at h9; omega
              have hM6 : flM rm re < 2 ^ 53 := Nat.lt_of_lt_of_le (bl_lt _) (Nat.pow_le_pow_right (by omega) hM)
              have eM : xm * 2 ^ (oE rm re - flE rm re).toNat = flM rm re := by rw [q1]; rfl
              generalize hkk : (oE rm re - flE rm re).toNat = kk at *
              refine ifW_dec (fun h7 => ?_) (fun h7 => ?_)
              · have eE : flE rm re = -1074 := by unfold flE flLow; rw [if_pos (by omega)]
                simp (disch := omega) only [go_sem, h7]
                rw [eE] at ek hfin
                try rw [← et2] at hfin
                refine draw_of rfl [⟨0, [], []⟩, ⟨1, [], []⟩, ⟨2, [], []⟩, ⟨3, [2], []⟩, ⟨4, [2], []⟩, ⟨5, [2], []⟩, ⟨6, [2, 5], []⟩, ⟨7, [2, 5], []⟩, ⟨8, [2, 5, 7], []⟩, ⟨9, [2, 5], []⟩, ⟨12, [2, 5, 7], []⟩, ⟨14, [2, 5, 7], []⟩, ⟨10, [2], []⟩, ⟨11, [2], []⟩, ⟨13, [], []⟩, ⟨15, [], []⟩, ⟨16, [], []⟩] (by kernel_rfl) ?_
                simp (disch := omega) only [go_sem]
                refine call_open (con_l2shlF xm kk (by omega) (by omega)) (by simp (disch := omega) only [go_sem, ek, et2]) ?_
                rintro r hs ⟨rfl, rfl, _⟩
                refine ⟨by simp [freeN], ?_⟩
                simp (disch := omega) only [go_sem]
                refine call_closed (con_l2int (xm * 2 ^ kk) (by rw [eM]; omega)) (by simp (disch := omega) only [go_sem]) ?_
                rintro r hs ⟨rfl, rfl, _⟩
                refine ⟨by simp [freeN], ?_⟩
                simp (disch := omega) only [go_sem]
                refine fin_valc (by simp (disch := omega) only [go_sem]) (by simp (disch := omega) only [go_sem]) ⟨?_, rfl, rfl⟩
                exact hfin ((xm * 2 ^ kk : Nat) : Int) (by rw [eM])
              · have eE : flE rm re = (bl rm : Int) + re - 53 := by unfold flE flLow; rw [if_neg (by omega)]
                simp (disch := omega) only [go_sem, h7]
                rw [eE] at ek hfin
                try rw [← et2] at hfin
                refine draw_of rfl [⟨0, [], []⟩, ⟨1, [], []⟩, ⟨2, [], []⟩, ⟨3, [2], []⟩, ⟨4, [2], []⟩, ⟨5, [2], []⟩, ⟨6, [2, 5], []⟩, ⟨7, [2, 5], []⟩, ⟨8, [2, 5, 7], []⟩, ⟨9, [2, 5], []⟩, ⟨12, [2, 5, 7], []⟩, ⟨14, [2, 5, 7], []⟩, ⟨10, [2], []⟩, ⟨11, [2], []⟩, ⟨13, [], []⟩, ⟨15, [], []⟩, ⟨16, [], []⟩] (by kernel_rfl) ?_
                simp (disch := omega) only [go_sem]
                refine call_open (con_l2shlF xm kk (by omega) (by omega)) (by simp (disch := omega) only [go_sem, ek, et2]) ?_
                rintro r hs ⟨rfl, rfl, _⟩
                refine ⟨by simp [freeN], ?_⟩
                simp (disch := omega) only [go_sem]
                refine call_closed (con_l2int (xm * 2 ^ kk) (by rw [eM]; omega)) (by simp (disch := omega) only [go_sem]) ?_
                rintro r hs ⟨rfl, rfl, _⟩
                refine ⟨by simp [freeN], ?_⟩
                simp (disch := omega) only [go_sem]
                refine fin_valc (by simp (disch := omega) only [go_sem]) (by simp (disch := omega) only [go_sem]) ⟨?_, rfl, rfl⟩
                exact hfin ((xm * 2 ^ kk : Nat) : Int) (by rw [eM])
      · have hfl : flFlags (bl m + e) same = 0 := by unfold flFlags; rw [h3, if_pos rfl]
        have e5 := (rfl : (0 : Nat) = 0)
        simp (disch := omega) only [go_sem, h3]
        refine ifW_dec (fun h5 => ?_) (fun h5 => ?_)
        · have hr0 : rm = 0 := hxm0.1 h5
          simp (disch := omega) only [go_sem, h5]
          refine fin_valc (by simp (disch := omega) only [go_sem]) (by simp (disch := omega) only [go_sem]) ⟨?_, rfl, rfl⟩
          refine hVG 0 0 0 0 (by simp [flK, hr0]) (by simp [flMm, hr0]) (by simp [flEe, hr0]) (by simp [flFl, hr0, hfl])
        · have hr0 : rm ≠ 0 := fun e => h5 (hxm0.2 e)
          have et2 := etop2 hr0
          have hxs : xs = s := q3 hr0
          have hff := hform hr0
          have hM := flM_lt hr0 hff
          simp (disch := omega) only [go_sem, h5]
          refine call_closed (con_l4top xs xm xe (by omega) (by omega)) (by simp (disch := omega) only [go_sem, et2]) ?_
          rintro r hs ⟨rfl, rfl, _⟩
          refine ⟨by simp [freeN], ?_⟩
          simp (disch := omega) only [go_sem]
          simp (disch := omega) only [go_sem, et2]
          refine ifW_dec (fun h6 => ?_) (fun h6 => ?_)
          · have hov : ∀ (k mm ee : Int), k = (if ovB s mode then 1 else 2) → mm = (if ovB s mode then 9007199254740991 else 0) → ee = (if ovB s mode then 971 else 0) → AV.tu [.ag [.v (.int .i64 k), .v (.bool s), .v (.int .i64 mm), .v (.int .i64 ee)], .v (.int .i64 3)] = .tu [.ag [.v (.int .i64 ((flV s m e mode z).k)), .v (.bool ((flV s m e mode z).s)), .v (.int .i64 ((flV s m e mode z).m)), .v (.int .i64 ((flV s m e mode z).e))], .v (.int .i64 (flG s m e mode))] := by
              rintro k mm ee rfl rfl rfl
              exact hVG _ _ _ 3 (by unfold flK; rw [if_neg hr0, if_pos h6]) (by unfold flMm; rw [if_neg hr0, if_pos h6]) (by unfold flEe; rw [if_neg hr0, if_pos h6]) (by unfold flFl; rw [if_pos ⟨hr0, h6⟩])
            clear hVG hform hrm hrx q3 hxs et2 hfl
            obtain rfl | rfl | rfl | rfl | rfl : mode = 0 ∨ mode = 1 ∨ mode = 2 ∨ mode = 3 ∨ mode = 4 := by omega
            · cases s
              · simp (disch := omega) only [go_sem, h6]
                refine fin_valc (by simp (disch := omega) only [go_sem]) (by simp (disch := omega) only [go_sem]) ⟨?_, rfl, rfl⟩
                exact hov _ _ _ rfl rfl rfl
              · simp (disch := omega) only [go_sem, h6]
                refine fin_valc (by simp (disch := omega) only [go_sem]) (by simp (disch := omega) only [go_sem]) ⟨?_, rfl, rfl⟩
                exact hov _ _ _ rfl rfl rfl
            · cases s
              · simp (disch := omega) only [go_sem, h6]
                refine call_closed (con_l5most false) (by simp (disch := omega) only [go_sem]) ?_
                rintro r hs ⟨rfl, rfl, _⟩
                refine ⟨by simp [freeN], ?_⟩
                simp (disch := omega) only [go_sem]
                refine fin_valc (by simp (disch := omega) only [go_sem]) (by simp (disch := omega) only [go_sem]) ⟨?_, rfl, rfl⟩
                exact hov _ _ _ rfl rfl rfl
              · simp (disch := omega) only [go_sem, h6]
                refine call_closed (con_l5most true) (by simp (disch := omega) only [go_sem]) ?_
                rintro r hs ⟨rfl, rfl, _⟩
                refine ⟨by simp [freeN], ?_⟩
                simp (disch := omega) only [go_sem]
                refine fin_valc (by simp (disch := omega) only [go_sem]) (by simp (disch := omega) only [go_sem]) ⟨?_, rfl, rfl⟩
                exact hov _ _ _ rfl rfl rfl
            · cases s
              · simp (disch := omega) only [go_sem, h6]
                refine fin_valc (by simp (disch := omega) only [go_sem]) (by simp (disch := omega) only [go_sem]) ⟨?_, rfl, rfl⟩
                exact hov _ _ _ rfl rfl rfl
              · simp (disch := omega) only [go_sem, h6]
                refine call_closed (con_l5most true) (by simp (disch := omega) only [go_sem]) ?_
                rintro r hs ⟨rfl, rfl, _⟩
                refine ⟨by simp [freeN], ?_⟩
                simp (disch := omega) only [go_sem]
                refine fin_valc (by simp (disch := omega) only [go_sem]) (by simp (disch := omega) only [go_sem]) ⟨?_, rfl, rfl⟩
                exact hov _ _ _ rfl rfl rfl
            · cases s
              · simp (disch := omega) only [go_sem, h6]
                refine call_closed (con_l5most false) (by simp (disch := omega) only [go_sem]) ?_
                rintro r hs ⟨rfl, rfl, _⟩
                refine ⟨by simp [freeN], ?_⟩
                simp (disch := omega) only [go_sem]
                refine fin_valc (by simp (disch := omega) only [go_sem]) (by simp (disch := omega) only [go_sem]) ⟨?_, rfl, rfl⟩
                exact hov _ _ _ rfl rfl rfl
              · simp (disch := omega) only [go_sem, h6]
                refine fin_valc (by simp (disch := omega) only [go_sem]) (by simp (disch := omega) only [go_sem]) ⟨?_, rfl, rfl⟩
                exact hov _ _ _ rfl rfl rfl
            · cases s
              · simp (disch := omega) only [go_sem, h6]
                refine fin_valc (by simp (disch := omega) only [go_sem]) (by simp (disch := omega) only [go_sem]) ⟨?_, rfl, rfl⟩
                exact hov _ _ _ rfl rfl rfl
              · simp (disch := omega) only [go_sem, h6]
                refine fin_valc (by simp (disch := omega) only [go_sem]) (by simp (disch := omega) only [go_sem]) ⟨?_, rfl, rfl⟩
                exact hov _ _ _ rfl rfl rfl
          · simp (disch := omega) only [go_sem, h6]
            refine call_closed (con_l4top xs xm xe (by omega) (by omega)) (by simp (disch := omega) only [go_sem, et2]) ?_
            rintro r hs ⟨rfl, rfl, _⟩
            refine ⟨by simp [freeN], ?_⟩
            simp (disch := omega) only [go_sem]
            simp (disch := omega) only [go_sem, et2]
            have hfin : ∀ mm : Int, mm = (flM rm re : Int) → AV.tu [.ag [.v (.int .i64 1), .v (.bool xs), .v (.int .i64 mm), .v (.int .i64 (flE rm re))], .v (.int .i64 0)] = .tu [.ag [.v (.int .i64 ((flV s m e mode z).k)), .v (.bool ((flV s m e mode z).s)), .v (.int .i64 ((flV s m e mode z).m)), .v (.int .i64 ((flV s m e mode z).e))], .v (.int .i64 (flG s m e mode))] := by
              rintro mm rfl
              rw [hxs]
              exact hVG 1 _ _ 0 (by unfold flK; rw [if_neg hr0, if_neg (by omega)]) (by unfold flMm; rw [if_neg hr0, if_neg (by omega)]) (by unfold flEe; rw [if_neg hr0, if_neg (by omega)]) (by unfold flFl; rw [if_neg (by omega), hfl])
            have ek : xe - flE rm re = (((oE rm re - flE rm re).toNat : Nat) : Int) := by omega
            have hk9 : (oE rm re - flE rm re).toNat ≤ 53 := by have h9 := hM; unfold flM at h9; rw [bl_mul_pow (fun e => hr0 (oM_eq_zero.1 e))] at h9; omega
            have hM6 : flM rm re < 2 ^ 53 := Nat.lt_of_lt_of_le (bl_lt _) (Nat.pow_le_pow_right (by omega) hM)
            have eM : xm * 2 ^ (oE rm re - flE rm re).toNat = flM rm re := by rw [q1]; rfl
            generalize hkk : (oE rm re - flE rm re).toNat = kk at *
            refine ifW_dec (fun h7 => ?_) (fun h7 => ?_)
            · have eE : flE rm re = -1074 := by unfold flE flLow; rw [if_pos (by omega)]
              simp (disch := omega) only [go_sem, h7]
              rw [eE] at ek hfin
              try rw [← et2] at hfin
              refine draw_of rfl [⟨0, [], []⟩, ⟨1, [], []⟩, ⟨2, [], []⟩, ⟨3, [2], []⟩, ⟨4, [2], []⟩, ⟨5, [2], []⟩, ⟨6, [2, 5], []⟩, ⟨7, [2, 5], []⟩, ⟨8, [2, 5, 7], []⟩, ⟨9, [2, 5], []⟩, ⟨12, [2, 5, 7], []⟩, ⟨14, [2, 5, 7], []⟩, ⟨10, [2], []⟩, ⟨11, [2], []⟩, ⟨13, [], []⟩, ⟨15, [], []⟩, ⟨16, [], []⟩] (by kernel_rfl) ?_
              simp (disch := omega) only [go_sem]
              refine call_open (con_l2shlF xm kk (by omega) (by omega)) (by simp (disch := omega) only [go_sem, ek, et2]) ?_
              rintro r hs ⟨rfl, rfl, _⟩
              refine ⟨by simp [freeN], ?_⟩
              simp (disch := omega) only [go_sem]
              refine call_closed (con_l2int (xm * 2 ^ kk) (by rw [eM]; omega)) (by simp (disch := omega) only [go_sem]) ?_
              rintro r hs ⟨rfl, rfl, _⟩
              refine ⟨by simp [freeN], ?_⟩
              simp (disch := omega) only [go_sem]
              refine fin_valc (by simp (disch := omega) only [go_sem]) (by simp (disch := omega) only [go_sem]) ⟨?_, rfl, rfl⟩
              exact hfin ((xm * 2 ^ kk : Nat) : Int) (by rw [eM])
            · have eE : flE rm re = (bl rm : Int) + re - 53 := by unfold flE flLow; rw [if_neg (by omega)]
              simp (disch := omega) only [go_sem, h7]
              rw [eE] at ek hfin
              try rw [← et2] at hfin
              refine draw_of rfl [⟨0, [], []⟩, ⟨1, [], []⟩, ⟨2, [], []⟩, ⟨3, [2], []⟩, ⟨4, [2], []⟩, ⟨5, [2], []⟩, ⟨6, [2, 5], []⟩, ⟨7, [2, 5], []⟩, ⟨8, [2, 5, 7], []⟩, ⟨9, [2, 5], []⟩, ⟨12, [2, 5, 7], []⟩, ⟨14, [2, 5, 7], []⟩, ⟨10, [2], []⟩, ⟨11, [2], []⟩, ⟨13, [], []⟩, ⟨15, [], []⟩, ⟨16, [], []⟩] (by kernel_rfl) ?_
              simp (disch := omega) only [go_sem]
              refine call_open (con_l2shlF xm kk (by omega) (by omega)) (by simp (disch := omega) only [go_sem, ek, et2]) ?_
              rintro r hs ⟨rfl, rfl, _⟩
              refine ⟨by simp [freeN], ?_⟩
              simp (disch := omega) only [go_sem]
              refine call_closed (con_l2int (xm * 2 ^ kk) (by rw [eM]; omega)) (by simp (disch := omega) only [go_sem]) ?_
              rintro r hs ⟨rfl, rfl, _⟩
              refine ⟨by simp [freeN], ?_⟩
              simp (disch := omega) only [go_sem]
              refine fin_valc (by simp (disch := omega) only [go_sem]) (by simp (disch := omega) only [go_sem]) ⟨?_, rfl, rfl⟩
              exact hfin ((xm * 2 ^ kk : Nat) : Int) (by rw [eM])
    · have hL : flLow ((bl m : Int) + e) = (bl m : Int) + e - 53 := by unfold flLow; rw [if_neg (by omega)]
      simp (disch := omega) only [go_sem, h2]
      have hbl := ro_bl (s := s) (e := e) (low := (bl m : Int) + e - 53) (mode := mode) hm
      have hroE : -1000000 ≤ roE m e ((bl m : Int) + e - 53) ∧ roE m e ((bl m : Int) + e - 53) ≤ 1000000 := by unfold roE; split <;> omega
      obtain ⟨q1, q2⟩ := sr_eq (s := s) (e := e) (low := (bl m : Int) + e - 53) (mode := mode) hod
      have q3 := roS_eq (s := s) (m := m) (e := e) (low := (bl m : Int) + e - 53) (mode := mode)
      refine call_open (con_l4round s m e ((bl m : Int) + e - 53) mode hodd hs hmode (by omega) (by omega) (by omega)) (by simp (disch := omega) only [go_sem, etop]) ?_
      rintro r hs ⟨rfl, rfl, _⟩
      refine ⟨by simp [freeN], ?_⟩
      simp (disch := omega) only [go_sem]
      rw [hL] at hVG hform
      generalize srM s m e ((bl m : Int) + e - 53) mode = xm at *
      generalize srE s m e ((bl m : Int) + e - 53) mode = xe at *
      generalize oS (roS s m e ((bl m : Int) + e - 53) mode) (roM s m e ((bl m : Int) + e - 53) mode) = xs at *
      generalize hrm : roM s m e ((bl m : Int) + e - 53) mode = rm at *
      generalize hre : roE m e ((bl m : Int) + e - 53) = re at *
      generalize hrx : roX m e ((bl m : Int) + e - 53) = same at *
      have hxm0 : ((lim xm).length : Int) = 0 ↔ rm = 0 := by rw [q1, ← oM_eq_zero]; exact ⟨fun h => lim_eq_nil.1 (List.length_eq_zero_iff.1 (by omega)), fun h => by rw [h, lim_zero]; rfl⟩
      have hxmb : bl xm ≤ 100001 := by rw [q1]; exact Nat.le_trans (bl_mono (oM_le rm)) hbl
      have lxm := len_bl hxmb
      have hxeb : -2000000 ≤ xe ∧ xe ≤ 2000000 := by have := oE_bnd hbl hroE; omega
      have etop2 : rm ≠ 0 → (if xm = 0 then (0 : Int) else xe + (bl xm : Int)) = (bl rm : Int) + re := fun h => by
        have h2 := bl_oM h
        have h3 : xm ≠ 0 := by rw [q1]; exact fun e => h (oM_eq_zero.1 e)
        rw [if_neg h3, q2, q1]; unfold oE; rw [if_neg h]; omega
      refine ifW_nb (fun h3 => ?_) (fun h3 => ?_)
      · simp (disch := omega) only [go_sem, h3]
        refine call_closed (con_l4top s m e (by omega) (by omega)) (by simp (disch := omega) only [go_sem, etop]) ?_
        rintro r hs ⟨rfl, rfl, _⟩
        refine ⟨by simp [freeN], ?_⟩
        simp (disch := omega) only [go_sem]
        simp (disch := omega) only [go_sem, etop]
        refine ifW_dec (fun h4 => ?_) (fun h4 => ?_)
        · have hfl : flFlags (bl m + e) same = 5 := by unfold flFlags; rw [h3, if_neg (by simp), if_pos (by omega)]
          have e5 : ((1 ||| 4 : Nat) : Int) = 5 := rfl
          simp (disch := omega) only [go_sem, h4, e5]
          refine ifW_dec (fun h5 => ?_) (fun h5 => ?_)
          · have hr0 : rm = 0 := hxm0.1 h5
            simp (disch := omega) only [go_sem, h5]
            refine fin_valc (by simp (disch := omega) only [go_sem]) (by simp (disch := omega) only [go_sem]) ⟨?_, rfl, rfl⟩
            refine hVG 0 0 0 5 (by simp [flK, hr0]) (by simp [flMm, hr0]) (by simp [flEe, hr0]) (by simp [flFl, hr0, hfl])
          · have hr0 : rm ≠ 0 := fun e => h5 (hxm0.2 e)
            have et2 := etop2 hr0
            have hxs : xs = s := q3 hr0
            have hff := hform hr0
            have hM := flM_lt hr0 hff
            simp (disch := omega) only [go_sem, h5]
            refine call_closed (con_l4top xs xm xe (by omega) (by omega)) (by simp (disch := omega) only [go_sem, et2]) ?_
            rintro r hs ⟨rfl, rfl, _⟩
            refine ⟨by simp [freeN], ?_⟩
            simp (disch := omega) only [go_sem]
            simp (disch := omega) only [go_sem, et2]
            refine ifW_dec (fun h6 => ?_) (fun h6 => ?_)
            · have hov : ∀ (k mm ee : Int), k = (if ovB s mode then 1 else 2) → mm = (if ovB s mode then 9007199254740991 else 0) → ee = (if ovB s mode then 971 else 0) → AV.tu [.ag [.v (.int .i64 k), .v (.bool s), .v (.int .i64 mm), .v (.int .i64 ee)], .v (.int .i64 3)] = .tu [.ag [.v (.int .i64 ((flV s m e mode z).k)), .v (.bool ((flV s m e mode z).s)), .v (.int .i64 ((flV s m e mode z).m)), .v (.int .i64 ((flV s m e mode z).e))], .v (.int .i64 (flG s m e mode))] := by
                rintro k mm ee rfl rfl rfl
                exact hVG _ _ _ 3 (by unfold flK; rw [if_neg hr0, if_pos h6]) (by unfold flMm; rw [if_neg hr0, if_pos h6]) (by unfold flEe; rw [if_neg hr0, if_pos h6]) (by unfold flFl; rw [if_pos ⟨hr0, h6⟩])
              clear hVG hform hrm hrx q3 hxs et2 hfl
              obtain rfl | rfl | rfl | rfl | rfl : mode = 0 ∨ mode = 1 ∨ mode = 2 ∨ mode = 3 ∨ mode = 4 := by omega
              · cases s
                · simp (disch := omega) only [go_sem, h6]
                  refine fin_valc (by simp (disch := omega) only [go_sem]) (by simp (disch := omega) only [go_sem]) ⟨?_, rfl, rfl⟩
                  exact hov _ _ _ rfl rfl rfl
                · simp (disch := omega) only [go_sem, h6]
                  refine fin_valc (by simp (disch := omega) only [go_sem]) (by simp (disch := omega) only [go_sem]) ⟨?_, rfl, rfl⟩
                  exact hov _ _ _ rfl rfl rfl
              · cases s
                · simp (disch := omega) only [go_sem, h6]
                  refine call_closed (con_l5most false) (by simp (disch := omega) only [go_sem]) ?_
                  rintro r hs ⟨rfl, rfl, _⟩
                  refine ⟨by simp [freeN], ?_⟩
                  simp (disch := omega) only [go_sem]
                  refine fin_valc (by simp (disch := omega) only [go_sem]) (by simp (disch := omega) only [go_sem]) ⟨?_, rfl, rfl⟩
                  exact hov _ _ _ rfl rfl rfl
                · simp (disch := omega) only [go_sem, h6]
                  refine call_closed (con_l5most true) (by simp (disch := omega) only [go_sem]) ?_
                  rintro r hs ⟨rfl, rfl, _⟩
                  refine ⟨by simp [freeN], ?_⟩
                  simp (disch := omega) only [go_sem]
                  refine fin_valc (by simp (disch := omega) only [go_sem]) (by simp (disch := omega) only [go_sem]) ⟨?_, rfl, rfl⟩
                  exact hov _ _ _ rfl rfl rfl
              · cases s
                · simp (disch := omega) only [go_sem, h6]
                  refine fin_valc (by simp (disch := omega) only [go_sem]) (by simp (disch := omega) only [go_sem]) ⟨?_, rfl, rfl⟩
                  exact hov _ _ _ rfl rfl rfl
                · simp (disch := omega) only [go_sem, h6]
                  refine call_closed (con_l5most true) (by simp (disch := omega) only [go_sem]) ?_
                  rintro r hs ⟨rfl, rfl, _⟩
                  refine ⟨by simp [freeN], ?_⟩
                  simp (disch := omega) only [go_sem]
                  refine fin_valc (by simp (disch := omega) only [go_sem]) (by simp (disch := omega) only [go_sem]) ⟨?_, rfl, rfl⟩
                  exact hov _ _ _ rfl rfl rfl
              · cases s
                · simp (disch := omega) only [go_sem, h6]
                  refine call_closed (con_l5most false) (by simp (disch := omega) only [go_sem]) ?_
                  rintro r hs ⟨rfl, rfl, _⟩
                  refine ⟨by simp [freeN], ?_⟩
                  simp (disch := omega) only [go_sem]
                  refine fin_valc (by simp (disch := omega) only [go_sem]) (by simp (disch := omega) only [go_sem]) ⟨?_, rfl, rfl⟩
                  exact hov _ _ _ rfl rfl rfl
                · simp (disch := omega) only [go_sem, h6]
                  refine fin_valc (by simp (disch := omega) only [go_sem]) (by simp (disch := omega) only [go_sem]) ⟨?_, rfl, rfl⟩
                  exact hov _ _ _ rfl rfl rfl
              · cases s
                · simp (disch := omega) only [go_sem, h6]
                  refine fin_valc (by simp (disch := omega) only [go_sem]) (by simp (disch := omega) only [go_sem]) ⟨?_, rfl, rfl⟩
                  exact hov _ _ _ rfl rfl rfl
                · simp (disch := omega) only [go_sem, h6]
                  refine fin_valc (by simp (disch := omega) only [go_sem]) (by simp (disch := omega) only [go_sem]) ⟨?_, rfl, rfl⟩
                  exact hov _ _ _ rfl rfl rfl
            · simp (disch := omega) only [go_sem, h6]
              refine call_closed (con_l4top xs xm xe (by omega) (by omega)) (by simp (disch := omega) only [go_sem, et2]) ?_
              rintro r hs ⟨rfl, rfl, _⟩
              refine ⟨by simp [freeN], ?_⟩
              simp (disch := omega) only [go_sem]
              simp (disch := omega) only [go_sem, et2]
              have hfin : ∀ mm : Int, mm = (flM rm re : Int) → AV.tu [.ag [.v (.int .i64 1), .v (.bool xs), .v (.int .i64 mm), .v (.int .i64 (flE rm re))], .v (.int .i64 5)] = .tu [.ag [.v (.int .i64 ((flV s m e mode z).k)), .v (.bool ((flV s m e mode z).s)), .v (.int .i64 ((flV s m e mode z).m)), .v (.int .i64 ((flV s m e mode z).e))], .v (.int .i64 (flG s m e mode))] := by
                rintro mm rfl
                rw [hxs]
                exact hVG 1 _ _ 5 (by unfold flK; rw [if_neg hr0, if_neg (by omega)]) (by unfold flMm; rw [if_neg hr0, if_neg (by omega)]) (by unfold flEe; rw [if_neg hr0, if_neg (by omega)]) (by unfold flFl; rw [if_neg (by omega), hfl])
              have ek : xe - flE rm re = (((oE rm re - flE rm re).toNat : Nat) : Int) := by omega
              have hk9 : (oE rm re - flE rm re).toNat ≤ 53 := by have h9 := hM; unfold flM at h9; rw [bl_mul_pow (fun e => hr0 (oM_eq_zero.1 e))] at h9; omega
              have hM6 : flM rm re < 2 ^ 53 := Nat.lt_of_lt_of_le (bl_lt _) (Nat.pow_le_pow_right (by omega) hM)
              have eM : xm * 2 ^ (oE rm re - flE rm re).toNat = flM rm re := by rw [q1]; rfl
              generalize hkk : (oE rm re - flE rm re).toNat = kk at *
              refine ifW_dec (fun h7 => ?_) (fun h7 => ?_)
              · have eE : flE rm re = -1074 := by unfold flE flLow; rw [if_pos (by omega)]
                simp (disch := omega) only [go_sem, h7]
                rw [eE] at ek hfin
                try rw [← et2] at hfin
                refine draw_of rfl [⟨0, [], []⟩, ⟨1, [], []⟩, ⟨2, [], []⟩, ⟨3, [2], []⟩, ⟨4, [2], []⟩, ⟨5, [2], []⟩, ⟨6, [2, 5], []⟩, ⟨7, [2, 5], []⟩, ⟨8, [2, 5, 7], []⟩, ⟨9, [2, 5], []⟩, ⟨12, [2, 5, 7], []⟩, ⟨14, [2, 5, 7], []⟩, ⟨10, [2], []⟩, ⟨11, [2], []⟩, ⟨13, [], []⟩, ⟨15, [], []⟩, ⟨16, [], []⟩] (by kernel_rfl) ?_
                simp (disch := omega) only [go_sem]
                refine call_open (con_l2shlF xm kk (by omega) (by omega)) (by simp (disch := omega) only [go_sem, ek, et2]) ?_
                rintro r hs ⟨rfl, rfl, _⟩
                refine ⟨by simp [freeN], ?_⟩
                simp (disch := omega) only [go_sem]
                refine call_closed (con_l2int (xm * 2 ^ kk) (by rw [eM]; omega)) (by simp (disch := omega) only [go_sem]) ?_
                rintro r hs ⟨rfl, rfl, _⟩
                refine ⟨by simp [freeN], ?_⟩
                simp (disch := omega) only [go_sem]
                refine fin_valc (by simp (disch := omega) only [go_sem]) (by simp (disch := omega) only [go_sem]) ⟨?_, rfl, rfl⟩
                exact hfin ((xm * 2 ^ kk : Nat) : Int) (by rw [eM])
              · have eE : flE rm re = (bl rm : Int) + re - 53 := by unfold flE flLow; rw [if_neg (by omega)]
                simp (disch := omega) only [go_sem, h7]
                rw [eE] at ek hfin
                try rw [← et2] at hfin
                refine draw_of rfl [⟨0, [], []⟩, ⟨1, [], []⟩, ⟨2, [], []⟩, ⟨3, [2], []⟩, ⟨4, [2], []⟩, ⟨5, [2], []⟩, ⟨6, [2, 5], []⟩, ⟨7, [2, 5], []⟩, ⟨8, [2, 5, 7], []⟩, ⟨9, [2, 5], []⟩, ⟨12, [2, 5, 7], []⟩, ⟨14, [2, 5, 7], []⟩, ⟨10, [2], []⟩, ⟨11, [2], []⟩, ⟨13, [], []⟩, ⟨15, [], []⟩, ⟨16, [], []⟩] (by kernel_rfl) ?_
                simp (disch := omega) only [go_sem]
                refine call_open (con_l2shlF xm kk (by omega) (by omega)) (by simp (disch := omega) only [go_sem, ek, et2]) ?_
                rintro r hs ⟨rfl, rfl, _⟩
                refine ⟨by simp [freeN], ?_⟩
                simp (disch := omega) only [go_sem]
                refine call_closed (con_l2int (xm * 2 ^ kk) (by rw [eM]; omega)) (by simp (disch := omega) only [go_sem]) ?_
                rintro r hs ⟨rfl, rfl, _⟩
                refine ⟨by simp [freeN], ?_⟩
                simp (disch := omega) only [go_sem]
                refine fin_valc (by simp (disch := omega) only [go_sem]) (by simp (disch := omega) only [go_sem]) ⟨?_, rfl, rfl⟩
                exact hfin ((xm * 2 ^ kk : Nat) : Int) (by rw [eM])
        · have hfl : flFlags (bl m + e) same = 1 := by unfold flFlags; rw [h3, if_neg (by simp), if_neg (by omega)]
          have e5 := (rfl : (0 : Nat) = 0)
          simp (disch := omega) only [go_sem, h4]
          refine ifW_dec (fun h5 => ?_) (fun h5 => ?_)
          · have hr0 : rm = 0 := hxm0.1 h5
            simp (disch := omega) only [go_sem, h5]
            refine fin_valc (by simp (disch := omega) only [go_sem]) (by simp (disch := omega) only [go_sem]) ⟨?_, rfl, rfl⟩
            refine hVG 0 0 0 1 (by simp [flK, hr0]) (by simp [flMm, hr0]) (by simp [flEe, hr0]) (by simp [flFl, hr0, hfl])
          · have hr0 : rm ≠ 0 := fun e => h5 (hxm0.2 e)
            have et2 := etop2 hr0
            have hxs : xs = s := q3 hr0
            have hff := hform hr0
            have hM := flM_lt hr0 hff
            simp (disch := omega) only [go_sem, h5]
            refine call_closed (con_l4top xs xm xe (by omega) (by omega)) (by simp (disch := omega) only [go_sem, et2]) ?_
            rintro r hs ⟨rfl, rfl, _⟩
            refine ⟨by simp [freeN], ?_⟩
            simp (disch := omega) only [go_sem]
            simp (disch := omega) only [go_sem, et2]
            refine ifW_dec (fun h6 => ?_) (fun h6 => ?_)
            · have hov : ∀ (k mm ee : Int), k = (if ovB s mode then 1 else 2) → mm = (if ovB s mode then 9007199254740991 else 0) → ee = (if ovB s mode then 971 else 0) → AV.tu [.ag [.v (.int .i64 k), .v (.bool s), .v (.int .i64 mm), .v (.int .i64 ee)], .v (.int .i64 3)] = .tu [.ag [.v (.int .i64 ((flV s m e mode z).k)), .v (.bool ((flV s m e mode z).s)), .v (.int .i64 ((flV s m e mode z).m)), .v (.int .i64 ((flV s m e mode z).e))], .v (.int .i64 (flG s m e mode))] := by
                rintro k mm ee rfl rfl rfl
                exact hVG _ _ _ 3 (by unfold flK; rw [if_neg hr0, if_pos h6]) (by unfold flMm; rw [if_neg hr0, if_pos h6]) (by unfold flEe; rw [if_neg hr0, if_pos h6]) (by unfold flFl; rw [if_pos ⟨hr0, h6⟩])
              clear hVG hform hrm hrx q3 hxs et2 hfl
              obtain rfl | rfl | rfl | rfl | rfl : mode = 0 ∨ mode = 1 ∨ mode = 2 ∨ mode = 3 ∨ mode = 4 := by omega
              · cases s
                · simp (disch := omega) only [go_sem, h6]
                  refine fin_valc (by simp (disch := omega) only [go_sem]) (by simp (disch := omega) only [go_sem]) ⟨?_, rfl, rfl⟩
                  exact hov _ _ _ rfl rfl rfl
                · simp (disch := omega) only [go_sem, h6]
                  refine fin_valc (by simp (disch := omega) only [go_sem]) (by simp (disch := omega) only [go_sem]) ⟨?_, rfl, rfl⟩
                  exact hov _ _ _ rfl rfl rfl
              · cases s
                · simp (disch := omega) only [go_sem, h6]
                  refine call_closed (con_l5most false) (by simp (disch := omega) only [go_sem]) ?_
                  rintro r hs ⟨rfl, rfl, _⟩
                  refine ⟨by simp [freeN], ?_⟩
                  simp (disch := omega) only [go_sem]
                  refine fin_valc (by simp (disch := omega) only [go_sem]) (by simp (disch := omega) only [go_sem]) ⟨?_, rfl, rfl⟩
                  exact hov _ _ _ rfl rfl rfl
                · simp (disch := omega) only [go_sem, h6]
                  refine call_closed (con_l5most true) (by simp (disch := omega) only [go_sem]) ?_
                  rintro r hs ⟨rfl, rfl, _⟩
                  refine ⟨by simp [freeN], ?_⟩
                  simp (disch := omega) only [go_sem]
                  refine fin_valc (by simp (disch := omega) only [go_sem]) (by simp (disch := omega) only [go_sem]) ⟨?_, rfl, rfl⟩
                  exact hov _ _ _ rfl rfl rfl
              · cases s
                · simp (disch := omega) only [go_sem, h6]
                  refine fin_valc (by simp (disch := omega) only [go_sem]) (by simp (disch := omega) only [go_sem]) ⟨?_, rfl, rfl⟩
                  exact hov _ _ _ rfl rfl rfl
                · simp (disch := omega) only [go_sem, h6]
                  refine call_closed (con_l5most true) (by simp (disch := omega) only [go_sem]) ?_
                  rintro r hs ⟨rfl, rfl, _⟩
                  refine ⟨by simp [freeN], ?_⟩
                  simp (disch := omega) only [go_sem]
                  refine fin_valc (by simp (disch := omega) only [go_sem]) (by simp (disch := omega) only [go_sem]) ⟨?_, rfl, rfl⟩
                  exact hov _ _ _ rfl rfl rfl
              · cases s
                · simp (disch := omega) only [go_sem, h6]
                  refine call_closed (con_l5most false) (by simp (disch := omega) only [go_sem]) ?_
                  rintro r hs ⟨rfl, rfl, _⟩
                  refine ⟨by simp [freeN], ?_⟩
                  simp (disch := omega) only [go_sem]
                  refine fin_valc (by simp (disch := omega) only [go_sem]) (by simp (disch := omega) only [go_sem]) ⟨?_, rfl, rfl⟩
                  exact hov _ _ _ rfl rfl rfl
                · simp (disch := omega) only [go_sem, h6]
                  refine fin_valc (by simp (disch := omega) only [go_sem]) (by simp (disch := omega) only [go_sem]) ⟨?_, rfl, rfl⟩
                  exact hov _ _ _ rfl rfl rfl
              · cases s
                · simp (disch := omega) only [go_sem, h6]
                  refine fin_valc (by simp (disch := omega) only [go_sem]) (by simp (disch := omega) only [go_sem]) ⟨?_, rfl, rfl⟩
                  exact hov _ _ _ rfl rfl rfl
                · simp (disch := omega) only [go_sem, h6]
                  refine fin_valc (by simp (disch := omega) only [go_sem]) (by simp (disch := omega) only [go_sem]) ⟨?_, rfl, rfl⟩
                  exact hov _ _ _ rfl rfl rfl
            · simp (disch := omega) only [go_sem, h6]
              refine call_closed (con_l4top xs xm xe (by omega) (by omega)) (by simp (disch := omega) only [go_sem, et2]) ?_
              rintro r hs ⟨rfl, rfl, _⟩
              refine ⟨by simp [freeN], ?_⟩
              simp (disch := omega) only [go_sem]
              simp (disch := omega) only [go_sem, et2]
              have hfin : ∀ mm : Int, mm = (flM rm re : Int) → AV.tu [.ag [.v (.int .i64 1), .v (.bool xs), .v (.int .i64 mm), .v (.int .i64 (flE rm re))], .v (.int .i64 1)] = .tu [.ag [.v (.int .i64 ((flV s m e mode z).k)), .v (.bool ((flV s m e mode z).s)), .v (.int .i64 ((flV s m e mode z).m)), .v (.int .i64 ((flV s m e mode z).e))], .v (.int .i64 (flG s m e mode))] := by
                rintro mm rfl
                rw [hxs]
                exact hVG 1 _ _ 1 (by unfold flK; rw [if_neg hr0, if_neg (by omega)]) (by unfold flMm; rw [if_neg hr0, if_neg (by omega)]) (by unfold flEe; rw [if_neg hr0, if_neg (by omega)]) (by unfold flFl; rw [if_neg (by omega), hfl])
              have ek : xe - flE rm re = (((oE rm re - flE rm re).toNat : Nat) : Int) := by omega
              have hk9 : (oE rm re - flE rm re).toNat ≤ 53 := by have h9 := hM; unfold flM at h9; rw [bl_mul_pow (fun e => hr0 (oM_eq_zero.1 e))] at h9; omega
              have hM6 : flM rm re < 2 ^ 53 := Nat.lt_of_lt_of_le (bl_lt _) (Nat.pow_le_pow_right (by omega) hM)
              have eM : xm * 2 ^ (oE rm re - flE rm re).toNat = flM rm re := by rw [q1]; rfl
              generalize hkk : (oE rm re - flE rm re).toNat = kk at *
              refine ifW_dec (fun h7 => ?_) (fun h7 => ?_)
              · have eE : flE rm re = -1074 := by unfold flE flLow; rw [if_pos (by omega)]
                simp (disch := omega) only [go_sem, h7]
                rw [eE] at ek hfin
                try rw [← et2] at hfin
                refine draw_of rfl [⟨0, [], []⟩, ⟨1, [], []⟩, ⟨2, [], []⟩, ⟨3, [2], []⟩, ⟨4, [2], []⟩, ⟨5, [2], []⟩, ⟨6, [2, 5], []⟩, ⟨7, [2, 5], []⟩, ⟨8, [2, 5, 7], []⟩, ⟨9, [2, 5], []⟩, ⟨12, [2, 5, 7], []⟩, ⟨14, [2, 5, 7], []⟩, ⟨10, [2], []⟩, ⟨11, [2], []⟩, ⟨13, [], []⟩, ⟨15, [], []⟩, ⟨16, [], []⟩] (by kernel_rfl) ?_
                simp (disch := omega) only [go_sem]
                refine call_open (con_l2shlF xm kk (by omega) (by omega)) (by simp (disch := omega) only [go_sem, ek, et2]) ?_
                rintro r hs ⟨rfl, rfl, _⟩
                refine ⟨by simp [freeN], ?_⟩
                simp (disch := omega) only [go_sem]
                refine call_closed (con_l2int (xm * 2 ^ kk) (by rw [eM]; omega)) (by simp (disch := omega) only [go_sem]) ?_
                rintro r hs ⟨rfl, rfl, _⟩
                refine ⟨by simp [freeN], ?_⟩
                simp (disch := omega) only [go_sem]
                refine fin_valc (by simp (disch := omega) only [go_sem]) (by simp (disch := omega) only [go_sem]) ⟨?_, rfl, rfl⟩
                exact hfin ((xm * 2 ^ kk : Nat) : Int) (by rw [eM])
              · have eE : flE rm re = (bl rm : Int) + re - 53 := by unfold flE flLow; rw [if_neg (by omega)]
                simp (disch := omega) only [go_sem, h7]
                rw [eE] at ek hfin
                try rw [← et2] at hfin
                refine draw_of rfl [⟨0, [], []⟩, ⟨1, [], []⟩, ⟨2, [], []⟩, ⟨3, [2], []⟩, ⟨4, [2], []⟩, ⟨5, [2], []⟩, ⟨6, [2, 5], []⟩, ⟨7, [2, 5], []⟩, ⟨8, [2, 5, 7], []⟩, ⟨9, [2, 5], []⟩, ⟨12, [2, 5, 7], []⟩, ⟨14, [2, 5, 7], []⟩, ⟨10, [2], []⟩, ⟨11, [2], []⟩, ⟨13, [], []⟩, ⟨15, [], []⟩, ⟨16, [], []⟩] (by kernel_rfl) ?_
                simp (disch := omega) only [go_sem]
                refine call_open (con_l2shlF xm kk (by omega) (by omega)) (by simp (disch := omega) only [go_sem, ek, et2]) ?_
                rintro r hs ⟨rfl, rfl, _⟩
                refine ⟨by simp [freeN], ?_⟩
                simp (disch := omega) only [go_sem]
                refine call_closed (con_l2int (xm * 2 ^ kk) (by rw [eM]; omega)) (by simp (disch := omega) only [go_sem]) ?_
                rintro r hs ⟨rfl, rfl, _⟩
                refine ⟨by simp [freeN], ?_⟩
                simp (disch := omega) only [go_sem]
                refine fin_valc (by simp (disch := omega) only [go_sem]) (by simp (disch := omega) only [go_sem]) ⟨?_, rfl, rfl⟩
                exact hfin ((xm * 2 ^ kk : Nat) : Int) (by rw [eM])
      · have hfl : flFlags (bl m + e) same = 0 := by unfold flFlags; rw [h3, if_pos rfl]
        have e5 := (rfl : (0 : Nat) = 0)
        simp (disch := omega) only [go_sem, h3]
        refine ifW_dec (fun h5 => ?_) (fun h5 => ?_)
        · have hr0 : rm = 0 := hxm0.1 h5
          simp (disch := omega) only [go_sem, h5]
          refine fin_valc (by simp (disch := omega) only [go_sem]) (by simp (disch := omega) only [go_sem]) ⟨?_, rfl, rfl⟩
          refine hVG 0 0 0 0 (by simp [flK, hr0]) (by simp [flMm, hr0]) (by simp [flEe, hr0]) (by simp [flFl, hr0, hfl])
        · have hr0 : rm ≠ 0 := fun e => h5 (hxm0.2 e)
          have et2 := etop2 hr0
          have hxs : xs = s := q3 hr0
          have hff := hform hr0
          have hM := flM_lt hr0 hff
          simp (disch := omega) only [go_sem, h5]
          refine call_closed (con_l4top xs xm xe (by omega) (by omega)) (by simp (disch := omega) only [go_sem, et2]) ?_
          rintro r hs ⟨rfl, rfl, _⟩
          refine ⟨by simp [freeN], ?_⟩
          simp (disch := omega) only [go_sem]
          simp (disch := omega) only [go_sem, et2]
          refine ifW_dec (fun h6 => ?_) (fun h6 => ?_)
          · have hov : ∀ (k mm ee : Int), k = (if ovB s mode then 1 else 2) → mm = (if ovB s mode then 9007199254740991 else 0) → ee = (if ovB s mode then 971 else 0) → AV.tu [.ag [.v (.int .i64 k), .v (.bool s), .v (.int .i64 mm), .v (.int .i64 ee)], .v (.int .i64 3)] = .tu [.ag [.v (.int .i64 ((flV s m e mode z).k)), .v (.bool ((flV s m e mode z).s)), .v (.int .i64 ((flV s m e mode z).m)), .v (.int .i64 ((flV s m e mode z).e))], .v (.int .i64 (flG s m e mode))] := by
              rintro k mm ee rfl rfl rfl
              exact hVG _ _ _ 3 (by unfold flK; rw [if_neg hr0, if_pos h6]) (by unfold flMm; rw [if_neg hr0, if_pos h6]) (by unfold flEe; rw [if_neg hr0, if_pos h6]) (by unfold flFl; rw [if_pos ⟨hr0, h6⟩])
            clear hVG hform hrm hrx q3 hxs et2 hfl
            obtain rfl | rfl | rfl | rfl | rfl : mode = 0 ∨ mode = 1 ∨ mode = 2 ∨ mode = 3 ∨ mode = 4 := by omega
            · cases s
              · simp (disch := omega) only [go_sem, h6]
                refine fin_valc (by simp (disch := omega) only [go_sem]) (by simp (disch := omega) only [go_sem]) ⟨?_, rfl, rfl⟩
                exact hov _ _ _ rfl rfl rfl
              · simp (disch := omega) only [go_sem, h6]
                refine fin_valc (by simp (disch := omega) only [go_sem]) (by simp (disch := omega) only [go_sem]) ⟨?_, rfl, rfl⟩
                exact hov _ _ _ rfl rfl rfl
            · cases s
              · simp (disch := omega) only [go_sem, h6]
                refine call_closed (con_l5most false) (by simp (disch := omega) only [go_sem]) ?_
                rintro r hs ⟨rfl, rfl, _⟩
                refine ⟨by simp [freeN], ?_⟩
                simp (disch := omega) only [go_sem]
                refine fin_valc (by simp (disch := omega) only [go_sem]) (by simp (disch := omega) only [go_sem]) ⟨?_, rfl, rfl⟩
                exact hov _ _ _ rfl rfl rfl
              · simp (disch := omega) only [go_sem, h6]
                refine call_closed (con_l5most true) (by simp (disch := omega) only [go_sem]) ?_
                rintro r hs ⟨rfl, rfl, _⟩
                refine ⟨by simp [freeN], ?_⟩
                simp (disch := omega) only [go_sem]
                refine fin_valc (by simp (disch := omega) only [go_sem]) (by simp (disch := omega) only [go_sem]) ⟨?_, rfl, rfl⟩
                exact hov _ _ _ rfl rfl rfl
            · cases s
              · simp (disch := omega) only [go_sem, h6]
                refine fin_valc (by simp (disch := omega) only [go_sem]) (by simp (disch := omega) only [go_sem]) ⟨?_, rfl, rfl⟩
                exact hov _ _ _ rfl rfl rfl
              · simp (disch := omega) only [go_sem, h6]
                refine call_closed (con_l5most true) (by simp (disch := omega) only [go_sem]) ?_
                rintro r hs ⟨rfl, rfl, _⟩
                refine ⟨by simp [freeN], ?_⟩
                simp (disch := omega) only [go_sem]
                refine fin_valc (by simp (disch := omega) only [go_sem]) (by simp (disch := omega) only [go_sem]) ⟨?_, rfl, rfl⟩
                exact hov _ _ _ rfl rfl rfl
            · cases s
              · simp (disch := omega) only [go_sem, h6]
                refine call_closed (con_l5most false) (by simp (disch := omega) only [go_sem]) ?_
                rintro r hs ⟨rfl, rfl, _⟩
                refine ⟨by simp [freeN], ?_⟩
                simp (disch := omega) only [go_sem]
                refine fin_valc (by simp (disch := omega) only [go_sem]) (by simp (disch := omega) only [go_sem]) ⟨?_, rfl, rfl⟩
                exact hov _ _ _ rfl rfl rfl
              · simp (disch := omega) only [go_sem, h6]
                refine fin_valc (by simp (disch := omega) only [go_sem]) (by simp (disch := omega) only [go_sem]) ⟨?_, rfl, rfl⟩
                exact hov _ _ _ rfl rfl rfl
            · cases s
              · simp (disch := omega) only [go_sem, h6]
                refine fin_valc (by simp (disch := omega) only [go_sem]) (by simp (disch := omega) only [go_sem]) ⟨?_, rfl, rfl⟩
                exact hov _ _ _ rfl rfl rfl
              · simp (disch := omega) only [go_sem, h6]
                refine fin_valc (by simp (disch := omega) only [go_sem]) (by simp (disch := omega) only [go_sem]) ⟨?_, rfl, rfl⟩
                exact hov _ _ _ rfl rfl rfl
          · simp (disch := omega) only [go_sem, h6]
            refine call_closed (con_l4top xs xm xe (by omega) (by omega)) (by simp (disch := omega) only [go_sem, et2]) ?_
            rintro r hs ⟨rfl, rfl, _⟩
            refine ⟨by simp [freeN], ?_⟩
            simp (disch := omega) only [go_sem]
            simp (disch := omega) only [go_sem, et2]
            have hfin : ∀ mm : Int, mm = (flM rm re : Int) → AV.tu [.ag [.v (.int .i64 1), .v (.bool xs), .v (.int .i64 mm), .v (.int .i64 (flE rm re))], .v (.int .i64 0)] = .tu [.ag [.v (.int .i64 ((flV s m e mode z).k)), .v (.bool ((flV s m e mode z).s)), .v (.int .i64 ((flV s m e mode z).m)), .v (.int .i64 ((flV s m e mode z).e))], .v (.int .i64 (flG s m e mode))] := by
              rintro mm rfl
              rw [hxs]
              exact hVG 1 _ _ 0 (by unfold flK; rw [if_neg hr0, if_neg (by omega)]) (by unfold flMm; rw [if_neg hr0, if_neg (by omega)]) (by unfold flEe; rw [if_neg hr0, if_neg (by omega)]) (by unfold flFl; rw [if_neg (by omega), hfl])
            have ek : xe - flE rm re = (((oE rm re - flE rm re).toNat : Nat) : Int) := by omega
            have hk9 : (oE rm re - flE rm re).toNat ≤ 53 := by have h9 := hM; unfold flM at h9; rw [bl_mul_pow (fun e => hr0 (oM_eq_zero.1 e))] at h9; omega
            have hM6 : flM rm re < 2 ^ 53 := Nat.lt_of_lt_of_le (bl_lt _) (Nat.pow_le_pow_right (by omega) hM)
            have eM : xm * 2 ^ (oE rm re - flE rm re).toNat = flM rm re := by rw [q1]; rfl
            generalize hkk : (oE rm re - flE rm re).toNat = kk at *
            refine ifW_dec (fun h7 => ?_) (fun h7 => ?_)
            · have eE : flE rm re = -1074 := by unfold flE flLow; rw [if_pos (by omega)]
              simp (disch := omega) only [go_sem, h7]
              rw [eE] at ek hfin
              try rw [← et2] at hfin
              refine draw_of rfl [⟨0, [], []⟩, ⟨1, [], []⟩, ⟨2, [], []⟩, ⟨3, [2], []⟩, ⟨4, [2], []⟩, ⟨5, [2], []⟩, ⟨6, [2, 5], []⟩, ⟨7, [2, 5], []⟩, ⟨8, [2, 5, 7], []⟩, ⟨9, [2, 5], []⟩, ⟨12, [2, 5, 7], []⟩, ⟨14, [2, 5, 7], []⟩, ⟨10, [2], []⟩, ⟨11, [2], []⟩, ⟨13, [], []⟩, ⟨15, [], []⟩, ⟨16, [], []⟩] (by kernel_rfl) ?_
              simp (disch := omega) only [go_sem]
              refine call_open (con_l2shlF xm kk (by omega) (by omega)) (by simp (disch := omega) only [go_sem, ek, et2]) ?_
              rintro r hs ⟨rfl, rfl, _⟩
              refine ⟨by simp [freeN], ?_⟩
              simp (disch := omega) only [go_sem]
              refine call_closed (con_l2int (xm * 2 ^ kk) (by rw [eM]; omega)) (by simp (disch := omega) only [go_sem]) ?_
              rintro r hs ⟨rfl, rfl, _⟩
              refine ⟨by simp [freeN], ?_⟩
              simp (disch := omega) only [go_sem]
              refine fin_valc (by simp (disch := omega) only [go_sem]) (by simp (disch := omega) only [go_sem]) ⟨?_, rfl, rfl⟩
              exact hfin ((xm * 2 ^ kk : Nat) : Int) (by rw [eM])
            · have eE : flE rm re = (bl rm : Int) + re - 53 := by unfold flE flLow; rw [if_neg (by omega)]
              simp (disch := omega) only [go_sem, h7]
              rw [eE] at ek hfin
              try rw [← et2] at hfin
              refine draw_of rfl [⟨0, [], []⟩, ⟨1, [], []⟩, ⟨2, [], []⟩, ⟨3, [2], []⟩, ⟨4, [2], []⟩, ⟨5, [2], []⟩, ⟨6, [2, 5], []⟩, ⟨7, [2, 5], []⟩, ⟨8, [2, 5, 7], []⟩, ⟨9, [2, 5], []⟩, ⟨12, [2, 5, 7], []⟩, ⟨14, [2, 5, 7], []⟩, ⟨10, [2], []⟩, ⟨11, [2], []⟩, ⟨13, [], []⟩, ⟨15, [], []⟩, ⟨16, [], []⟩] (by kernel_rfl) ?_
              simp (disch := omega) only [go_sem]
              refine call_open (con_l2shlF xm kk (by omega) (by omega)) (by simp (disch := omega) only [go_sem, ek, et2]) ?_
              rintro r hs ⟨rfl, rfl, _⟩
              refine ⟨by simp [freeN], ?_⟩
              simp (disch := omega) only [go_sem]
              refine call_closed (con_l2int (xm * 2 ^ kk) (by rw [eM]; omega)) (by simp (disch := omega) only [go_sem]) ?_
              rintro r hs ⟨rfl, rfl, _⟩
              refine ⟨by simp [freeN], ?_⟩
              simp (disch := omega) only [go_sem]
              refine fin_valc (by simp (disch := omega) only [go_sem]) (by simp (disch := omega) only [go_sem]) ⟨?_, rfl, rfl⟩
              exact hfin ((xm * 2 ^ kk : Nat) : Int) (by rw [eM])
end Go.Ab
namespace Go.Ab
open Go Go.Proofs
set_option linter.unusedVariables false
set_option linter.unusedSimpArgs false

theorem con_natokS (xs : List Int) (hl : xs.length ≤ 2 ^ 40) : Con Tryz.prog 95 true [.ag [.sl xs.length (ints xs)]] [] (isA (.v (.bool (natB xs)))) := by
  refine Con.of_aw Tryz.func95 rfl Tryz.ntmps95 (by simp) (by simp) (by simp) (W.sound ?_)
  show @W Tryz.prog 44 ⟨_⟩ ⟨fun x σ => @retW _ _ _ ⟨_⟩ _ ⟨_⟩ x σ⟩ _ _
  simp (disch := omega) only [go_sem]
  refine ifW_dec (fun h1 => ?_) (fun h1 => ?_)
  · simp (disch := omega) only [go_sem, h1]
    refine fin_valc (by simp (disch := omega) only [go_sem]) (by simp (disch := omega) only [go_sem]) ⟨?_, rfl, rfl⟩
    have : ¬ (xs.length ≤ 100) := by omega
    simp [tupA, natB, this]
  · simp (disch := omega) only [go_sem, h1]
    refine loop_intro (fun i : Nat => [(1, .pt 30000000 0), (2, .v (.bool false)), (3, .v (.int .i64 i))]) (fun _ => [(30000000, .own 0 [.sl xs.length (ints xs)])]) (fun i => i ≤ xs.length ∧ ∀ x ∈ xs.take i, 0 ≤ x ∧ x ≤ 65535) (fun i => xs.length - i) 0 ⟨by omega, by simp⟩
      (Le.lst [] _ _ rfl (by simp (disch := omega) only [go_sem]) (by simp (disch := omega) only [go_sem])) ?_
    rintro i ⟨hi, hx⟩
    simp (disch := omega) only [go_sem]
    refine ifW_dec (fun h2 => ?_) (fun h2 => ?_)
    · simp (disch := omega) only [go_sem, h2]
      have hmem : xs.getD i 0 ∈ xs := by
        rw [List.getD_eq_getElem?_getD, List.getElem?_eq_getElem (by omega)]; exact List.getElem_mem _
      have bad : ¬ (0 ≤ xs.getD i 0 ∧ xs.getD i 0 ≤ 65535) → natB xs = false := by
        intro hc
        unfold natB
        have : xs.all (fun x => decide (0 ≤ x) && decide (x ≤ 65535)) = false := by
          rw [List.all_eq_false]
          refine ⟨_, hmem, ?_⟩
          simp only [Bool.and_eq_true, decide_eq_true_eq]; exact hc
        rw [this]; simp
      refine ⟨by omega, by omega, ?_⟩
      refine ifW_not (fun h3 => ?_) (fun h3 => ?_)
      · simp (disch := omega) only [go_sem, h3]
        refine ⟨by omega, by omega, ?_⟩
        refine ifW_dec (fun h4 => ?_) (fun h4 => ?_)
        · simp (disch := omega) only [go_sem, h4]
          rw [bad (by omega)]
          exact fin_valc (by simp (disch := omega) only [go_sem]) (by simp (disch := omega) only [go_sem]) isA_mk
        · simp (disch := omega) only [go_sem, h4]
          refine next_intro (i + 1) [] ⟨by omega, ?_⟩ (by show xs.length - (i + 1) < xs.length - i; omega) rfl (by simp (disch := omega) only [go_sem]; try omega) (by simp (disch := omega) only [go_sem])
          intro x hxx
          rw [List.take_add_one] at hxx
          rcases List.mem_append.1 hxx with h | h
          · exact hx x h
          · rw [List.getElem?_eq_getElem (by omega)] at h
            simp at h
            rw [List.getD_eq_getElem?_getD, List.getElem?_eq_getElem (by omega)] at h3 h4
            simp at h3 h4
            subst h
            omega
      · simp (disch := omega) only [go_sem, h3]
        rw [bad (by omega)]
        exact fin_valc (by simp (disch := omega) only [go_sem]) (by simp (disch := omega) only [go_sem]) isA_mk
    · have : i = xs.length := by omega
      subst this
      rw [List.take_length] at hx
      have hall : xs.all (fun x => decide (0 ≤ x) && decide (x ≤ 65535)) = true := by
        rw [List.all_eq_true]
        intro x h; have := hx x h; simp only [Bool.and_eq_true, decide_eq_true_eq]; exact this
      have e1 : decide (xs.length ≤ 100) = true := by simp; omega
      simp (disch := omega) only [go_sem, h2]
      refine ifW_not (fun h3 => ?_) (fun h3 => ?_)
      · have en : ((xs.length : Int) - 1).toNat = xs.length - 1 := by omega
        have hmem : xs.getD (xs.length - 1) 0 ∈ xs := by
          rw [List.getD_eq_getElem?_getD, List.getElem?_eq_getElem (by omega)]; exact List.getElem_mem _
        have hp := hx _ hmem
        simp (disch := omega) only [go_sem, h3, en]
        refine ⟨by omega, by omega, ?_⟩
        refine fin_valc (by simp (disch := omega) only [go_sem]) (by simp (disch := omega) only [go_sem]) ⟨?_, rfl, rfl⟩
        have e2 : decide (xs.length = 0) = false := by simp; intro h; subst h; simp at h3
        show AV.v (.bool _) = AV.v (.bool _)
        unfold natB
        rw [e1, hall, e2, Bool.false_or, Bool.true_and, Bool.true_and]
        congr 2
        rw [decide_eq_decide]
        omega
      · simp (disch := omega) only [go_sem, h3]
        refine fin_valc (by simp (disch := omega) only [go_sem]) (by simp (disch := omega) only [go_sem]) ⟨?_, rfl, rfl⟩
        have e2 : decide (xs.length = 0) = true := by simp; exact List.length_eq_zero_iff.1 (by omega)
        show AV.v (.bool _) = AV.v (.bool _)
        unfold natB
        rw [e1, hall, e2]
        simp

theorem con_wholeokS (s : Bool) (xs : List Int) (hl : xs.length ≤ 2 ^ 40) : Con Tryz.prog 54 true [.ag [.v (.bool s), .sl xs.length (ints xs)]] [] (isA (.v (.bool (wholeB s xs)))) := by
  refine Con.of_aw Tryz.func54 rfl Tryz.ntmps54 (by simp) (by simp) (by simp) (W.sound ?_)
  show @W Tryz.prog 18 ⟨_⟩ ⟨fun x σ => @retW _ _ _ ⟨_⟩ _ ⟨_⟩ x σ⟩ _ _
  simp (disch := omega) only [go_sem]
  refine call_closed (con_natokS xs hl) (by simp (disch := omega) only [go_sem]) ?_
  rintro r hs ⟨rfl, rfl, _⟩
  refine ⟨by simp [freeN], ?_⟩
  simp (disch := omega) only [go_sem]
  refine ifW_b (fun h1 => ?_) (fun h1 => ?_)
  · simp (disch := omega) only [go_sem, h1]
    cases s
    · simp (disch := omega) only [go_sem]
      refine fin_valc (by simp (disch := omega) only [go_sem]) (by simp (disch := omega) only [go_sem]) ⟨?_, rfl, rfl⟩
      simp [tupA, wholeB, h1]
    · simp (disch := omega) only [go_sem]
      refine fin_valc (by simp (disch := omega) only [go_sem]) (by simp (disch := omega) only [go_sem]) ⟨?_, rfl, rfl⟩
      show AV.v (.bool _) = AV.v (.bool _)
      unfold wholeB
      rw [h1, Bool.true_and, Bool.true_and, ← decide_not]
      congr 2
      rw [decide_eq_decide]
      omega
  · simp (disch := omega) only [go_sem, h1]
    refine fin_valc (by simp (disch := omega) only [go_sem]) (by simp (disch := omega) only [go_sem]) ⟨?_, rfl, rfl⟩
    simp [tupA, wholeB, h1]

theorem con_dyokS (s : Bool) (xs : List Int) (e : Int) (hl : xs.length ≤ 2 ^ 40) : Con Tryz.prog 67 true [.ag [.v (.bool s), .sl xs.length (ints xs), .v (.int .i64 e)]] [] (isA (.v (.bool (dyB s xs e)))) := by
  refine Con.of_aw Tryz.func67 rfl Tryz.ntmps67 (by simp) (by simp) (by simp) (W.sound ?_)
  show @W Tryz.prog 31 ⟨_⟩ ⟨fun x σ => @retW _ _ _ ⟨_⟩ _ ⟨_⟩ x σ⟩ _ _
  simp (disch := omega) only [go_sem]
  refine call_closed (con_wholeokS s xs hl) (by simp (disch := omega) only [go_sem]) ?_
  rintro r hs ⟨rfl, rfl, _⟩
  refine ⟨by simp [freeN], ?_⟩
  simp (disch := omega) only [go_sem]
  refine ifW_b (fun hw => ?_) (fun hw => ?_)
  · have h1 := hw
    simp only [wholeB, Bool.and_eq_true] at h1
    obtain ⟨hx, hll⟩ := natB_lim h1.1
    have hxs : xs = lim (vl xs).toNat := hx
    generalize hm : (vl xs).toNat = m at *
    subst hx
    simp (disch := omega) only [go_sem, hw]
    refine ifW_not (fun h2 => ?_) (fun h2 => ?_)
    · simp (disch := omega) only [go_sem, h2]
      refine ifW_dec (fun h3 => ?_) (fun h3 => ?_)
      · simp (disch := omega) only [go_sem, h3]
        refine fin_valc (by simp (disch := omega) only [go_sem]) (by simp (disch := omega) only [go_sem]) ⟨?_, rfl, rfl⟩
        have a2 : ¬ e ≤ 3000 := by omega
        simp [tupA, dyB, a2]
      · simp (disch := omega) only [go_sem, h3]
        refine ifW_dec (fun h4 => ?_) (fun h4 => ?_)
        · simp (disch := omega) only [go_sem, h4]
          have h0 : m = 0 := lim_eq_nil.1 (List.length_eq_zero_iff.1 (by omega))
          refine fin_valc (by simp (disch := omega) only [go_sem]) (by simp (disch := omega) only [go_sem]) ⟨?_, rfl, rfl⟩
          have a1 : -3000 ≤ e := by omega
          have a2 : e ≤ 3000 := by omega
          have a3 : (lim m).length = 0 := by omega
          show AV.v (.bool _) = AV.v (.bool _)
          unfold dyB
          rw [hw, hm, decide_eq_true a1, decide_eq_true a2, decide_eq_true a3, h0]
          simp
        · simp (disch := omega) only [go_sem, h4]
          refine call_closed (con_l2bit m 0 (by omega) (by omega) (by omega)) (by simp (disch := omega) only [go_sem]) ?_
          rintro r hs ⟨rfl, rfl, _⟩
          refine ⟨by simp [freeN], ?_⟩
          simp (disch := omega) only [go_sem]
          refine fin_valc (by simp (disch := omega) only [go_sem]) (by simp (disch := omega) only [go_sem]) ⟨?_, rfl, rfl⟩
          have a1 : -3000 ≤ e := by omega
          have a2 : e ≤ 3000 := by omega
          have a3 : ¬ (lim m).length = 0 := by omega
          show AV.v (.bool _) = AV.v (.bool _)
          unfold dyB
          rw [hw, hm, decide_eq_true a1, decide_eq_true a2, decide_eq_false a3]
          simp
          omega
    · simp (disch := omega) only [go_sem, h2]
      refine fin_valc (by simp (disch := omega) only [go_sem]) (by simp (disch := omega) only [go_sem]) ⟨?_, rfl, rfl⟩
      have a1 : ¬ -3000 ≤ e := by omega
      simp [tupA, dyB, a1]
  · simp (disch := omega) only [go_sem, hw]
    refine fin_valc (by simp (disch := omega) only [go_sem]) (by simp (disch := omega) only [go_sem]) ⟨?_, rfl, rfl⟩
    simp [tupA, dyB, hw]

end Go.Ab
namespace Go.Ab
open Go Go.Proofs
set_option linter.unusedVariables false
set_option linter.unusedSimpArgs false

/-- A number in its one form is a dyadic number just if it is short enough. -/
theorem dyB_canon (s : Bool) (m : Nat) (e : Int) : dyB (oS s m) (lim (oM m)) (oE m e) = dyFit m e := by
  unfold dyB wholeB dyFit natFit
  rw [vl_lim, Int.toNat_natCast]
  have hod := oM_odd m
  have hz := oS_z s m
  by_cases h : (lim (oM m)).length ≤ 100
  · rw [natB_of _ h, decide_eq_true h, Bool.true_and, Bool.true_and]
    by_cases h0 : oM m = 0
    · have hm : m = 0 := oM_eq_zero.1 h0
      rw [hz h0, h0, hm]
      simp [oE, lim_zero]
    · have h1 : oM m % 2 = 1 := hod.resolve_right h0
      have h2 : decide ((lim (oM m)).length = 0) = false := by
        have := lim_ne h0
        exact decide_eq_false (by omega)
      rw [h2, decide_eq_true h1]
      simp
  · rw [decide_eq_false h]
    have : natB (lim (oM m)) = false := by unfold natB; rw [decide_eq_false h, Bool.false_and]
    rw [this]; simp

theorem con_l4fits (s : Bool) (m : Nat) (e : Int) (hl : (lim (oM m)).length ≤ 2 ^ 40) : Con Tryz.prog 56 false [.ag [.v (.bool (oS s m)), .sl (lim (oM m)).length (ints (lim (oM m))), .v (.int .i64 (oE m e))]] [] (isA (if dyFit m e = true then .tu [.ag [.v (.bool (oS s m)), .sl (lim (oM m)).length (ints (lim (oM m))), .v (.int .i64 (oE m e))], .v (.bool true)] else .tu [.ag [.v (.bool (false)), .sl (lim (0)).length (ints (lim (0))), .v (.int .i64 (0))], .v (.bool false)])) := by
  refine Con.frzA ?_
  have ck := con_dyokS (oS s m) (lim (oM m)) (oE m e) hl
  rw [dyB_canon] at ck
  cases hd : dyFit m e
  · rw [hd] at ck
    rw [if_neg (by simp), lim_zero]
    refine Con.of_aw Tryz.func56 rfl Tryz.ntmps56 (by simp) (by simp) (by simp) (W.sound ?_)
    show @W Tryz.prog 9 ⟨_⟩ ⟨fun x σ => @retW _ _ _ ⟨_⟩ _ ⟨_⟩ x σ⟩ _ _
    simp (disch := omega) only [go_sem]
    refine call_closed (ck) (by simp (disch := omega) only [go_sem]) ?_
    rintro r hs ⟨rfl, rfl, _⟩
    refine ⟨by simp [freeN], ?_⟩
    simp (disch := omega) only [go_sem]
    refine fin_val (by simp (disch := omega) only [go_sem]) ?_
    show snap _ 6 _ = _
    simp (disch := omega) only [go_sem]
  · rw [hd] at ck
    rw [if_pos rfl]
    refine Con.of_aw Tryz.func56 rfl Tryz.ntmps56 (by simp) (by simp) (by simp) (W.sound ?_)
    show @W Tryz.prog 9 ⟨_⟩ ⟨fun x σ => @retW _ _ _ ⟨_⟩ _ ⟨_⟩ x σ⟩ _ _
    simp (disch := omega) only [go_sem]
    refine call_closed (ck) (by simp (disch := omega) only [go_sem]) ?_
    rintro r hs ⟨rfl, rfl, _⟩
    refine ⟨by simp [freeN], ?_⟩
    simp (disch := omega) only [go_sem]
    refine fin_val (by simp (disch := omega) only [go_sem]) ?_
    show snap _ 6 _ = _
    simp (disch := omega) only [go_sem]

/-- What a sum, a product of dyadic numbers is told as. -/
theorem con_DyAddS (s1 : Bool) (m1 : Nat) (e1 : Int) (s2 : Bool) (m2 : Nat) (e2 : Int) (h1 : dyB s1 (lim m1) e1 = true) (h2 : dyB s2 (lim m2) e2 = true) :
    Con Tryz.prog 64 false [.ag [.v (.bool (s1)), .sl (lim (m1)).length (ints (lim (m1))), .v (.int .i64 (e1))], .ag [.v (.bool (s2)), .sl (lim (m2)).length (ints (lim (m2))), .v (.int .i64 (e2))]] [] (isA (if dyFit (adM s1 m1 e1 s2 m2 e2) (alE m1 e1 m2 e2) = true then .tu [.ag [.v (.bool (oS (adS s1 m1 e1 s2 m2 e2) (adM s1 m1 e1 s2 m2 e2))), .sl (lim (oM (adM s1 m1 e1 s2 m2 e2))).length (ints (lim (oM (adM s1 m1 e1 s2 m2 e2)))), .v (.int .i64 (oE (adM s1 m1 e1 s2 m2 e2) (alE m1 e1 m2 e2)))], .v (.bool true)] else .tu [.ag [.v (.bool (false)), .sl (lim (0)).length (ints (lim (0))), .v (.int .i64 (0))], .v (.bool false)])) := by
  refine Con.frzA ?_
  obtain ⟨n1, q1, b1, c1, d1, _, f1⟩ := dyB_lim h1
  obtain ⟨n2, q2, b2, c2, d2, _, f2⟩ := dyB_lim h2
  obtain rfl := lim_inj q1
  obtain rfl := lim_inj q2
  have hE := alE_ge (m1 := m1) (m2 := m2) d1.1 d2.1
  have b1' := bl_alA (e := e1) (E := alE m1 e1 m2 e2) (C := 6000) c1 (by omega)
  have b2' := bl_alA (e := e2) (E := alE m1 e1 m2 e2) (C := 6000) c2 (by omega)
  have hM : bl (adM s1 m1 e1 s2 m2 e2) ≤ 7601 := bl_suM b1' b2'
  have hl := len_bl (Nat.le_trans (bl_mono (oM_le _)) hM)
  have cf := con_l4fits (adS s1 m1 e1 s2 m2 e2) (adM s1 m1 e1 s2 m2 e2) (alE m1 e1 m2 e2) (by omega)
  have ca := con_l4add s1 m1 e1 s2 m2 e2 (by omega) (by omega) (by omega) (by omega) f1 f2
  have k1 := con_dyokS s1 (lim m1) e1 (by omega)
  have k2 := con_dyokS s2 (lim m2) e2 (by omega)
  rw [h1] at k1
  rw [h2] at k2
  cases hd : dyFit (adM s1 m1 e1 s2 m2 e2) (alE m1 e1 m2 e2)
  · rw [hd, if_neg (by simp), lim_zero] at cf
    rw [if_neg (by simp), lim_zero]
    refine Con.of_aw Tryz.func64 rfl Tryz.ntmps64 (by simp) (by simp) (by simp) (W.sound ?_)
    show @W Tryz.prog 21 ⟨_⟩ ⟨fun x σ => @retW _ _ _ ⟨_⟩ _ ⟨_⟩ x σ⟩ _ _
    simp (disch := omega) only [go_sem]
    refine call_closed (k1) (by simp (disch := omega) only [go_sem]) ?_
    rintro r hs ⟨rfl, rfl, _⟩
    refine ⟨by simp [freeN], ?_⟩
    simp (disch := omega) only [go_sem]
    refine call_closed (k2) (by simp (disch := omega) only [go_sem]) ?_
    rintro r hs ⟨rfl, rfl, _⟩
    refine ⟨by simp [freeN], ?_⟩
    simp (disch := omega) only [go_sem]
    refine call_open (ca) (by simp (disch := omega) only [go_sem]) ?_
    rintro r hs ⟨rfl, rfl, _⟩
    refine ⟨by simp [freeN], ?_⟩
    simp (disch := omega) only [go_sem]
    refine call_open (cf) (by simp (disch := omega) only [go_sem]) ?_
    rintro r hs ⟨rfl, rfl, _⟩
    refine ⟨by simp [freeN], ?_⟩
    simp (disch := omega) only [go_sem]
    refine fin_val (by simp (disch := omega) only [go_sem]) ?_
    show snap _ 6 _ = _
    simp (disch := omega) only [go_sem]
  · rw [hd, if_pos rfl] at cf
    rw [if_pos rfl]
    refine Con.of_aw Tryz.func64 rfl Tryz.ntmps64 (by simp) (by simp) (by simp) (W.sound ?_)
    show @W Tryz.prog 21 ⟨_⟩ ⟨fun x σ => @retW _ _ _ ⟨_⟩ _ ⟨_⟩ x σ⟩ _ _
    simp (disch := omega) only [go_sem]
    refine call_closed (k1) (by simp (disch := omega) only [go_sem]) ?_
    rintro r hs ⟨rfl, rfl, _⟩
    refine ⟨by simp [freeN], ?_⟩
    simp (disch := omega) only [go_sem]
    refine call_closed (k2) (by simp (disch := omega) only [go_sem]) ?_
    rintro r hs ⟨rfl, rfl, _⟩
    refine ⟨by simp [freeN], ?_⟩
    simp (disch := omega) only [go_sem]
    refine call_open (ca) (by simp (disch := omega) only [go_sem]) ?_
    rintro r hs ⟨rfl, rfl, _⟩
    refine ⟨by simp [freeN], ?_⟩
    simp (disch := omega) only [go_sem]
    refine call_open (cf) (by simp (disch := omega) only [go_sem]) ?_
    rintro r hs ⟨rfl, rfl, _⟩
    refine ⟨by simp [freeN], ?_⟩
    simp (disch := omega) only [go_sem]
    refine fin_val (by simp (disch := omega) only [go_sem]) ?_
    show snap _ 6 _ = _
    simp (disch := omega) only [go_sem]

def pmS (s1 : Bool) (m1 : Nat) (s2 : Bool) (m2 : Nat) : Bool := (s1 != s2) && decide (m1 * m2 ≠ 0)
theorem con_DyMulS (s1 : Bool) (m1 : Nat) (e1 : Int) (s2 : Bool) (m2 : Nat) (e2 : Int) (h1 : dyB s1 (lim m1) e1 = true) (h2 : dyB s2 (lim m2) e2 = true) :
    Con Tryz.prog 65 false [.ag [.v (.bool (s1)), .sl (lim (m1)).length (ints (lim (m1))), .v (.int .i64 (e1))], .ag [.v (.bool (s2)), .sl (lim (m2)).length (ints (lim (m2))), .v (.int .i64 (e2))]] [] (isA (if dyFit (m1 * m2) (e1 + e2) = true then .tu [.ag [.v (.bool (oS (pmS s1 m1 s2 m2) (m1 * m2))), .sl (lim (oM (m1 * m2))).length (ints (lim (oM (m1 * m2)))), .v (.int .i64 (oE (m1 * m2) (e1 + e2)))], .v (.bool true)] else .tu [.ag [.v (.bool (false)), .sl (lim (0)).length (ints (lim (0))), .v (.int .i64 (0))], .v (.bool false)])) := by
  refine Con.frzA ?_
  obtain ⟨n1, q1, b1, c1, d1, _, f1⟩ := dyB_lim h1
  obtain ⟨n2, q2, b2, c2, d2, _, f2⟩ := dyB_lim h2
  obtain rfl := lim_inj q1
  obtain rfl := lim_inj q2
  have hM := Nat.le_trans (bl_mulle m1 m2) (Nat.add_le_add c1 c2)
  have hl := len_bl (Nat.le_trans (bl_mono (oM_le _)) hM)
  have cf := con_l4fits (pmS s1 m1 s2 m2) (m1 * m2) (e1 + e2) (by omega)
  have ca := con_l4mul s1 m1 e1 s2 m2 e2 (by omega) (by omega) (by omega) (by omega)
  have k1 := con_dyokS s1 (lim m1) e1 (by omega)
  have k2 := con_dyokS s2 (lim m2) e2 (by omega)
  rw [h1] at k1
  rw [h2] at k2
  unfold pmS at *
  cases hd : dyFit (m1 * m2) (e1 + e2)
  · rw [hd, if_neg (by simp), lim_zero] at cf
    rw [if_neg (by simp), lim_zero]
    refine Con.of_aw Tryz.func65 rfl Tryz.ntmps65 (by simp) (by simp) (by simp) (W.sound ?_)
    show @W Tryz.prog 21 ⟨_⟩ ⟨fun x σ => @retW _ _ _ ⟨_⟩ _ ⟨_⟩ x σ⟩ _ _
    simp (disch := omega) only [go_sem]
    refine call_closed (k1) (by simp (disch := omega) only [go_sem]) ?_
    rintro r hs ⟨rfl, rfl, _⟩
    refine ⟨by simp [freeN], ?_⟩
    simp (disch := omega) only [go_sem]
    refine call_closed (k2) (by simp (disch := omega) only [go_sem]) ?_
    rintro r hs ⟨rfl, rfl, _⟩
    refine ⟨by simp [freeN], ?_⟩
    simp (disch := omega) only [go_sem]
    refine call_open (ca) (by simp (disch := omega) only [go_sem]) ?_
    rintro r hs ⟨rfl, rfl, _⟩
    refine ⟨by simp [freeN], ?_⟩
    simp (disch := omega) only [go_sem]
    refine call_open (cf) (by simp (disch := omega) only [go_sem]) ?_
    rintro r hs ⟨rfl, rfl, _⟩
    refine ⟨by simp [freeN], ?_⟩
    simp (disch := omega) only [go_sem]
    refine fin_val (by simp (disch := omega) only [go_sem]) ?_
    show snap _ 6 _ = _
    simp (disch := omega) only [go_sem]
  · rw [hd, if_pos rfl] at cf
    rw [if_pos rfl]
    refine Con.of_aw Tryz.func65 rfl Tryz.ntmps65 (by simp) (by simp) (by simp) (W.sound ?_)
    show @W Tryz.prog 21 ⟨_⟩ ⟨fun x σ => @retW _ _ _ ⟨_⟩ _ ⟨_⟩ x σ⟩ _ _
    simp (disch := omega) only [go_sem]
    refine call_closed (k1) (by simp (disch := omega) only [go_sem]) ?_
    rintro r hs ⟨rfl, rfl, _⟩
    refine ⟨by simp [freeN], ?_⟩
    simp (disch := omega) only [go_sem]
    refine call_closed (k2) (by simp (disch := omega) only [go_sem]) ?_
    rintro r hs ⟨rfl, rfl, _⟩
    refine ⟨by simp [freeN], ?_⟩
    simp (disch := omega) only [go_sem]
    refine call_open (ca) (by simp (disch := omega) only [go_sem]) ?_
    rintro r hs ⟨rfl, rfl, _⟩
    refine ⟨by simp [freeN], ?_⟩
    simp (disch := omega) only [go_sem]
    refine call_open (cf) (by simp (disch := omega) only [go_sem]) ?_
    rintro r hs ⟨rfl, rfl, _⟩
    refine ⟨by simp [freeN], ?_⟩
    simp (disch := omega) only [go_sem]
    refine fin_val (by simp (disch := omega) only [go_sem]) ?_
    show snap _ 6 _ = _
    simp (disch := omega) only [go_sem]

theorem con_lawAdd (s1 : Bool) (m1 : Nat) (e1 : Int) (s2 : Bool) (m2 : Nat) (e2 : Int) (ok : Bool) (h1 : dyB s1 (lim m1) e1 = true) (h2 : dyB s2 (lim m2) e2 = true) :
    Con Tryz.prog 22 false [.ag [.v (.bool (s1)), .sl (lim (m1)).length (ints (lim (m1))), .v (.int .i64 (e1))], .ag [.v (.bool (s2)), .sl (lim (m2)).length (ints (lim (m2))), .v (.int .i64 (e2))], .v (.bool ok)] [] (isA (if dyFit (adM s1 m1 e1 s2 m2 e2) (alE m1 e1 m2 e2) = true then .tu [.ag [.v (.bool (oS (adS s1 m1 e1 s2 m2 e2) (adM s1 m1 e1 s2 m2 e2))), .sl (lim (oM (adM s1 m1 e1 s2 m2 e2))).length (ints (lim (oM (adM s1 m1 e1 s2 m2 e2)))), .v (.int .i64 (oE (adM s1 m1 e1 s2 m2 e2) (alE m1 e1 m2 e2)))], .v (.bool ok)] else .tu [.ag [.v (.bool (false)), .sl (lim (0)).length (ints (lim (0))), .v (.int .i64 (0))], .v (.bool false)])) := by
  refine Con.frzA ?_
  have cf := con_DyAddS s1 m1 e1 s2 m2 e2 h1 h2
  cases hd : dyFit (adM s1 m1 e1 s2 m2 e2) (alE m1 e1 m2 e2)
  · rw [hd, if_neg (by simp), lim_zero] at cf
    rw [if_neg (by simp), lim_zero]
    cases ok
    · refine Con.of_aw Tryz.func22 rfl Tryz.ntmps22 (by simp) (by simp) (by simp) (W.sound ?_)
      show @W Tryz.prog 21 ⟨_⟩ ⟨fun x σ => @retW _ _ _ ⟨_⟩ _ ⟨_⟩ x σ⟩ _ _
      simp (disch := omega) only [go_sem]
      refine call_open (cf) (by simp (disch := omega) only [go_sem]) ?_
      rintro r hs ⟨rfl, rfl, _⟩
      refine ⟨by simp [freeN], ?_⟩
      simp (disch := omega) only [go_sem]
      refine fin_val (by simp (disch := omega) only [go_sem]) ?_
      show snap _ 6 _ = _
      simp (disch := omega) only [go_sem]
    · refine Con.of_aw Tryz.func22 rfl Tryz.ntmps22 (by simp) (by simp) (by simp) (W.sound ?_)
      show @W Tryz.prog 21 ⟨_⟩ ⟨fun x σ => @retW _ _ _ ⟨_⟩ _ ⟨_⟩ x σ⟩ _ _
      simp (disch := omega) only [go_sem]
      refine call_open (cf) (by simp (disch := omega) only [go_sem]) ?_
      rintro r hs ⟨rfl, rfl, _⟩
      refine ⟨by simp [freeN], ?_⟩
      simp (disch := omega) only [go_sem]
      refine fin_val (by simp (disch := omega) only [go_sem]) ?_
      show snap _ 6 _ = _
      simp (disch := omega) only [go_sem]
  · rw [hd, if_pos rfl] at cf
    rw [if_pos rfl]
    cases ok
    · refine Con.of_aw Tryz.func22 rfl Tryz.ntmps22 (by simp) (by simp) (by simp) (W.sound ?_)
      show @W Tryz.prog 21 ⟨_⟩ ⟨fun x σ => @retW _ _ _ ⟨_⟩ _ ⟨_⟩ x σ⟩ _ _
      simp (disch := omega) only [go_sem]
      refine call_open (cf) (by simp (disch := omega) only [go_sem]) ?_
      rintro r hs ⟨rfl, rfl, _⟩
      refine ⟨by simp [freeN], ?_⟩
      simp (disch := omega) only [go_sem]
      refine fin_val (by simp (disch := omega) only [go_sem]) ?_
      show snap _ 6 _ = _
      simp (disch := omega) only [go_sem]
    · refine Con.of_aw Tryz.func22 rfl Tryz.ntmps22 (by simp) (by simp) (by simp) (W.sound ?_)
      show @W Tryz.prog 21 ⟨_⟩ ⟨fun x σ => @retW _ _ _ ⟨_⟩ _ ⟨_⟩ x σ⟩ _ _
      simp (disch := omega) only [go_sem]
      refine call_open (cf) (by simp (disch := omega) only [go_sem]) ?_
      rintro r hs ⟨rfl, rfl, _⟩
      refine ⟨by simp [freeN], ?_⟩
      simp (disch := omega) only [go_sem]
      refine fin_val (by simp (disch := omega) only [go_sem]) ?_
      show snap _ 6 _ = _
      simp (disch := omega) only [go_sem]

theorem con_lawMul (s1 : Bool) (m1 : Nat) (e1 : Int) (s2 : Bool) (m2 : Nat) (e2 : Int) (ok : Bool) (h1 : dyB s1 (lim m1) e1 = true) (h2 : dyB s2 (lim m2) e2 = true) :
    Con Tryz.prog 23 false [.ag [.v (.bool (s1)), .sl (lim (m1)).length (ints (lim (m1))), .v (.int .i64 (e1))], .ag [.v (.bool (s2)), .sl (lim (m2)).length (ints (lim (m2))), .v (.int .i64 (e2))], .v (.bool ok)] [] (isA (if dyFit (m1 * m2) (e1 + e2) = true then .tu [.ag [.v (.bool (oS (pmS s1 m1 s2 m2) (m1 * m2))), .sl (lim (oM (m1 * m2))).length (ints (lim (oM (m1 * m2)))), .v (.int .i64 (oE (m1 * m2) (e1 + e2)))], .v (.bool ok)] else .tu [.ag [.v (.bool (false)), .sl (lim (0)).length (ints (lim (0))), .v (.int .i64 (0))], .v (.bool false)])) := by
  refine Con.frzA ?_
  have cf := con_DyMulS s1 m1 e1 s2 m2 e2 h1 h2
  cases hd : dyFit (m1 * m2) (e1 + e2)
  · rw [hd, if_neg (by simp), lim_zero] at cf
    rw [if_neg (by simp), lim_zero]
    cases ok
    · refine Con.of_aw Tryz.func23 rfl Tryz.ntmps23 (by simp) (by simp) (by simp) (W.sound ?_)
      show @W Tryz.prog 21 ⟨_⟩ ⟨fun x σ => @retW _ _ _ ⟨_⟩ _ ⟨_⟩ x σ⟩ _ _
      simp (disch := omega) only [go_sem]
      refine call_open (cf) (by simp (disch := omega) only [go_sem]) ?_
      rintro r hs ⟨rfl, rfl, _⟩
      refine ⟨by simp [freeN], ?_⟩
      simp (disch := omega) only [go_sem]
      refine fin_val (by simp (disch := omega) only [go_sem]) ?_
      show snap _ 6 _ = _
      simp (disch := omega) only [go_sem]
    · refine Con.of_aw Tryz.func23 rfl Tryz.ntmps23 (by simp) (by simp) (by simp) (W.sound ?_)
      show @W Tryz.prog 21 ⟨_⟩ ⟨fun x σ => @retW _ _ _ ⟨_⟩ _ ⟨_⟩ x σ⟩ _ _
      simp (disch := omega) only [go_sem]
      refine call_open (cf) (by simp (disch := omega) only [go_sem]) ?_
      rintro r hs ⟨rfl, rfl, _⟩
      refine ⟨by simp [freeN], ?_⟩
      simp (disch := omega) only [go_sem]
      refine fin_val (by simp (disch := omega) only [go_sem]) ?_
      show snap _ 6 _ = _
      simp (disch := omega) only [go_sem]
  · rw [hd, if_pos rfl] at cf
    rw [if_pos rfl]
    cases ok
    · refine Con.of_aw Tryz.func23 rfl Tryz.ntmps23 (by simp) (by simp) (by simp) (W.sound ?_)
      show @W Tryz.prog 21 ⟨_⟩ ⟨fun x σ => @retW _ _ _ ⟨_⟩ _ ⟨_⟩ x σ⟩ _ _
      simp (disch := omega) only [go_sem]
      refine call_open (cf) (by simp (disch := omega) only [go_sem]) ?_
      rintro r hs ⟨rfl, rfl, _⟩
      refine ⟨by simp [freeN], ?_⟩
      simp (disch := omega) only [go_sem]
      refine fin_val (by simp (disch := omega) only [go_sem]) ?_
      show snap _ 6 _ = _
      simp (disch := omega) only [go_sem]
    · refine Con.of_aw Tryz.func23 rfl Tryz.ntmps23 (by simp) (by simp) (by simp) (W.sound ?_)
      show @W Tryz.prog 21 ⟨_⟩ ⟨fun x σ => @retW _ _ _ ⟨_⟩ _ ⟨_⟩ x σ⟩ _ _
      simp (disch := omega) only [go_sem]
      refine call_open (cf) (by simp (disch := omega) only [go_sem]) ?_
      rintro r hs ⟨rfl, rfl, _⟩
      refine ⟨by simp [freeN], ?_⟩
      simp (disch := omega) only [go_sem]
      refine fin_val (by simp (disch := omega) only [go_sem]) ?_
      show snap _ 6 _ = _
      simp (disch := omega) only [go_sem]
end Go.Ab
namespace Go.Ab
open Go Go.Proofs
set_option linter.unusedVariables false
set_option linter.unusedSimpArgs false

theorem con_l3cmp (s1 : Bool) (m1 : Nat) (s2 : Bool) (m2 : Nat) (l1 : (lim m1).length ≤ 2 ^ 40) (l2 : (lim m2).length ≤ 2 ^ 40) (z1 : m1 = 0 → s1 = false) (z2 : m2 = 0 → s2 = false) :
    Con Tryz.prog 107 true [.ag [.v (.bool (s1)), .sl (lim (m1)).length (ints (lim (m1)))], .ag [.v (.bool (s2)), .sl (lim (m2)).length (ints (lim (m2)))]] [] (isA (.v (.int .i64 (cmpI (sv s1 m1) (sv s2 m2))))) := by
  rw [cmp_signs z1 z2]
  cases s1 <;> cases s2
  · refine Con.of_aw Tryz.func107 rfl Tryz.ntmps107 (by simp) (by simp) (by simp) (W.sound ?_)
    show @W Tryz.prog 24 ⟨_⟩ ⟨fun x σ => @retW _ _ _ ⟨_⟩ _ ⟨_⟩ x σ⟩ _ _
    simp (disch := omega) only [go_sem]
    refine call_closed (con_l2cmp m1 m2 l1 l2) (by simp (disch := omega) only [go_sem]) ?_
    rintro r hs ⟨rfl, rfl, _⟩
    refine ⟨by simp [freeN], ?_⟩
    simp (disch := omega) only [go_sem]
    exact fin_valc (by simp (disch := omega) only [go_sem]) (by simp (disch := omega) only [go_sem]) isA_mk
  · refine Con.of_aw Tryz.func107 rfl Tryz.ntmps107 (by simp) (by simp) (by simp) (W.sound ?_)
    show @W Tryz.prog 24 ⟨_⟩ ⟨fun x σ => @retW _ _ _ ⟨_⟩ _ ⟨_⟩ x σ⟩ _ _
    simp (disch := omega) only [go_sem]
    exact fin_valc (by simp (disch := omega) only [go_sem]) (by simp (disch := omega) only [go_sem]) isA_mk
  · refine Con.of_aw Tryz.func107 rfl Tryz.ntmps107 (by simp) (by simp) (by simp) (W.sound ?_)
    show @W Tryz.prog 24 ⟨_⟩ ⟨fun x σ => @retW _ _ _ ⟨_⟩ _ ⟨_⟩ x σ⟩ _ _
    simp (disch := omega) only [go_sem]
    exact fin_valc (by simp (disch := omega) only [go_sem]) (by simp (disch := omega) only [go_sem]) isA_mk
  · refine Con.of_aw Tryz.func107 rfl Tryz.ntmps107 (by simp) (by simp) (by simp) (W.sound ?_)
    show @W Tryz.prog 24 ⟨_⟩ ⟨fun x σ => @retW _ _ _ ⟨_⟩ _ ⟨_⟩ x σ⟩ _ _
    simp (disch := omega) only [go_sem]
    refine call_closed (con_l2cmp m2 m1 l2 l1) (by simp (disch := omega) only [go_sem]) ?_
    rintro r hs ⟨rfl, rfl, _⟩
    refine ⟨by simp [freeN], ?_⟩
    simp (disch := omega) only [go_sem]
    exact fin_valc (by simp (disch := omega) only [go_sem]) (by simp (disch := omega) only [go_sem]) isA_mk

theorem con_l4cmp (K : Nat) (s1 : Bool) (m1 : Nat) (e1 : Int) (s2 : Bool) (m2 : Nat) (e2 : Int) (h1 : bl m1 ≤ 4000000) (h2 : bl m2 ≤ 4000000) (he1 : -1000000 ≤ e1 ∧ e1 ≤ 1000000) (he2 : -1000000 ≤ e2 ∧ e2 ≤ 1000000) (k1 : -(K : Int) ≤ e1) (k2 : -(K : Int) ≤ e2) (z1 : m1 = 0 → s1 = false) (z2 : m2 = 0 → s2 = false) :
    Con Tryz.prog 68 true [.ag [.v (.bool (s1)), .sl (lim (m1)).length (ints (lim (m1))), .v (.int .i64 (e1))], .ag [.v (.bool (s2)), .sl (lim (m2)).length (ints (lim (m2))), .v (.int .i64 (e2))]] [] (isA (.v (.int .i64 (cmpI (dv K s1 m1 e1) (dv K s2 m2 e2))))) := by
  have hE := alE_ge (m1 := m1) (m2 := m2) he1.1 he2.1
  have b1 := len_bl (bl_alA (e := e1) (E := alE m1 e1 m2 e2) (C := 2000000) h1 (by omega))
  have b2 := len_bl (bl_alA (e := e2) (E := alE m1 e1 m2 e2) (C := 2000000) h2 (by omega))
  rw [← cmp_dv k1 k2]
  have y1 : alA m1 e1 (alE m1 e1 m2 e2) = 0 → s1 = false := fun h => z1 (alA_zero.1 h)
  have y2 : alA m2 e2 (alE m1 e1 m2 e2) = 0 → s2 = false := fun h => z2 (alA_zero.1 h)
  refine Con.of_aw Tryz.func68 rfl Tryz.ntmps68 (by simp) (by simp) (by simp) (W.sound ?_)
  show @W Tryz.prog 18 ⟨_⟩ ⟨fun x σ => @retW _ _ _ ⟨_⟩ _ ⟨_⟩ x σ⟩ _ _
  simp (disch := omega) only [go_sem]
  refine call_open (con_l4align s1 m1 e1 s2 m2 e2 h1 h2 he1 he2 z1 z2) (by simp (disch := omega) only [go_sem]) ?_
  rintro r hs ⟨rfl, rfl, _⟩
  refine ⟨by simp [freeN], ?_⟩
  simp (disch := omega) only [go_sem]
  refine call_closed (con_l3cmp s1 (alA m1 e1 (alE m1 e1 m2 e2)) s2 (alA m2 e2 (alE m1 e1 m2 e2)) (by omega) (by omega) y1 y2) (by simp (disch := omega) only [go_sem]) ?_
  rintro r hs ⟨rfl, rfl, _⟩
  refine ⟨by simp [freeN], ?_⟩
  simp (disch := omega) only [go_sem]
  exact fin_valc (by simp (disch := omega) only [go_sem]) (by simp (disch := omega) only [go_sem]) isA_mk

theorem con_DyCmpS (s1 : Bool) (m1 : Nat) (e1 : Int) (s2 : Bool) (m2 : Nat) (e2 : Int) (h1 : dyB s1 (lim m1) e1 = true) (h2 : dyB s2 (lim m2) e2 = true) :
    Con Tryz.prog 27 true [.ag [.v (.bool (s1)), .sl (lim (m1)).length (ints (lim (m1))), .v (.int .i64 (e1))], .ag [.v (.bool (s2)), .sl (lim (m2)).length (ints (lim (m2))), .v (.int .i64 (e2))]] [] (isA (.v (.int .i64 (cmpI (dv 3000 s1 m1 e1) (dv 3000 s2 m2 e2))))) := by
  obtain ⟨n1, q1, b1, c1, d1, _, f1⟩ := dyB_lim h1
  obtain ⟨n2, q2, b2, c2, d2, _, f2⟩ := dyB_lim h2
  obtain rfl := lim_inj q1
  obtain rfl := lim_inj q2
  have k1 := con_dyokS s1 (lim m1) e1 (by omega)
  have k2 := con_dyokS s2 (lim m2) e2 (by omega)
  rw [h1] at k1
  rw [h2] at k2
  refine Con.of_aw Tryz.func27 rfl Tryz.ntmps27 (by simp) (by simp) (by simp) (W.sound ?_)
  show @W Tryz.prog 16 ⟨_⟩ ⟨fun x σ => @retW _ _ _ ⟨_⟩ _ ⟨_⟩ x σ⟩ _ _
  simp (disch := omega) only [go_sem]
  refine call_closed (k1) (by simp (disch := omega) only [go_sem]) ?_
  rintro r hs ⟨rfl, rfl, _⟩
  refine ⟨by simp [freeN], ?_⟩
  simp (disch := omega) only [go_sem]
  refine call_closed (k2) (by simp (disch := omega) only [go_sem]) ?_
  rintro r hs ⟨rfl, rfl, _⟩
  refine ⟨by simp [freeN], ?_⟩
  simp (disch := omega) only [go_sem]
  refine call_closed (con_l4cmp 3000 s1 m1 e1 s2 m2 e2 (by omega) (by omega) (by omega) (by omega) (by omega) (by omega) f1 f2) (by simp (disch := omega) only [go_sem]) ?_
  rintro r hs ⟨rfl, rfl, _⟩
  refine ⟨by simp [freeN], ?_⟩
  simp (disch := omega) only [go_sem]
  exact fin_valc (by simp (disch := omega) only [go_sem]) (by simp (disch := omega) only [go_sem]) isA_mk

theorem con_DyNegS (s : Bool) (m : Nat) (e : Int) (h : dyB s (lim m) e = true) : Con Tryz.prog 66 false [.ag [.v (.bool (s)), .sl (lim (m)).length (ints (lim (m))), .v (.int .i64 (e))]] [] (isA (.ag [.v (.bool ((!s) && decide (m ≠ 0))), .sl (lim (m)).length (ints (lim (m))), .v (.int .i64 (e))])) := by
  refine Con.frzA ?_
  obtain ⟨n1, q1, b1, c1, d1, _, f1⟩ := dyB_lim h
  obtain rfl := lim_inj q1
  have k1 := con_dyokS s (lim m) e (by omega)
  rw [h] at k1
  refine Con.of_aw Tryz.func66 rfl Tryz.ntmps66 (by simp) (by simp) (by simp) (W.sound ?_)
  show @W Tryz.prog 9 ⟨_⟩ ⟨fun x σ => @retW _ _ _ ⟨_⟩ _ ⟨_⟩ x σ⟩ _ _
  simp (disch := omega) only [go_sem]
  refine call_closed (k1) (by simp (disch := omega) only [go_sem]) ?_
  rintro r hs ⟨rfl, rfl, _⟩
  refine ⟨by simp [freeN], ?_⟩
  simp (disch := omega) only [go_sem]
  refine call_open (con_l4neg s m e (by omega)) (by simp (disch := omega) only [go_sem]) ?_
  rintro r hs ⟨rfl, rfl, _⟩
  refine ⟨by simp [freeN], ?_⟩
  simp (disch := omega) only [go_sem]
  refine fin_val (by simp (disch := omega) only [go_sem]) ?_
  show snap _ 6 _ = _
  simp (disch := omega) only [go_sem]

theorem con_lawNeg (s : Bool) (m : Nat) (e : Int) (h : dyB s (lim m) e = true) : Con Tryz.prog 25 false [.ag [.v (.bool (s)), .sl (lim (m)).length (ints (lim (m))), .v (.int .i64 (e))]] [] (isA (.ag [.v (.bool ((!s) && decide (m ≠ 0))), .sl (lim (m)).length (ints (lim (m))), .v (.int .i64 (e))])) := by
  refine Con.frzA ?_
  refine Con.of_aw Tryz.func25 rfl Tryz.ntmps25 (by simp) (by simp) (by simp) (W.sound ?_)
  show @W Tryz.prog 5 ⟨_⟩ ⟨fun x σ => @retW _ _ _ ⟨_⟩ _ ⟨_⟩ x σ⟩ _ _
  simp (disch := omega) only [go_sem]
  refine call_open (con_DyNegS s m e h) (by simp (disch := omega) only [go_sem]) ?_
  rintro r hs ⟨rfl, rfl, _⟩
  refine ⟨by simp [freeN], ?_⟩
  simp (disch := omega) only [go_sem]
  refine fin_val (by simp (disch := omega) only [go_sem]) ?_
  show snap _ 6 _ = _
  simp (disch := omega) only [go_sem]

theorem con_WholeOfS (n : Int) (h : -9223372036854775808 ≤ n ∧ n < 9223372036854775808) : Con Tryz.prog 11 false [.v (.int .i64 n)] [] (isA (.ag [.v (.bool (decide (n < 0))), .sl (lim (n.natAbs)).length (ints (lim (n.natAbs)))])) := by
  refine Con.frzA ?_
  refine Con.of_aw Tryz.func11 rfl Tryz.ntmps11 (by simp) (by simp) (by simp) (W.sound ?_)
  show @W Tryz.prog 5 ⟨_⟩ ⟨fun x σ => @retW _ _ _ ⟨_⟩ _ ⟨_⟩ x σ⟩ _ _
  simp (disch := omega) only [go_sem]
  refine call_open (con_l3of n h) (by simp (disch := omega) only [go_sem]) ?_
  rintro r hs ⟨rfl, rfl, _⟩
  refine ⟨by simp [freeN], ?_⟩
  simp (disch := omega) only [go_sem]
  refine fin_val (by simp (disch := omega) only [go_sem]) ?_
  show snap _ 6 _ = _
  simp (disch := omega) only [go_sem]

theorem con_l4e (e : Int) : Con Tryz.prog 55 true [.v (.int .i64 e)] [] (isA (.v (.bool (decide (-12000 ≤ e) && decide (e ≤ 12000))))) := by
  refine Con.of_aw Tryz.func55 rfl Tryz.ntmps55 (by simp) (by simp) (by simp) (W.sound ?_)
  show @W Tryz.prog 9 ⟨_⟩ ⟨fun x σ => @retW _ _ _ ⟨_⟩ _ ⟨_⟩ x σ⟩ _ _
  simp (disch := omega) only [go_sem]
  repeat' first
    | simp (disch := omega) only [go_sem, *]
    | (with_reducible refine ifW_dec (fun _ => ?_) (fun _ => ?_))
    | (with_reducible refine ifW_not (fun _ => ?_) (fun _ => ?_))
    | (with_reducible refine ifW_nb (fun _ => ?_) (fun _ => ?_))
    | (with_reducible refine ifW_b (fun _ => ?_) (fun _ => ?_))
  all_goals exact fin_valc (by simp (disch := omega) only [go_sem]) (by simp (disch := omega) only [go_sem]) ⟨by simp_all [tupA] <;> omega, rfl, rfl⟩

theorem con_DyOfS (s : Bool) (m : Nat) (e : Int) (h : wholeB s (lim m) = true) (he : -12000 ≤ e ∧ e ≤ 12000) :
    Con Tryz.prog 14 false [.ag [.v (.bool (s)), .sl (lim (m)).length (ints (lim (m)))], .v (.int .i64 e)] [] (isA (if dyFit m e = true then .tu [.ag [.v (.bool (oS s m)), .sl (lim (oM m)).length (ints (lim (oM m))), .v (.int .i64 (oE m e))], .v (.bool true)] else .tu [.ag [.v (.bool (false)), .sl (lim (0)).length (ints (lim (0))), .v (.int .i64 (0))], .v (.bool false)])) := by
  refine Con.frzA ?_
  have h' := h
  simp only [wholeB, Bool.and_eq_true] at h'
  obtain ⟨_, hl⟩ := natB_lim h'.1
  have hb := bl_len (m := m)
  have hb2 := len_bl (Nat.le_trans (bl_mono (oM_le m)) hb)
  have k1 := con_wholeokS s (lim m) (by omega)
  rw [h] at k1
  have k2 := con_l4e e
  rw [decide_eq_true he.1, decide_eq_true he.2] at k2
  have cf := con_l4fits s m e (by omega)
  cases hd : dyFit m e
  · rw [hd, if_neg (by simp), lim_zero] at cf
    rw [if_neg (by simp), lim_zero]
    refine Con.of_aw Tryz.func14 rfl Tryz.ntmps14 (by simp) (by simp) (by simp) (W.sound ?_)
    show @W Tryz.prog 21 ⟨_⟩ ⟨fun x σ => @retW _ _ _ ⟨_⟩ _ ⟨_⟩ x σ⟩ _ _
    simp (disch := omega) only [go_sem]
    refine call_closed (k1) (by simp (disch := omega) only [go_sem]) ?_
    rintro r hs ⟨rfl, rfl, _⟩
    refine ⟨by simp [freeN], ?_⟩
    simp (disch := omega) only [go_sem]
    refine call_closed (k2) (by simp (disch := omega) only [go_sem]) ?_
    rintro r hs ⟨rfl, rfl, _⟩
    refine ⟨by simp [freeN], ?_⟩
    simp (disch := omega) only [go_sem]
    refine call_open (con_l4make s m e (by omega) (by omega)) (by simp (disch := omega) only [go_sem]) ?_
    rintro r hs ⟨rfl, rfl, _⟩
    refine ⟨by simp [freeN], ?_⟩
    simp (disch := omega) only [go_sem]
    refine call_open (cf) (by simp (disch := omega) only [go_sem]) ?_
    rintro r hs ⟨rfl, rfl, _⟩
    refine ⟨by simp [freeN], ?_⟩
    simp (disch := omega) only [go_sem]
    refine fin_val (by simp (disch := omega) only [go_sem]) ?_
    show snap _ 6 _ = _
    simp (disch := omega) only [go_sem]
  · rw [hd, if_pos rfl] at cf
    rw [if_pos rfl]
    refine Con.of_aw Tryz.func14 rfl Tryz.ntmps14 (by simp) (by simp) (by simp) (W.sound ?_)
    show @W Tryz.prog 21 ⟨_⟩ ⟨fun x σ => @retW _ _ _ ⟨_⟩ _ ⟨_⟩ x σ⟩ _ _
    simp (disch := omega) only [go_sem]
    refine call_closed (k1) (by simp (disch := omega) only [go_sem]) ?_
    rintro r hs ⟨rfl, rfl, _⟩
    refine ⟨by simp [freeN], ?_⟩
    simp (disch := omega) only [go_sem]
    refine call_closed (k2) (by simp (disch := omega) only [go_sem]) ?_
    rintro r hs ⟨rfl, rfl, _⟩
    refine ⟨by simp [freeN], ?_⟩
    simp (disch := omega) only [go_sem]
    refine call_open (con_l4make s m e (by omega) (by omega)) (by simp (disch := omega) only [go_sem]) ?_
    rintro r hs ⟨rfl, rfl, _⟩
    refine ⟨by simp [freeN], ?_⟩
    simp (disch := omega) only [go_sem]
    refine call_open (cf) (by simp (disch := omega) only [go_sem]) ?_
    rintro r hs ⟨rfl, rfl, _⟩
    refine ⟨by simp [freeN], ?_⟩
    simp (disch := omega) only [go_sem]
    refine fin_val (by simp (disch := omega) only [go_sem]) ?_
    show snap _ 6 _ = _
    simp (disch := omega) only [go_sem]

theorem tz_one' : tz 1 = 0 := tz_odd rfl
theorem lim_one : lim 1 = [1] := by rw [lim_pos (by omega)]; simp [lim_zero]
theorem con_dyHalf : Con Tryz.prog 24 false [.v (.int .i64 1), .v (.int .i64 (-1))] [] (isA (.ag [.v (.bool (false)), .sl (lim (1)).length (ints (lim (1))), .v (.int .i64 (-1))])) := by
  refine Con.frzA ?_
  have hm : oM 1 = 1 := by unfold oM; rw [tz_one']
  have he : oE 1 (-1) = -1 := by unfold oE; rw [tz_one']; rfl
  have c1 := con_DyOfS false 1 (-1) (by rw [lim_one]; decide) (by omega)
  rw [if_pos (by unfold dyFit natFit; rw [hm, he, lim_one]; decide), hm, he] at c1
  have c0 := con_WholeOfS 1 (by omega)
  have e1 : decide ((1 : Int) < 0) = false := rfl
  have e2 : (1 : Int).natAbs = 1 := rfl
  rw [e1, e2] at c0
  refine Con.of_aw Tryz.func24 rfl Tryz.ntmps24 (by simp) (by simp) (by simp) (W.sound ?_)
  show @W Tryz.prog 15 ⟨_⟩ ⟨fun x σ => @retW _ _ _ ⟨_⟩ _ ⟨_⟩ x σ⟩ _ _
  simp (disch := omega) only [go_sem]
  refine call_open (c0) (by simp (disch := omega) only [go_sem]) ?_
  rintro r hs ⟨rfl, rfl, _⟩
  refine ⟨by simp [freeN], ?_⟩
  simp (disch := omega) only [go_sem]
  refine call_open (c1) (by simp (disch := omega) only [go_sem]) ?_
  rintro r hs ⟨rfl, rfl, _⟩
  refine ⟨by simp [freeN], ?_⟩
  simp (disch := omega) only [go_sem]
  refine fin_val (by simp (disch := omega) only [go_sem]) ?_
  show snap _ 6 _ = _
  rfl

/-! ### Sameness -/
theorem con_sameNat (a b : Nat) (la : (lim a).length ≤ 2 ^ 40) (lb : (lim b).length ≤ 2 ^ 40) : Con Tryz.prog 47 true [.ag [.sl (lim (a)).length (ints (lim (a)))], .ag [.sl (lim (b)).length (ints (lim (b)))]] [] (isA (.v (.bool (decide (a = b))))) := by
  refine Con.of_aw Tryz.func47 rfl Tryz.ntmps47 (by simp) (by simp) (by simp) (W.sound ?_)
  show @W Tryz.prog 31 ⟨_⟩ ⟨fun x σ => @retW _ _ _ ⟨_⟩ _ ⟨_⟩ x σ⟩ _ _
  simp (disch := omega) only [go_sem]
  refine ifW_not (fun h1 => ?_) (fun h1 => ?_)
  · simp (disch := omega) only [go_sem, h1]
    rw [decide_eq_false (fun e => h1 (by rw [e]))]
    exact fin_valc (by simp (disch := omega) only [go_sem]) (by simp (disch := omega) only [go_sem]) isA_mk
  · have hl : (lim a).length = (lim b).length := by omega
    simp (disch := omega) only [go_sem, h1]
    refine loop_intro (fun i : Nat => [(2, .pt 40000000 0), (3, .pt 50000000 0), (5, .v (.int .i64 i))]) (fun _ => [(40000000, .own 0 [.sl (lim (a)).length (ints (lim (a)))]), (50000000, .own 0 [.sl (lim (b)).length (ints (lim (b)))])])
      (fun i => i ≤ (lim a).length ∧ (lim a).take i = (lim b).take i) (fun i => (lim a).length - i) 0 ⟨by omega, by simp⟩ (Le.lst [] _ _ rfl (by simp (disch := omega) only [go_sem]; try omega) (by simp (disch := omega) only [go_sem])) ?_
    rintro i ⟨hi, ht⟩
    simp (disch := omega) only [go_sem]
    refine ifW_dec (fun h2 => ?_) (fun h2 => ?_)
    · simp (disch := omega) only [go_sem, h2]
      refine draw_of rfl [⟨0, [], []⟩, ⟨1, [], []⟩, ⟨2, [1], []⟩, ⟨3, [], []⟩, ⟨4, [], []⟩, ⟨5, [1, 4], []⟩, ⟨6, [1, 4], []⟩, ⟨7, [1, 4, 6], []⟩, ⟨8, [1, 4], []⟩, ⟨9, [1, 4], []⟩, ⟨10, [], []⟩] (by kernel_rfl) ?_
      simp (disch := omega) only [go_sem]
      refine ⟨by omega, by omega, by omega, by omega, ?_⟩
      refine ifW_not (fun h3 => ?_) (fun h3 => ?_)
      · simp (disch := omega) only [go_sem, h3]
        rw [decide_eq_false (fun e => h3 (by rw [e]))]
        exact fin_valc (by simp (disch := omega) only [go_sem]) (by simp (disch := omega) only [go_sem]) isA_mk
      · simp (disch := omega) only [go_sem, h3]
        refine next_intro (i + 1) [] ⟨by omega, ?_⟩ (by show (lim a).length - (i + 1) < (lim a).length - i; omega) rfl (by simp (disch := omega) only [go_sem]; try omega) (by simp (disch := omega) only [go_sem])
        rw [take_succ' (l := lim a) (by omega), take_succ' (l := lim b) (by omega), ht, h3]
    · simp (disch := omega) only [go_sem, h2]
      have : i = (lim a).length := by omega
      subst this
      have ht2 : lim a = lim b := by
        have h4 := List.take_of_length_le (l := lim b) (i := (lim a).length) (by omega)
        rw [List.take_length, h4] at ht
        exact ht
      rw [decide_eq_true (lim_inj ht2)]
      exact fin_valc (by simp (disch := omega) only [go_sem]) (by simp (disch := omega) only [go_sem]) isA_mk

theorem con_sameWhole (s1 : Bool) (m1 : Nat) (s2 : Bool) (m2 : Nat) (l1 : (lim m1).length ≤ 2 ^ 40) (l2 : (lim m2).length ≤ 2 ^ 40) : Con Tryz.prog 10 true [.ag [.v (.bool (s1)), .sl (lim (m1)).length (ints (lim (m1)))], .ag [.v (.bool (s2)), .sl (lim (m2)).length (ints (lim (m2)))]] [] (isA (.v (.bool ((s1 == s2) && decide (m1 = m2))))) := by
  refine Con.of_aw Tryz.func10 rfl Tryz.ntmps10 (by simp) (by simp) (by simp) (W.sound ?_)
  show @W Tryz.prog 17 ⟨_⟩ ⟨fun x σ => @retW _ _ _ ⟨_⟩ _ ⟨_⟩ x σ⟩ _ _
  cases hs : (s1 == s2)
  · simp (disch := omega) only [go_sem, hs]
    exact fin_valc (by simp (disch := omega) only [go_sem]) (by simp (disch := omega) only [go_sem]) isA_mk
  · simp (disch := omega) only [go_sem, hs]
    refine call_closed (con_sameNat m1 m2 l1 l2) (by simp (disch := omega) only [go_sem]) ?_
    rintro r hs ⟨rfl, rfl, _⟩
    refine ⟨by simp [freeN], ?_⟩
    simp (disch := omega) only [go_sem]
    exact fin_valc (by simp (disch := omega) only [go_sem]) (by simp (disch := omega) only [go_sem]) isA_mk

theorem con_sameDy (s1 : Bool) (m1 : Nat) (e1 : Int) (s2 : Bool) (m2 : Nat) (e2 : Int) (l1 : (lim m1).length ≤ 2 ^ 40) (l2 : (lim m2).length ≤ 2 ^ 40) : Con Tryz.prog 15 true [.ag [.v (.bool (s1)), .sl (lim (m1)).length (ints (lim (m1))), .v (.int .i64 (e1))], .ag [.v (.bool (s2)), .sl (lim (m2)).length (ints (lim (m2))), .v (.int .i64 (e2))]] [] (isA (.v (.bool (decide (e1 = e2) && ((s1 == s2) && decide (m1 = m2)))))) := by
  cases he : decide (e1 = e2)
  · have he' : ¬ e1 = e2 := by simpa using he
    refine Con.of_aw Tryz.func15 rfl Tryz.ntmps15 (by simp) (by simp) (by simp) (W.sound ?_)
    show @W Tryz.prog 17 ⟨_⟩ ⟨fun x σ => @retW _ _ _ ⟨_⟩ _ ⟨_⟩ x σ⟩ _ _
    simp (disch := omega) only [go_sem, he']
    exact fin_valc (by simp (disch := omega) only [go_sem]) (by simp (disch := omega) only [go_sem]) isA_mk
  · refine Con.of_aw Tryz.func15 rfl Tryz.ntmps15 (by simp) (by simp) (by simp) (W.sound ?_)
    show @W Tryz.prog 17 ⟨_⟩ ⟨fun x σ => @retW _ _ _ ⟨_⟩ _ ⟨_⟩ x σ⟩ _ _
    simp (disch := omega) only [go_sem, he]
    refine call_closed (con_sameWhole s1 m1 s2 m2 l1 l2) (by simp (disch := omega) only [go_sem]) ?_
    rintro r hs ⟨rfl, rfl, _⟩
    refine ⟨by simp [freeN], ?_⟩
    simp (disch := omega) only [go_sem]
    exact fin_valc (by simp (disch := omega) only [go_sem]) (by simp (disch := omega) only [go_sem]) isA_mk
end Go.Ab
namespace Go.Ab
open Go Go.Proofs
set_option linter.unusedVariables false
set_option linter.unusedSimpArgs false

theorem dyFit_gen {n : Nat} {e : Int} (hn : bl n ≤ 1500) (he : -3000 ≤ e ∧ e ≤ 1400) : dyFit n e = true := by
  have q4 := bl_mono (oM_le n)
  have l1 := len_bl (m := oM n) (B := 1500) (by omega)
  have q5 : -3000 ≤ oE n e ∧ oE n e ≤ 3000 := by
    unfold oE
    by_cases h : n = 0
    · rw [if_pos h]; omega
    · rw [if_neg h]; have := tz_lt_bl h; omega
  unfold dyFit natFit
  simp only [Bool.and_eq_true, decide_eq_true_eq]
  omega

theorem dyB_zero : dyB false (lim 0) 0 = true := by rw [lim_zero]; decide
theorem dyB_neg {s : Bool} {m : Nat} {e : Int} (h : dyB s (lim m) e = true) : dyB ((!s) && decide (m ≠ 0)) (lim m) e = true := by
  unfold dyB wholeB at *
  simp only [Bool.and_eq_true] at h ⊢
  refine ⟨⟨h.1.1, ?_⟩, h.2⟩
  by_cases h0 : m = 0
  · rw [decide_eq_false (show ¬ m ≠ 0 from fun h => h h0), Bool.and_false, Bool.false_and]; rfl
  · have : decide ((lim m).length = 0) = false := by have := lim_ne h0; exact decide_eq_false (by omega)
    rw [this, Bool.and_false]; rfl

/-- Some dyadic number, and whether: never, if it was not so far. -/
def someD (ok : Bool) : AV → List Ob → List Ob → Prop := fun r hs bs => hs = [] ∧ bs = [] ∧ ∃ (S : Bool) (M : Nat) (E : Int) (b : Bool), dyB S (lim M) E = true ∧ (ok = false → b = false) ∧ r = .tu [.ag [.v (.bool (S)), .sl (lim (M)).length (ints (lim (M))), .v (.int .i64 (E))], .v (.bool b)]

theorem con_lawAddE (s1 : Bool) (m1 : Nat) (e1 : Int) (s2 : Bool) (m2 : Nat) (e2 : Int) (ok : Bool) (h1 : dyB s1 (lim m1) e1 = true) (h2 : dyB s2 (lim m2) e2 = true) :
    Con Tryz.prog 22 false [.ag [.v (.bool (s1)), .sl (lim (m1)).length (ints (lim (m1))), .v (.int .i64 (e1))], .ag [.v (.bool (s2)), .sl (lim (m2)).length (ints (lim (m2))), .v (.int .i64 (e2))], .v (.bool ok)] [] (someD ok) := by
  refine (con_lawAdd s1 m1 e1 s2 m2 e2 ok h1 h2).mono fun r hs bs ⟨g1, g2, g3⟩ => ?_
  subst g2; subst g3
  refine ⟨rfl, rfl, ?_⟩
  have hc := dyB_canon (adS s1 m1 e1 s2 m2 e2) (adM s1 m1 e1 s2 m2 e2) (alE m1 e1 m2 e2)
  cases hd : dyFit (adM s1 m1 e1 s2 m2 e2) (alE m1 e1 m2 e2)
  · rw [hd, if_neg (by simp)] at g1; exact ⟨false, 0, 0, false, dyB_zero, fun _ => rfl, g1⟩
  · rw [hd, if_pos rfl] at g1; rw [hd] at hc; exact ⟨_, _, _, ok, hc, fun h => h, g1⟩

theorem con_lawMulE (s1 : Bool) (m1 : Nat) (e1 : Int) (s2 : Bool) (m2 : Nat) (e2 : Int) (ok : Bool) (h1 : dyB s1 (lim m1) e1 = true) (h2 : dyB s2 (lim m2) e2 = true) :
    Con Tryz.prog 23 false [.ag [.v (.bool (s1)), .sl (lim (m1)).length (ints (lim (m1))), .v (.int .i64 (e1))], .ag [.v (.bool (s2)), .sl (lim (m2)).length (ints (lim (m2))), .v (.int .i64 (e2))], .v (.bool ok)] [] (someD ok) := by
  refine (con_lawMul s1 m1 e1 s2 m2 e2 ok h1 h2).mono fun r hs bs ⟨g1, g2, g3⟩ => ?_
  subst g2; subst g3
  refine ⟨rfl, rfl, ?_⟩
  have hc := dyB_canon (pmS s1 m1 s2 m2) (m1 * m2) (e1 + e2)
  cases hd : dyFit (m1 * m2) (e1 + e2)
  · rw [hd, if_neg (by simp)] at g1; exact ⟨false, 0, 0, false, dyB_zero, fun _ => rfl, g1⟩
  · rw [hd, if_pos rfl] at g1; rw [hd] at hc; exact ⟨_, _, _, ok, hc, fun h => h, g1⟩

theorem dv_scale {K j : Nat} {s : Bool} {m : Nat} {e : Int} (h : -(K : Int) ≤ e) : dv (K + j) s m e = dv K s m e * 2 ^ j := by
  unfold dv
  have : (e + ((K + j : Nat) : Int)).toNat = (e + (K : Int)).toNat + j := by omega
  rw [this, Int.pow_add, Int.mul_assoc]

/-- Is the next float greater? -/
theorem nx_cmp {k : Int} {s : Bool} {m e : Int} (h : flB k s m e = true) (hk : k ≠ 3) :
    decide (cmpF k s m e (nxV k s m e).k (nxV k s m e).s (nxV k s m e).m (nxV k s m e).e < 0) = (!decide (k = 2) || s) := by
  obtain ⟨a1, a2, a3, a4, a5, a6⟩ := flB_rng h
  by_cases c2 : k = 2
  · subst c2
    cases s
    · have : nxV 2 false m e = ⟨2, false, m, e⟩ := by unfold nxV; rw [if_pos (.inr ⟨rfl, rfl⟩)]
      rw [this]; unfold cmpF rkF; simp [cmpI_self]
    · rw [nxV_inf]; unfold cmpF rkF; simp; decide
  · have hk01 : k = 0 ∨ k = 1 := by omega
    have r1 : rkF k s = 0 := by unfold rkF; rw [if_neg c2]
    rw [decide_eq_false c2]
    obtain ⟨v1, v2⟩ := nx_valid h hk
    obtain ⟨b1, b2, b3, b4, b5, b6⟩ := flB_rng v1
    have hlt : cmpF k s m e (nxV k s m e).k (nxV k s m e).s (nxV k s m e).m (nxV k s m e).e < 0 := by
      unfold cmpF
      rw [r1]
      by_cases d : (nxV k s m e).k = 2
      · have hs2 : (nxV k s m e).s = false := by
          have n3 : ¬ (k = 3 ∨ (k = 2 ∧ s = false)) := by omega
          unfold nxV at d ⊢
          rw [if_neg n3] at d ⊢
          by_cases c0 : k = 0
          · rw [if_pos c0] at d; cases d
          · rw [if_neg c0] at d ⊢
            cases s
            · rw [if_neg (by simp)] at d ⊢
              unfold awV at d ⊢
              split at d
              · cases d
              · rename_i q1; rw [if_neg q1]
                split at d
                · cases d
                · rename_i q2; rw [if_neg q2]
            · rw [if_pos rfl] at d
              unfold toV at d
              rw [if_neg c2] at d
              split at d
              · exact absurd d c2
              · split at d
                · exact absurd d c2
                · cases d
        have r2 : rkF (nxV k s m e).k (nxV k s m e).s = 1 := by unfold rkF; rw [if_pos d, hs2]; rfl
        rw [r2, if_pos (.inl (by omega))]; decide
      · have r2 : rkF (nxV k s m e).k (nxV k s m e).s = 0 := by unfold rkF; rw [if_neg d]
        rw [r2, if_neg (by simp)]
        obtain ⟨t, a, E, A⟩ := nx_adj h hk01 (by omega)
        rw [(cmpI_le _ _).2.1]
        have q1 := A.hE
        rw [show (3000 : Nat) = 1074 + 1926 from rfl, dv_scale (by omega), dv_scale (by omega), A.lo, A.hi]
        have hp : (0 : Int) < 2 ^ (1926 : Nat) := Int.pow_pos (by omega)
        refine Int.mul_lt_mul_of_pos_right ?_ hp
        unfold dv
        have hp2 : (0 : Int) < 2 ^ (E + ((1074 : Nat) : Int)).toNat := Int.pow_pos (by omega)
        refine Int.mul_lt_mul_of_pos_right ?_ hp2
        cases t <;> simp [sv] <;> omega
    rw [decide_eq_true hlt]; rfl

/-- Back again, it is the same. -/
theorem nx_same {k : Int} {s : Bool} {m e : Int} {b : FlV} (h : flB k s m e = true) (hk : k = 0 ∨ k = 1) (hb : flB b.k b.s b.m b.e = true) (h1 : b.k = k ∧ (k = 1 → b.s = (!s) ∧ b.m = m ∧ b.e = e)) :
    cmpF b.k (ngS b.k b.s) b.m b.e k s m e = 0 := by
  obtain ⟨a1, a2, a3, a4, a5, a6⟩ := flB_rng h
  obtain ⟨b1, b2, b3, b4, b5, b6⟩ := flB_rng hb
  have r1 : rkF k s = 0 := by unfold rkF; rw [if_neg (by omega)]
  have r2 : rkF b.k (ngS b.k b.s) = 0 := by unfold rkF; rw [if_neg (by omega)]
  unfold cmpF
  rw [r1, r2, if_neg (by simp)]
  rcases hk with rfl | rfl
  · have q1 := (a4 (by omega)).1
    have q2 := (b4 (by omega)).1
    rw [q1, q2]
    show cmpI (dv _ _ 0 _) (dv _ _ 0 _) = 0
    rw [dv_zero, dv_zero]; rfl
  · obtain ⟨q1, q2, q3⟩ := h1.2 rfl
    rw [h1.1, q1, q2, q3]
    have : ngS 1 (!s) = s := by unfold ngS; simp
    rw [this, cmpI_self]
end Go.Ab
namespace Go.Ab
open Go Go.Proofs
set_option linter.unusedVariables false
set_option linter.unusedSimpArgs false

/-- A cursor over the bytes of a draw. -/
def curO (l : List UInt8) (i h : Int) : Ob := .own 0 [.sl l.length (bytesA l), .v (.int .i64 i), .v (.int .i64 h)]
/-- What is drawn is as told; the cursor goes on. -/
def curR (l : List UInt8) (Q : AV → Prop) : AV → List Ob → List Ob → Prop := fun r hs bs => hs = [] ∧ Q r ∧ ∃ i h : Int, (0 ≤ i ∧ i ≤ l.length) ∧ bs = [.own 0 [.sl l.length (bytesA l), .v (.int .i64 i), .v (.int .i64 h)]]

section
variable (l : List UInt8) (hl : l.length ≤ 9223372036854775807) (i h : Int) (hi : 0 ≤ i ∧ i ≤ l.length)
include hl hi

theorem con_l1Byte : Con Tryz.prog 77 false [.pt 10000000 0] [.own 0 [.sl l.length (bytesA l), .v (.int .i64 i), .v (.int .i64 h)]] (curR l fun r => ∃ k : Int, (0 ≤ k ∧ k ≤ 255) ∧ r = .v (.int .i64 k)) := by
  refine Con.of_aw Tryz.func77 rfl Tryz.ntmps77 (by simp) (by simp) (by simp) (W.sound ?_)
  show @W Tryz.prog 58 ⟨_⟩ ⟨fun x σ => @retW _ _ _ ⟨_⟩ _ ⟨_⟩ x σ⟩ _ _
  simp (disch := omega) only [go_sem]
  generalize IntKind.i64.wrap (IntKind.i64.wrap (h * 6364136223846793005) + 1442695040888963407) = h1
  refine draw_of rfl [⟨0, [], []⟩, ⟨1, [], []⟩, ⟨2, [], []⟩, ⟨3, [], []⟩, ⟨4, [], []⟩, ⟨5, [3], []⟩, ⟨6, [3], []⟩, ⟨7, [3], []⟩, ⟨8, [3], []⟩, ⟨9, [3], []⟩, ⟨10, [], []⟩, ⟨11, [], []⟩, ⟨12, [], []⟩] (by kernel_rfl) ?_
  simp (disch := omega) only [go_sem]
  generalize xorI (h1.fdiv (2 ^ min 33 64)) (h1.fdiv (2 ^ min 45 64)) = y
  have hy : 0 ≤ y % 256 ∧ y % 256 < 256 := by omega
  generalize y % 256 = x at *
  refine draw_of rfl [⟨0, [], []⟩, ⟨1, [], []⟩, ⟨2, [], []⟩, ⟨3, [], []⟩, ⟨4, [3], []⟩, ⟨5, [3], []⟩, ⟨6, [3], []⟩, ⟨7, [3], []⟩, ⟨8, [3], []⟩, ⟨9, [], []⟩] (by kernel_rfl) ?_
  simp (disch := omega) only [go_sem]
  refine ifW_dec (fun c1 => ?_) (fun c1 => ?_)
  · simp (disch := omega) only [go_sem, c1]
    refine draw_of rfl [⟨0, [], []⟩, ⟨1, [], []⟩, ⟨2, [], []⟩, ⟨3, [], []⟩, ⟨4, [], []⟩, ⟨5, [4], []⟩, ⟨6, [4], []⟩, ⟨7, [4], []⟩, ⟨8, [4], []⟩, ⟨9, [], []⟩, ⟨10, [], []⟩, ⟨11, [], []⟩, ⟨12, [], []⟩, ⟨13, [], []⟩, ⟨14, [], []⟩] (by kernel_rfl) ?_
    simp (disch := omega) only [go_sem]
    refine ⟨by omega, by omega, ?_⟩
    generalize IntKind.i64.wrap (x + IntKind.i64.wrap ((l.getD i.toNat 0).toNat : Int)) = y2
    have hy2 : 0 ≤ y2 % 256 ∧ y2 % 256 < 256 := by omega
    refine fin_intro [] [] [.own 0 [.sl l.length (bytesA l), .v (.int .i64 (i + 1)), .v (.int .i64 (h1))]] [.v (.int .i64 (y2 % 256))] rfl (by simp (disch := omega) only [go_sem]) (by simp (disch := omega) only [go_sem]) (by simp) (by simp) ⟨rfl, ⟨_, by omega, rfl⟩, _, _, by omega, rfl⟩
  · simp (disch := omega) only [go_sem, c1]
    refine fin_intro [] [] [.own 0 [.sl l.length (bytesA l), .v (.int .i64 (i)), .v (.int .i64 (h1))]] [.v (.int .i64 x)] rfl (by simp (disch := omega) only [go_sem]) (by simp (disch := omega) only [go_sem]) (by simp) (by simp) ⟨rfl, ⟨_, by omega, rfl⟩, _, _, by omega, rfl⟩

theorem con_l1Below (n : Int) (hn : n ≤ 2 ^ 62) : Con Tryz.prog 34 false [.pt 10000000 0, .v (.int .i64 n)] [.own 0 [.sl l.length (bytesA l), .v (.int .i64 i), .v (.int .i64 h)]] (curR l fun r => ∃ k : Int, (0 ≤ k ∧ (0 < n → k < n)) ∧ r = .v (.int .i64 k)) := by
  refine Con.of_aw Tryz.func34 rfl Tryz.ntmps34 (by simp) (by simp) (by simp) (W.sound ?_)
  show @W Tryz.prog 37 ⟨_⟩ ⟨fun x σ => @retW _ _ _ ⟨_⟩ _ ⟨_⟩ x σ⟩ _ _
  simp (disch := omega) only [go_sem]
  refine ifW_dec (fun c1 => ?_) (fun c1 => ?_)
  · simp (disch := omega) only [go_sem, c1]
    refine fin_intro [] [] [.own 0 [.sl l.length (bytesA l), .v (.int .i64 (i)), .v (.int .i64 (h))]] [.v (.int .i64 0)] rfl (by simp (disch := omega) only [go_sem]) (by simp (disch := omega) only [go_sem]) (by simp) (by simp) ⟨rfl, ⟨_, ⟨by omega, fun h => by omega⟩, rfl⟩, _, _, by omega, rfl⟩
  · simp (disch := omega) only [go_sem, c1]
    refine ifW_dec (fun c2 => ?_) (fun c2 => ?_)
    · simp (disch := omega) only [go_sem, c2]
      refine call_lent false [10000000] (con_l1Byte l hl i h hi) (by simp (disch := omega) only [go_sem]) (by simp (disch := omega) only [go_sem]) rfl (lend_cons (z := 0) (cs := [.sl l.length (bytesA l), .v (.int .i64 (i)), .v (.int .i64 (h))]) (by simp (disch := omega) only [go_sem]) (by simp (disch := omega) only [go_sem])) (by intro n hn; exact ⟨_, List.mem_cons_self .., by rw [List.mem_singleton.1 hn]; rfl⟩) ?_
      rintro r hs bs ⟨rfl, ⟨k1, hk1, rfl⟩, i1, h1, hi1, rfl⟩ -
      refine ⟨by simp [freeN], ?_⟩
      simp (disch := omega) only [go_sem]
      refine ⟨by omega, ?_⟩
      have hm := Int.emod_nonneg k1 (show n ≠ 0 by omega)
      have hm2 := Int.emod_lt_of_pos k1 (show 0 < n by omega)
      refine fin_intro [] [] [.own 0 [.sl l.length (bytesA l), .v (.int .i64 (i1)), .v (.int .i64 (h1))]] [.v (.int .i64 (k1 % n))] rfl (by simp (disch := omega) only [go_sem]) (by simp (disch := omega) only [go_sem]) (by simp) (by simp) ⟨rfl, ⟨_, ⟨hm, fun _ => hm2⟩, rfl⟩, _, _, by omega, rfl⟩
    · simp (disch := omega) only [go_sem, c2]
      refine call_lent false [10000000] (con_l1Byte l hl i h hi) (by simp (disch := omega) only [go_sem]) (by simp (disch := omega) only [go_sem]) rfl (lend_cons (z := 0) (cs := [.sl l.length (bytesA l), .v (.int .i64 (i)), .v (.int .i64 (h))]) (by simp (disch := omega) only [go_sem]) (by simp (disch := omega) only [go_sem])) (by intro n hn; exact ⟨_, List.mem_cons_self .., by rw [List.mem_singleton.1 hn]; rfl⟩) ?_
      rintro r hs bs ⟨rfl, ⟨k1, hk1, rfl⟩, i1, h1, hi1, rfl⟩ -
      refine ⟨by simp [freeN], ?_⟩
      simp (disch := omega) only [go_sem]
      refine call_lent false [10000000] (con_l1Byte l hl i1 h1 hi1) (by simp (disch := omega) only [go_sem]) (by simp (disch := omega) only [go_sem]) rfl (lend_cons (z := 0) (cs := [.sl l.length (bytesA l), .v (.int .i64 (i1)), .v (.int .i64 (h1))]) (by simp (disch := omega) only [go_sem]) (by simp (disch := omega) only [go_sem])) (by intro n hn; exact ⟨_, List.mem_cons_self .., by rw [List.mem_singleton.1 hn]; rfl⟩) ?_
      rintro r hs bs ⟨rfl, ⟨k2, hk2, rfl⟩, i2, h2, hi2, rfl⟩ -
      refine ⟨by simp [freeN], ?_⟩
      simp (disch := omega) only [go_sem]
      refine call_lent false [10000000] (con_l1Byte l hl i2 h2 hi2) (by simp (disch := omega) only [go_sem]) (by simp (disch := omega) only [go_sem]) rfl (lend_cons (z := 0) (cs := [.sl l.length (bytesA l), .v (.int .i64 (i2)), .v (.int .i64 (h2))]) (by simp (disch := omega) only [go_sem]) (by simp (disch := omega) only [go_sem])) (by intro n hn; exact ⟨_, List.mem_cons_self .., by rw [List.mem_singleton.1 hn]; rfl⟩) ?_
      rintro r hs bs ⟨rfl, ⟨k3, hk3, rfl⟩, i3, h3, hi3, rfl⟩ -
      refine ⟨by simp [freeN], ?_⟩
      simp (disch := omega) only [go_sem]
      refine call_lent false [10000000] (con_l1Byte l hl i3 h3 hi3) (by simp (disch := omega) only [go_sem]) (by simp (disch := omega) only [go_sem]) rfl (lend_cons (z := 0) (cs := [.sl l.length (bytesA l), .v (.int .i64 (i3)), .v (.int .i64 (h3))]) (by simp (disch := omega) only [go_sem]) (by simp (disch := omega) only [go_sem])) (by intro n hn; exact ⟨_, List.mem_cons_self .., by rw [List.mem_singleton.1 hn]; rfl⟩) ?_
      rintro r hs bs ⟨rfl, ⟨k4, hk4, rfl⟩, i4, h4, hi4, rfl⟩ -
      refine ⟨by simp [freeN], ?_⟩
      simp (disch := omega) only [go_sem]
      refine ⟨by omega, ?_⟩
      have hm := Int.emod_nonneg (k1 * 16777216 + k2 * 65536 + k3 * 256 + k4) (show n ≠ 0 by omega)
      have hm2 := Int.emod_lt_of_pos (k1 * 16777216 + k2 * 65536 + k3 * 256 + k4) (show 0 < n by omega)
      refine fin_intro [] [] [.own 0 [.sl l.length (bytesA l), .v (.int .i64 (i4)), .v (.int .i64 (h4))]] [.v (.int .i64 ((k1 * 16777216 + k2 * 65536 + k3 * 256 + k4) % n))] rfl (by simp (disch := omega) only [go_sem]) (by simp (disch := omega) only [go_sem]) (by simp) (by simp) ⟨rfl, ⟨_, ⟨hm, fun _ => hm2⟩, rfl⟩, _, _, by omega, rfl⟩

theorem con_l1Once (n : Int) (hn : n ≤ 2 ^ 62) : Con Tryz.prog 70 false [.pt 10000000 0, .v (.int .i64 n)] [.own 0 [.sl l.length (bytesA l), .v (.int .i64 i), .v (.int .i64 h)]] (curR l fun r => ∃ b : Bool, r = .v (.bool b)) := by
  refine Con.of_aw Tryz.func70 rfl Tryz.ntmps70 (by simp) (by simp) (by simp) (W.sound ?_)
  show @W Tryz.prog 9 ⟨_⟩ ⟨fun x σ => @retW _ _ _ ⟨_⟩ _ ⟨_⟩ x σ⟩ _ _
  simp (disch := omega) only [go_sem]
  refine call_lent false [10000000] (con_l1Below l hl i h hi n hn) (by simp (disch := omega) only [go_sem]) (by simp (disch := omega) only [go_sem]) rfl (lend_cons (z := 0) (cs := [.sl l.length (bytesA l), .v (.int .i64 (i)), .v (.int .i64 (h))]) (by simp (disch := omega) only [go_sem]) (by simp (disch := omega) only [go_sem])) (by intro n hn; exact ⟨_, List.mem_cons_self .., by rw [List.mem_singleton.1 hn]; rfl⟩) ?_
  rintro r hs bs ⟨rfl, ⟨k1, hk1, rfl⟩, i1, h1, hi1, rfl⟩ -
  refine ⟨by simp [freeN], ?_⟩
  simp (disch := omega) only [go_sem]
  refine fin_intro [] [] [.own 0 [.sl l.length (bytesA l), .v (.int .i64 (i1)), .v (.int .i64 (h1))]] [.v (.bool (decide (k1 = 0)))] rfl (by simp (disch := omega) only [go_sem]) (by simp (disch := omega) only [go_sem]) (by simp) (by simp) ⟨rfl, ⟨_, rfl⟩, _, _, by omega, rfl⟩

/-- As above; the list stays. -/
def curL (l : List UInt8) (xs : List Int) (Q : AV → Prop) : AV → List Ob → List Ob → Prop := fun r hs bs => hs = [] ∧ Q r ∧ ∃ i h : Int, (0 ≤ i ∧ i ≤ l.length) ∧ bs = [.own 0 [.sl l.length (bytesA l), .v (.int .i64 i), .v (.int .i64 h)], .own 1 (ints xs)]

theorem con_l1PickInt (xs : List Int) (h0 : 0 < xs.length) (h1 : xs.length ≤ 2 ^ 40) : Con Tryz.prog 33 false [.pt 10000000 0, .rf 10000001 0 xs.length] [.own 0 [.sl l.length (bytesA l), .v (.int .i64 i), .v (.int .i64 h)], .own 1 (ints xs)] (curL l xs fun r => ∃ x ∈ xs, r = .v (.int .i64 x)) := by
  refine Con.of_aw Tryz.func33 rfl Tryz.ntmps33 (by simp) (by simp) (by simp) (W.sound ?_)
  show @W Tryz.prog 12 ⟨_⟩ ⟨fun x σ => @retW _ _ _ ⟨_⟩ _ ⟨_⟩ x σ⟩ _ _
  simp (disch := omega) only [go_sem]
  refine call_lent false [10000000] (con_l1Below l hl i h hi xs.length (by omega)) (by simp (disch := omega) only [go_sem]) (by simp (disch := omega) only [go_sem]) rfl (lend_cons (z := 0) (cs := [.sl l.length (bytesA l), .v (.int .i64 (i)), .v (.int .i64 (h))]) (by simp (disch := omega) only [go_sem]) (by simp (disch := omega) only [go_sem])) (by intro n hn; exact ⟨_, List.mem_cons_self .., by rw [List.mem_singleton.1 hn]; rfl⟩) ?_
  rintro r hs bs ⟨rfl, ⟨k1, hk1, rfl⟩, i1, h1, hi1, rfl⟩ -
  refine ⟨by simp [freeN], ?_⟩
  simp (disch := omega) only [go_sem]
  obtain ⟨n1, rfl⟩ := Int.eq_ofNat_of_zero_le hk1.1
  have hlt : n1 < xs.length := by have := hk1.2 (by omega); omega
  simp (disch := omega) only [go_sem]
  refine ⟨by omega, by omega, ?_⟩
  have hm : xs.getD n1 0 ∈ xs := by rw [List.getD_eq_getElem?_getD, List.getElem?_eq_getElem hlt]; exact List.getElem_mem _
  refine fin_intro [] [] [.own 0 [.sl l.length (bytesA l), .v (.int .i64 i1), .v (.int .i64 h1)], .own 1 (ints xs)] [.v (.int .i64 (xs.getD n1 0))] rfl (by simp (disch := omega) only [go_sem]) (by simp (disch := omega) only [go_sem]) (by simp) (by simp) ⟨rfl, ⟨_, hm, rfl⟩, _, _, by omega, rfl⟩
end
end Go.Ab
namespace Go.Ab
open Go Go.Proofs
set_option linter.unusedVariables false
set_option linter.unusedSimpArgs false

end Go.Ab
namespace Go.Ab
open Go Go.Proofs
set_option linter.unusedVariables false
set_option linter.unusedSimpArgs false

end Go.Ab
namespace Go.Ab
open Go Go.Proofs
set_option linter.unusedVariables false
set_option linter.unusedSimpArgs false

theorem con_flokS (k : Int) (s : Bool) (m e : Int) : Con Tryz.prog 18 true [.ag [.v (.int .i64 (k)), .v (.bool (s)), .v (.int .i64 (m)), .v (.int .i64 (e))]] [] (isA (.v (.bool (flB k s m e)))) := by
  refine Con.of_aw Tryz.func18 rfl Tryz.ntmps18 (by simp) (by simp) (by simp) (W.sound ?_)
  show @W Tryz.prog 59 ⟨_⟩ ⟨fun x σ => @retW _ _ _ ⟨_⟩ _ ⟨_⟩ x σ⟩ _ _
  simp (disch := omega) only [go_sem]
  refine ifW_dec (fun h0 => ?_) (fun h0 => ?_)
  · subst h0
    simp (disch := omega) only [go_sem]
    repeat' first
      | simp (disch := omega) only [go_sem, *]
      | (with_reducible refine ifW_dec (fun _ => ?_) (fun _ => ?_))
      | (with_reducible refine ifW_not (fun _ => ?_) (fun _ => ?_))
      | (with_reducible refine ifW_nb (fun _ => ?_) (fun _ => ?_))
      | (with_reducible refine ifW_b (fun _ => ?_) (fun _ => ?_))
    all_goals exact fin_valc (by simp (disch := omega) only [go_sem]) (by simp (disch := omega) only [go_sem]) ⟨by simp_all [tupA, flB] <;> omega, rfl, rfl⟩
  · simp (disch := omega) only [go_sem, h0]
    refine ifW_dec (fun h2 => ?_) (fun h2 => ?_)
    · subst h2
      simp (disch := omega) only [go_sem]
      repeat' first
        | simp (disch := omega) only [go_sem, *]
        | (with_reducible refine ifW_dec (fun _ => ?_) (fun _ => ?_))
        | (with_reducible refine ifW_not (fun _ => ?_) (fun _ => ?_))
        | (with_reducible refine ifW_nb (fun _ => ?_) (fun _ => ?_))
        | (with_reducible refine ifW_b (fun _ => ?_) (fun _ => ?_))
      all_goals exact fin_valc (by simp (disch := omega) only [go_sem]) (by simp (disch := omega) only [go_sem]) ⟨by simp_all [tupA, flB] <;> omega, rfl, rfl⟩
    · simp (disch := omega) only [go_sem, h2]
      refine ifW_dec (fun h3 => ?_) (fun h3 => ?_)
      · subst h3
        simp (disch := omega) only [go_sem]
        repeat' first
          | simp (disch := omega) only [go_sem, *]
          | (with_reducible refine ifW_dec (fun _ => ?_) (fun _ => ?_))
          | (with_reducible refine ifW_not (fun _ => ?_) (fun _ => ?_))
          | (with_reducible refine ifW_nb (fun _ => ?_) (fun _ => ?_))
          | (with_reducible refine ifW_b (fun _ => ?_) (fun _ => ?_))
        all_goals exact fin_valc (by simp (disch := omega) only [go_sem]) (by simp (disch := omega) only [go_sem]) ⟨by simp_all [tupA, flB] <;> omega, rfl, rfl⟩
      · simp (disch := omega) only [go_sem, h3]
        refine ifW_dec (fun h1 => ?_) (fun h1 => ?_)
        · subst h1
          simp (disch := omega) only [go_sem]
          repeat' first
            | simp (disch := omega) only [go_sem, *]
            | (with_reducible refine ifW_dec (fun _ => ?_) (fun _ => ?_))
            | (with_reducible refine ifW_not (fun _ => ?_) (fun _ => ?_))
            | (with_reducible refine ifW_nb (fun _ => ?_) (fun _ => ?_))
            | (with_reducible refine ifW_b (fun _ => ?_) (fun _ => ?_))
          all_goals refine fin_valc (by simp (disch := omega) only [go_sem]) (by simp (disch := omega) only [go_sem]) ⟨?_, rfl, rfl⟩
          all_goals simp only [tupA, flB, if_true]
          all_goals congr 2
          all_goals rw [Bool.eq_iff_iff]
          all_goals simp only [Bool.and_eq_true, Bool.or_eq_true, decide_eq_true_eq, Bool.false_eq_true, Bool.true_eq_false, false_iff, true_iff, not_and, not_or]
          all_goals omega
        · simp (disch := omega) only [go_sem, h1]
          refine fin_valc (by simp (disch := omega) only [go_sem]) (by simp (disch := omega) only [go_sem]) ⟨?_, rfl, rfl⟩
          simp [tupA, flB, h0, h1, h2, h3]

def l5dM (k m : Int) : Nat := if k = 1 then oM m.toNat else 0
def l5dE (k m e : Int) : Int := if k = 1 then oE m.toNat e else 0
def l5dS (k : Int) (s : Bool) (m : Int) : Bool := if k = 1 then oS (s && decide (m.toNat ≠ 0)) m.toNat else false

end Go.Ab
namespace Go.Ab
open Go Go.Proofs
set_option linter.unusedVariables false
set_option linter.unusedSimpArgs false

/-- Some float. -/
def someF : AV → List Ob → List Ob → Prop := fun r hs bs => hs = [] ∧ bs = [] ∧ ∃ x : FlV, r = .ag x.cs

section
variable (l : List UInt8) (hl : l.length ≤ 9223372036854775807) (i h : Int) (hi : 0 ≤ i ∧ i ≤ l.length)
include hl hi

end
end Go.Ab
namespace Go.Ab
open Go Go.Proofs
set_option linter.unusedVariables false
set_option linter.unusedSimpArgs false

section
variable (l : List UInt8) (hl : l.length ≤ 9223372036854775807) (i h : Int) (hi : 0 ≤ i ∧ i ≤ l.length)
include hl hi

set_option maxRecDepth 100000 in
theorem con_l5draw : Con Tryz.prog 84 false [.pt 10000000 0] [.own 0 [.sl l.length (bytesA l), .v (.int .i64 i), .v (.int .i64 h)]] (curR l fun r => ∃ x : FlV, r = .ag x.cs) := by
  refine Con.of_aw Tryz.func84 rfl Tryz.ntmps84 (by simp) (by simp) (by simp) (W.sound ?_)
  show @W Tryz.prog 75 ⟨_⟩ ⟨fun x σ => @retW _ _ _ ⟨_⟩ _ ⟨_⟩ x σ⟩ _ _
  simp (disch := omega) only [go_sem]
  refine call_lent false [10000000] (con_l1Once l hl i h hi 2 (by omega)) (by simp (disch := omega) only [go_sem]) (by simp (disch := omega) only [go_sem]) rfl (lend_cons (z := 0) (cs := [.sl l.length (bytesA l), .v (.int .i64 (i)), .v (.int .i64 (h))]) (by simp (disch := omega) only [go_sem]) (by simp (disch := omega) only [go_sem])) (by intro n hn; exact ⟨_, List.mem_cons_self .., by rw [List.mem_singleton.1 hn]; rfl⟩) ?_
  rintro r hs bs ⟨rfl, ⟨b, rfl⟩, i1, h1, hi1, rfl⟩ -
  refine ⟨by simp [freeN], ?_⟩
  simp (disch := omega) only [go_sem]
  refine call_lent false [10000000] (con_l1Below l hl i1 h1 hi1 9 (by omega)) (by simp (disch := omega) only [go_sem]) (by simp (disch := omega) only [go_sem]) rfl (lend_cons (z := 0) (cs := [.sl l.length (bytesA l), .v (.int .i64 (i1)), .v (.int .i64 (h1))]) (by simp (disch := omega) only [go_sem]) (by simp (disch := omega) only [go_sem])) (by intro n hn; exact ⟨_, List.mem_cons_self .., by rw [List.mem_singleton.1 hn]; rfl⟩) ?_
  rintro r hs bs ⟨rfl, ⟨k, hk, rfl⟩, i2, h2, hi2, rfl⟩ -
  refine ⟨by simp [freeN], ?_⟩
  simp (disch := omega) only [go_sem]
  by_cases c0 : k = 0
  · simp (disch := omega) only [go_sem, c0]
    have hL3 : [AV.v (Value.int IntKind.i64 (0)), AV.v (Value.int IntKind.i64 (2))] = ints ([0, 2] : List Int) := rfl
    have cc3 := con_l1PickInt l hl i2 h2 hi2 [0, 2] (by simp) (by simp)
    generalize hG3 : ([0, 2] : List Int) = xs3 at hL3 cc3
    have hN3 : xs3.length = 2 := by rw [← hG3]; rfl
    rw [hL3]
    rw [hN3] at cc3
    refine call_lent false [10000000, 160000000] cc3 (by simp (disch := omega) only [go_sem]) (by simp (disch := omega) only [go_sem]) rfl (lend_two (z := 0) (cs := [.sl l.length (bytesA l), .v (.int .i64 (i2)), .v (.int .i64 (h2))]) (z' := 1) (cs' := ints xs3) (by simp (disch := omega) only [go_sem]) (by simp (disch := omega) only [go_sem]) (by simp (disch := omega) only [go_sem]) (by simp (disch := omega) only [go_sem])) (by intro n hn; simp only [List.mem_cons, List.not_mem_nil, or_false] at hn; rcases hn with rfl | rfl <;> simp [AV.top]) ?_
    rintro r hs bs ⟨rfl, ⟨x, hx, rfl⟩, i3, h3, hi3, rfl⟩ -
    clear cc3 hL3 hx hG3 hN3
    refine ⟨by simp [freeN], ?_⟩
    simp (disch := omega) only [go_sem]
    refine fin_intro [] [] [.own 0 [.sl l.length (bytesA l), .v (.int .i64 (i3)), .v (.int .i64 (h3))]] [.ag [.v (.int .i64 (x)), .v (.bool (b)), .v (.int .i64 (0)), .v (.int .i64 (0))]] rfl (by simp (disch := omega) only [go_sem]) (by simp (disch := omega) only [go_sem]) (by simp) (by simp) ⟨rfl, ⟨⟨_, _, _, _⟩, rfl⟩, _, _, by omega, rfl⟩
  by_cases c1 : k = 1
  · simp (disch := omega) only [go_sem, c0, c1]
    refine call_closed (con_l5nan) (by simp (disch := omega) only [go_sem]) ?_
    rintro r hs ⟨rfl, rfl, _⟩
    refine ⟨by simp [freeN], ?_⟩
    simp (disch := omega) only [go_sem]
    refine fin_intro [] [] [.own 0 [.sl l.length (bytesA l), .v (.int .i64 (i2)), .v (.int .i64 (h2))]] [.ag [.v (.int .i64 (3)), .v (.bool (false)), .v (.int .i64 (0)), .v (.int .i64 (0))]] rfl (by simp (disch := omega) only [go_sem]) (by simp (disch := omega) only [go_sem]) (by simp) (by simp) ⟨rfl, ⟨⟨_, _, _, _⟩, rfl⟩, _, _, by omega, rfl⟩
  by_cases c2 : k = 2
  · simp (disch := omega) only [go_sem, c0, c1, c2]
    have hL3 : [AV.v (Value.int IntKind.i64 (1)), AV.v (Value.int IntKind.i64 (2)), AV.v (Value.int IntKind.i64 (4503599627370495)), AV.v (Value.int IntKind.i64 (4503599627370496)), AV.v (Value.int IntKind.i64 (4503599627370497)), AV.v (Value.int IntKind.i64 (12345))] = ints ([1, 2, 4503599627370495, 4503599627370496, 4503599627370497, 12345] : List Int) := rfl
    have cc3 := con_l1PickInt l hl i2 h2 hi2 [1, 2, 4503599627370495, 4503599627370496, 4503599627370497, 12345] (by simp) (by simp)
    generalize hG3 : ([1, 2, 4503599627370495, 4503599627370496, 4503599627370497, 12345] : List Int) = xs3 at hL3 cc3
    have hN3 : xs3.length = 6 := by rw [← hG3]; rfl
    rw [hL3]
    rw [hN3] at cc3
    refine call_lent false [10000000, 270000000] cc3 (by simp (disch := omega) only [go_sem]) (by simp (disch := omega) only [go_sem]) rfl (lend_two (z := 0) (cs := [.sl l.length (bytesA l), .v (.int .i64 (i2)), .v (.int .i64 (h2))]) (z' := 1) (cs' := ints xs3) (by simp (disch := omega) only [go_sem]) (by simp (disch := omega) only [go_sem]) (by simp (disch := omega) only [go_sem]) (by simp (disch := omega) only [go_sem])) (by intro n hn; simp only [List.mem_cons, List.not_mem_nil, or_false] at hn; rcases hn with rfl | rfl <;> simp [AV.top]) ?_
    rintro r hs bs ⟨rfl, ⟨x, hx, rfl⟩, i3, h3, hi3, rfl⟩ -
    clear cc3 hL3 hx hG3 hN3
    refine ⟨by simp [freeN], ?_⟩
    simp (disch := omega) only [go_sem]
    refine fin_intro [] [] [.own 0 [.sl l.length (bytesA l), .v (.int .i64 (i3)), .v (.int .i64 (h3))]] [.ag [.v (.int .i64 (1)), .v (.bool (b)), .v (.int .i64 (x)), .v (.int .i64 (-1074))]] rfl (by simp (disch := omega) only [go_sem]) (by simp (disch := omega) only [go_sem]) (by simp) (by simp) ⟨rfl, ⟨⟨_, _, _, _⟩, rfl⟩, _, _, by omega, rfl⟩
  by_cases c3 : k = 3
  · simp (disch := omega) only [go_sem, c0, c1, c2, c3]
    have hL3 : [AV.v (Value.int IntKind.i64 (4503599627370496)), AV.v (Value.int IntKind.i64 (9007199254740991)), AV.v (Value.int IntKind.i64 (9007199254740990))] = ints ([4503599627370496, 9007199254740991, 9007199254740990] : List Int) := rfl
    have cc3 := con_l1PickInt l hl i2 h2 hi2 [4503599627370496, 9007199254740991, 9007199254740990] (by simp) (by simp)
    generalize hG3 : ([4503599627370496, 9007199254740991, 9007199254740990] : List Int) = xs3 at hL3 cc3
    have hN3 : xs3.length = 3 := by rw [← hG3]; rfl
    rw [hL3]
    rw [hN3] at cc3
    refine call_lent false [10000000, 340000000] cc3 (by simp (disch := omega) only [go_sem]) (by simp (disch := omega) only [go_sem]) rfl (lend_two (z := 0) (cs := [.sl l.length (bytesA l), .v (.int .i64 (i2)), .v (.int .i64 (h2))]) (z' := 1) (cs' := ints xs3) (by simp (disch := omega) only [go_sem]) (by simp (disch := omega) only [go_sem]) (by simp (disch := omega) only [go_sem]) (by simp (disch := omega) only [go_sem])) (by intro n hn; simp only [List.mem_cons, List.not_mem_nil, or_false] at hn; rcases hn with rfl | rfl <;> simp [AV.top]) ?_
    rintro r hs bs ⟨rfl, ⟨x, hx, rfl⟩, i3, h3, hi3, rfl⟩ -
    clear cc3 hL3 hx hG3 hN3
    refine ⟨by simp [freeN], ?_⟩
    simp (disch := omega) only [go_sem]
    have hL4 : [AV.v (Value.int IntKind.i64 (971)), AV.v (Value.int IntKind.i64 (970)), AV.v (Value.int IntKind.i64 (0)), AV.v (Value.int IntKind.i64 (-52)), AV.v (Value.int IntKind.i64 (-1000))] = ints ([971, 970, 0, -52, -1000] : List Int) := rfl
    have cc4 := con_l1PickInt l hl i3 h3 hi3 [971, 970, 0, -52, -1000] (by simp) (by simp)
    generalize hG4 : ([971, 970, 0, -52, -1000] : List Int) = xs4 at hL4 cc4
    have hN4 : xs4.length = 5 := by rw [← hG4]; rfl
    rw [hL4]
    rw [hN4] at cc4
    refine call_lent false [10000000, 370000000] cc4 (by simp (disch := omega) only [go_sem]) (by simp (disch := omega) only [go_sem]) rfl (lend_two (z := 0) (cs := [.sl l.length (bytesA l), .v (.int .i64 (i3)), .v (.int .i64 (h3))]) (z' := 1) (cs' := ints xs4) (by simp (disch := omega) only [go_sem]) (by simp (disch := omega) only [go_sem]) (by simp (disch := omega) only [go_sem]) (by simp (disch := omega) only [go_sem])) (by intro n hn; simp only [List.mem_cons, List.not_mem_nil, or_false] at hn; rcases hn with rfl | rfl <;> simp [AV.top]) ?_
    rintro r hs bs ⟨rfl, ⟨y, hy, rfl⟩, i4, h4, hi4, rfl⟩ -
    clear cc4 hL4 hy hG4 hN4
    refine ⟨by simp [freeN], ?_⟩
    simp (disch := omega) only [go_sem]
    refine fin_intro [] [] [.own 0 [.sl l.length (bytesA l), .v (.int .i64 (i4)), .v (.int .i64 (h4))]] [.ag [.v (.int .i64 (1)), .v (.bool (b)), .v (.int .i64 (x)), .v (.int .i64 (y))]] rfl (by simp (disch := omega) only [go_sem]) (by simp (disch := omega) only [go_sem]) (by simp) (by simp) ⟨rfl, ⟨⟨_, _, _, _⟩, rfl⟩, _, _, by omega, rfl⟩
  by_cases c4 : k = 4
  · simp (disch := omega) only [go_sem, c0, c1, c2, c3, c4]
    refine call_lent false [10000000] (con_l1Below l hl i2 h2 hi2 40 (by omega)) (by simp (disch := omega) only [go_sem]) (by simp (disch := omega) only [go_sem]) rfl (lend_cons (z := 0) (cs := [.sl l.length (bytesA l), .v (.int .i64 (i2)), .v (.int .i64 (h2))]) (by simp (disch := omega) only [go_sem]) (by simp (disch := omega) only [go_sem])) (by intro n hn; exact ⟨_, List.mem_cons_self .., by rw [List.mem_singleton.1 hn]; rfl⟩) ?_
    rintro r hs bs ⟨rfl, ⟨x, hx, rfl⟩, i3, h3, hi3, rfl⟩ -
    refine ⟨by simp [freeN], ?_⟩
    simp (disch := omega) only [go_sem]
    have hx2 := hx.2 (by omega)
    refine call_open (con_l3of (x - 20) (by omega)) (by simp (disch := omega) only [go_sem]) ?_
    rintro r hs ⟨rfl, rfl, _⟩
    refine ⟨by simp [freeN], ?_⟩
    simp (disch := omega) only [go_sem]
    refine call_lent false [10000000] (con_l1Below l hl i3 h3 hi3 5 (by omega)) (by simp (disch := omega) only [go_sem]) (by simp (disch := omega) only [go_sem]) rfl (lend_cons (z := 0) (cs := [.sl l.length (bytesA l), .v (.int .i64 (i3)), .v (.int .i64 (h3))]) (by simp (disch := omega) only [go_sem]) (by simp (disch := omega) only [go_sem])) (by intro n hn; exact ⟨_, List.mem_cons_self .., by rw [List.mem_singleton.1 hn]; rfl⟩) ?_
    rintro r hs bs ⟨rfl, ⟨y, hy, rfl⟩, i4, h4, hi4, rfl⟩ -
    refine ⟨by simp [freeN], ?_⟩
    simp (disch := omega) only [go_sem]
    have hy2 := hy.2 (by omega)
    have hb : bl (x - 20).natAbs ≤ 6 := bl_le.2 (by omega)
    refine call_open (con_l4make (decide (x - 20 < 0)) (x - 20).natAbs (y - 2) (by omega) (by omega)) (by simp (disch := omega) only [go_sem]) ?_
    rintro r hs ⟨rfl, rfl, _⟩
    refine ⟨by simp [freeN], ?_⟩
    simp (disch := omega) only [go_sem]
    have q4 := bl_mono (oM_le (x - 20).natAbs)
    have q5 := oE_rng (m := (x - 20).natAbs) (e := y - 2) (lo := -2) (hi := 3) (Nat.le_refl _) (by omega) (by omega) (by omega)
    refine call_closed (con_l5round (oS (decide (x - 20 < 0)) (x - 20).natAbs) (oM (x - 20).natAbs) (oE (x - 20).natAbs (y - 2)) 0 false (oM_odd _) (oS_z _ _) (by omega) (by omega) (by omega)) (by simp (disch := omega) only [go_sem]) ?_
    rintro r hs ⟨rfl, rfl, _⟩
    refine ⟨by simp [freeN], ?_⟩
    simp (disch := omega) only [go_sem]
    generalize flV (oS (decide (x - 20 < 0)) (x - 20).natAbs) (oM (x - 20).natAbs) (oE (x - 20).natAbs (y - 2)) 0 false = V
    refine fin_intro [] [] [.own 0 [.sl l.length (bytesA l), .v (.int .i64 (i4)), .v (.int .i64 (h4))]] [.ag [.v (.int .i64 (V.k)), .v (.bool (V.s)), .v (.int .i64 (V.m)), .v (.int .i64 (V.e))]] rfl (by simp (disch := omega) only [go_sem]) (by simp (disch := omega) only [go_sem]) (by simp) (by simp) ⟨rfl, ⟨V, rfl⟩, _, _, by omega, rfl⟩
  simp (disch := omega) only [go_sem, c0, c1, c2, c3, c4]
  refine call_lent false [10000000] (con_l1Below l hl i2 h2 hi2 1073741824 (by omega)) (by simp (disch := omega) only [go_sem]) (by simp (disch := omega) only [go_sem]) rfl (lend_cons (z := 0) (cs := [.sl l.length (bytesA l), .v (.int .i64 (i2)), .v (.int .i64 (h2))]) (by simp (disch := omega) only [go_sem]) (by simp (disch := omega) only [go_sem])) (by intro n hn; exact ⟨_, List.mem_cons_self .., by rw [List.mem_singleton.1 hn]; rfl⟩) ?_
  rintro r hs bs ⟨rfl, ⟨x, hx, rfl⟩, i3, h3, hi3, rfl⟩ -
  refine ⟨by simp [freeN], ?_⟩
  simp (disch := omega) only [go_sem]
  have hx2 := hx.2 (by omega)
  refine call_lent false [10000000] (con_l1Below l hl i3 h3 hi3 999 (by omega)) (by simp (disch := omega) only [go_sem]) (by simp (disch := omega) only [go_sem]) rfl (lend_cons (z := 0) (cs := [.sl l.length (bytesA l), .v (.int .i64 (i3)), .v (.int .i64 (h3))]) (by simp (disch := omega) only [go_sem]) (by simp (disch := omega) only [go_sem])) (by intro n hn; exact ⟨_, List.mem_cons_self .., by rw [List.mem_singleton.1 hn]; rfl⟩) ?_
  rintro r hs bs ⟨rfl, ⟨y, hy, rfl⟩, i4, h4, hi4, rfl⟩ -
  refine ⟨by simp [freeN], ?_⟩
  simp (disch := omega) only [go_sem]
  have hy2 := hy.2 (by omega)
  refine call_lent false [10000000] (con_l1Once l hl i4 h4 hi4 3 (by omega)) (by simp (disch := omega) only [go_sem]) (by simp (disch := omega) only [go_sem]) rfl (lend_cons (z := 0) (cs := [.sl l.length (bytesA l), .v (.int .i64 (i4)), .v (.int .i64 (h4))]) (by simp (disch := omega) only [go_sem]) (by simp (disch := omega) only [go_sem])) (by intro n hn; exact ⟨_, List.mem_cons_self .., by rw [List.mem_singleton.1 hn]; rfl⟩) ?_
  rintro r hs bs ⟨rfl, ⟨b2, rfl⟩, i5, h5, hi5, rfl⟩ -
  refine ⟨by simp [freeN], ?_⟩
  simp (disch := omega) only [go_sem]
  cases b2
  · simp (disch := omega) only [go_sem]
    refine call_lent false [10000000] (con_l1Below l hl i5 h5 hi5 40 (by omega)) (by simp (disch := omega) only [go_sem]) (by simp (disch := omega) only [go_sem]) rfl (lend_cons (z := 0) (cs := [.sl l.length (bytesA l), .v (.int .i64 (i5)), .v (.int .i64 (h5))]) (by simp (disch := omega) only [go_sem]) (by simp (disch := omega) only [go_sem])) (by intro n hn; exact ⟨_, List.mem_cons_self .., by rw [List.mem_singleton.1 hn]; rfl⟩) ?_
    rintro r hs bs ⟨rfl, ⟨z, hz, rfl⟩, i6, h6, hi6, rfl⟩ -
    refine ⟨by simp [freeN], ?_⟩
    simp (disch := omega) only [go_sem]
    have hz2 := hz.2 (by omega)
    have hL7 : [AV.v (Value.int IntKind.i64 (-52)), AV.v (Value.int IntKind.i64 (-50)), AV.v (Value.int IntKind.i64 (-55)), AV.v (Value.int IntKind.i64 (-53)), AV.v (Value.int IntKind.i64 (-60)), AV.v (Value.int IntKind.i64 (0)), AV.v (Value.int IntKind.i64 (10)), AV.v (Value.int IntKind.i64 (-600)), AV.v (Value.int IntKind.i64 (500)), AV.v (Value.int IntKind.i64 (-1000)), AV.v (Value.int IntKind.i64 (900)), AV.v (Value.int IntKind.i64 (z - 70))] = ints ([-52, -50, -55, -53, -60, 0, 10, -600, 500, -1000, 900, z - 70] : List Int) := rfl
    have cc7 := con_l1PickInt l hl i6 h6 hi6 [-52, -50, -55, -53, -60, 0, 10, -600, 500, -1000, 900, z - 70] (by simp) (by simp)
    generalize hG7 : ([-52, -50, -55, -53, -60, 0, 10, -600, 500, -1000, 900, z - 70] : List Int) = xs7 at hL7 cc7
    have hN7 : xs7.length = 12 := by rw [← hG7]; rfl
    rw [hL7]
    rw [hN7] at cc7
    refine call_lent false [10000000, 740000000] cc7 (by simp (disch := omega) only [go_sem]) (by simp (disch := omega) only [go_sem]) rfl (lend_two (z := 0) (cs := [.sl l.length (bytesA l), .v (.int .i64 (i6)), .v (.int .i64 (h6))]) (z' := 1) (cs' := ints xs7) (by simp (disch := omega) only [go_sem]) (by simp (disch := omega) only [go_sem]) (by simp (disch := omega) only [go_sem]) (by simp (disch := omega) only [go_sem])) (by intro n hn; simp only [List.mem_cons, List.not_mem_nil, or_false] at hn; rcases hn with rfl | rfl <;> simp [AV.top]) ?_
    rintro r hs bs ⟨rfl, ⟨u, hu, rfl⟩, i7, h7, hi7, rfl⟩ -
    clear cc7 hL7 hu hG7 hN7
    refine ⟨by simp [freeN], ?_⟩
    simp (disch := omega) only [go_sem]
    refine fin_intro [] [] [.own 0 [.sl l.length (bytesA l), .v (.int .i64 (i7)), .v (.int .i64 (h7))]] [.ag [.v (.int .i64 (1)), .v (.bool (b)), .v (.int .i64 (4503599627370496 + x * 4000000 + y)), .v (.int .i64 (u))]] rfl (by simp (disch := omega) only [go_sem]) (by simp (disch := omega) only [go_sem]) (by simp) (by simp) ⟨rfl, ⟨⟨_, _, _, _⟩, rfl⟩, _, _, by omega, rfl⟩
  · simp (disch := omega) only [go_sem]
    have hL8 : [AV.v (Value.int IntKind.i64 (1)), AV.v (Value.int IntKind.i64 (3)), AV.v (Value.int IntKind.i64 (2251799813685248)), AV.v (Value.int IntKind.i64 (1073741824))] = ints ([1, 3, 2251799813685248, 1073741824] : List Int) := rfl
    have cc8 := con_l1PickInt l hl i5 h5 hi5 [1, 3, 2251799813685248, 1073741824] (by simp) (by simp)
    generalize hG8 : ([1, 3, 2251799813685248, 1073741824] : List Int) = xs8 at hL8 cc8
    have hN8 : xs8.length = 4 := by rw [← hG8]; rfl
    rw [hL8]
    rw [hN8] at cc8
    refine call_lent false [10000000, 650000000] cc8 (by simp (disch := omega) only [go_sem]) (by simp (disch := omega) only [go_sem]) rfl (lend_two (z := 0) (cs := [.sl l.length (bytesA l), .v (.int .i64 (i5)), .v (.int .i64 (h5))]) (z' := 1) (cs' := ints xs8) (by simp (disch := omega) only [go_sem]) (by simp (disch := omega) only [go_sem]) (by simp (disch := omega) only [go_sem]) (by simp (disch := omega) only [go_sem])) (by intro n hn; simp only [List.mem_cons, List.not_mem_nil, or_false] at hn; rcases hn with rfl | rfl <;> simp [AV.top]) ?_
    rintro r hs bs ⟨rfl, ⟨v, hv, rfl⟩, i8, h8, hi8, rfl⟩ -
    have hv_b : 0 ≤ v ∧ v ≤ 2251799813685248 := by
      rw [← hG8] at hv
      simp only [List.mem_cons, List.not_mem_nil, or_false] at hv
      omega
    clear cc8 hL8 hv hG8 hN8
    refine ⟨by simp [freeN], ?_⟩
    simp (disch := omega) only [go_sem]
    refine call_lent false [10000000] (con_l1Below l hl i8 h8 hi8 40 (by omega)) (by simp (disch := omega) only [go_sem]) (by simp (disch := omega) only [go_sem]) rfl (lend_cons (z := 0) (cs := [.sl l.length (bytesA l), .v (.int .i64 (i8)), .v (.int .i64 (h8))]) (by simp (disch := omega) only [go_sem]) (by simp (disch := omega) only [go_sem])) (by intro n hn; exact ⟨_, List.mem_cons_self .., by rw [List.mem_singleton.1 hn]; rfl⟩) ?_
    rintro r hs bs ⟨rfl, ⟨z, hz, rfl⟩, i6, h6, hi6, rfl⟩ -
    refine ⟨by simp [freeN], ?_⟩
    simp (disch := omega) only [go_sem]
    have hz2 := hz.2 (by omega)
    have hL7 : [AV.v (Value.int IntKind.i64 (-52)), AV.v (Value.int IntKind.i64 (-50)), AV.v (Value.int IntKind.i64 (-55)), AV.v (Value.int IntKind.i64 (-53)), AV.v (Value.int IntKind.i64 (-60)), AV.v (Value.int IntKind.i64 (0)), AV.v (Value.int IntKind.i64 (10)), AV.v (Value.int IntKind.i64 (-600)), AV.v (Value.int IntKind.i64 (500)), AV.v (Value.int IntKind.i64 (-1000)), AV.v (Value.int IntKind.i64 (900)), AV.v (Value.int IntKind.i64 (z - 70))] = ints ([-52, -50, -55, -53, -60, 0, 10, -600, 500, -1000, 900, z - 70] : List Int) := rfl
    have cc7 := con_l1PickInt l hl i6 h6 hi6 [-52, -50, -55, -53, -60, 0, 10, -600, 500, -1000, 900, z - 70] (by simp) (by simp)
    generalize hG7 : ([-52, -50, -55, -53, -60, 0, 10, -600, 500, -1000, 900, z - 70] : List Int) = xs7 at hL7 cc7
    have hN7 : xs7.length = 12 := by rw [← hG7]; rfl
    rw [hL7]
    rw [hN7] at cc7
    refine call_lent false [10000000, 740000000] cc7 (by simp (disch := omega) only [go_sem]) (by simp (disch := omega) only [go_sem]) rfl (lend_two (z := 0) (cs := [.sl l.length (bytesA l), .v (.int .i64 (i6)), .v (.int .i64 (h6))]) (z' := 1) (cs' := ints xs7) (by simp (disch := omega) only [go_sem]) (by simp (disch := omega) only [go_sem]) (by simp (disch := omega) only [go_sem]) (by simp (disch := omega) only [go_sem])) (by intro n hn; simp only [List.mem_cons, List.not_mem_nil, or_false] at hn; rcases hn with rfl | rfl <;> simp [AV.top]) ?_
    rintro r hs bs ⟨rfl, ⟨u, hu, rfl⟩, i7, h7, hi7, rfl⟩ -
    clear cc7 hL7 hu hG7 hN7
    refine ⟨by simp [freeN], ?_⟩
    simp (disch := omega) only [go_sem]
    refine fin_intro [] [] [.own 0 [.sl l.length (bytesA l), .v (.int .i64 (i7)), .v (.int .i64 (h7))]] [.ag [.v (.int .i64 (1)), .v (.bool (b)), .v (.int .i64 (4503599627370496 + v)), .v (.int .i64 (u))]] rfl (by simp (disch := omega) only [go_sem]) (by simp (disch := omega) only [go_sem]) (by simp) (by simp) ⟨rfl, ⟨⟨_, _, _, _⟩, rfl⟩, _, _, by omega, rfl⟩

theorem con_l5bent : Con Tryz.prog 40 false [.pt 10000000 0] [.own 0 [.sl l.length (bytesA l), .v (.int .i64 i), .v (.int .i64 h)]] (curR l fun r => ∃ x : FlV, r = .ag x.cs) := by
  refine Con.of_aw Tryz.func40 rfl Tryz.ntmps40 (by simp) (by simp) (by simp) (W.sound ?_)
  show @W Tryz.prog 33 ⟨_⟩ ⟨fun x σ => @retW _ _ _ ⟨_⟩ _ ⟨_⟩ x σ⟩ _ _
  simp (disch := omega) only [go_sem]
  refine call_lent false [10000000] (con_l5draw l hl i h hi) (by simp (disch := omega) only [go_sem]) (by simp (disch := omega) only [go_sem]) rfl (lend_cons (z := 0) (cs := [.sl l.length (bytesA l), .v (.int .i64 (i)), .v (.int .i64 (h))]) (by simp (disch := omega) only [go_sem]) (by simp (disch := omega) only [go_sem])) (by intro n hn; exact ⟨_, List.mem_cons_self .., by rw [List.mem_singleton.1 hn]; rfl⟩) ?_
  rintro r hs bs ⟨rfl, ⟨V, rfl⟩, i1, h1, hi1, rfl⟩ -
  refine ⟨by simp [freeN], ?_⟩
  simp (disch := omega) only [go_sem]
  unfold FlV.cs
  simp (disch := omega) only [go_sem]
  refine call_lent false [10000000] (con_l1Once l hl i1 h1 hi1 12 (by omega)) (by simp (disch := omega) only [go_sem]) (by simp (disch := omega) only [go_sem]) rfl (lend_cons (z := 0) (cs := [.sl l.length (bytesA l), .v (.int .i64 (i1)), .v (.int .i64 (h1))]) (by simp (disch := omega) only [go_sem]) (by simp (disch := omega) only [go_sem])) (by intro n hn; exact ⟨_, List.mem_cons_self .., by rw [List.mem_singleton.1 hn]; rfl⟩) ?_
  rintro r hs bs ⟨rfl, ⟨b, rfl⟩, i2, h2, hi2, rfl⟩ -
  refine ⟨by simp [freeN], ?_⟩
  simp (disch := omega) only [go_sem]
  cases b
  · simp (disch := omega) only [go_sem]
    refine fin_intro [] [] [.own 0 [.sl l.length (bytesA l), .v (.int .i64 (i2)), .v (.int .i64 (h2))]] [.ag [.v (.int .i64 (V.k)), .v (.bool (V.s)), .v (.int .i64 (V.m)), .v (.int .i64 (V.e))]] rfl (by simp (disch := omega) only [go_sem]) (by simp (disch := omega) only [go_sem]) (by simp) (by simp) ⟨rfl, ⟨V, rfl⟩, _, _, by omega, rfl⟩
  · simp (disch := omega) only [go_sem]
    refine call_lent false [10000000] (con_l1Below l hl i2 h2 hi2 4 (by omega)) (by simp (disch := omega) only [go_sem]) (by simp (disch := omega) only [go_sem]) rfl (lend_cons (z := 0) (cs := [.sl l.length (bytesA l), .v (.int .i64 (i2)), .v (.int .i64 (h2))]) (by simp (disch := omega) only [go_sem]) (by simp (disch := omega) only [go_sem])) (by intro n hn; exact ⟨_, List.mem_cons_self .., by rw [List.mem_singleton.1 hn]; rfl⟩) ?_
    rintro r hs bs ⟨rfl, ⟨k, hk, rfl⟩, i3, h3, hi3, rfl⟩ -
    refine ⟨by simp [freeN], ?_⟩
    simp (disch := omega) only [go_sem]
    by_cases c0 : k = 0
    · simp (disch := omega) only [go_sem, c0]
      refine call_lent false [10000000] (con_l1Below l hl i3 h3 hi3 6 (by omega)) (by simp (disch := omega) only [go_sem]) (by simp (disch := omega) only [go_sem]) rfl (lend_cons (z := 0) (cs := [.sl l.length (bytesA l), .v (.int .i64 (i3)), .v (.int .i64 (h3))]) (by simp (disch := omega) only [go_sem]) (by simp (disch := omega) only [go_sem])) (by intro n hn; exact ⟨_, List.mem_cons_self .., by rw [List.mem_singleton.1 hn]; rfl⟩) ?_
      rintro r hs bs ⟨rfl, ⟨x, hx, rfl⟩, i4, h4, hi4, rfl⟩ -
      refine ⟨by simp [freeN], ?_⟩
      simp (disch := omega) only [go_sem]
      have hx2 := hx.2 (by omega)
      refine fin_intro [] [] [.own 0 [.sl l.length (bytesA l), .v (.int .i64 (i4)), .v (.int .i64 (h4))]] [.ag [.v (.int .i64 (x - 1)), .v (.bool (V.s)), .v (.int .i64 (V.m)), .v (.int .i64 (V.e))]] rfl (by simp (disch := omega) only [go_sem]) (by simp (disch := omega) only [go_sem]) (by simp) (by simp) ⟨rfl, ⟨⟨x - 1, V.s, V.m, V.e⟩, rfl⟩, _, _, by omega, rfl⟩
    by_cases c1 : k = 1
    · simp (disch := omega) only [go_sem, c0, c1]
      have hL4 : [AV.v (Value.int IntKind.i64 (0)), AV.v (Value.int IntKind.i64 (-1)), AV.v (Value.int IntKind.i64 (1)), AV.v (Value.int IntKind.i64 (9007199254740992))] = ints ([0, -1, 1, 9007199254740992] : List Int) := rfl
      have cc4 := con_l1PickInt l hl i3 h3 hi3 [0, -1, 1, 9007199254740992] (by simp) (by simp)
      generalize hG4 : ([0, -1, 1, 9007199254740992] : List Int) = xs4 at hL4 cc4
      have hN4 : xs4.length = 4 := by rw [← hG4]; rfl
      rw [hL4]
      rw [hN4] at cc4
      refine call_lent false [10000000, 250000000] cc4 (by simp (disch := omega) only [go_sem]) (by simp (disch := omega) only [go_sem]) rfl (lend_two (z := 0) (cs := [.sl l.length (bytesA l), .v (.int .i64 (i3)), .v (.int .i64 (h3))]) (z' := 1) (cs' := ints xs4) (by simp (disch := omega) only [go_sem]) (by simp (disch := omega) only [go_sem]) (by simp (disch := omega) only [go_sem]) (by simp (disch := omega) only [go_sem])) (by intro n hn; simp only [List.mem_cons, List.not_mem_nil, or_false] at hn; rcases hn with rfl | rfl <;> simp [AV.top]) ?_
      rintro r hs bs ⟨rfl, ⟨x, hx, rfl⟩, i4, h4, hi4, rfl⟩ -
      clear cc4 hL4 hx hG4 hN4
      refine ⟨by simp [freeN], ?_⟩
      simp (disch := omega) only [go_sem]
      refine fin_intro [] [] [.own 0 [.sl l.length (bytesA l), .v (.int .i64 (i4)), .v (.int .i64 (h4))]] [.ag [.v (.int .i64 (V.k)), .v (.bool (V.s)), .v (.int .i64 (x)), .v (.int .i64 (V.e))]] rfl (by simp (disch := omega) only [go_sem]) (by simp (disch := omega) only [go_sem]) (by simp) (by simp) ⟨rfl, ⟨⟨V.k, V.s, x, V.e⟩, rfl⟩, _, _, by omega, rfl⟩
    by_cases c2 : k = 2
    · simp (disch := omega) only [go_sem, c0, c1, c2]
      have hL4 : [AV.v (Value.int IntKind.i64 (-1075)), AV.v (Value.int IntKind.i64 (972)), AV.v (Value.int IntKind.i64 (0))] = ints ([-1075, 972, 0] : List Int) := rfl
      have cc4 := con_l1PickInt l hl i3 h3 hi3 [-1075, 972, 0] (by simp) (by simp)
      generalize hG4 : ([-1075, 972, 0] : List Int) = xs4 at hL4 cc4
      have hN4 : xs4.length = 3 := by rw [← hG4]; rfl
      rw [hL4]
      rw [hN4] at cc4
      refine call_lent false [10000000, 310000000] cc4 (by simp (disch := omega) only [go_sem]) (by simp (disch := omega) only [go_sem]) rfl (lend_two (z := 0) (cs := [.sl l.length (bytesA l), .v (.int .i64 (i3)), .v (.int .i64 (h3))]) (z' := 1) (cs' := ints xs4) (by simp (disch := omega) only [go_sem]) (by simp (disch := omega) only [go_sem]) (by simp (disch := omega) only [go_sem]) (by simp (disch := omega) only [go_sem])) (by intro n hn; simp only [List.mem_cons, List.not_mem_nil, or_false] at hn; rcases hn with rfl | rfl <;> simp [AV.top]) ?_
      rintro r hs bs ⟨rfl, ⟨x, hx, rfl⟩, i4, h4, hi4, rfl⟩ -
      clear cc4 hL4 hx hG4 hN4
      refine ⟨by simp [freeN], ?_⟩
      simp (disch := omega) only [go_sem]
      refine fin_intro [] [] [.own 0 [.sl l.length (bytesA l), .v (.int .i64 (i4)), .v (.int .i64 (h4))]] [.ag [.v (.int .i64 (V.k)), .v (.bool (V.s)), .v (.int .i64 (V.m)), .v (.int .i64 (x))]] rfl (by simp (disch := omega) only [go_sem]) (by simp (disch := omega) only [go_sem]) (by simp) (by simp) ⟨rfl, ⟨⟨V.k, V.s, V.m, x⟩, rfl⟩, _, _, by omega, rfl⟩
    · simp (disch := omega) only [go_sem, c0, c1, c2]
      refine fin_intro [] [] [.own 0 [.sl l.length (bytesA l), .v (.int .i64 (i3)), .v (.int .i64 (h3))]] [.ag [.v (.int .i64 (V.k)), .v (.bool (!V.s)), .v (.int .i64 (V.m)), .v (.int .i64 (V.e))]] rfl (by simp (disch := omega) only [go_sem]) (by simp (disch := omega) only [go_sem]) (by simp) (by simp) ⟨rfl, ⟨⟨V.k, !V.s, V.m, V.e⟩, rfl⟩, _, _, by omega, rfl⟩
end
end Go.Ab
namespace Go.Ab
open Go
set_option linter.unusedVariables false
set_option linter.unusedSimpArgs false

end Go.Ab
namespace Go.Ab
open Go Go.Proofs
set_option linter.unusedVariables false
set_option linter.unusedSimpArgs false

end Go.Ab
namespace Go.Ab
open Go Go.Proofs
set_option linter.unusedVariables false
set_option linter.unusedSimpArgs false

end Go.Ab
namespace Go.Ab
open Go Go.Proofs
set_option linter.unusedVariables false
set_option linter.unusedSimpArgs false

section
variable (l : List UInt8) (hl : l.length ≤ 9223372036854775807) (i h : Int) (hi : 0 ≤ i ∧ i ≤ l.length)
include hl hi

end

theorem con_l1New (l : List UInt8) (hl : l.length ≤ 9223372036854775807) : Con Tryz.prog 32 false [.sl l.length (bytesA l)] [] (fun r hs bs => r = .pt 0 0 ∧ bs = [] ∧ ∃ h : Int, hs = [.own 0 [.sl l.length (bytesA l), .v (.int .i64 0), .v (.int .i64 h)]]) := by
  refine Con.of_aw Tryz.func32 rfl Tryz.ntmps32 (by simp) (by simp) (by simp) (W.sound ?_)
  show @W Tryz.prog 32 ⟨_⟩ ⟨fun x σ => @retW _ _ _ ⟨_⟩ _ ⟨_⟩ x σ⟩ _ _
  simp (disch := omega) only [go_sem]
  refine loop_intro (fun x : Nat × Int => [(0, .sl l.length (bytesA l)), (3, .v (.int .i64 x.2)), (4, .v (.int .i64 x.1))]) (fun _ => []) (fun x => x.1 ≤ l.length) (fun x => l.length - x.1) (0, IntKind.i64.wrap (38282 + l.length)) (by simp)
    (Le.lst [] _ _ rfl (by simp (disch := omega) only [go_sem]) (by simp (disch := omega) only [go_sem])) ?_
  rintro ⟨i, h⟩ hi
  dsimp only at hi ⊢
  have hfin : ∀ l' : List AV, l' = [.pt 0 0] → (fun r hs bs => r = .pt 0 0 ∧ bs = [] ∧ ∃ h : Int, hs = [.own 0 [.sl l.length (bytesA l), .v (.int .i64 0), .v (.int .i64 h)]] : AV → List Ob → List Ob → Prop) (tupA l') [.own 0 [.sl l.length (bytesA l), .v (.int .i64 0), .v (.int .i64 h)]] [] := fun l' e => by subst e; exact ⟨rfl, rfl, h, rfl⟩
  by_cases h1 : (i : Int) < l.length
  · by_cases h2 : (i : Int) < 4000
    · simp (disch := omega) only [go_sem, h1, h2]
      generalize IntKind.i64.wrap (IntKind.i64.wrap (IntKind.i64.wrap (h * 131) + IntKind.i64.wrap ((l.getD i 0).toNat : Int)) + 7) % 1073741824 = h'
      exact ⟨⟨by omega, by omega⟩, by omega, next_intro (i + 1, h') [] (by show i + 1 ≤ _; omega) (by show l.length - (i + 1) < l.length - i; omega) rfl (by simp (disch := omega) only [go_sem]; try omega) (by simp (disch := omega) only [go_sem])⟩
    · simp (disch := omega) only [go_sem, h1, h2]
      refine fin_intro [(0, 330000000)] [.own 0 [.sl l.length (bytesA l), .v (.int .i64 0), .v (.int .i64 h)]] [] [.pt 0 0] rfl (by simp (disch := omega) only [go_sem]) (by simp (disch := omega) only [go_sem]) (by simp) (by simp) (hfin _ rfl)
  · simp (disch := omega) only [go_sem, h1]
    refine fin_intro [(0, 330000000)] [.own 0 [.sl l.length (bytesA l), .v (.int .i64 0), .v (.int .i64 h)]] [] [.pt 0 0] rfl (by simp (disch := omega) only [go_sem]) (by simp (disch := omega) only [go_sem]) (by simp) (by simp) (hfin _ rfl)

end Go.Ab
namespace Go.Ab
open Go Go.Proofs
set_option linter.unusedVariables false
set_option linter.unusedSimpArgs false

end Go.Ab
namespace Go.Ab
open Go Go.Proofs
set_option linter.unusedVariables false
set_option linter.unusedSimpArgs false

end Go.Ab
namespace Go.Ab
open Go Go.Proofs
set_option linter.unusedVariables false
set_option linter.unusedSimpArgs false

theorem con_DrawFlNext (l : List UInt8) (hl : l.length ≤ 9223372036854775807) : Con Tryz.prog 16 false [.sl l.length (bytesA l)] [] someF := by
  refine Con.of_aw Tryz.func16 rfl Tryz.ntmps16 (by simp) (by simp) (by simp) (W.sound ?_)
  show @W Tryz.prog 6 ⟨_⟩ ⟨fun x σ => @retW _ _ _ ⟨_⟩ _ ⟨_⟩ x σ⟩ _ _
  simp (disch := omega) only [go_sem]
  refine call_open (con_l1New l hl) (by simp (disch := omega) only [go_sem]) ?_
  rintro r hs ⟨rfl, -, ⟨h, rfl⟩⟩
  refine ⟨by simp (disch := omega) only [go_sem], ?_⟩
  simp (disch := omega) only [go_sem]
  refine call_lent false [60000000] (con_l5bent l hl 0 h (by omega)) (by simp (disch := omega) only [go_sem]) (by simp (disch := omega) only [go_sem]) rfl (lend_cons (z := 0) (cs := [.sl l.length (bytesA l), .v (.int .i64 (0)), .v (.int .i64 (h))]) (by simp (disch := omega) only [go_sem]) (by simp (disch := omega) only [go_sem])) (by intro n hn; exact ⟨_, List.mem_cons_self .., by rw [List.mem_singleton.1 hn]; rfl⟩) ?_
  rintro r hs bs ⟨rfl, ⟨V, rfl⟩, i1, h1, hi1, rfl⟩ -
  refine ⟨by simp [freeN], ?_⟩
  simp (disch := omega) only [go_sem]
  unfold FlV.cs
  simp (disch := omega) only [go_sem]
  exact fin_val (by simp (disch := omega) only [go_sem]) ⟨rfl, rfl, V, rfl⟩

theorem nxS_sum {t : Bool} {a : Nat} {E : Int} {x1 : Bool} {x2 : Nat} {x3 : Int} {z1 : Bool} {z2 : Nat} {z3 : Int} (y1 : -1074 ≤ x3) (y2 : -1074 ≤ z3)
    (h1 : dv 1074 x1 x2 x3 = dv 1074 t (if t = true then a + 1 else a) E) (h2 : dv 1074 z1 z2 z3 = dv 1074 t (if t = true then a else a + 1) E) :
    dv 1074 (adS x1 x2 x3 z1 z2 z3) (adM x1 x2 x3 z1 z2 z3) (alE x2 x3 z2 z3) = dv 1074 t (2 * a + 1) E := by
  rw [ad_dv (by omega) (by omega), h1, h2]
  unfold dv
  rw [← Int.add_mul]
  congr 1
  cases t <;> simp [sv] <;> omega

theorem nxS_mid {t : Bool} {a : Nat} {E : Int} {u1 : Bool} {u2 : Nat} {u3 : Int} (y1 : -1074 ≤ u3) (hE : -1074 ≤ E) (h1 : dv 1074 u1 u2 u3 = dv 1074 t (2 * a + 1) E) :
    dv 1075 (pmS u1 u2 false 1) (u2 * 1) (u3 + -1) = dv 1075 t (2 * a + 1) (E - 1) := by
  have g1 := dv_mul (K := 1074) (K' := 1) (s := u1) (s' := false) (m := u2) (m' := 1) (e := u3) (e' := -1) (by omega) (by omega)
  have g2 := dv_mul (K := 1074) (K' := 1) (s := t) (s' := false) (m := 2 * a + 1) (m' := 1) (e := E) (e' := -1) (by omega) (by omega)
  unfold pmS
  rw [dv_and]
  rw [h1] at g1
  rw [show (1075 : Nat) = 1074 + 1 from rfl, g1, ← g2, Nat.mul_one, Int.sub_eq_add_neg, Bool.bne_false]

theorem nxS_dif {t : Bool} {a : Nat} {E : Int} {x1 : Bool} {x2 : Nat} {x3 : Int} {z1 : Bool} {z2 : Nat} {z3 : Int} (y1 : -1074 ≤ x3) (y2 : -1074 ≤ z3)
    (h1 : dv 1074 x1 x2 x3 = dv 1074 t (if t = true then a + 1 else a) E) (h2 : dv 1074 z1 z2 z3 = dv 1074 t (if t = true then a else a + 1) E) :
    dv 1074 (adS z1 z2 z3 ((!x1) && decide (x2 ≠ 0)) x2 x3) (adM z1 z2 z3 ((!x1) && decide (x2 ≠ 0)) x2 x3) (alE z2 z3 x2 x3) = dv 1074 false 1 E := by
  rw [ad_dv (by omega) (by omega), dv_and, dv_neg, h1, h2]
  unfold dv
  rw [← Int.neg_mul, ← Int.add_mul]
  congr 1
  cases t <;> simp [sv] <;> omega

theorem nxS_fit {K : Nat} {t : Bool} {a : Nat} {E : Int} {S : Bool} {M : Nat} {F : Int} (hF : -(K : Int) ≤ F) (hE : -(K : Int) ≤ E) (ha : a < 2 ^ 60) (hr : -1100 ≤ E ∧ E ≤ 1100) (h : dv K S M F = dv K t a E) : dyFit M F = true := by
  rw [dyFit_dv hF hE h]
  have : bl a ≤ 60 := bl_le.2 ha
  exact dyFit_gen (by omega) (by omega)

theorem nxS_le {k e E : Int} {S : Bool} {M : Nat} {F : Int} (hF : -1074 ≤ F) (hE : -1074 ≤ E) (h : dv 1074 S M F = dv 1074 false 1 E) (hu : E ≤ ulE k e) (hu2 : -1074 ≤ ulE k e) :
    cmpI (dv 3000 S M F) (dv 3000 false 1 (ulE k e)) ≤ 0 := by
  rw [(cmpI_le _ _).1, show (3000 : Nat) = 1074 + 1926 from rfl, dv_scale (by omega), dv_scale (by omega), h]
  have hp : (0 : Int) ≤ 2 ^ (1926 : Nat) := Int.le_of_lt (Int.pow_pos (by omega))
  refine Int.mul_le_mul_of_nonneg_right ?_ hp
  unfold dv
  refine Int.mul_le_mul_of_nonneg_left ?_ (by simp [sv])
  have : (E + ((1074 : Nat) : Int)).toNat ≤ (ulE k e + ((1074 : Nat) : Int)).toNat := by omega
  have q := Nat.pow_le_pow_right (show 0 < 2 by omega) this
  exact_mod_cast q
end Go.Ab
namespace Go.Ab
open Go Go.Proofs
set_option linter.unusedVariables false
set_option linter.unusedSimpArgs false

theorem fle_run (w : World) (k m e k' m' e' : Int) (s s' : Bool) : (Op.equal 26 (.agg #[.int .i64 k, .bool s, .int .i64 m, .int .i64 e]) (.agg #[.int .i64 k', .bool s', .int .i64 m', .int .i64 e'])).run Tryz.prog w = .ok (flEq k s m e k' s' m' e') w := by
  have hf : Tryz.prog.fieldsOf 26 = #[{ name := "Kind", type := 3, offset := 0, embedded := false, tag := "", pkgPath := "", byteOffset := 0 }, { name := "Neg", type := 4, offset := 1, embedded := false, tag := "", pkgPath := "", byteOffset := 8 }, { name := "M", type := 3, offset := 2, embedded := false, tag := "", pkgPath := "", byteOffset := 16 }, { name := "E", type := 3, offset := 3, embedded := false, tag := "", pkgPath := "", byteOffset := 24 }] := by unfold Program.fieldsOf; rw [Tryz.underlying26]
  have h0 : Tryz.prog.underlying 26 = some (.struct (Tryz.prog.fieldsOf 26)) := by unfold Program.fieldsOf; rw [Tryz.underlying26]
  have hp : Tryz.prog.stoodInHeld 26 = false := by kernel_rfl
  have i3 : ∀ a b : Int, (Op.equalIn 9999 3 (.int .i64 a) (.int .i64 b)).run Tryz.prog w = .ok (a == b) w := fun a b => run_equalIn_int w 9998 _ .i64 .i64 a b Tryz.underlying3
  have i4 : ∀ a b : Bool, (Op.equalIn 9999 4 (.bool a) (.bool b)).run Tryz.prog w = .ok (a == b) w := fun a b => run_equalIn_bool' w 9998 _ a b Tryz.underlying4
  have p3 : ∀ (xs : Array Value) (o : Nat) (v : Value), xs[o]? = some v → (part 3 xs o).run Tryz.prog w = .ok v w := fun xs o v h => by
    unfold part
    simp only [Sem.run_bind, run_isAgg tf3, Result.andThen, h, ti3_agg, Bool.false_eq_true, if_false, Sem.run_pure]
  have p4 : ∀ (xs : Array Value) (o : Nat) (v : Value), xs[o]? = some v → (part 4 xs o).run Tryz.prog w = .ok v w := fun xs o v h => by
    unfold part
    simp only [Sem.run_bind, run_isAgg tf4, Result.andThen, h, ti4_agg, Bool.false_eq_true, if_false, Sem.run_pure]
  have q0 : ∀ a b c d : Value, (part 3 #[a, b, c, d] 0).run Tryz.prog w = .ok a w := fun a b c d => p3 _ 0 a rfl
  have q1 : ∀ a b c d : Value, (part 4 #[a, b, c, d] 1).run Tryz.prog w = .ok b w := fun a b c d => p4 _ 1 b rfl
  have q2 : ∀ a b c d : Value, (part 3 #[a, b, c, d] 2).run Tryz.prog w = .ok c w := fun a b c d => p3 _ 2 c rfl
  have q3 : ∀ a b c d : Value, (part 3 #[a, b, c, d] 3).run Tryz.prog w = .ok d w := fun a b c d => p3 _ 3 d rfl
  show (Op.equalIn (9999 + 1) _ _ _).run _ _ = _
  rw [run_equalIn_struct w 9999 _ _ _ h0 hp, hf]
  have n1 : ("Kind" ≠ "_") = True := by simp
  have n2 : ("Neg" ≠ "_") = True := by simp
  have n3 : ("M" ≠ "_") = True := by simp
  have n4 : ("E" ≠ "_") = True := by simp
  simp only [Op.eqFields, n1, n2, n3, n4, if_true, Sem.run_bind, q0, Result.andThen, i3]
  unfold flEq
  have q : ∀ a b : Int, (a == b) = decide (a = b) := fun a b => by rfl
  rw [q]
  cases decide (k = k')
  · simp only [Bool.not_false, if_true, Sem.run_pure, Bool.false_and]
  simp only [Bool.not_true, Bool.false_eq_true, if_false, Sem.run_bind, q1, Result.andThen, i4]
  cases (s == s')
  · simp only [Bool.not_false, if_true, Sem.run_pure, Bool.false_and, Bool.and_false]
  simp only [Bool.not_true, Bool.false_eq_true, if_false, Sem.run_bind, q2, Result.andThen, i3]
  rw [q]
  cases decide (m = m')
  · simp only [Bool.not_false, if_true, Sem.run_pure, Bool.false_and, Bool.and_false]
  simp only [Bool.not_true, Bool.false_eq_true, if_false, Sem.run_bind, q3, Result.andThen, i3]
  rw [q]
  cases decide (e = e') <;> rfl
instance : FlE Tryz.prog 26 := ⟨fle_run, by kernel_rfl⟩
end Go.Ab
namespace Go.Ab
open Go Go.Proofs
set_option linter.unusedVariables false
set_option linter.unusedSimpArgs false

theorem dyB_inj {K : Nat} {s1 : Bool} {m1 : Nat} {e1 : Int} {s2 : Bool} {m2 : Nat} {e2 : Int} (h1 : dyB s1 (lim m1) e1 = true) (h2 : dyB s2 (lim m2) e2 = true) (k1 : -(K : Int) ≤ e1) (k2 : -(K : Int) ≤ e2) (h : dv K s1 m1 e1 = dv K s2 m2 e2) :
    s1 = s2 ∧ m1 = m2 ∧ e1 = e2 := by
  obtain ⟨n1, q1, _, _, _, o1, f1⟩ := dyB_lim h1
  obtain ⟨n2, q2, _, _, _, o2, f2⟩ := dyB_lim h2
  obtain rfl := lim_inj q1
  obtain rfl := lim_inj q2
  obtain ⟨g1, g2, g3⟩ := dv_form k1 k2 h
  have can : ∀ (s : Bool) (m : Nat) (e : Int), (m % 2 = 1 ∨ (m = 0 ∧ e = 0)) → (m = 0 → s = false) → oS s m = s ∧ oM m = m ∧ oE m e = e := by
    intro s m e o f
    rcases o with o | ⟨rfl, rfl⟩
    · have h0 : m ≠ 0 := by omega
      have ht := tz_odd o
      refine ⟨by unfold oS; rw [if_neg h0], ?_, ?_⟩
      · have := @oM_mul m; rw [ht] at this; simpa using this
      · unfold oE; rw [if_neg h0, ht]; simp
    · rw [f rfl]; exact ⟨by unfold oS; rw [if_pos rfl], oM_zero, by unfold oE; rw [if_pos rfl]⟩
  obtain ⟨i1, i2, i3⟩ := can _ _ _ o1 f1
  obtain ⟨j1, j2, j3⟩ := can _ _ _ o2 f2
  rw [i1, j1] at g1; rw [i2, j2] at g2; rw [i3, j3] at g3
  exact ⟨g1, g2, g3⟩

theorem dyB_one {e : Int} (h : -3000 ≤ e ∧ e ≤ 3000) : dyB false (lim 1) e = true := by
  unfold dyB
  rw [decide_eq_true h.1, decide_eq_true h.2, vl_lim, lim_one]
  have h1 : wholeB false [1] = true := by decide
  rw [h1]; rfl

theorem dyB_len {s : Bool} {m : Nat} {e : Int} (h : dyB s (lim m) e = true) : (lim m).length ≤ 2 ^ 40 := by
  obtain ⟨n, q, h, _⟩ := dyB_lim h
  rw [q]; omega

set_option maxRecDepth 100000 in
set_option maxHeartbeats 1000000 in
theorem law_Nexts (l : List UInt8) (hl : l.length ≤ 9223372036854775807) : Con Tryz.prog 4 true [.sl l.length (bytesA l)] [] (isA (.v (.bool true))) := by
  refine Con.of_aw Tryz.func4 rfl Tryz.ntmps4 (by simp) (by simp) (by simp) (W.sound ?_)
  show @W Tryz.prog 158 ⟨_⟩ ⟨fun x σ => @retW _ _ _ ⟨_⟩ _ ⟨_⟩ x σ⟩ _ _
  simp (disch := omega) only [go_sem]
  refine call_open (con_DrawFlNext l hl) (by simp (disch := omega) only [go_sem]) ?_
  rintro r hs ⟨rfl, -, ⟨V, rfl⟩⟩
  refine ⟨by simp [freeN], ?_⟩
  unfold FlV.cs
  simp (disch := omega) only [go_sem]
  by_cases v1 : flB V.k V.s V.m V.e = true
  case neg =>
    have v1' : flB V.k V.s V.m V.e = false := by simpa using v1
    refine call_closed (con_FlNextBad V.k V.s V.m V.e v1') (by simp (disch := omega) only [go_sem]) ?_
    rintro r hs ⟨rfl, rfl, _⟩
    refine ⟨by simp [freeN], ?_⟩
    simp (disch := omega) only [go_sem]
    refine call_closed (con_flokS V.k V.s V.m V.e) (by simp (disch := omega) only [go_sem]) ?_
    rintro r hs ⟨rfl, rfl, _⟩
    refine ⟨by simp [freeN], ?_⟩
    simp (disch := omega) only [go_sem]
    simp (disch := omega) only [go_sem, v1']
    have cn := con_FlNeg 3 false 0 0
    rw [if_pos (show flB 3 false 0 0 = true by decide)] at cn
    refine call_closed (cn) (by simp (disch := omega) only [go_sem]) ?_
    rintro r hs ⟨rfl, rfl, _⟩
    refine ⟨by simp [freeN], ?_⟩
    simp (disch := omega) only [go_sem]
    exact fin_valc (by simp (disch := omega) only [go_sem]) (by simp (disch := omega) only [go_sem]) isA_mk
  have hk4 : V.k = 0 ∨ V.k = 1 ∨ V.k = 2 ∨ V.k = 3 := by obtain ⟨a1, a2, a3, a4, a5, a6⟩ := flB_rng v1; omega
  have hnv := @nx_valid V.k V.s V.m V.e v1
  have hcm := @nx_cmp V.k V.s V.m V.e v1
  have hba := @nx_back V.k V.s V.m V.e v1
  have hsa := fun b => @nx_same V.k V.s V.m V.e b v1
  have had := @nx_adj V.k V.s V.m V.e v1
  have cx := con_FlNext V.k V.s V.m V.e v1
  by_cases v3 : V.k = 3
  · have hn3 : (nxV V.k V.s V.m V.e) = ⟨V.k, V.s, V.m, V.e⟩ := by unfold nxV; rw [if_pos (.inl v3)]
    rw [hn3] at cx
    have cn := con_FlNeg V.k V.s V.m V.e
    rw [if_pos v1] at cn
    refine call_closed (cx) (by simp (disch := omega) only [go_sem]) ?_
    rintro r hs ⟨rfl, rfl, _⟩
    refine ⟨by simp [freeN], ?_⟩
    simp (disch := omega) only [go_sem]
    refine call_closed (con_flokS V.k V.s V.m V.e) (by simp (disch := omega) only [go_sem]) ?_
    rintro r hs ⟨rfl, rfl, _⟩
    refine ⟨by simp [freeN], ?_⟩
    simp (disch := omega) only [go_sem]
    simp (disch := omega) only [go_sem, v1]
    simp (disch := omega) only [go_sem, v3]
    rw [v3] at cn
    refine call_closed (cn) (by simp (disch := omega) only [go_sem]) ?_
    rintro r hs ⟨rfl, rfl, _⟩
    refine ⟨by simp [freeN], ?_⟩
    simp (disch := omega) only [go_sem]
    exact fin_valc (by simp (disch := omega) only [go_sem]) (by simp (disch := omega) only [go_sem]) isA_mk
  obtain ⟨v2, w3⟩ := hnv v3
  have cc := con_FlCmp V.k V.s V.m V.e (nxV V.k V.s V.m V.e).k (nxV V.k V.s V.m V.e).s (nxV V.k V.s V.m V.e).m (nxV V.k V.s V.m V.e).e v1 v2 v3 w3
  have co := con_flokS (nxV V.k V.s V.m V.e).k (nxV V.k V.s V.m V.e).s (nxV V.k V.s V.m V.e).m (nxV V.k V.s V.m V.e).e
  rw [v2] at co
  have cg := con_FlNeg (nxV V.k V.s V.m V.e).k (nxV V.k V.s V.m V.e).s (nxV V.k V.s V.m V.e).m (nxV V.k V.s V.m V.e).e
  rw [if_pos v2] at cg
  have vg := ng_flB v2
  have cy := con_FlNext _ _ _ _ vg
  have hcm' := hcm v3
  generalize nxV V.k V.s V.m V.e = N at *
  obtain ⟨vb, wb⟩ := nx_valid vg w3
  have hk3 : decide (V.k = 3) = false := decide_eq_false v3
  have hbaN := hba
  generalize nxV N.k (ngS N.k N.s) N.m N.e = B at *
  have cd := con_FlNeg B.k B.s B.m B.e
  rw [if_pos vb] at cd
  have ce := con_FlCmp B.k (ngS B.k B.s) B.m B.e V.k V.s V.m V.e (ng_flB vb) v1 wb v3
  have d1 := con_FlDy V.k V.s V.m V.e
  have d2 := con_FlDy N.k N.s N.m N.e
  have cu := con_FlUlp V.k V.s V.m V.e v1
  rw [v1] at d1
  rw [v2] at d2
  simp only [Bool.true_and] at d1 d2
  have hx := dyB_canon (V.s && decide (V.k = 1)) V.m.toNat V.e
  have hz := dyB_canon (N.s && decide (N.k = 1)) N.m.toNat N.e
  obtain ⟨a1, a2, a3, a4, a5, a6⟩ := flB_rng v1
  obtain ⟨b1, b2, b3, b4, b5, b6⟩ := flB_rng v2
  rw [dyFit_fl (by omega) (by omega)] at hx
  rw [dyFit_fl (by omega) (by omega)] at hz
  have h0 := dyB_zero
  refine call_closed (cx) (by simp (disch := omega) only [go_sem]) ?_
  rintro r hs ⟨rfl, rfl, _⟩
  refine ⟨by simp [freeN], ?_⟩
  simp (disch := omega) only [go_sem]
  refine call_closed (con_flokS V.k V.s V.m V.e) (by simp (disch := omega) only [go_sem]) ?_
  rintro r hs ⟨rfl, rfl, _⟩
  refine ⟨by simp [freeN], ?_⟩
  simp (disch := omega) only [go_sem]
  simp (disch := omega) only [go_sem, v1]
  simp (disch := omega) only [go_sem, hk3]
  refine call_closed (cc) (by simp (disch := omega) only [go_sem]) ?_
  rintro r hs ⟨rfl, rfl, _⟩
  refine ⟨by simp [freeN], ?_⟩
  simp (disch := omega) only [go_sem]
  refine call_closed (co) (by simp (disch := omega) only [go_sem]) ?_
  rintro r hs ⟨rfl, rfl, _⟩
  refine ⟨by simp [freeN], ?_⟩
  simp (disch := omega) only [go_sem]
  by_cases c2 : V.k = 2
  · have hk2 : decide (V.k = 2) = true := decide_eq_true c2
    rw [hk2] at hcm'
    have hcm2 : decide (cmpF V.k V.s V.m V.e N.k N.s N.m N.e < 0) = V.s := by rw [hcm']; rfl
    have q1 : (decide (V.k = 0) || decide (V.k = 1)) = false := by rw [c2]; rfl
    rw [q1, if_neg (by simp)] at d1
    rw [q1, if_neg (by simp)] at cu
    simp (disch := omega) only [go_sem, hk2]
    simp (disch := omega) only [go_sem, hcm2, bne_self_eq_false]
    refine call_closed (cg) (by simp (disch := omega) only [go_sem]) ?_
    rintro r hs ⟨rfl, rfl, _⟩
    refine ⟨by simp [freeN], ?_⟩
    simp (disch := omega) only [go_sem]
    refine call_closed (cy) (by simp (disch := omega) only [go_sem]) ?_
    rintro r hs ⟨rfl, rfl, _⟩
    refine ⟨by simp [freeN], ?_⟩
    simp (disch := omega) only [go_sem]
    refine call_closed (cd) (by simp (disch := omega) only [go_sem]) ?_
    rintro r hs ⟨rfl, rfl, _⟩
    refine ⟨by simp [freeN], ?_⟩
    simp (disch := omega) only [go_sem]
    refine call_closed (ce) (by simp (disch := omega) only [go_sem]) ?_
    rintro r hs ⟨rfl, rfl, _⟩
    refine ⟨by simp [freeN], ?_⟩
    simp (disch := omega) only [go_sem]
    simp (disch := omega) only [go_sem, hk2]
    refine call_open (d1) (by simp (disch := omega) only [go_sem]) ?_
    rintro r hs ⟨rfl, rfl, _⟩
    refine ⟨by simp [freeN], ?_⟩
    simp (disch := omega) only [go_sem]
    cases q2 : (decide (N.k = 0) || decide (N.k = 1))
    · rw [q2, if_neg (by simp)] at d2
      refine call_open (d2) (by simp (disch := omega) only [go_sem]) ?_
      rintro r hs ⟨rfl, rfl, _⟩
      refine ⟨by simp [freeN], ?_⟩
      simp (disch := omega) only [go_sem]
      refine call_open (cu) (by simp (disch := omega) only [go_sem]) ?_
      rintro r hs ⟨rfl, rfl, _⟩
      refine ⟨by simp [freeN], ?_⟩
      simp (disch := omega) only [go_sem]
      refine call_open (con_lawAddE false 0 0 false 0 0 false h0 h0) (by simp (disch := omega) only [go_sem]) ?_
      rintro r hs ⟨rfl, -, ⟨S, M, F, b, hS, hb, rfl⟩⟩
      obtain rfl := hb rfl
      refine ⟨by simp (disch := omega) only [go_sem], ?_⟩
      simp (disch := omega) only [go_sem]
      refine draw_of rfl [⟨0, [], []⟩, ⟨2, [0], []⟩, ⟨7, [0], []⟩, ⟨1, [0], [200000000]⟩, ⟨3, [], [200000000]⟩, ⟨4, [], [200000000]⟩, ⟨5, [], [200000000]⟩, ⟨6, [], [200000000]⟩, ⟨8, [], []⟩, ⟨9, [], []⟩] (by kernel_rfl) ?_
      simp (disch := omega) only [go_sem]
      refine call_open (con_dyHalf) (by simp (disch := omega) only [go_sem]) ?_
      rintro r hs ⟨rfl, rfl, _⟩
      refine ⟨by simp [freeN], ?_⟩
      simp (disch := omega) only [go_sem]
      refine call_open (con_lawMulE S M F false 1 (-1) false hS (by rw [lim_one]; decide)) (by simp (disch := omega) only [go_sem]) ?_
      rintro r hs ⟨rfl, -, ⟨S2, M2, F2, b, hS2, hb, rfl⟩⟩
      obtain rfl := hb rfl
      refine ⟨by simp (disch := omega) only [go_sem], ?_⟩
      simp (disch := omega) only [go_sem]
      refine draw_of rfl [⟨0, [], []⟩, ⟨1, [0], []⟩, ⟨3, [0, 1], []⟩, ⟨8, [0, 1], []⟩, ⟨2, [0], [210000000]⟩, ⟨4, [], [210000000]⟩, ⟨5, [], [210000000]⟩, ⟨6, [], [210000000]⟩, ⟨7, [], [210000000]⟩, ⟨9, [], []⟩, ⟨10, [], []⟩] (by kernel_rfl) ?_
      simp (disch := omega) only [go_sem]
      refine call_open (con_lawNeg false 0 0 h0) (by simp (disch := omega) only [go_sem]) ?_
      rintro r hs ⟨rfl, rfl, _⟩
      refine ⟨by simp [freeN], ?_⟩
      simp (disch := omega) only [go_sem]
      refine call_open (con_lawAddE false 0 0 ((!false) && decide (0 ≠ 0)) 0 0 false h0 (dyB_neg h0)) (by simp (disch := omega) only [go_sem]) ?_
      rintro r hs ⟨rfl, -, ⟨S3, M3, F3, b, hS3, hb, rfl⟩⟩
      obtain rfl := hb rfl
      refine ⟨by simp (disch := omega) only [go_sem], ?_⟩
      simp (disch := omega) only [go_sem]
      exact fin_valc (by simp (disch := omega) only [go_sem]) (by simp (disch := omega) only [go_sem]) isA_mk
    · rw [q2, if_pos rfl] at d2
      generalize oS (N.s && decide (N.k = 1)) N.m.toNat = z1 at *
      generalize oM N.m.toNat = z2 at *
      generalize oE N.m.toNat N.e = z3 at *
      refine call_open (d2) (by simp (disch := omega) only [go_sem]) ?_
      rintro r hs ⟨rfl, rfl, _⟩
      refine ⟨by simp [freeN], ?_⟩
      simp (disch := omega) only [go_sem]
      refine call_open (cu) (by simp (disch := omega) only [go_sem]) ?_
      rintro r hs ⟨rfl, rfl, _⟩
      refine ⟨by simp [freeN], ?_⟩
      simp (disch := omega) only [go_sem]
      refine call_open (con_lawAddE false 0 0 z1 z2 z3 false h0 hz) (by simp (disch := omega) only [go_sem]) ?_
      rintro r hs ⟨rfl, -, ⟨S, M, F, b, hS, hb, rfl⟩⟩
      obtain rfl := hb rfl
      refine ⟨by simp (disch := omega) only [go_sem], ?_⟩
      simp (disch := omega) only [go_sem]
      refine draw_of rfl [⟨0, [], []⟩, ⟨2, [0], []⟩, ⟨7, [0], []⟩, ⟨1, [0], [200000000]⟩, ⟨3, [], [200000000]⟩, ⟨4, [], [200000000]⟩, ⟨5, [], [200000000]⟩, ⟨6, [], [200000000]⟩, ⟨8, [], []⟩, ⟨9, [], []⟩] (by kernel_rfl) ?_
      simp (disch := omega) only [go_sem]
      refine call_open (con_dyHalf) (by simp (disch := omega) only [go_sem]) ?_
      rintro r hs ⟨rfl, rfl, _⟩
      refine ⟨by simp [freeN], ?_⟩
      simp (disch := omega) only [go_sem]
      refine call_open (con_lawMulE S M F false 1 (-1) false hS (by rw [lim_one]; decide)) (by simp (disch := omega) only [go_sem]) ?_
      rintro r hs ⟨rfl, -, ⟨S2, M2, F2, b, hS2, hb, rfl⟩⟩
      obtain rfl := hb rfl
      refine ⟨by simp (disch := omega) only [go_sem], ?_⟩
      simp (disch := omega) only [go_sem]
      refine draw_of rfl [⟨0, [], []⟩, ⟨1, [0], []⟩, ⟨3, [0, 1], []⟩, ⟨8, [0, 1], []⟩, ⟨2, [0], [210000000]⟩, ⟨4, [], [210000000]⟩, ⟨5, [], [210000000]⟩, ⟨6, [], [210000000]⟩, ⟨7, [], [210000000]⟩, ⟨9, [], []⟩, ⟨10, [], []⟩] (by kernel_rfl) ?_
      simp (disch := omega) only [go_sem]
      refine call_open (con_lawNeg false 0 0 h0) (by simp (disch := omega) only [go_sem]) ?_
      rintro r hs ⟨rfl, rfl, _⟩
      refine ⟨by simp [freeN], ?_⟩
      simp (disch := omega) only [go_sem]
      refine call_open (con_lawAddE z1 z2 z3 ((!false) && decide (0 ≠ 0)) 0 0 false hz (dyB_neg h0)) (by simp (disch := omega) only [go_sem]) ?_
      rintro r hs ⟨rfl, -, ⟨S3, M3, F3, b, hS3, hb, rfl⟩⟩
      obtain rfl := hb rfl
      refine ⟨by simp (disch := omega) only [go_sem], ?_⟩
      simp (disch := omega) only [go_sem]
      exact fin_valc (by simp (disch := omega) only [go_sem]) (by simp (disch := omega) only [go_sem]) isA_mk
  · have hk2 : decide (V.k = 2) = false := decide_eq_false c2
    rw [hk2] at hcm'
    have hcm2 : decide (cmpF V.k V.s V.m V.e N.k N.s N.m N.e < 0) = true := by rw [hcm']; rfl
    have hk01 : V.k = 0 ∨ V.k = 1 := by rcases hk4 with h | h | h | h <;> simp_all
    have q1 : (decide (V.k = 0) || decide (V.k = 1)) = true := by simpa using hk01
    rw [q1, if_pos rfl] at d1
    rw [q1, if_pos rfl] at cu
    obtain ⟨b', rfl, hb'⟩ := hba hk01
    have hsa2 := hsa _ hk01 vb hb'
    rw [hsa2] at ce
    simp (disch := omega) only [go_sem, hk2]
    simp (disch := omega) only [go_sem, hcm2, bne_self_eq_false]
    refine call_closed (cg) (by simp (disch := omega) only [go_sem]) ?_
    rintro r hs ⟨rfl, rfl, _⟩
    refine ⟨by simp [freeN], ?_⟩
    simp (disch := omega) only [go_sem]
    refine call_closed (cy) (by simp (disch := omega) only [go_sem]) ?_
    rintro r hs ⟨rfl, rfl, _⟩
    refine ⟨by simp [freeN], ?_⟩
    simp (disch := omega) only [go_sem]
    refine call_closed (cd) (by simp (disch := omega) only [go_sem]) ?_
    rintro r hs ⟨rfl, rfl, _⟩
    refine ⟨by simp [freeN], ?_⟩
    simp (disch := omega) only [go_sem]
    refine call_closed (ce) (by simp (disch := omega) only [go_sem]) ?_
    rintro r hs ⟨rfl, rfl, _⟩
    refine ⟨by simp [freeN], ?_⟩
    simp (disch := omega) only [go_sem]
    simp (disch := omega) only [go_sem, hk2]
    have e1 : dv 1074 (oS (V.s && decide (V.k = 1)) V.m.toNat) (oM V.m.toNat) (oE V.m.toNat V.e) = dv 1074 (xS V.k V.s) V.m.toNat V.e := by rw [dv_norm (by omega), dv_oS]; rfl
    have e2 : dv 1074 (oS (N.s && decide (N.k = 1)) N.m.toNat) (oM N.m.toNat) (oE N.m.toNat N.e) = dv 1074 (xS N.k N.s) N.m.toNat N.e := by rw [dv_norm (by omega), dv_oS]; rfl
    have y1 := oE_ge (K := 1074) (m := V.m.toNat) (e := V.e) (by omega) (by omega)
    have y2 := oE_ge (K := 1074) (m := N.m.toNat) (e := N.e) (by omega) (by omega)
    generalize oS (V.s && decide (V.k = 1)) V.m.toNat = x1 at *
    generalize oM V.m.toNat = x2 at *
    generalize oE V.m.toNat V.e = x3 at *
    generalize oS (N.s && decide (N.k = 1)) N.m.toNat = z1 at *
    generalize oM N.m.toNat = z2 at *
    generalize oE N.m.toNat N.e = z3 at *
    refine call_open (d1) (by simp (disch := omega) only [go_sem]) ?_
    rintro r hs ⟨rfl, rfl, _⟩
    refine ⟨by simp [freeN], ?_⟩
    simp (disch := omega) only [go_sem]
    cases q2 : (decide (N.k = 0) || decide (N.k = 1))
    · rw [q2, if_neg (by simp)] at d2
      refine call_open (d2) (by simp (disch := omega) only [go_sem]) ?_
      rintro r hs ⟨rfl, rfl, _⟩
      refine ⟨by simp [freeN], ?_⟩
      simp (disch := omega) only [go_sem]
      refine call_open (cu) (by simp (disch := omega) only [go_sem]) ?_
      rintro r hs ⟨rfl, rfl, _⟩
      refine ⟨by simp [freeN], ?_⟩
      simp (disch := omega) only [go_sem]
      refine call_open (con_lawAddE x1 x2 x3 false 0 0 false hx h0) (by simp (disch := omega) only [go_sem]) ?_
      rintro r hs ⟨rfl, -, ⟨S, M, F, b, hS, hb, rfl⟩⟩
      obtain rfl := hb rfl
      refine ⟨by simp (disch := omega) only [go_sem], ?_⟩
      simp (disch := omega) only [go_sem]
      refine draw_of rfl [⟨0, [], []⟩, ⟨2, [0], []⟩, ⟨7, [0], []⟩, ⟨1, [0], [200000000]⟩, ⟨3, [], [200000000]⟩, ⟨4, [], [200000000]⟩, ⟨5, [], [200000000]⟩, ⟨6, [], [200000000]⟩, ⟨8, [], []⟩, ⟨9, [], []⟩] (by kernel_rfl) ?_
      simp (disch := omega) only [go_sem]
      refine call_open (con_dyHalf) (by simp (disch := omega) only [go_sem]) ?_
      rintro r hs ⟨rfl, rfl, _⟩
      refine ⟨by simp [freeN], ?_⟩
      simp (disch := omega) only [go_sem]
      refine call_open (con_lawMulE S M F false 1 (-1) false hS (by rw [lim_one]; decide)) (by simp (disch := omega) only [go_sem]) ?_
      rintro r hs ⟨rfl, -, ⟨S2, M2, F2, b, hS2, hb, rfl⟩⟩
      obtain rfl := hb rfl
      refine ⟨by simp (disch := omega) only [go_sem], ?_⟩
      simp (disch := omega) only [go_sem]
      refine draw_of rfl [⟨0, [], []⟩, ⟨1, [0], []⟩, ⟨3, [0, 1], []⟩, ⟨8, [0, 1], []⟩, ⟨2, [0], [210000000]⟩, ⟨4, [], [210000000]⟩, ⟨5, [], [210000000]⟩, ⟨6, [], [210000000]⟩, ⟨7, [], [210000000]⟩, ⟨9, [], []⟩, ⟨10, [], []⟩] (by kernel_rfl) ?_
      simp (disch := omega) only [go_sem]
      refine call_open (con_lawNeg x1 x2 x3 hx) (by simp (disch := omega) only [go_sem]) ?_
      rintro r hs ⟨rfl, rfl, _⟩
      refine ⟨by simp [freeN], ?_⟩
      simp (disch := omega) only [go_sem]
      refine call_open (con_lawAddE false 0 0 ((!x1) && decide (x2 ≠ 0)) x2 x3 false h0 (dyB_neg hx)) (by simp (disch := omega) only [go_sem]) ?_
      rintro r hs ⟨rfl, -, ⟨S3, M3, F3, b, hS3, hb, rfl⟩⟩
      obtain rfl := hb rfl
      refine ⟨by simp (disch := omega) only [go_sem], ?_⟩
      simp (disch := omega) only [go_sem]
      exact fin_valc (by simp (disch := omega) only [go_sem]) (by simp (disch := omega) only [go_sem]) isA_mk
    · rw [q2, if_pos rfl] at d2
      refine call_open (d2) (by simp (disch := omega) only [go_sem]) ?_
      rintro r hs ⟨rfl, rfl, _⟩
      refine ⟨by simp [freeN], ?_⟩
      simp (disch := omega) only [go_sem]
      refine call_open (cu) (by simp (disch := omega) only [go_sem]) ?_
      rintro r hs ⟨rfl, rfl, _⟩
      refine ⟨by simp [freeN], ?_⟩
      simp (disch := omega) only [go_sem]
      obtain ⟨t, a, E, hA⟩ := had hk01 (by simpa using q2)
      have hA1 := hA.lo
      have hA2 := hA.hi
      have hA3 := hA.hE
      have ha := hA.ha
      have s1 := nxS_sum y1 y2 (e1.trans hA1) (e2.trans hA2)
      have s3 := nxS_dif y1 y2 (e1.trans hA1) (e2.trans hA2)
      have f1 := nxS_fit (K := 1074) (alE_ge y1 y2) (by omega) (by omega) (by omega) s1
      have f3 := nxS_fit (K := 1074) (alE_ge y2 y1) (by omega) (by omega) (by omega) s3
      have l1 := con_lawAdd x1 x2 x3 z1 z2 z3 true hx hz
      rw [f1, if_pos rfl] at l1
      have w1 := dyB_canon (adS x1 x2 x3 z1 z2 z3) (adM x1 x2 x3 z1 z2 z3) (alE x2 x3 z2 z3)
      rw [f1] at w1
      have g1 : dv 1074 (oS (adS x1 x2 x3 z1 z2 z3) (adM x1 x2 x3 z1 z2 z3)) (oM (adM x1 x2 x3 z1 z2 z3)) (oE (adM x1 x2 x3 z1 z2 z3) (alE x2 x3 z2 z3)) = dv 1074 t (2 * a + 1) E := by rw [dv_norm (alE_ge y1 y2), dv_oS, s1]
      have y3 := oE_ge (K := 1074) (m := adM x1 x2 x3 z1 z2 z3) (e := alE x2 x3 z2 z3) (alE_ge y1 y2) (by omega)
      have l3 := con_lawAdd z1 z2 z3 ((!x1) && decide (x2 ≠ 0)) x2 x3 true hz (dyB_neg hx)
      rw [f3, if_pos rfl] at l3
      have w3 := dyB_canon (adS z1 z2 z3 ((!x1) && decide (x2 ≠ 0)) x2 x3) (adM z1 z2 z3 ((!x1) && decide (x2 ≠ 0)) x2 x3) (alE z2 z3 x2 x3)
      rw [f3] at w3
      have g3 : dv 1074 (oS (adS z1 z2 z3 ((!x1) && decide (x2 ≠ 0)) x2 x3) (adM z1 z2 z3 ((!x1) && decide (x2 ≠ 0)) x2 x3)) (oM (adM z1 z2 z3 ((!x1) && decide (x2 ≠ 0)) x2 x3)) (oE (adM z1 z2 z3 ((!x1) && decide (x2 ≠ 0)) x2 x3) (alE z2 z3 x2 x3)) = dv 1074 false 1 E := by rw [dv_norm (alE_ge y2 y1), dv_oS, s3]
      have y5 := oE_ge (K := 1074) (m := adM z1 z2 z3 ((!x1) && decide (x2 ≠ 0)) x2 x3) (e := alE z2 z3 x2 x3) (alE_ge y2 y1) (by omega)
      generalize oS (adS x1 x2 x3 z1 z2 z3) (adM x1 x2 x3 z1 z2 z3) = u1 at *
      generalize oM (adM x1 x2 x3 z1 z2 z3) = u2 at *
      generalize oE (adM x1 x2 x3 z1 z2 z3) (alE x2 x3 z2 z3) = u3 at *
      generalize oS (adS z1 z2 z3 ((!x1) && decide (x2 ≠ 0)) x2 x3) (adM z1 z2 z3 ((!x1) && decide (x2 ≠ 0)) x2 x3) = p1 at *
      generalize oM (adM z1 z2 z3 ((!x1) && decide (x2 ≠ 0)) x2 x3) = p2 at *
      generalize oE (adM z1 z2 z3 ((!x1) && decide (x2 ≠ 0)) x2 x3) (alE z2 z3 x2 x3) = p3 at *
      have s2 := nxS_mid y3 (by omega) g1
      have f2 := nxS_fit (K := 1075) (by omega) (by omega) (by omega) (by omega) s2
      have l2 := con_lawMul u1 u2 u3 false 1 (-1) true w1 (by rw [lim_one]; decide)
      rw [f2, if_pos rfl] at l2
      have w2 := dyB_canon (pmS u1 u2 false 1) (u2 * 1) (u3 + -1)
      rw [f2] at w2
      have g2 : dv 1075 (oS (pmS u1 u2 false 1) (u2 * 1)) (oM (u2 * 1)) (oE (u2 * 1) (u3 + -1)) = dv 1075 t (2 * a + 1) (E - 1) := by rw [dv_norm (by omega), dv_oS, s2]
      have y4 := oE_ge (K := 1075) (m := u2 * 1) (e := u3 + -1) (by omega) (by omega)
      generalize oS (pmS u1 u2 false 1) (u2 * 1) = q1' at *
      generalize oM (u2 * 1) = q2' at *
      generalize oE (u2 * 1) (u3 + -1) = q3' at *
      have cr := con_FlRound q1' (lim q2') q3' 0 (by have := (dyB_lim w2); obtain ⟨n, h1, h2, _⟩ := this; rw [h1]; omega)
      rw [if_pos (by rw [w2]; rfl), vl_lim, Int.toNat_natCast] at cr
      have hfv := flV_same (K := 1075) 0 false (by omega) (by omega) g2
      rw [hfv.1] at cr
      obtain ⟨c, hc, rv, rk, rd⟩ := rnd_mid (t := t) ha hA.hf hA3 hA.ho false
      generalize flV t (2 * a + 1) (E - 1) 0 false = Y at *
      generalize flG q1' q2' q3' 0 = YG at *
      have dY := con_FlDy Y.k Y.s Y.m Y.e
      rw [rv] at dY
      have hY01 : (decide (Y.k = 0) || decide (Y.k = 1)) = true := by simpa using rk
      simp only [Bool.true_and] at dY
      rw [hY01, if_pos rfl] at dY
      obtain ⟨r1, r2, r3, r4, r5, r6⟩ := flB_rng rv
      have hY := dyB_canon (Y.s && decide (Y.k = 1)) Y.m.toNat Y.e
      rw [dyFit_fl (by omega) (by omega)] at hY
      have eY : dv 1074 (oS (Y.s && decide (Y.k = 1)) Y.m.toNat) (oM Y.m.toNat) (oE Y.m.toNat Y.e) = dv 1074 t c E := by rw [dv_norm (by omega), dv_oS]; exact rd
      have yY := oE_ge (K := 1074) (m := Y.m.toNat) (e := Y.e) (by omega) (by omega)
      generalize oS (Y.s && decide (Y.k = 1)) Y.m.toNat = r1' at *
      generalize oM Y.m.toNat = r2' at *
      generalize oE Y.m.toNat Y.e = r3' at *
      have hor : dv 1074 r1' r2' r3' = dv 1074 x1 x2 x3 ∨ dv 1074 r1' r2' r3' = dv 1074 z1 z2 z3 := by
        rw [eY, e1, e2, hA1, hA2]
        rcases hc with rfl | rfl <;> cases t <;> simp
      have hor2 : (decide (r3' = x3) && ((r1' == x1) && decide (r2' = x2))) = true ∨ (decide (r3' = z3) && ((r1' == z1) && decide (r2' = z2))) = true := by
        rcases hor with h | h
        · obtain ⟨i1, i2, i3⟩ := dyB_inj hY hx yY y1 h
          left; rw [i1, i2, i3]; simp
        · obtain ⟨i1, i2, i3⟩ := dyB_inj hY hz yY y2 h
          right; rw [i1, i2, i3]; simp
      have hul : -1074 ≤ ulE V.k V.e ∧ ulE V.k V.e ≤ 971 := by unfold ulE; split <;> omega
      have hle := nxS_le (k := V.k) (e := V.e) y5 (by omega) g3 hA.hu (by omega)
      have cq := con_DyCmpS p1 p2 p3 false 1 (ulE V.k V.e) w3 (dyB_one (by omega))
      have ck1 := con_sameDy r1' r2' r3' x1 x2 x3 (dyB_len hY) (dyB_len hx)
      have ck2 := con_sameDy r1' r2' r3' z1 z2 z3 (dyB_len hY) (dyB_len hz)
      generalize cmpI (dv 3000 p1 p2 p3) (dv 3000 false 1 (ulE V.k V.e)) = Q at *
      have hQ : decide (Q ≤ 0) = true := decide_eq_true hle
      generalize (decide (r3' = x3) && ((r1' == x1) && decide (r2' = x2))) = T1 at *
      generalize (decide (r3' = z3) && ((r1' == z1) && decide (r2' = z2))) = T2 at *
      refine call_open (l1) (by simp (disch := omega) only [go_sem]) ?_
      rintro r hs ⟨rfl, rfl, _⟩
      refine ⟨by simp [freeN], ?_⟩
      simp (disch := omega) only [go_sem]
      refine draw_of rfl [⟨0, [], []⟩, ⟨2, [0], []⟩, ⟨7, [0], []⟩, ⟨1, [0], [200000000]⟩, ⟨3, [], [200000000]⟩, ⟨4, [], [200000000]⟩, ⟨5, [], [200000000]⟩, ⟨6, [], [200000000]⟩, ⟨8, [], []⟩, ⟨9, [], []⟩] (by kernel_rfl) ?_
      simp (disch := omega) only [go_sem]
      refine call_open (con_dyHalf) (by simp (disch := omega) only [go_sem]) ?_
      rintro r hs ⟨rfl, rfl, _⟩
      refine ⟨by simp [freeN], ?_⟩
      simp (disch := omega) only [go_sem]
      refine call_open (l2) (by simp (disch := omega) only [go_sem]) ?_
      rintro r hs ⟨rfl, rfl, _⟩
      refine ⟨by simp [freeN], ?_⟩
      simp (disch := omega) only [go_sem]
      refine draw_of rfl [⟨0, [], []⟩, ⟨1, [0], []⟩, ⟨3, [0, 1], []⟩, ⟨8, [0, 1], []⟩, ⟨2, [0], [210000000]⟩, ⟨4, [], [210000000]⟩, ⟨5, [], [210000000]⟩, ⟨6, [], [210000000]⟩, ⟨7, [], [210000000]⟩, ⟨9, [], []⟩, ⟨10, [], []⟩] (by kernel_rfl) ?_
      simp (disch := omega) only [go_sem]
      refine call_open (con_lawNeg x1 x2 x3 hx) (by simp (disch := omega) only [go_sem]) ?_
      rintro r hs ⟨rfl, rfl, _⟩
      refine ⟨by simp [freeN], ?_⟩
      simp (disch := omega) only [go_sem]
      refine call_open (l3) (by simp (disch := omega) only [go_sem]) ?_
      rintro r hs ⟨rfl, rfl, _⟩
      refine ⟨by simp [freeN], ?_⟩
      simp (disch := omega) only [go_sem]
      refine call_closed (cr) (by simp (disch := omega) only [go_sem]) ?_
      rintro r hs ⟨rfl, rfl, _⟩
      refine ⟨by simp [freeN], ?_⟩
      simp (disch := omega) only [go_sem]
      refine call_open (dY) (by simp (disch := omega) only [go_sem]) ?_
      rintro r hs ⟨rfl, rfl, _⟩
      refine ⟨by simp [freeN], ?_⟩
      simp (disch := omega) only [go_sem]
      refine call_closed (ck1) (by simp (disch := omega) only [go_sem]) ?_
      rintro r hs ⟨rfl, rfl, _⟩
      refine ⟨by simp [freeN], ?_⟩
      simp (disch := omega) only [go_sem]
      cases T1
      · obtain rfl : T2 = true := by simpa using hor2
        simp (disch := omega) only [go_sem]
        refine call_closed (ck2) (by simp (disch := omega) only [go_sem]) ?_
        rintro r hs ⟨rfl, rfl, _⟩
        refine ⟨by simp [freeN], ?_⟩
        simp (disch := omega) only [go_sem]
        refine call_closed (cq) (by simp (disch := omega) only [go_sem]) ?_
        rintro r hs ⟨rfl, rfl, _⟩
        refine ⟨by simp [freeN], ?_⟩
        simp (disch := omega) only [go_sem]
        simp (disch := omega) only [go_sem, hQ]
        exact fin_valc (by simp (disch := omega) only [go_sem]) (by simp (disch := omega) only [go_sem]) isA_mk
      · simp (disch := omega) only [go_sem]
        refine call_closed (cq) (by simp (disch := omega) only [go_sem]) ?_
        rintro r hs ⟨rfl, rfl, _⟩
        refine ⟨by simp [freeN], ?_⟩
        simp (disch := omega) only [go_sem]
        simp (disch := omega) only [go_sem, hQ]
        exact fin_valc (by simp (disch := omega) only [go_sem]) (by simp (disch := omega) only [go_sem]) isA_mk
end Go.Ab
namespace Go.Proofs.YtkmldlminmlcnaaGreatDoor
open Go.ChangeShapes Go.WideShapes Go.ChangeAt Go.RowKit Go.Ab

theorem own : ownKnob Tryz.prog.godebug = none := by kernel_rfl
theorem laidOut : laidOutB Tryz.prog = true := by kernel_rfl
theorem tabs_g1 : Tryz.prog.globalNamed "math/bits.deBruijn64tab" = some 1 := by kernel_rfl
theorem tabs_t1 : (Tryz.prog.globals[1]?).map (·.type) = some 164 := by kernel_rfl
theorem tabs_u1 : Tryz.prog.underlying 164 = some (.array 64 5) := by kernel_rfl
theorem tabs_e1 : Tryz.prog.underlying 5 = some (.int .u8) := by kernel_rfl
theorem tabs_c1 : Tryz.prog.cellsOf 5 = 1 := by kernel_rfl
theorem tabs_k1 : Tryz.prog.cellsOf 164 = 64 := by kernel_rfl
noncomputable def laidList : List (String × DataW Unit) := [("math/bits.deBruijn32tab", Rows.laid_math_bits_deBruijn32tab), ("math/bits.deBruijn64tab", Rows.laid_math_bits_deBruijn64tab)]

theorem tabs_gd {W : World} (h : laidMetH Tryz.prog laidList W) : Gd W := by
  have h' : laidMet Tryz.prog laidList W := h
  have h2 : laidMet Tryz.prog [("math/bits.deBruijn64tab", Lib.tabData .u8 (Lib.deBruijn64tab.map Int.ofNat))] W := laidMet.tail h'
  have hT := Lib.tabIs_of_head tabs_g1 tabs_t1 tabs_u1 tabs_e1 tabs_c1 tabs_k1 h2
  intro g l hg
  unfold glb at hg
  split at hg
  · rename_i e
    subst e
    cases hg
    have hc : ∀ i, i < Lib.deBruijn64tab.length → W.cell? ⟨1, i, none⟩ = some (.int .u8 ((Lib.deBruijn64tab.getD i 0 : Nat) : Int)) := fun i hi => by
      have := hT.cell tabs_g1 i (by simpa using hi)
      rw [this]
      simp [List.getD, hi]
    exact ⟨cell_blk (hc 0 (by decide)), hc⟩
  · cases hg

/-- A world that meets the condition: the settled one, the tables laid. -/
noncomputable def laidWorld (os : Os) : World :=
  let w0 := World.holding Tryz.prog os ⟨#[], #[], []⟩
  { w0 with heap := (w0.heap.modify 1 fun
      | .cells _ t frozen => .cells (Lib.deBruijn64tab.map fun z => Value.int .u8 (Int.ofNat z)).toArray t frozen
      | o => o).modify 0 fun
      | .cells _ t frozen => .cells (Lib.deBruijn32tab.map fun z => Value.int .u8 (Int.ofNat z)).toArray t frozen
      | o => o }
theorem laidWorld_met (os : Os) (args : Array Value) : laidMetH Tryz.prog laidList ((laidWorld os).forCall (fun _ _ => 0) ⟨#[], args, []⟩).memory :=
  laidMetH_of_parts (laidMet_of_run' 8 (by kernel_rfl) (by kernel_rfl)) (by kernel_rfl)
end Go.Proofs.YtkmldlminmlcnaaGreatDoor
namespace Go.Ab
open Go
set_option linter.unusedVariables false

/-- A slice of bytes, read. -/
theorem frep_bytes {R : Nat → Prop} {W : World} {a : Addr} {len cap : Nat} {zs : List Int} (hle : len ≤ cap) (hz : zs.length = cap) (hc : ∀ i, i < zs.length → W.cell? (a.add i) = some (.int .u8 (zs.getD i 0))) (hw : ∀ n ∈ zs, 0 ≤ n ∧ n < 256) (hR : ∀ b, b < W.heap.size → R b) :
    FRep R W (.slice (some a) len cap) (.sl ((zs.take len).map fun n => UInt8.ofNat n.toNat).length (bytesA ((zs.take len).map fun n => UInt8.ofNat n.toNat))) := by
  have hl : ((zs.take len).map fun n => UInt8.ofNat n.toNat).length = len := by rw [List.length_map, List.length_take]; omega
  have hil : (bytesA ((zs.take len).map fun n => UInt8.ofNat n.toNat)).length = len := by unfold bytesA; rw [List.length_map, hl]
  rw [hl]
  obtain ⟨b, o, sp⟩ := a
  have hsp : 0 < len → sp = none := fun h0 => by
    have h1 := World.cell?_spot (hc 0 (by omega))
    simpa [Addr.add] using h1
  refine .sl _ len cap _ (fun i => .int .u8 (zs.getD i 0)) b o hle (fun h0 => ?_) (fun i hi => ?_) (fun i hi => ?_)
  · have hs := hsp (by omega)
    subst hs
    exact ⟨rfl, hR _ (cell_blk (hc 0 (by omega)))⟩
  · have hs := hsp (by omega)
    subst hs
    have h1 := hc i (by omega)
    rw [add_at] at h1
    exact h1
  · have : (bytesA ((zs.take len).map fun n => UInt8.ofNat n.toNat))[i] = .v (.int .u8 (zs.getD i 0)) := by
      have hi2 : i < zs.length := by omega
      have hm := hw zs[i] (List.getElem_mem hi2)
      simp only [bytesA, List.getElem_map, List.getElem_take, List.getD_eq_getElem?_getD]
      rw [List.getElem?_eq_getElem hi2]
      simp only [Option.getD_some]
      congr 2
      rw [UInt8.toNat_ofNat']
      omega
    rw [this]
    exact .v _

theorem lit_u8 {n : Int} (h : (Lit.int .u8 n).wf = true) : 0 ≤ n ∧ n < 256 := by
  have h' : IntKind.u8.min ≤ n ∧ n ≤ IntKind.u8.max := by simpa [Lit.wf] using h
  have h1 : IntKind.u8.min = 0 := rfl
  have h2 : IntKind.u8.max = 255 := rfl
  omega

theorem open_bs {H : Type} {enc : TypeId × Value → H} {P : Program} {W : World} {t e fuel : Nat} {cs : List Value} {x : DataW H × List MemPlace} (ht : P.underlying t = some (.slice e)) (he : P.underlying e = some (.int .u8)) (hc : P.cellsOf e = 1)
    (h : DataW.trod enc P W 0 (fun _ => true) true fuel t cs = some x) :
    ∃ (v : Value) (l : List UInt8), cs = [v] ∧ l.length ≤ maxLen ∧ FRep (fun b => b < W.heap.size) W v (.sl l.length (bytesA l)) := by
  rcases ChangeShapes.open_ints ht he hc h with ⟨rfl, _⟩ | ⟨a, len, cap, zs, rfl, _, hl, hm, hz, _, hcell, hwf⟩
  · exact ⟨_, [], rfl, Nat.zero_le _, frep_nil⟩
  · rw [if_pos rfl] at hz
    refine ⟨_, _, rfl, ?_, frep_bytes hl hz hcell (fun n hn => lit_u8 (hwf n hn)) (fun _ h => h)⟩
    rw [List.length_map, List.length_take]; omega

theorem repA_one {R : Nat → Prop} {ι : Nat → Option Blk} {w : World} {x : Value} {a : AV} (h1 : Rep R ι w x a) : RepA R ι w #[x] [a] :=
  ⟨rfl, fun i h => match i, h with
    | 0, _ => h1⟩
end Go.Ab
