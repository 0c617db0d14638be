/- What the proof of this claim stands on: the walks of the functions and the plain laws, part 4. -/
import Derived.Test.YtkmldlminmlcnaaGreatDoorFnFmasLib3
import Derived.Carry
import Derived.ChangeSlices
namespace Go.Ab
open Go Go.Proofs
set_option linter.unusedVariables false
set_option linter.unusedSimpArgs false

def flLow (top : Int) : Int := if -1074 > top - 53 then -1074 else top - 53
def flE (rm : Nat) (re : Int) : Int := flLow ((bl rm : Int) + re)
def flM (rm : Nat) (re : Int) : Nat := oM rm * 2 ^ (oE rm re - flE rm re).toNat
def flFlags (top : Int) (same : Bool) : Int := if same then 0 else if top ≤ -1022 then 5 else 1

/-- The float of what was rounded. -/
def flK (s : Bool) (mode : Int) (rm : Nat) (re : Int) : Int := if rm = 0 then 0 else if 1024 < (bl rm : Int) + re then (if ovB s mode then 1 else 2) else 1
def flMm (s : Bool) (mode : Int) (rm : Nat) (re : Int) : Int := if rm = 0 then 0 else if 1024 < (bl rm : Int) + re then (if ovB s mode then 9007199254740991 else 0) else (flM rm re : Int)
def flEe (s : Bool) (mode : Int) (rm : Nat) (re : Int) : Int := if rm = 0 then 0 else if 1024 < (bl rm : Int) + re then (if ovB s mode then 971 else 0) else flE rm re
def flFl (top : Int) (same : Bool) (rm : Nat) (re : Int) : Int := if rm ≠ 0 ∧ 1024 < (bl rm : Int) + re then 3 else flFlags top same

theorem or_add {a b k : Nat} (h : a < 2 ^ k) : a ||| b * 2 ^ k = a + b * 2 ^ k := by
  have := Nat.two_pow_add_eq_or_of_lt h b
  rw [Nat.or_comm, Nat.mul_comm b, ← this, Nat.add_comm]

theorem flM_lt {rm : Nat} {re : Int} (h0 : rm ≠ 0) (he : flE rm re ≤ oE rm re) : bl (flM rm re) ≤ 53 := by
  have h1 : oM rm ≠ 0 := fun e => h0 (oM_eq_zero.1 e)
  have h2 := bl_oM h0
  unfold flM
  rw [bl_mul_pow h1]
  unfold flE flLow oE at *
  rw [if_neg h0] at *
  split at he <;> split <;> omega

set_option maxRecDepth 100000 in
theorem con_floatOf (s : Bool) (top mode : Int) (f : Nat) (caps : List AV) (rs same : Bool) (rm : Nat) (re : Int) (ht : -1000000 ≤ top ∧ top ≤ 1000000) (hf : Con Tryz.prog f false (.v (.int .i64 (flLow top)) :: caps) [] (isA (.tu [.ag [.v (.bool (rs)), .sl (lim (rm)).length (ints (lim (rm))), .v (.int .i64 (re))], .v (.bool same)]))) (hg : fnOk Tryz.prog f = True)
    (hc : ∀ h : Nat → Ob, caps.map (snap h 6) = caps) (hm : bl rm ≤ 4000000) (hre : -1000000 ≤ re ∧ re ≤ 1000000) (he : rm ≠ 0 → (bl rm : Int) + re ≤ 1024 → flE rm re ≤ oE rm re) :
    Con Tryz.prog 81 true [.v (.bool s), .v (.int .i64 top), .v (.int .i64 mode), .fn f caps] []
      (isA (.tu [.ag [.v (.int .i64 (flK s mode rm re)), .v (.bool (s)), .v (.int .i64 (flMm s mode rm re)), .v (.int .i64 (flEe s mode rm re))], .v (.int .i64 (flFl top same rm re))])) := by
  refine Con.of_aw Tryz.func81 rfl Tryz.ntmps81 (by simp) (by simp) (by simp) (W.sound ?_)
  show @W Tryz.prog 77 ⟨_⟩ ⟨fun x σ => @retW _ _ _ ⟨_⟩ _ ⟨_⟩ x σ⟩ _ _
  have elow : (if -1074 > top - 53 then (-1074 : Int) else top - 53) = flLow top := rfl
  have elow2 : -2000000 ≤ flLow top ∧ flLow top ≤ 2000000 := by unfold flLow; split <;> omega
  simp (disch := omega) only [go_sem, elow, hg]
  refine call_open hf (by simp (disch := omega) only [go_sem, hc]) ?_
  rintro r hs ⟨rfl, rfl, _⟩
  refine ⟨by simp [freeN], ?_⟩
  simp (disch := omega) only [go_sem]
  refine ifW_nb (fun h1 => ?_) (fun h1 => ?_)
  · simp (disch := omega) only [go_sem, h1]
    refine ifW_dec (fun h2 => ?_) (fun h2 => ?_)
    · have hfl : flFlags top same = 5 := by unfold flFlags; rw [h1, if_pos h2]; rfl
      have e5 : ((1 ||| 4 : Nat) : Int) = 5 := rfl
      simp (disch := omega) only [go_sem, h2, e5]
      refine call_open (con_odd rs rm re (by omega) (by omega)) (by simp (disch := omega) only [go_sem]) ?_
      rintro r hs ⟨rfl, rfl, _⟩
      refine ⟨by simp [freeN], ?_⟩
      simp (disch := omega) only [go_sem]
      refine call_closed (con_isZero (oS rs rm) (oM rm) (oE rm re)) (by simp (disch := omega) only [go_sem]) ?_
      rintro r hs ⟨rfl, rfl, _⟩
      refine ⟨by simp [freeN], ?_⟩
      simp (disch := omega) only [go_sem]
      refine ifW_dec (fun h3 => ?_) (fun h3 => ?_)
      · have h0 : rm = 0 := oM_eq_zero.1 h3
        simp (disch := omega) only [go_sem, h3]
        refine call_closed (con_zero s) (by simp (disch := omega) only [go_sem]) ?_
        rintro r hs ⟨rfl, rfl, _⟩
        refine ⟨by simp [freeN], ?_⟩
        simp (disch := omega) only [go_sem]
        refine fin_valc (by simp (disch := omega) only [go_sem]) (by simp (disch := omega) only [go_sem]) ⟨?_, rfl, rfl⟩
        simp [tupA, flK, flMm, flEe, flFl, h0, hfl]
      · have h0 : rm ≠ 0 := fun e => h3 (by rw [e]; exact oM_zero)
        have hlo : (lim (oM rm)).length ≤ 2 ^ 40 := by have := len_bl (Nat.le_trans (bl_mono (oM_le rm)) hm); omega
        have hblo := bl_oM h0
        have hoE : oE rm re = re + tz rm := by unfold oE; rw [if_neg h0]
        have etop : (if oM rm = 0 then (0 : Int) else (bl (oM rm) : Int) + oE rm re) = (bl rm : Int) + re := by rw [if_neg h3, hoE]; omega
        simp (disch := omega) only [go_sem, h3]
        refine call_closed (con_topX (oS rs rm) (oM rm) (oE rm re) hlo (by omega)) (by simp (disch := omega) only [go_sem]) ?_
        rintro r hs ⟨rfl, rfl, _⟩
        refine ⟨by simp [freeN], ?_⟩
        simp (disch := omega) only [go_sem]
        refine ifW_dec (fun h4 => ?_) (fun h4 => ?_)
        · simp (disch := omega) only [go_sem, h4, etop]
          refine call_closed (con_overflow s mode) (by simp (disch := omega) only [go_sem]) ?_
          rintro r hs ⟨rfl, rfl, _⟩
          refine ⟨by simp [freeN], ?_⟩
          simp (disch := omega) only [go_sem]
          rw [etop] at h4
          refine fin_valc (by simp (disch := omega) only [go_sem]) (by simp (disch := omega) only [go_sem]) ⟨?_, rfl, rfl⟩
          simp [tupA, flK, flMm, flEe, flFl, h0, h4]
        · rw [etop] at h4
          have he' := he h0 (by omega)
          have hM := flM_lt h0 he'
          have eE : (if -1074 > (bl rm : Int) + re - 53 then (-1074 : Int) else (bl rm : Int) + re - 53) = flE rm re := rfl
          have eE2 : -2000000 ≤ flE rm re ∧ flE rm re ≤ 2000000 := by unfold flE flLow; split <;> omega
          have ek : oE rm re - flE rm re = (((oE rm re - flE rm re).toNat : Nat) : Int) := by omega
          have hML := len_bl hM
          simp (disch := omega) only [go_sem, h4, etop]
          refine call_closed (con_topX (oS rs rm) (oM rm) (oE rm re) hlo (by omega)) (by simp (disch := omega) only [go_sem]) ?_
          rintro r hs ⟨rfl, rfl, _⟩
          refine ⟨by simp [freeN], ?_⟩
          simp (disch := omega) only [go_sem]
          simp (disch := omega) only [go_sem, etop, eE]
          refine call_open (con_upN (oM rm) (oE rm re - flE rm re).toNat (by have := len_bl (Nat.le_trans (bl_mono (oM_le rm)) hm); omega) (by omega)) (by simp (disch := omega) only [go_sem, etop, eE, ← ek]) ?_
          rintro r hs ⟨rfl, rfl, _⟩
          refine ⟨by simp [freeN], ?_⟩
          simp (disch := omega) only [go_sem]
          generalize hLM : flM rm re = M at *
          have eM : oM rm * 2 ^ (oE rm re - flE rm re).toNat = M := hLM
          have hM6 : M < 2 ^ 53 := Nat.lt_of_lt_of_le (bl_lt M) (Nat.pow_le_pow_right (by omega) hM)
          have htk : ∀ i, i ≤ (lim M).length → 0 ≤ vl ((lim M).take i) ∧ vl ((lim M).take i) < 2 ^ 53 := fun i hi => by
            have h1 := vl_nonneg (gd_take (gd_lim M) i)
            have h2 := vl_take_drop (lim M) i hi
            have hp : (0 : Int) < 65536 ^ i := Int.pow_pos (by omega)
            have h3 := Int.mul_nonneg (Int.le_of_lt hp) (vl_nonneg (gd_drop (gd_lim M) i))
            rw [vl_lim] at h2
            omega
          refine loop_intro (fun i : Nat => [(0, .v (.bool s)), (8, .pt 100000000 0), (12, .v (.int .i64 5)), (13, .v (.int .i64 (flE rm re))), (14, .v (.int .i64 (vl ((lim M).take i)))), (58, .sl (lim M).length (ints (lim M))), (59, .v (.int .i64 (lim M).length)), (60, .v (.int .i64 i))])
            (fun _ => [(100000000, .own 0 [.v (.int .i64 0), .v (.bool false), .v (.int .i64 0), .v (.int .i64 0)])]) (fun i => i ≤ (lim M).length) (fun i => (lim M).length - i) 0 (by omega)
            (Le.lst [] _ _ rfl (by simp (disch := omega) only [go_sem, etop, eE, eM, vl, List.take_zero, e5]; try omega) (by simp (disch := omega) only [go_sem])) ?_
          intro i hi
          have hti := htk i hi
          simp (disch := omega) only [go_sem]
          refine ifW_dec (fun h5 => ?_) (fun h5 => ?_)
          · have hti2 := htk (i + 1) (by omega)
            have hx := gd_getD (gd_lim M) i
            have hts := vl_take_succ (l := lim M) (i := i) (by omega)
            have hi3 : i ≤ 3 := by omega
            have es : (min ((16 : Int) * (i : Int)).toNat 64) = 16 * i := by omega
            have ep : (2 : Int) ^ (16 * i) = 65536 ^ i := by rw [Int.pow_mul]; rfl
            have hp : (0 : Int) < 65536 ^ i := Int.pow_pos (by omega)
            have hnn := Int.mul_nonneg (Int.le_of_lt hp) hx.1
            have hcm : (lim M).getD i 0 * 65536 ^ i = 65536 ^ i * (lim M).getD i 0 := Int.mul_comm _ _
            have hmul : 0 ≤ (lim M).getD i 0 * 65536 ^ i ∧ (lim M).getD i 0 * 65536 ^ i < 2 ^ 53 := by omega
            have eor : (((vl ((lim M).take i)).toNat ||| ((lim M).getD i 0 * 65536 ^ i).toNat : Nat) : Int) = vl ((lim M).take (i + 1)) := by
              obtain ⟨a, ha⟩ := Int.eq_ofNat_of_zero_le hti.1
              obtain ⟨b, hb⟩ := Int.eq_ofNat_of_zero_le hx.1
              have hlt := vl_lt (gd_take (gd_lim M) i)
              rw [List.length_take, Nat.min_eq_left hi] at hlt
              rw [hts, ← hcm, ha, hb]
              have e1 : (b : Int) * 65536 ^ i = ((b * 2 ^ (16 * i) : Nat) : Int) := by rw [← pow16, Int.natCast_mul, Int.natCast_pow]; rfl
              rw [e1, Int.toNat_natCast, Int.toNat_natCast, or_add, Int.natCast_add]
              rw [ha, show ((65536 : Int) ^ i) = ((2 ^ (16 * i) : Nat) : Int) by rw [← pow16, Int.natCast_pow]; rfl] at hlt
              omega
            simp (disch := omega) only [go_sem, h5]
            simp (disch := omega) only [go_sem, es, ep, wrap_id]
            simp (disch := omega) only [go_sem, eor]
            refine ⟨by omega, by omega, by omega, next_intro (i + 1) [] (by show i + 1 ≤ _; omega) (by show (lim M).length - (i + 1) < (lim M).length - i; omega) rfl (by simp (disch := omega) only [go_sem]; try omega) (by simp (disch := omega) only [go_sem])⟩
          · have : i = (lim M).length := by omega
            subst this
            have evl : vl ((lim M).take (lim M).length) = (M : Int) := by rw [List.take_length, vl_lim]
            simp (disch := omega) only [go_sem, h5, evl]
            refine fin_valc (by simp (disch := omega) only [go_sem]) (by simp (disch := omega) only [go_sem]) ⟨?_, rfl, rfl⟩
            simp [tupA, flK, flMm, flEe, flFl, h0, h4, hfl, hLM, vl_lim]
    · have hfl : flFlags top same = 1 := by unfold flFlags; rw [h1, if_neg h2]; rfl
      have e5 := (rfl : (0 : Nat) = 0)
      simp (disch := omega) only [go_sem, h2]
      refine call_open (con_odd rs rm re (by omega) (by omega)) (by simp (disch := omega) only [go_sem]) ?_
      rintro r hs ⟨rfl, rfl, _⟩
      refine ⟨by simp [freeN], ?_⟩
      simp (disch := omega) only [go_sem]
      refine call_closed (con_isZero (oS rs rm) (oM rm) (oE rm re)) (by simp (disch := omega) only [go_sem]) ?_
      rintro r hs ⟨rfl, rfl, _⟩
      refine ⟨by simp [freeN], ?_⟩
      simp (disch := omega) only [go_sem]
      refine ifW_dec (fun h3 => ?_) (fun h3 => ?_)
      · have h0 : rm = 0 := oM_eq_zero.1 h3
        simp (disch := omega) only [go_sem, h3]
        refine call_closed (con_zero s) (by simp (disch := omega) only [go_sem]) ?_
        rintro r hs ⟨rfl, rfl, _⟩
        refine ⟨by simp [freeN], ?_⟩
        simp (disch := omega) only [go_sem]
        refine fin_valc (by simp (disch := omega) only [go_sem]) (by simp (disch := omega) only [go_sem]) ⟨?_, rfl, rfl⟩
        simp [tupA, flK, flMm, flEe, flFl, h0, hfl]
      · have h0 : rm ≠ 0 := fun e => h3 (by rw [e]; exact oM_zero)
        have hlo : (lim (oM rm)).length ≤ 2 ^ 40 := by have := len_bl (Nat.le_trans (bl_mono (oM_le rm)) hm); omega
        have hblo := bl_oM h0
        have hoE : oE rm re = re + tz rm := by unfold oE; rw [if_neg h0]
        have etop : (if oM rm = 0 then (0 : Int) else (bl (oM rm) : Int) + oE rm re) = (bl rm : Int) + re := by rw [if_neg h3, hoE]; omega
        simp (disch := omega) only [go_sem, h3]
        refine call_closed (con_topX (oS rs rm) (oM rm) (oE rm re) hlo (by omega)) (by simp (disch := omega) only [go_sem]) ?_
        rintro r hs ⟨rfl, rfl, _⟩
        refine ⟨by simp [freeN], ?_⟩
        simp (disch := omega) only [go_sem]
        refine ifW_dec (fun h4 => ?_) (fun h4 => ?_)
        · simp (disch := omega) only [go_sem, h4, etop]
          refine call_closed (con_overflow s mode) (by simp (disch := omega) only [go_sem]) ?_
          rintro r hs ⟨rfl, rfl, _⟩
          refine ⟨by simp [freeN], ?_⟩
          simp (disch := omega) only [go_sem]
          rw [etop] at h4
          refine fin_valc (by simp (disch := omega) only [go_sem]) (by simp (disch := omega) only [go_sem]) ⟨?_, rfl, rfl⟩
          simp [tupA, flK, flMm, flEe, flFl, h0, h4]
        · rw [etop] at h4
          have he' := he h0 (by omega)
          have hM := flM_lt h0 he'
          have eE : (if -1074 > (bl rm : Int) + re - 53 then (-1074 : Int) else (bl rm : Int) + re - 53) = flE rm re := rfl
          have eE2 : -2000000 ≤ flE rm re ∧ flE rm re ≤ 2000000 := by unfold flE flLow; split <;> omega
          have ek : oE rm re - flE rm re = (((oE rm re - flE rm re).toNat : Nat) : Int) := by omega
          have hML := len_bl hM
          simp (disch := omega) only [go_sem, h4, etop]
          refine call_closed (con_topX (oS rs rm) (oM rm) (oE rm re) hlo (by omega)) (by simp (disch := omega) only [go_sem]) ?_
          rintro r hs ⟨rfl, rfl, _⟩
          refine ⟨by simp [freeN], ?_⟩
          simp (disch := omega) only [go_sem]
          simp (disch := omega) only [go_sem, etop, eE]
          refine call_open (con_upN (oM rm) (oE rm re - flE rm re).toNat (by have := len_bl (Nat.le_trans (bl_mono (oM_le rm)) hm); omega) (by omega)) (by simp (disch := omega) only [go_sem, etop, eE, ← ek]) ?_
          rintro r hs ⟨rfl, rfl, _⟩
          refine ⟨by simp [freeN], ?_⟩
          simp (disch := omega) only [go_sem]
          generalize hLM : flM rm re = M at *
          have eM : oM rm * 2 ^ (oE rm re - flE rm re).toNat = M := hLM
          have hM6 : M < 2 ^ 53 := Nat.lt_of_lt_of_le (bl_lt M) (Nat.pow_le_pow_right (by omega) hM)
          have htk : ∀ i, i ≤ (lim M).length → 0 ≤ vl ((lim M).take i) ∧ vl ((lim M).take i) < 2 ^ 53 := fun i hi => by
            have h1 := vl_nonneg (gd_take (gd_lim M) i)
            have h2 := vl_take_drop (lim M) i hi
            have hp : (0 : Int) < 65536 ^ i := Int.pow_pos (by omega)
            have h3 := Int.mul_nonneg (Int.le_of_lt hp) (vl_nonneg (gd_drop (gd_lim M) i))
            rw [vl_lim] at h2
            omega
          refine loop_intro (fun i : Nat => [(0, .v (.bool s)), (8, .pt 100000000 0), (12, .v (.int .i64 1)), (13, .v (.int .i64 (flE rm re))), (14, .v (.int .i64 (vl ((lim M).take i)))), (58, .sl (lim M).length (ints (lim M))), (59, .v (.int .i64 (lim M).length)), (60, .v (.int .i64 i))])
            (fun _ => [(100000000, .own 0 [.v (.int .i64 0), .v (.bool false), .v (.int .i64 0), .v (.int .i64 0)])]) (fun i => i ≤ (lim M).length) (fun i => (lim M).length - i) 0 (by omega)
            (Le.lst [] _ _ rfl (by simp (disch := omega) only [go_sem, etop, eE, eM, vl, List.take_zero, e5]; try omega) (by simp (disch := omega) only [go_sem])) ?_
          intro i hi
          have hti := htk i hi
          simp (disch := omega) only [go_sem]
          refine ifW_dec (fun h5 => ?_) (fun h5 => ?_)
          · have hti2 := htk (i + 1) (by omega)
            have hx := gd_getD (gd_lim M) i
            have hts := vl_take_succ (l := lim M) (i := i) (by omega)
            have hi3 : i ≤ 3 := by omega
            have es : (min ((16 : Int) * (i : Int)).toNat 64) = 16 * i := by omega
            have ep : (2 : Int) ^ (16 * i) = 65536 ^ i := by rw [Int.pow_mul]; rfl
            have hp : (0 : Int) < 65536 ^ i := Int.pow_pos (by omega)
            have hnn := Int.mul_nonneg (Int.le_of_lt hp) hx.1
            have hcm : (lim M).getD i 0 * 65536 ^ i = 65536 ^ i * (lim M).getD i 0 := Int.mul_comm _ _
            have hmul : 0 ≤ (lim M).getD i 0 * 65536 ^ i ∧ (lim M).getD i 0 * 65536 ^ i < 2 ^ 53 := by omega
            have eor : (((vl ((lim M).take i)).toNat ||| ((lim M).getD i 0 * 65536 ^ i).toNat : Nat) : Int) = vl ((lim M).take (i + 1)) := by
              obtain ⟨a, ha⟩ := Int.eq_ofNat_of_zero_le hti.1
              obtain ⟨b, hb⟩ := Int.eq_ofNat_of_zero_le hx.1
              have hlt := vl_lt (gd_take (gd_lim M) i)
              rw [List.length_take, Nat.min_eq_left hi] at hlt
              rw [hts, ← hcm, ha, hb]
              have e1 : (b : Int) * 65536 ^ i = ((b * 2 ^ (16 * i) : Nat) : Int) := by rw [← pow16, Int.natCast_mul, Int.natCast_pow]; rfl
              rw [e1, Int.toNat_natCast, Int.toNat_natCast, or_add, Int.natCast_add]
              rw [ha, show ((65536 : Int) ^ i) = ((2 ^ (16 * i) : Nat) : Int) by rw [← pow16, Int.natCast_pow]; rfl] at hlt
              omega
            simp (disch := omega) only [go_sem, h5]
            simp (disch := omega) only [go_sem, es, ep, wrap_id]
            simp (disch := omega) only [go_sem, eor]
            refine ⟨by omega, by omega, by omega, next_intro (i + 1) [] (by show i + 1 ≤ _; omega) (by show (lim M).length - (i + 1) < (lim M).length - i; omega) rfl (by simp (disch := omega) only [go_sem]; try omega) (by simp (disch := omega) only [go_sem])⟩
          · have : i = (lim M).length := by omega
            subst this
            have evl : vl ((lim M).take (lim M).length) = (M : Int) := by rw [List.take_length, vl_lim]
            simp (disch := omega) only [go_sem, h5, evl]
            refine fin_valc (by simp (disch := omega) only [go_sem]) (by simp (disch := omega) only [go_sem]) ⟨?_, rfl, rfl⟩
            simp [tupA, flK, flMm, flEe, flFl, h0, h4, hfl, hLM, vl_lim]
  · have hfl : flFlags top same = 0 := by unfold flFlags; rw [h1, if_pos rfl]
    have e5 := (rfl : (0 : Nat) = 0)
    simp (disch := omega) only [go_sem, h1]
    refine call_open (con_odd rs rm re (by omega) (by omega)) (by simp (disch := omega) only [go_sem]) ?_
    rintro r hs ⟨rfl, rfl, _⟩
    refine ⟨by simp [freeN], ?_⟩
    simp (disch := omega) only [go_sem]
    refine call_closed (con_isZero (oS rs rm) (oM rm) (oE rm re)) (by simp (disch := omega) only [go_sem]) ?_
    rintro r hs ⟨rfl, rfl, _⟩
    refine ⟨by simp [freeN], ?_⟩
    simp (disch := omega) only [go_sem]
    refine ifW_dec (fun h3 => ?_) (fun h3 => ?_)
    · have h0 : rm = 0 := oM_eq_zero.1 h3
      simp (disch := omega) only [go_sem, h3]
      refine call_closed (con_zero s) (by simp (disch := omega) only [go_sem]) ?_
      rintro r hs ⟨rfl, rfl, _⟩
      refine ⟨by simp [freeN], ?_⟩
      simp (disch := omega) only [go_sem]
      refine fin_valc (by simp (disch := omega) only [go_sem]) (by simp (disch := omega) only [go_sem]) ⟨?_, rfl, rfl⟩
      simp [tupA, flK, flMm, flEe, flFl, h0, hfl]
    · have h0 : rm ≠ 0 := fun e => h3 (by rw [e]; exact oM_zero)
      have hlo : (lim (oM rm)).length ≤ 2 ^ 40 := by have := len_bl (Nat.le_trans (bl_mono (oM_le rm)) hm); omega
      have hblo := bl_oM h0
      have hoE : oE rm re = re + tz rm := by unfold oE; rw [if_neg h0]
      have etop : (if oM rm = 0 then (0 : Int) else (bl (oM rm) : Int) + oE rm re) = (bl rm : Int) + re := by rw [if_neg h3, hoE]; omega
      simp (disch := omega) only [go_sem, h3]
      refine call_closed (con_topX (oS rs rm) (oM rm) (oE rm re) hlo (by omega)) (by simp (disch := omega) only [go_sem]) ?_
      rintro r hs ⟨rfl, rfl, _⟩
      refine ⟨by simp [freeN], ?_⟩
      simp (disch := omega) only [go_sem]
      refine ifW_dec (fun h4 => ?_) (fun h4 => ?_)
      · simp (disch := omega) only [go_sem, h4, etop]
        refine call_closed (con_overflow s mode) (by simp (disch := omega) only [go_sem]) ?_
        rintro r hs ⟨rfl, rfl, _⟩
        refine ⟨by simp [freeN], ?_⟩
        simp (disch := omega) only [go_sem]
        rw [etop] at h4
        refine fin_valc (by simp (disch := omega) only [go_sem]) (by simp (disch := omega) only [go_sem]) ⟨?_, rfl, rfl⟩
        simp [tupA, flK, flMm, flEe, flFl, h0, h4]
      · rw [etop] at h4
        have he' := he h0 (by omega)
        have hM := flM_lt h0 he'
        have eE : (if -1074 > (bl rm : Int) + re - 53 then (-1074 : Int) else (bl rm : Int) + re - 53) = flE rm re := rfl
        have eE2 : -2000000 ≤ flE rm re ∧ flE rm re ≤ 2000000 := by unfold flE flLow; split <;> omega
        have ek : oE rm re - flE rm re = (((oE rm re - flE rm re).toNat : Nat) : Int) := by omega
        have hML := len_bl hM
        simp (disch := omega) only [go_sem, h4, etop]
        refine call_closed (con_topX (oS rs rm) (oM rm) (oE rm re) hlo (by omega)) (by simp (disch := omega) only [go_sem]) ?_
        rintro r hs ⟨rfl, rfl, _⟩
        refine ⟨by simp [freeN], ?_⟩
        simp (disch := omega) only [go_sem]
        simp (disch := omega) only [go_sem, etop, eE]
        refine call_open (con_upN (oM rm) (oE rm re - flE rm re).toNat (by have := len_bl (Nat.le_trans (bl_mono (oM_le rm)) hm); omega) (by omega)) (by simp (disch := omega) only [go_sem, etop, eE, ← ek]) ?_
        rintro r hs ⟨rfl, rfl, _⟩
        refine ⟨by simp [freeN], ?_⟩
        simp (disch := omega) only [go_sem]
        generalize hLM : flM rm re = M at *
        have eM : oM rm * 2 ^ (oE rm re - flE rm re).toNat = M := hLM
        have hM6 : M < 2 ^ 53 := Nat.lt_of_lt_of_le (bl_lt M) (Nat.pow_le_pow_right (by omega) hM)
        have htk : ∀ i, i ≤ (lim M).length → 0 ≤ vl ((lim M).take i) ∧ vl ((lim M).take i) < 2 ^ 53 := fun i hi => by
          have h1 := vl_nonneg (gd_take (gd_lim M) i)
          have h2 := vl_take_drop (lim M) i hi
          have hp : (0 : Int) < 65536 ^ i := Int.pow_pos (by omega)
          have h3 := Int.mul_nonneg (Int.le_of_lt hp) (vl_nonneg (gd_drop (gd_lim M) i))
          rw [vl_lim] at h2
          omega
        refine loop_intro (fun i : Nat => [(0, .v (.bool s)), (8, .pt 100000000 0), (12, .v (.int .i64 0)), (13, .v (.int .i64 (flE rm re))), (14, .v (.int .i64 (vl ((lim M).take i)))), (58, .sl (lim M).length (ints (lim M))), (59, .v (.int .i64 (lim M).length)), (60, .v (.int .i64 i))])
          (fun _ => [(100000000, .own 0 [.v (.int .i64 0), .v (.bool false), .v (.int .i64 0), .v (.int .i64 0)])]) (fun i => i ≤ (lim M).length) (fun i => (lim M).length - i) 0 (by omega)
          (Le.lst [] _ _ rfl (by simp (disch := omega) only [go_sem, etop, eE, eM, vl, List.take_zero, e5]; try omega) (by simp (disch := omega) only [go_sem])) ?_
        intro i hi
        have hti := htk i hi
        simp (disch := omega) only [go_sem]
        refine ifW_dec (fun h5 => ?_) (fun h5 => ?_)
        · have hti2 := htk (i + 1) (by omega)
          have hx := gd_getD (gd_lim M) i
          have hts := vl_take_succ (l := lim M) (i := i) (by omega)
          have hi3 : i ≤ 3 := by omega
          have es : (min ((16 : Int) * (i : Int)).toNat 64) = 16 * i := by omega
          have ep : (2 : Int) ^ (16 * i) = 65536 ^ i := by rw [Int.pow_mul]; rfl
          have hp : (0 : Int) < 65536 ^ i := Int.pow_pos (by omega)
          have hnn := Int.mul_nonneg (Int.le_of_lt hp) hx.1
          have hcm : (lim M).getD i 0 * 65536 ^ i = 65536 ^ i * (lim M).getD i 0 := Int.mul_comm _ _
          have hmul : 0 ≤ (lim M).getD i 0 * 65536 ^ i ∧ (lim M).getD i 0 * 65536 ^ i < 2 ^ 53 := by omega
          have eor : (((vl ((lim M).take i)).toNat ||| ((lim M).getD i 0 * 65536 ^ i).toNat : Nat) : Int) = vl ((lim M).take (i + 1)) := by
            obtain ⟨a, ha⟩ := Int.eq_ofNat_of_zero_le hti.1
            obtain ⟨b, hb⟩ := Int.eq_ofNat_of_zero_le hx.1
            have hlt := vl_lt (gd_take (gd_lim M) i)
            rw [List.length_take, Nat.min_eq_left hi] at hlt
            rw [hts, ← hcm, ha, hb]
            have e1 : (b : Int) * 65536 ^ i = ((b * 2 ^ (16 * i) : Nat) : Int) := by rw [← pow16, Int.natCast_mul, Int.natCast_pow]; rfl
            rw [e1, Int.toNat_natCast, Int.toNat_natCast, or_add, Int.natCast_add]
            rw [ha, show ((65536 : Int) ^ i) = ((2 ^ (16 * i) : Nat) : Int) by rw [← pow16, Int.natCast_pow]; rfl] at hlt
            omega
          simp (disch := omega) only [go_sem, h5]
          simp (disch := omega) only [go_sem, es, ep, wrap_id]
          simp (disch := omega) only [go_sem, eor]
          refine ⟨by omega, by omega, by omega, next_intro (i + 1) [] (by show i + 1 ≤ _; omega) (by show (lim M).length - (i + 1) < (lim M).length - i; omega) rfl (by simp (disch := omega) only [go_sem]; try omega) (by simp (disch := omega) only [go_sem])⟩
        · have : i = (lim M).length := by omega
          subst this
          have evl : vl ((lim M).take (lim M).length) = (M : Int) := by rw [List.take_length, vl_lim]
          simp (disch := omega) only [go_sem, h5, evl]
          refine fin_valc (by simp (disch := omega) only [go_sem]) (by simp (disch := omega) only [go_sem]) ⟨?_, rfl, rfl⟩
          simp [tupA, flK, flMm, flEe, flFl, h0, h4, hfl, hLM, vl_lim]
end Go.Ab
namespace Go.Ab
open Go
set_option linter.unusedVariables false

/-- Rows of things of several cells. -/
def rowA {X : Type} (f : X → List AV) (l : List X) : List AV := (l.map f).flatten

section
variable {X : Type} {f : X → List AV} {z : Nat} {l : List X}

theorem row_nil : rowA f [] = [] := by simp [rowA]
theorem row_cons {x : X} : rowA f (x :: l) = f x ++ rowA f l := by simp [rowA]
theorem row_len (hz : ∀ x, (f x).length = z) : (rowA f l).length = l.length * z := by
  induction l with
  | nil => simp [rowA]
  | cons x r ih => rw [row_cons, List.length_append, hz, ih, List.length_cons, Nat.add_mul, Nat.one_mul, Nat.add_comm]
theorem row_drop (hz : ∀ x, (f x).length = z) (i : Nat) : (rowA f l).drop (i * z) = rowA f (l.drop i) := by
  induction l generalizing i with
  | nil => simp [rowA]
  | cons x r ih =>
    cases i with
    | zero => simp
    | succ i =>
      rw [row_cons, List.drop_succ_cons, ← ih, Nat.add_mul, Nat.one_mul, Nat.add_comm, ← List.drop_drop, List.drop_left' (hz x)]
theorem row_take (hz : ∀ x, (f x).length = z) (i : Nat) : (rowA f l).take (i * z) = rowA f (l.take i) := by
  induction l generalizing i with
  | nil => simp [rowA]
  | cons x r ih =>
    cases i with
    | zero => simp [row_nil]
    | succ i =>
      rw [row_cons, List.take_succ_cons, row_cons, ← ih, Nat.add_mul, Nat.one_mul, Nat.add_comm, ← hz x, List.take_length_add_append]
theorem row_cut (hz : ∀ x, (f x).length = z) (o n : Nat) : cut (rowA f l) (o * z) (n * z) = rowA f ((l.drop o).take n) := by
  rw [cut, row_drop hz, row_take hz]
theorem row_get (hz : ∀ x, (f x).length = z) {i : Nat} (hi : i < l.length) (d : X) : cut (rowA f l) (i * z) z = f (l.getD i d) := by
  have h := row_cut (l := l) hz i 1
  rw [Nat.one_mul] at h
  have e : (l.drop i).take 1 = [l.getD i d] := by
    rw [List.drop_eq_getElem_cons hi, List.getD_eq_getElem?_getD, List.getElem?_eq_getElem hi]; rfl
  rw [h, e, row_cons, row_nil, List.append_nil]
theorem load_row {h : Nat → Ob} {sz o : Nat} {K : AV → Prop} : @loadW true sz h (.fp (rowA f l) o) ⟨K⟩ = (o + sz ≤ (rowA f l).length ∧ K (.ag (cut (rowA f l) o sz))) := _root_.id rfl
end

/-- A float, as it stands in memory. -/
structure FlV where
  k : Int
  s : Bool
  m : Int
  e : Int

def FlV.cs (x : FlV) : List AV := [.v (.int .i64 x.k), .v (.bool x.s), .v (.int .i64 x.m), .v (.int .i64 x.e)]
theorem fl_cs4 (x : FlV) : x.cs.length = 4 := rfl
theorem fl_ren {ρ : Nat → Nat} (x : FlV) : renL ρ x.cs = x.cs := rfl
theorem fl_snap {hp : Nat → Ob} {k : Nat} (x : FlV) : x.cs.map (snap hp (k + 1)) = x.cs := rfl
theorem fls_len {l : List FlV} : (rowA FlV.cs l).length = l.length * 4 := row_len fl_cs4
attribute [go_sem] load_row fls_len fl_ren fl_snap
end Go.Ab
namespace Go.Ab
open Go Go.Proofs
set_option linter.unusedVariables false
set_option linter.unusedSimpArgs false

section
variable (g : Nat) (p : FlV → Bool)

theorem con_allFl1 (x : FlV) (hf : Con Tryz.prog g true [.ag x.cs] [] (isA (.v (.bool (p x))))) (hg : fnOk Tryz.prog g = True) :
    Con Tryz.prog 121 true [.ag x.cs, .fp [.fn g []] 0] [] (isA (.v (.bool (!p x)))) := by
  unfold FlV.cs at hf ⊢
  refine Con.of_aw Tryz.func121 rfl Tryz.ntmps121 (by simp) (by simp) (by simp) (W.sound ?_)
  show @W Tryz.prog 8 ⟨_⟩ ⟨fun x σ => @retW _ _ _ ⟨_⟩ _ ⟨_⟩ x σ⟩ _ _
  simp (disch := omega) only [go_sem, hg]
  refine call_closed hf (by simp (disch := omega) only [go_sem]) ?_
  rintro r hs ⟨rfl, rfl, _⟩
  refine ⟨by simp [freeN], ?_⟩
  simp (disch := omega) only [go_sem]
  exact fin_valc (by simp (disch := omega) only [go_sem]) (by simp (disch := omega) only [go_sem]) isA_mk

theorem con_indexFl (f : Nat) (caps : List AV) (xs : List FlV) (hl : xs.length ≤ 2 ^ 40) (hf : ∀ x : FlV, Con Tryz.prog f true (.ag x.cs :: caps) [] (isA (.v (.bool (p x))))) (hg : fnOk Tryz.prog f = True)
    (hc : ∀ h : Nat → Ob, caps.map (snap h 6) = caps) (hc5 : ∀ h : Nat → Ob, caps.map (snap h 5) = caps) (hn : ∀ ks, AllL (memK ks) caps) (hr : ∀ ρ, renL ρ caps = caps) :
    Con Tryz.prog 146 true [.sl xs.length (rowA FlV.cs xs), .fn f caps] [] (fun r hs bs => ∃ i : Int, r = .v (.int .i64 i) ∧ hs = [] ∧ (0 ≤ i ↔ ∃ x ∈ xs, p x = true)) := by
  refine Con.of_aw Tryz.func146 rfl Tryz.ntmps146 (by simp) (by simp) (by simp) (W.sound ?_)
  show @W Tryz.prog 19 ⟨_⟩ ⟨fun x σ => @retW _ _ _ ⟨_⟩ _ ⟨_⟩ x σ⟩ _ _
  simp (disch := omega) only [go_sem]
  refine loop_intro (fun i : Nat => [(0, .sl xs.length (rowA FlV.cs xs)), (1, .fn f caps), (6, .sl xs.length (rowA FlV.cs xs)), (7, .v (.int .i64 xs.length)), (8, .v (.int .i64 i))])
    (fun _ => []) (fun i => i ≤ xs.length ∧ ∀ j, j < i → p (xs.getD j ⟨0, false, 0, 0⟩) = false) (fun i => xs.length - i) 0 ⟨by omega, fun j hj => by omega⟩ (Le.lst [] _ _ rfl (by simp (disch := omega) only [go_sem, hr, hn]) (by simp (disch := omega) only [go_sem])) ?_
  rintro i ⟨hi, hp⟩
  simp (disch := omega) only [go_sem]
  refine ifW_dec (fun h1 => ?_) (fun h1 => ?_)
  · have hcut := row_get (l := xs) fl_cs4 (i := i) (by omega) ⟨0, false, 0, 0⟩
    simp (disch := omega) only [go_sem, h1, hcut, hg]
    refine ⟨by omega, by omega, call_closed (hf (xs.getD i ⟨0, false, 0, 0⟩)) (by simp (disch := omega) only [go_sem, hc, hc5]) ?_⟩
    rintro r hs ⟨rfl, rfl, _⟩
    refine ⟨by simp [freeN], ?_⟩
    simp (disch := omega) only [go_sem]
    refine ifW_b (fun h2 => ?_) (fun h2 => ?_)
    · simp (disch := omega) only [go_sem, h2]
      refine fin_valc (by simp (disch := omega) only [go_sem]) (by simp (disch := omega) only [go_sem]) ⟨i, rfl, rfl, ?_⟩
      refine ⟨fun _ => ⟨_, ?_, h2⟩, fun _ => by omega⟩
      rw [List.getD_eq_getElem?_getD, List.getElem?_eq_getElem (by omega)]; exact List.getElem_mem _
    · simp (disch := omega) only [go_sem, h2]
      refine next_intro (i + 1) [] ⟨by omega, fun j hj => ?_⟩ (by show xs.length - (i + 1) < xs.length - i; omega) rfl (by simp (disch := omega) only [go_sem, hr, hn]; try omega) (by simp (disch := omega) only [go_sem])
      rcases (by omega : j < i ∨ j = i) with h | h
      · exact hp j h
      · subst h; exact h2
  · simp (disch := omega) only [go_sem, h1]
    refine fin_valc (by simp (disch := omega) only [go_sem]) (by simp (disch := omega) only [go_sem]) ⟨-1, rfl, rfl, ?_⟩
    refine ⟨fun h => by omega, fun ⟨x, hx, hpx⟩ => ?_⟩
    obtain ⟨j, hj, rfl⟩ := List.getElem_of_mem hx
    have := hp j (by omega)
    rw [List.getD_eq_getElem?_getD, List.getElem?_eq_getElem hj] at this
    simp only [Option.getD_some] at this
    rw [this] at hpx; cases hpx

theorem con_containsFl (f : Nat) (caps : List AV) (xs : List FlV) (hl : xs.length ≤ 2 ^ 40) (hf : ∀ x : FlV, Con Tryz.prog f true (.ag x.cs :: caps) [] (isA (.v (.bool (p x))))) (hg : fnOk Tryz.prog f = True)
    (hc : ∀ h : Nat → Ob, caps.map (snap h 6) = caps) (hc5 : ∀ h : Nat → Ob, caps.map (snap h 5) = caps) (hn : ∀ ks, AllL (memK ks) caps) (hr : ∀ ρ, renL ρ caps = caps) :
    Con Tryz.prog 120 true [.sl xs.length (rowA FlV.cs xs), .fn f caps] [] (isA (.v (.bool (xs.any p)))) := by
  refine Con.of_aw Tryz.func120 rfl Tryz.ntmps120 (by simp) (by simp) (by simp) (W.sound ?_)
  show @W Tryz.prog 9 ⟨_⟩ ⟨fun x σ => @retW _ _ _ ⟨_⟩ _ ⟨_⟩ x σ⟩ _ _
  simp (disch := omega) only [go_sem]
  refine call_closed (con_indexFl p f caps xs hl hf hg hc hc5 hn hr) (by simp (disch := omega) only [go_sem, hc, hc5]) ?_
  rintro r hs ⟨i, rfl, rfl, hi⟩
  refine ⟨by simp [freeN], ?_⟩
  simp (disch := omega) only [go_sem]
  refine fin_valc (by simp (disch := omega) only [go_sem]) (by simp (disch := omega) only [go_sem]) ⟨?_, rfl, rfl⟩
  have : decide (0 ≤ i) = xs.any p := by rw [Bool.eq_iff_iff, decide_eq_true_eq, hi, List.any_eq_true]
  rw [this]; rfl

theorem con_allFl (xs : List FlV) (hl : xs.length ≤ 2 ^ 40) (hf : ∀ x : FlV, Con Tryz.prog g true [.ag x.cs] [] (isA (.v (.bool (p x))))) (hg : fnOk Tryz.prog g = True) :
    Con Tryz.prog 85 true [.sl xs.length (rowA FlV.cs xs), .fn g []] [] (isA (.v (.bool (xs.all p)))) := by
  refine Con.of_aw Tryz.func85 rfl Tryz.ntmps85 (by simp) (by simp) (by simp) (W.sound ?_)
  show @W Tryz.prog 9 ⟨_⟩ ⟨fun x σ => @retW _ _ _ ⟨_⟩ _ ⟨_⟩ x σ⟩ _ _
  simp (disch := omega) only [go_sem]
  refine call_closed (con_containsFl (fun x => !p x) 121 [.fp [.fn g []] 0] xs hl (fun x => con_allFl1 g p x (hf x) hg) (by simp (disch := omega) only [go_sem]) (fun h => rfl) (fun h => rfl) (fun ks => by simp (disch := omega) only [go_sem]) (fun ρ => rfl)) (by simp (disch := omega) only [go_sem]) ?_
  rintro r hs ⟨rfl, rfl, _⟩
  refine ⟨by simp [freeN], ?_⟩
  simp (disch := omega) only [go_sem]
  refine fin_valc (by simp (disch := omega) only [go_sem]) (by simp (disch := omega) only [go_sem]) ⟨?_, rfl, rfl⟩
  have : (!xs.any fun x => !p x) = xs.all p := by rw [List.all_eq_not_any_not]
  rw [this]; rfl
end

def flBV (x : FlV) : Bool := flB x.k x.s x.m x.e

theorem con_areFloats (mode : Int) (xs : List FlV) (hl : xs.length ≤ 2 ^ 40) :
    Con Tryz.prog 41 true [.v (.int .i64 mode), .sl xs.length (rowA FlV.cs xs)] [] (isA (.v (.bool ((decide (0 ≤ mode) && decide (mode ≤ 4)) && xs.all flBV)))) := by
  refine Con.of_aw Tryz.func41 rfl Tryz.ntmps41 (by simp) (by simp) (by simp) (W.sound ?_)
  show @W Tryz.prog 11 ⟨_⟩ ⟨fun x σ => @retW _ _ _ ⟨_⟩ _ ⟨_⟩ x σ⟩ _ _
  simp (disch := omega) only [go_sem]
  refine call_closed (con_isMode mode) (by simp (disch := omega) only [go_sem]) ?_
  rintro r hs ⟨rfl, rfl, _⟩
  refine ⟨by simp [freeN], ?_⟩
  simp (disch := omega) only [go_sem]
  refine ifW_b (fun h1 => ?_) (fun h1 => ?_)
  · simp (disch := omega) only [go_sem, h1]
    refine call_closed (con_allFl 49 flBV xs hl (fun x => con_flok x.k x.s x.m x.e) (by simp (disch := omega) only [go_sem])) (by simp (disch := omega) only [go_sem]) ?_
    rintro r hs ⟨rfl, rfl, _⟩
    refine ⟨by simp [freeN], ?_⟩
    simp (disch := omega) only [go_sem]
    refine fin_valc (by simp (disch := omega) only [go_sem]) (by simp (disch := omega) only [go_sem]) ⟨?_, rfl, rfl⟩
    show AV.v (.bool _) = AV.v (.bool _)
    rw [h1]; rfl
  · simp (disch := omega) only [go_sem, h1]
    refine fin_valc (by simp (disch := omega) only [go_sem]) (by simp (disch := omega) only [go_sem]) ⟨?_, rfl, rfl⟩
    show AV.v (.bool _) = AV.v (.bool _)
    rw [h1]; rfl
end Go.Ab
namespace Go.Ab
open Go Go.Proofs
set_option linter.unusedVariables false
set_option linter.unusedSimpArgs false

theorem con_float1 (s : Bool) (m : Nat) (e low mode : Int) (hm : bl m ≤ 4000000) (he : -1000000 ≤ e ∧ e ≤ 1000000) (hlo : -1000000 ≤ low ∧ low ≤ 1000000) :
    Con Tryz.prog 83 false [.v (.int .i64 low), .fp [.v (.bool s), .sl (lim (m)).length (ints (lim (m))), .v (.int .i64 e)] 0, .fp [.v (.int .i64 mode)] 0] []
      (isA (.tu [.ag [.v (.bool (roS s m e low mode)), .sl (lim (roM s m e low mode)).length (ints (lim (roM s m e low mode))), .v (.int .i64 (roE m e low))], .v (.bool (roX m e low))])) := by
  refine Con.frzA ?_
  refine Con.of_aw Tryz.func83 rfl Tryz.ntmps83 (by simp) (by simp) (by simp) (W.sound ?_)
  show @W Tryz.prog 12 ⟨_⟩ ⟨fun x σ => @retW _ _ _ ⟨_⟩ _ ⟨_⟩ x σ⟩ _ _
  simp (disch := omega) only [go_sem]
  refine call_open (con_rounded s m e low mode hm he hlo) (by simp (disch := omega) only [go_sem]) ?_
  rintro r hs ⟨rfl, rfl, _⟩
  refine ⟨by simp [freeN], ?_⟩
  simp (disch := omega) only [go_sem]
  refine fin_val (by simp (disch := omega) only [go_sem]) ?_
  show snap _ 6 _ = _
  simp (disch := omega) only [go_sem]

/-- The float of a number, and its flags; z is the sign of a zero. -/
def flV (s : Bool) (m : Nat) (e mode : Int) (z : Bool) : FlV :=
  if m = 0 then ⟨0, z, 0, 0⟩ else
    ⟨flK s mode (roM s m e (flLow (bl m + e)) mode) (roE m e (flLow (bl m + e))), s, flMm s mode (roM s m e (flLow (bl m + e)) mode) (roE m e (flLow (bl m + e))), flEe s mode (roM s m e (flLow (bl m + e)) mode) (roE m e (flLow (bl m + e)))⟩
def flG (s : Bool) (m : Nat) (e mode : Int) : Int :=
  if m = 0 then 0 else flFl (bl m + e) (roX m e (flLow (bl m + e))) (roM s m e (flLow (bl m + e)) mode) (roE m e (flLow (bl m + e)))

theorem ro_form {s : Bool} {m : Nat} {e mode : Int} (h0 : m ≠ 0) :
    roM s m e (flLow (bl m + e)) mode ≠ 0 → flE (roM s m e (flLow (bl m + e)) mode) (roE m e (flLow (bl m + e))) ≤ oE (roM s m e (flLow (bl m + e)) mode) (roE m e (flLow (bl m + e))) := by
  intro hr
  unfold oE
  rw [if_neg hr]
  unfold roM roE at *
  by_cases h : flLow (bl m + e) ≤ e ∨ m = 0
  · rw [if_pos h, if_pos h]
    have : flLow (bl m + e) ≤ e := h.resolve_right h0
    unfold flE; omega
  · rw [if_neg h, if_neg h]
    have hlt : e < flLow (bl m + e) := by omega
    have h1 : bl m ≤ 53 + (flLow (bl m + e) - e).toNat := by unfold flLow at *; split at hlt <;> split <;> omega
    have h2 := rnd_form (s := s) (mode := mode) h1
    generalize rq s m (2 ^ (flLow (bl m + e) - e).toNat) mode = q at *
    unfold flE flLow
    split
    · split <;> omega
    · split <;> omega

theorem ro_bl {s : Bool} {m : Nat} {e low mode : Int} {B : Nat} (h : bl m ≤ B) : bl (roM s m e low mode) ≤ B + 1 := by
  unfold roM
  split
  · omega
  · have h1 := bl_mono (rq_le s m (2 ^ (low - e).toNat) mode)
    have h2 := bl_succ (m / 2 ^ (low - e).toNat)
    have h3 := bl_divle m (2 ^ (low - e).toNat)
    omega

theorem con_float (s : Bool) (m : Nat) (e mode : Int) (z : Bool) (hm : bl m ≤ 100000) (he : -100000 ≤ e ∧ e ≤ 100000) :
    Con Tryz.prog 39 true [.ag [.v (.bool (s)), .sl (lim (m)).length (ints (lim (m))), .v (.int .i64 (e))], .v (.int .i64 mode), .v (.bool z)] []
      (isA (.tu [.ag [.v (.int .i64 ((flV s m e mode z).k)), .v (.bool ((flV s m e mode z).s)), .v (.int .i64 ((flV s m e mode z).m)), .v (.int .i64 ((flV s m e mode z).e))], .v (.int .i64 (flG s m e mode))])) := by
  refine Con.of_aw Tryz.func39 rfl Tryz.ntmps39 (by simp) (by simp) (by simp) (W.sound ?_)
  show @W Tryz.prog 21 ⟨_⟩ ⟨fun x σ => @retW _ _ _ ⟨_⟩ _ ⟨_⟩ x σ⟩ _ _
  simp (disch := omega) only [go_sem]
  refine call_closed (con_isZero s m e) (by simp (disch := omega) only [go_sem]) ?_
  rintro r hs ⟨rfl, rfl, _⟩
  refine ⟨by simp [freeN], ?_⟩
  simp (disch := omega) only [go_sem]
  refine ifW_dec (fun h1 => ?_) (fun h1 => ?_)
  · simp (disch := omega) only [go_sem, h1]
    refine call_closed (con_zero z) (by simp (disch := omega) only [go_sem]) ?_
    rintro r hs ⟨rfl, rfl, _⟩
    refine ⟨by simp [freeN], ?_⟩
    simp (disch := omega) only [go_sem]
    refine fin_valc (by simp (disch := omega) only [go_sem]) (by simp (disch := omega) only [go_sem]) ⟨?_, rfl, rfl⟩
    simp only [tupA, flV, flG, h1, if_true]
  · simp (disch := omega) only [go_sem, h1]
    have hl := len_bl hm
    refine draw_of rfl [⟨0, [], []⟩, ⟨1, [], []⟩, ⟨2, [1], []⟩, ⟨4, [1, 2], []⟩, ⟨5, [1, 2, 4], []⟩, ⟨3, [1, 4], []⟩, ⟨6, [], []⟩, ⟨7, [], []⟩, ⟨8, [], []⟩, ⟨9, [], []⟩, ⟨10, [], []⟩] (by kernel_rfl) ?_
    simp (disch := omega) only [go_sem]
    have etop : (if m = 0 then (0 : Int) else (bl m : Int) + e) = (bl m : Int) + e := if_neg h1
    refine call_closed (con_topX s m e (by omega) (by omega)) (by simp (disch := omega) only [go_sem]) ?_
    rintro r hs ⟨rfl, rfl, _⟩
    refine ⟨by simp [freeN], ?_⟩
    simp (disch := omega) only [go_sem]
    have hlow : -1000000 ≤ flLow (bl m + e) ∧ flLow (bl m + e) ≤ 1000000 := by unfold flLow; split <;> omega
    refine call_closed (con_floatOf s ((bl m : Int) + e) mode 83 [.fp [.v (.bool s), .sl (lim (m)).length (ints (lim (m))), .v (.int .i64 e)] 0, .fp [.v (.int .i64 mode)] 0] (roS s m e (flLow (bl m + e)) mode) (roX m e (flLow (bl m + e))) (roM s m e (flLow (bl m + e)) mode) (roE m e (flLow (bl m + e))) (by omega) (con_float1 s m e (flLow (bl m + e)) mode (by omega) (by omega) hlow) (by simp (disch := omega) only [go_sem]) (fun h => rfl) (by have := ro_bl (s := s) (e := e) (low := flLow (bl m + e)) (mode := mode) hm; omega) (by unfold roE; split <;> omega) (fun h _ => ro_form h1 h)) (by simp (disch := omega) only [go_sem, etop]) ?_
    rintro r hs ⟨rfl, rfl, _⟩
    refine ⟨by simp [freeN], ?_⟩
    simp (disch := omega) only [go_sem]
    refine fin_valc (by simp (disch := omega) only [go_sem]) (by simp (disch := omega) only [go_sem]) ⟨?_, rfl, rfl⟩
    simp only [tupA, flV, flG, h1, if_false]

theorem con_timesX (s1 : Bool) (m1 : Nat) (e1 : Int) (s2 : Bool) (m2 : Nat) (e2 : Int) (h1 : bl m1 ≤ 4000000) (h2 : bl m2 ≤ 4000000) (he1 : -2 ^ 40 ≤ e1 ∧ e1 ≤ 2 ^ 40) (he2 : -2 ^ 40 ≤ e2 ∧ e2 ≤ 2 ^ 40) :
    Con Tryz.prog 75 false [.ag [.v (.bool (s1)), .sl (lim (m1)).length (ints (lim (m1))), .v (.int .i64 (e1))], .ag [.v (.bool (s2)), .sl (lim (m2)).length (ints (lim (m2))), .v (.int .i64 (e2))]] [] (isA (.ag [.v (.bool ((s1 != s2) && decide (m1 * m2 ≠ 0))), .sl (lim (m1 * m2)).length (ints (lim (m1 * m2))), .v (.int .i64 (e1 + e2))])) := by
  refine Con.frzA ?_
  refine Con.of_aw Tryz.func75 rfl Tryz.ntmps75 (by simp) (by simp) (by simp) (W.sound ?_)
  show @W Tryz.prog 28 ⟨_⟩ ⟨fun x σ => @retW _ _ _ ⟨_⟩ _ ⟨_⟩ x σ⟩ _ _
  simp (disch := omega) only [go_sem]
  have l1 := len_bl h1
  have l2 := len_bl h2
  refine call_open (con_timesN m1 m2 (by omega) (by omega)) (by simp (disch := omega) only [go_sem]) ?_
  rintro r hs ⟨rfl, rfl, _⟩
  refine ⟨by simp [freeN], ?_⟩
  simp (disch := omega) only [go_sem]
  have hl : (lim (m1 * m2)).length ≤ 2000000 := by have := len_bl (Nat.le_trans (bl_mulle m1 m2) (Nat.add_le_add h1 h2)); omega
  have hq : decide ((0 : Int) < ((lim (m1 * m2)).length : Int)) = decide (m1 * m2 ≠ 0) := by
    rw [decide_eq_decide]
    exact ⟨fun h e => by rw [e, lim_zero] at h; simp at h, fun h => by have := lim_ne h; omega⟩
  refine ifW_b (fun h3 => ?_) (fun h3 => ?_)
  · simp (disch := omega) only [go_sem, h3, hq]
    refine fin_val (by simp (disch := omega) only [go_sem]) ?_
    show snap _ 6 _ = _
    simp (disch := omega) only [go_sem, h3, Bool.true_and]
  · simp (disch := omega) only [go_sem, h3]
    refine fin_val (by simp (disch := omega) only [go_sem]) ?_
    show snap _ 6 _ = _
    simp (disch := omega) only [go_sem, h3, Bool.false_and]

theorem con_flexact (k : Int) (s : Bool) (m : Nat) (e : Int) (hm : m < 2 ^ 63) : Con Tryz.prog 43 false [.ag [.v (.int .i64 (k)), .v (.bool (s)), .v (.int .i64 ((m : Int))), .v (.int .i64 (e))]] [] (isA (.ag [.v (.bool (s && decide (k = 1))), .sl (lim (m)).length (ints (lim (m))), .v (.int .i64 (e))])) := by
  refine Con.frzA ?_
  refine Con.of_aw Tryz.func43 rfl Tryz.ntmps43 (by simp) (by simp) (by simp) (W.sound ?_)
  show @W Tryz.prog 16 ⟨_⟩ ⟨fun x σ => @retW _ _ _ ⟨_⟩ _ ⟨_⟩ x σ⟩ _ _
  simp (disch := omega) only [go_sem]
  refine draw_of rfl [⟨0, [], []⟩, ⟨1, [], []⟩, ⟨2, [], []⟩, ⟨3, [], []⟩, ⟨4, [], []⟩, ⟨5, [], []⟩, ⟨6, [], []⟩, ⟨7, [1, 4], []⟩, ⟨8, [1, 4], []⟩, ⟨10, [1, 4, 8], []⟩, ⟨11, [1, 4, 8], []⟩, ⟨9, [4, 11], []⟩, ⟨12, [], []⟩, ⟨13, [], []⟩] (by kernel_rfl) ?_
  simp (disch := omega) only [go_sem]
  refine ifW_b (fun h3 => ?_) (fun h3 => ?_)
  · simp (disch := omega) only [go_sem, h3]
    refine call_open (con_smallN m hm) (by simp (disch := omega) only [go_sem]) ?_
    rintro r hs ⟨rfl, rfl, _⟩
    refine ⟨by simp [freeN], ?_⟩
    simp (disch := omega) only [go_sem]
    refine fin_val (by simp (disch := omega) only [go_sem]) ?_
    show snap _ 6 _ = _
    simp (disch := omega) only [go_sem, h3, Bool.true_and]
  · simp (disch := omega) only [go_sem, h3]
    refine call_open (con_smallN m hm) (by simp (disch := omega) only [go_sem]) ?_
    rintro r hs ⟨rfl, rfl, _⟩
    refine ⟨by simp [freeN], ?_⟩
    simp (disch := omega) only [go_sem]
    refine fin_val (by simp (disch := omega) only [go_sem]) ?_
    show snap _ 6 _ = _
    simp (disch := omega) only [go_sem, h3, Bool.false_and]
end Go.Ab
namespace Go.Ab
set_option linter.unusedVariables false

/-- As the reference tells whether to go up. -/
def upsB (neg : Bool) (m k : Nat) (mode : Int) : Bool :=
  if mode = 1 then false else if mode = 2 then !neg else if mode = 3 then neg else if mode = 4 then decide (m / 2 ^ (k - 1) % 2 = 1)
  else decide (m / 2 ^ (k - 1) % 2 = 1) && (decide (tz m < k - 1) || decide (m / 2 ^ k % 2 = 1))

theorem half_bit {m k : Nat} (hk : 1 ≤ k) : m / 2 ^ (k - 1) % 2 = 1 ↔ 2 ^ k ≤ m % 2 ^ k * 2 := by
  obtain ⟨j, rfl⟩ : ∃ j, k = j + 1 := ⟨k - 1, by omega⟩
  rw [Nat.add_sub_cancel]
  have hp : 0 < 2 ^ j := Nat.pow_pos (by omega)
  have h1 : m % 2 ^ (j + 1) / 2 ^ j = m / 2 ^ j % 2 := by rw [Nat.pow_succ, Nat.mod_mul_right_div_self]
  have h2 : m % 2 ^ (j + 1) < 2 ^ (j + 1) := Nat.mod_lt _ (Nat.pow_pos (by omega))
  rw [← h1]
  generalize m % 2 ^ (j + 1) = r at *
  rw [Nat.pow_succ] at *
  constructor
  · intro h
    have h3 := (Nat.le_div_iff_mul_le hp).1 (show 1 ≤ r / 2 ^ j by
      rcases Nat.eq_zero_or_pos (r / 2 ^ j) with e | e
      · rw [e] at h; simp at h
      · exact e)
    omega
  · intro h
    have h3 : 1 ≤ r / 2 ^ j := (Nat.le_div_iff_mul_le hp).2 (by omega)
    have h4 : r / 2 ^ j < 2 := (Nat.div_lt_iff_lt_mul hp).2 (by omega)
    omega

theorem cmp_pos {a b : Int} : (0 < cmpI a b ↔ b < a) ∧ (cmpI a b = 0 ↔ a = b) ∧ (0 ≤ cmpI a b ↔ b ≤ a) := by
  unfold cmpI
  split
  · omega
  · split <;> omega

theorem tz_odd {m : Nat} (h : m % 2 = 1) : tz m = 0 := tz_uniq (a := m / 2) (by simp; omega)

theorem ups_eq {neg : Bool} {m k : Nat} {mode : Int} (hm : m % 2 = 1) (hk : 1 ≤ k) (h0 : 0 ≤ mode ∧ mode ≤ 4) :
    upsB neg m k mode = rup neg (decide (m / 2 ^ k % 2 = 1)) (cmpI ((m % 2 ^ k * 2 : Nat) : Int) ((2 ^ k : Nat) : Int)) mode := by
  have hb := half_bit (m := m) hk
  obtain ⟨c1, c2, c3⟩ := cmp_pos (a := ((m % 2 ^ k * 2 : Nat) : Int)) (b := ((2 ^ k : Nat) : Int))
  generalize cmpI ((m % 2 ^ k * 2 : Nat) : Int) ((2 ^ k : Nat) : Int) = c at *
  have ht := tz_odd hm
  unfold upsB rup
  rcases (by omega : mode = 0 ∨ mode = 1 ∨ mode = 2 ∨ mode = 3 ∨ mode = 4) with rfl | rfl | rfl | rfl | rfl
  · rw [if_neg (by omega), if_neg (by omega), if_neg (by omega), if_neg (by omega), if_neg (by omega), if_neg (by omega), if_pos rfl, ht]
    rw [Bool.eq_iff_iff]
    simp only [Bool.and_eq_true, Bool.or_eq_true, decide_eq_true_eq, c1, c2]
    rw [hb]
    rcases (by omega : k = 1 ∨ 1 < k) with rfl | h
    · have : m % 2 ^ 1 = 1 := by rw [Nat.pow_one]; exact hm
      rw [this]; simp
    · have hodd : m % 2 ^ k % 2 = 1 := by
        obtain ⟨j, rfl⟩ : ∃ j, k = j + 1 := ⟨k - 1, by omega⟩
        rw [Nat.pow_succ, Nat.mul_comm, Nat.mod_mul_right_mod]; exact hm
      have h4 : 2 ^ k % 4 = 0 := by
        obtain ⟨j, rfl⟩ : ∃ j, k = j + 2 := ⟨k - 2, by omega⟩
        rw [Nat.pow_add]; omega
      omega
  · simp
  · simp
  · simp
  · rw [if_neg (by omega), if_neg (by omega), if_neg (by omega), if_pos rfl, if_neg (by omega), if_neg (by omega), if_neg (by omega), if_pos rfl]
    rw [decide_eq_decide, hb, c3]; omega

theorem odd_mod {m k : Nat} (hm : m % 2 = 1) (hk : 1 ≤ k) : m % 2 ^ k ≠ 0 := by
  obtain ⟨j, rfl⟩ : ∃ j, k = j + 1 := ⟨k - 1, by omega⟩
  intro h
  have : m % 2 ^ (j + 1) % 2 = 1 := by rw [Nat.pow_succ, Nat.mul_comm, Nat.mod_mul_right_mod]; exact hm
  omega

/-! ### The normal form and rounding -/
theorem oM_oM (m : Nat) : oM (oM m) = oM m := by
  by_cases h : m = 0
  · subst h; rw [oM_zero, oM_zero]
  · have := (odd_part h).1
    have ht : tz (oM m) = 0 := tz_odd this
    show oM m / 2 ^ tz (oM m) = oM m
    rw [ht]; simp
theorem oE_oM (m : Nat) (e : Int) : oE (oM m) (oE m e) = oE m e := by
  by_cases h : m = 0
  · subst h; rw [oM_zero]; simp [oE]
  · have := (odd_part h).1
    have ht : tz (oM m) = 0 := tz_odd this
    have h2 : oM m ≠ 0 := fun e => h (oM_eq_zero.1 e)
    unfold oE
    rw [if_neg h2, if_neg h, ht]; simp

theorem oM_pow {m k : Nat} : oM (m * 2 ^ k) = oM m := by
  by_cases h : m = 0
  · subst h; simp
  · unfold oM
    rw [tz_mul_pow h, Nat.pow_add, Nat.mul_comm (2 ^ tz m), ← Nat.div_div_eq_div_mul, Nat.mul_div_cancel _ (Nat.pow_pos (by omega))]

theorem rq_scale {s : Bool} {a b k : Nat} {mode : Int} : rq s (a * 2 ^ k) (b * 2 ^ k) mode = rq s a b mode := by
  have hp : 0 < 2 ^ k := Nat.pow_pos (by omega)
  have h1 : a * 2 ^ k / (b * 2 ^ k) = a / b := Nat.mul_div_mul_right _ _ hp
  have h2 : a * 2 ^ k % (b * 2 ^ k) = a % b * 2 ^ k := Nat.mul_mod_mul_right _ _ _
  have h3 : cmpI ((a % b * 2 ^ k * 2 : Nat) : Int) ((b * 2 ^ k : Nat) : Int) = cmpI ((a % b * 2 : Nat) : Int) (b : Int) := by
    have e1 : a % b * 2 ^ k * 2 = a % b * 2 * 2 ^ k := by grind
    rw [e1]
    have h4 : ∀ x y : Nat, x * 2 ^ k < y * 2 ^ k ↔ x < y := fun x y => Nat.mul_lt_mul_right hp
    have key : ∀ x y X Y : Nat, (X < Y ↔ x < y) → (Y < X ↔ y < x) → cmpI (X : Int) (Y : Int) = cmpI (x : Int) (y : Int) := by
      intro x y X Y p q
      unfold cmpI
      rcases Nat.lt_trichotomy x y with h | h | h
      · have := p.2 h
        rw [if_pos (by omega), if_pos (by omega)]
      · have g1 : ¬ X < Y := fun g => by have := p.1 g; omega
        have g2 : ¬ Y < X := fun g => by have := q.1 g; omega
        rw [if_neg (by omega), if_neg (by omega), if_neg (by omega), if_neg (by omega)]
      · have := q.2 h
        rw [if_neg (by omega), if_pos (by omega), if_neg (by omega), if_pos (by omega)]
    exact key _ _ _ _ (h4 _ _) (h4 _ _)
  unfold rq
  rw [h1, h2, h3]
  by_cases h : a % b = 0
  · rw [if_pos h, if_pos (by rw [h]; simp)]
  · rw [if_neg h, if_neg (by have := Nat.mul_pos (show 0 < a % b by omega) hp; omega)]

theorem rq_one {s : Bool} {a : Nat} {mode : Int} : rq s a 1 mode = a := by unfold rq; simp [Nat.mod_one]
end Go.Ab
namespace Go.Ab
set_option linter.unusedVariables false
set_option linter.unusedSimpArgs false

theorem fl_inv {rm rm' : Nat} {re re' : Int} (hM : oM rm = oM rm') (hE : oE rm re = oE rm' re') : (rm = 0 ↔ rm' = 0) ∧ (rm ≠ 0 → (bl rm : Int) + re = (bl rm' : Int) + re') := by
  have h0 : rm = 0 ↔ rm' = 0 := by rw [← oM_eq_zero, ← @oM_eq_zero rm', hM]
  refine ⟨h0, fun h => ?_⟩
  have h' : rm' ≠ 0 := fun e => h (h0.2 e)
  have e1 := bl_oM h
  have e2 := bl_oM h'
  unfold oE at hE
  rw [if_neg h, if_neg h'] at hE
  rw [hM] at e1
  omega

theorem fl_eqs {s : Bool} {mode : Int} {rm rm' : Nat} {re re' : Int} (hM : oM rm = oM rm') (hE : oE rm re = oE rm' re') :
    flK s mode rm re = flK s mode rm' re' ∧ flMm s mode rm re = flMm s mode rm' re' ∧ flEe s mode rm re = flEe s mode rm' re' ∧ ∀ top same, flFl top same rm re = flFl top same rm' re' := by
  obtain ⟨h0, ht⟩ := fl_inv hM hE
  by_cases h : rm = 0
  · have h' := h0.1 h
    simp [flK, flMm, flEe, flFl, h, h']
  · have h' : rm' ≠ 0 := fun e => h (h0.2 e)
    have h1 := ht h
    simp [flK, flMm, flEe, flFl, flM, flE, h, h', h1, hM, hE]

theorem ro_norm {s : Bool} {m : Nat} {e low mode : Int} (h0 : m ≠ 0) :
    oM (roM s m e low mode) = oM (roM s (oM m) (oE m e) low mode) ∧ oE (roM s m e low mode) (roE m e low) = oE (roM s (oM m) (oE m e) low mode) (roE (oM m) (oE m e) low) ∧ roX m e low = roX (oM m) (oE m e) low := by
  have ha0 : oM m ≠ 0 := fun e => h0 (oM_eq_zero.1 e)
  have hoE : oE m e = e + tz m := by unfold oE; rw [if_neg h0]
  have hao := (odd_part h0).1
  have hmm : oM m * 2 ^ tz m = m := oM_mul
  by_cases h1 : low ≤ e
  · have c1 : low ≤ e ∨ m = 0 := .inl h1
    have c2 : low ≤ oE m e ∨ oM m = 0 := .inl (by omega)
    unfold roM roE roX
    rw [if_pos c1, if_pos c1, if_pos c1, if_pos c2, if_pos c2, if_pos c2]
    exact ⟨(oM_oM m).symm, (oE_oM m e).symm, rfl⟩
  · have c1 : ¬ (low ≤ e ∨ m = 0) := by omega
    by_cases h2 : low ≤ oE m e
    · have c2 : low ≤ oE m e ∨ oM m = 0 := .inl h2
      unfold roM roE roX
      rw [if_neg c1, if_neg c1, if_neg c1, if_pos c2, if_pos c2, if_pos c2, oM_oM, oE_oM]
      obtain ⟨i, hi⟩ : ∃ i, tz m = i + (low - e).toNat := ⟨tz m - (low - e).toNat, by omega⟩
      have e1 : m = oM m * 2 ^ i * 2 ^ (low - e).toNat := by rw [Nat.mul_assoc, ← Nat.pow_add, ← hi, hmm]
      have e2 : rq s m (2 ^ (low - e).toNat) mode = oM m * 2 ^ i := by
        have := rq_scale (s := s) (a := oM m * 2 ^ i) (b := 1) (k := (low - e).toNat) (mode := mode)
        rw [← e1, Nat.one_mul] at this
        rw [this, rq_one]
      rw [e2]
      refine ⟨by rw [oM_pow, oM_oM], ?_, ?_⟩
      · have h3 : oM m * 2 ^ i ≠ 0 := Nat.mul_ne_zero ha0 (Nat.pos_iff_ne_zero.1 (Nat.pow_pos (by omega)))
        have h4 : tz (oM m * 2 ^ i) = i := tz_uniq (a := oM m / 2) (by rw [show 2 * (oM m / 2) + 1 = oM m by unfold oM at *; omega, Nat.mul_comm])
        rw [hoE]; unfold oE; rw [if_neg h3, h4]; omega
      · rw [decide_eq_true_eq]
        have : m % 2 ^ (low - e).toNat = 0 := by
          conv => lhs; lhs; rw [e1]
          exact Nat.mul_mod_left _ _
        exact this
    · have c2 : ¬ (low ≤ oE m e ∨ oM m = 0) := by omega
      unfold roM roE roX
      rw [if_neg c1, if_neg c1, if_neg c1, if_neg c2, if_neg c2, if_neg c2]
      have hj : (low - e).toNat = (low - oE m e).toNat + tz m := by omega
      have e1 : rq s m (2 ^ (low - e).toNat) mode = rq s (oM m) (2 ^ (low - oE m e).toNat) mode := by
        have := rq_scale (s := s) (a := oM m) (b := 2 ^ (low - oE m e).toNat) (k := tz m) (mode := mode)
        rw [hmm, ← Nat.pow_add, ← hj] at this
        exact this
      rw [e1]
      refine ⟨rfl, rfl, ?_⟩
      rw [decide_eq_decide]
      have e2 : m % 2 ^ (low - e).toNat = oM m % 2 ^ (low - oE m e).toNat * 2 ^ tz m := by
        rw [hj, Nat.pow_add, ← Nat.mul_mod_mul_right, hmm]
      have hp : 2 ^ tz m ≠ 0 := Nat.pos_iff_ne_zero.1 (Nat.pow_pos (by omega))
      rw [e2, Nat.mul_eq_zero]
      exact ⟨fun h => h.resolve_right hp, .inl⟩

theorem flV_norm (s : Bool) (m : Nat) (e mode : Int) (z : Bool) : flV s (oM m) (oE m e) mode z = flV s m e mode z ∧ flG s (oM m) (oE m e) mode = flG s m e mode := by
  unfold flV flG
  by_cases h0 : m = 0
  · rw [if_pos h0, if_pos h0, if_pos (oM_eq_zero.2 h0), if_pos (oM_eq_zero.2 h0)]; exact ⟨rfl, rfl⟩
  · have h1 : ¬ oM m = 0 := fun e => h0 (oM_eq_zero.1 e)
    have ht : (bl (oM m) : Int) + oE m e = (bl m : Int) + e := by
      have := bl_oM h0
      unfold oE; rw [if_neg h0]; omega
    rw [if_neg h0, if_neg h0, if_neg h1, if_neg h1, ht]
    obtain ⟨a, b, c⟩ := ro_norm (s := s) (e := e) (low := flLow (bl m + e)) (mode := mode) h0
    obtain ⟨q1, q2, q3, q4⟩ := fl_eqs (s := s) (mode := mode) a b
    rw [q1, q2, q3, q4, c]
    exact ⟨rfl, rfl⟩

theorem oS_flV (s : Bool) (m : Nat) (e mode : Int) (z : Bool) : flV (oS s m) m e mode z = flV s m e mode z ∧ flG (oS s m) m e mode = flG s m e mode := by
  by_cases h : m = 0
  · unfold flV flG oS; rw [if_pos h, if_pos h, if_pos h]; simp [h]
  · unfold oS; rw [if_neg h]; exact ⟨rfl, rfl⟩
theorem flV_canon (s : Bool) (m : Nat) (e mode : Int) (z : Bool) : flV (oS s m) (oM m) (oE m e) mode z = flV s m e mode z ∧ flG (oS s m) (oM m) (oE m e) mode = flG s m e mode := by
  rw [(flV_norm (oS s m) m e mode z).1, (flV_norm (oS s m) m e mode z).2]
  exact oS_flV s m e mode z
end Go.Ab
namespace Go.Ab
open Go Go.Proofs
set_option linter.unusedVariables false
set_option linter.unusedSimpArgs false

theorem con_withinB (n lo hi : Int) : Con Tryz.prog 78 true [.v (.int .i64 n), .v (.int .i64 lo), .v (.int .i64 hi)] [] (isA (.v (.bool (decide (lo ≤ n) && decide (n ≤ hi))))) := con_withinI n lo hi

theorem con_dyok (s : Bool) (xs : List Int) (e : Int) (hl : xs.length ≤ 2 ^ 40) : Con Tryz.prog 51 true [.ag [.v (.bool s), .sl xs.length (ints xs), .v (.int .i64 e)]] [] (isA (.v (.bool (dyB s xs e)))) := by
  refine Con.of_aw Tryz.func51 rfl Tryz.ntmps51 (by simp) (by simp) (by simp) (W.sound ?_)
  show @W Tryz.prog 32 ⟨_⟩ ⟨fun x σ => @retW _ _ _ ⟨_⟩ _ ⟨_⟩ x σ⟩ _ _
  simp (disch := omega) only [go_sem]
  refine call_closed (con_wholeok s xs hl) (by simp (disch := omega) only [go_sem]) ?_
  rintro r hs ⟨rfl, rfl, _⟩
  refine ⟨by simp [freeN], ?_⟩
  simp (disch := omega) only [go_sem]
  refine ifW_b (fun hw => ?_) (fun h1 => ?_)
  · have h1 := hw
    simp only [wholeB, Bool.and_eq_true] at h1
    obtain ⟨hx, hll⟩ := natB_lim h1.1
    have hxs : xs = lim (vl xs).toNat := hx
    generalize hm : (vl xs).toNat = m at *
    subst hx
    simp (disch := omega) only [go_sem, hw]
    refine call_closed (con_withinB e (-3000) 3000) (by simp (disch := omega) only [go_sem]) ?_
    rintro r hs ⟨rfl, rfl, _⟩
    refine ⟨by simp [freeN], ?_⟩
    simp (disch := omega) only [go_sem]
    refine ifW_nb (fun h2 => ?_) (fun h2 => ?_)
    · simp (disch := omega) only [go_sem, h2]
      refine fin_valc (by simp (disch := omega) only [go_sem]) (by simp (disch := omega) only [go_sem]) ⟨?_, rfl, rfl⟩
      simp [tupA, dyB, hw, h2]
    · simp (disch := omega) only [go_sem, h2]
      refine call_closed (con_bitOf m 0 (by omega) (by omega) (by omega)) (by simp (disch := omega) only [go_sem]) ?_
      rintro r hs ⟨rfl, rfl, _⟩
      refine ⟨by simp [freeN], ?_⟩
      simp (disch := omega) only [go_sem]
      refine ifW_not (fun h3 => ?_) (fun h3 => ?_)
      · have h3' : ¬ m % 2 = 1 := fun h => h3 (by simp; omega)
        simp (disch := omega) only [go_sem, h3]
        refine ifW_dec (fun h4 => ?_) (fun h4 => ?_)
        · simp (disch := omega) only [go_sem, h4]
          refine fin_valc (by simp (disch := omega) only [go_sem]) (by simp (disch := omega) only [go_sem]) ⟨?_, rfl, rfl⟩
          have h4' : (lim m).length = 0 := by omega
          simp [tupA, dyB, hw, h2, hm, h3', h4']
        · simp (disch := omega) only [go_sem, h4]
          refine fin_valc (by simp (disch := omega) only [go_sem]) (by simp (disch := omega) only [go_sem]) ⟨?_, rfl, rfl⟩
          have h4' : ¬ (lim m).length = 0 := by omega
          simp [tupA, dyB, hw, h2, hm, h3', h4']
      · have h3' : m % 2 = 1 := by simp at h3; omega
        simp (disch := omega) only [go_sem, h3]
        refine fin_valc (by simp (disch := omega) only [go_sem]) (by simp (disch := omega) only [go_sem]) ⟨?_, rfl, rfl⟩
        simp [tupA, dyB, hw, h2, hm, h3']
  · simp (disch := omega) only [go_sem, h1]
    refine fin_valc (by simp (disch := omega) only [go_sem]) (by simp (disch := omega) only [go_sem]) ⟨?_, rfl, rfl⟩
    simp [tupA, dyB, h1]
end Go.Ab
namespace Go.Ab
open Go Go.Proofs
set_option linter.unusedVariables false
set_option linter.unusedSimpArgs false

theorem con_dyexact (s : Bool) (m : Nat) (e : Int) : Con Tryz.prog 53 false [.ag [.v (.bool (s)), .sl (lim (m)).length (ints (lim (m))), .v (.int .i64 (e))]] [] (isA (.ag [.v (.bool (s)), .sl (lim (m)).length (ints (lim (m))), .v (.int .i64 (e))])) := by
  refine Con.frzA ?_
  refine Con.of_aw Tryz.func53 rfl Tryz.ntmps53 (by simp) (by simp) (by simp) (W.sound ?_)
  show @W Tryz.prog 13 ⟨_⟩ ⟨fun x σ => @retW _ _ _ ⟨_⟩ _ ⟨_⟩ x σ⟩ _ _
  simp (disch := omega) only [go_sem]
  refine fin_val (by simp (disch := omega) only [go_sem]) ?_
  show snap _ 6 _ = _
  simp (disch := omega) only [go_sem]

def modeB (mode : Int) : Bool := decide (0 ≤ mode) && decide (mode ≤ 4)

def dyV : AV → AV := id

theorem con_FlRound (s : Bool) (xs : List Int) (e mode : Int) (hl : xs.length ≤ 2 ^ 40) :
    Con Tryz.prog 26 true [.ag [.v (.bool s), .sl xs.length (ints xs), .v (.int .i64 e)], .v (.int .i64 mode)] []
      (isA (if dyB s xs e && modeB mode then .tu [.ag [.v (.int .i64 ((flV s (vl xs).toNat e mode false).k)), .v (.bool ((flV s (vl xs).toNat e mode false).s)), .v (.int .i64 ((flV s (vl xs).toNat e mode false).m)), .v (.int .i64 ((flV s (vl xs).toNat e mode false).e))], .v (.int .i64 (flG s (vl xs).toNat e mode)), .v (.bool true)]
        else .tu [.ag [.v (.int .i64 (0)), .v (.bool (false)), .v (.int .i64 (0)), .v (.int .i64 (0))], .v (.int .i64 0), .v (.bool false)])) := by
  refine Con.of_aw Tryz.func26 rfl Tryz.ntmps26 (by simp) (by simp) (by simp) (W.sound ?_)
  show @W Tryz.prog 27 ⟨_⟩ ⟨fun x σ => @retW _ _ _ ⟨_⟩ _ ⟨_⟩ x σ⟩ _ _
  simp (disch := omega) only [go_sem]
  refine call_closed (con_dyok s xs e hl) (by simp (disch := omega) only [go_sem]) ?_
  rintro r hs ⟨rfl, rfl, _⟩
  refine ⟨by simp [freeN], ?_⟩
  simp (disch := omega) only [go_sem]
  refine ifW_b (fun h1 => ?_) (fun h1 => ?_)
  · obtain ⟨m, rfl, hm1, hm2, he, _⟩ := dyB_lim h1
    simp (disch := omega) only [go_sem, h1]
    refine call_closed (con_isMode mode) (by simp (disch := omega) only [go_sem]) ?_
    rintro r hs ⟨rfl, rfl, _⟩
    refine ⟨by simp [freeN], ?_⟩
    simp (disch := omega) only [go_sem]
    refine ifW_nb (fun h2 => ?_) (fun h2 => ?_)
    · simp (disch := omega) only [go_sem, h2]
      rw [h1, if_neg (by unfold modeB; rw [h2]; simp)]
      exact fin_valc (by simp (disch := omega) only [go_sem]) (by simp (disch := omega) only [go_sem]) isA_mk
    · simp (disch := omega) only [go_sem, h2]
      refine call_open (con_dyexact s m e) (by simp (disch := omega) only [go_sem]) ?_
      rintro r hs ⟨rfl, rfl, _⟩
      refine ⟨by simp [freeN], ?_⟩
      simp (disch := omega) only [go_sem]
      refine call_closed (con_float s m e mode false (by omega) (by omega)) (by simp (disch := omega) only [go_sem]) ?_
      rintro r hs ⟨rfl, rfl, _⟩
      refine ⟨by simp [freeN], ?_⟩
      simp (disch := omega) only [go_sem]
      rw [h1, if_pos (by unfold modeB; rw [h2]; rfl), vl_lim, Int.toNat_natCast]
      exact fin_valc (by simp (disch := omega) only [go_sem]) (by simp (disch := omega) only [go_sem]) isA_mk
  · simp (disch := omega) only [go_sem, h1]
    rw [h1, if_neg (by simp)]
    exact fin_valc (by simp (disch := omega) only [go_sem]) (by simp (disch := omega) only [go_sem]) isA_mk
end Go.Ab
namespace Go.Ab
open Go Go.Proofs
set_option linter.unusedVariables false
set_option linter.unusedSimpArgs false

theorem flB_rng {k : Int} {s : Bool} {m e : Int} (h : flB k s m e = true) : (0 ≤ m ∧ m ≤ 9007199254740991) ∧ (-1074 ≤ e ∧ e ≤ 971) ∧ (0 ≤ k ∧ k ≤ 3) ∧ (k ≠ 1 → m = 0 ∧ e = 0) ∧ (k = 1 → 1 ≤ m) ∧ (k = 3 → s = false) := by
  unfold flB at h
  split at h
  · simp only [Bool.and_eq_true, Bool.or_eq_true, decide_eq_true_eq] at h
    omega
  · split at h
    · simp only [Bool.and_eq_true, decide_eq_true_eq] at h
      omega
    · simp only [Bool.and_eq_true, decide_eq_true_eq, Bool.not_eq_true'] at h
      refine ⟨by omega, by omega, by omega, by omega, by omega, fun _ => h.2⟩

/-- A product of floats. -/
def muS (k1 : Int) (s1 : Bool) (m1 : Int) (k2 : Int) (s2 : Bool) (m2 : Int) : Bool := ((s1 && decide (k1 = 1)) != (s2 && decide (k2 = 1))) && decide (m1.toNat * m2.toNat ≠ 0)
def mulV (k1 : Int) (s1 : Bool) (m1 e1 k2 : Int) (s2 : Bool) (m2 e2 mode : Int) : FlV :=
  if (decide (k1 = 3) || decide (k2 = 3)) = true then ⟨3, false, 0, 0⟩
  else if (decide (k1 = 2) || decide (k2 = 2)) = true then (if (decide (k1 = 0) || decide (k2 = 0)) = true then ⟨3, false, 0, 0⟩ else ⟨2, s1 != s2, 0, 0⟩)
  else flV (muS k1 s1 m1 k2 s2 m2) (m1.toNat * m2.toNat) (e1 + e2) mode (s1 != s2)
def mulG (k1 : Int) (s1 : Bool) (m1 e1 k2 : Int) (s2 : Bool) (m2 e2 mode : Int) : Int :=
  if (decide (k1 = 3) || decide (k2 = 3)) = true then 0
  else if (decide (k1 = 2) || decide (k2 = 2)) = true then (if (decide (k1 = 0) || decide (k2 = 0)) = true then 16 else 0)
  else flG (muS k1 s1 m1 k2 s2 m2) (m1.toNat * m2.toNat) (e1 + e2) mode

theorem con_mul (k1 : Int) (s1 : Bool) (m1 e1 k2 : Int) (s2 : Bool) (m2 e2 mode : Int) (h1 : flB k1 s1 m1 e1 = true) (h2 : flB k2 s2 m2 e2 = true) :
    Con Tryz.prog 73 true [.ag [.v (.int .i64 (k1)), .v (.bool (s1)), .v (.int .i64 (m1)), .v (.int .i64 (e1))], .ag [.v (.int .i64 (k2)), .v (.bool (s2)), .v (.int .i64 (m2)), .v (.int .i64 (e2))], .v (.int .i64 mode)] []
      (isA (.tu [.ag [.v (.int .i64 ((mulV k1 s1 m1 e1 k2 s2 m2 e2 mode).k)), .v (.bool ((mulV k1 s1 m1 e1 k2 s2 m2 e2 mode).s)), .v (.int .i64 ((mulV k1 s1 m1 e1 k2 s2 m2 e2 mode).m)), .v (.int .i64 ((mulV k1 s1 m1 e1 k2 s2 m2 e2 mode).e))], .v (.int .i64 (mulG k1 s1 m1 e1 k2 s2 m2 e2 mode))])) := by
  obtain ⟨a1, a2, a3, a4⟩ := flB_rng h1
  obtain ⟨b1, b2, b3, b4⟩ := flB_rng h2
  obtain ⟨n1, rfl⟩ := Int.eq_ofNat_of_zero_le a1.1
  obtain ⟨n2, rfl⟩ := Int.eq_ofNat_of_zero_le b1.1
  have q1 : bl n1 ≤ 53 := bl_le.2 (by omega)
  have q2 : bl n2 ≤ 53 := bl_le.2 (by omega)
  have q3 := bl_mulle n1 n2
  refine Con.of_aw Tryz.func73 rfl Tryz.ntmps73 (by simp) (by simp) (by simp) (W.sound ?_)
  show @W Tryz.prog 45 ⟨_⟩ ⟨fun x σ => @retW _ _ _ ⟨_⟩ _ ⟨_⟩ x σ⟩ _ _
  simp (disch := omega) only [go_sem]
  refine call_closed (con_hasKind 3 k1 (n1 : Int) e1 k2 (n2 : Int) e2 s1 s2) (by simp (disch := omega) only [go_sem]) ?_
  rintro r hs ⟨rfl, rfl, _⟩
  refine ⟨by simp [freeN], ?_⟩
  simp (disch := omega) only [go_sem]
  refine ifW_b (fun c1 => ?_) (fun c1 => ?_)
  · simp (disch := omega) only [go_sem, c1]
    refine call_closed (con_nan) (by simp (disch := omega) only [go_sem]) ?_
    rintro r hs ⟨rfl, rfl, _⟩
    refine ⟨by simp [freeN], ?_⟩
    simp (disch := omega) only [go_sem]
    unfold mulV mulG
    rw [if_pos c1, if_pos c1]
    exact fin_valc (by simp (disch := omega) only [go_sem]) (by simp (disch := omega) only [go_sem]) isA_mk
  · simp (disch := omega) only [go_sem, c1]
    have c1' : ¬ (decide (k1 = 3) || decide (k2 = 3)) = true := by rw [c1]; simp
    refine call_closed (con_hasKind 2 k1 (n1 : Int) e1 k2 (n2 : Int) e2 s1 s2) (by simp (disch := omega) only [go_sem]) ?_
    rintro r hs ⟨rfl, rfl, _⟩
    refine ⟨by simp [freeN], ?_⟩
    simp (disch := omega) only [go_sem]
    refine ifW_b (fun c2 => ?_) (fun c2 => ?_)
    · simp (disch := omega) only [go_sem, c2]
      refine call_closed (con_hasKind 0 k1 (n1 : Int) e1 k2 (n2 : Int) e2 s1 s2) (by simp (disch := omega) only [go_sem]) ?_
      rintro r hs ⟨rfl, rfl, _⟩
      refine ⟨by simp [freeN], ?_⟩
      simp (disch := omega) only [go_sem]
      refine ifW_b (fun c3 => ?_) (fun c3 => ?_)
      · simp (disch := omega) only [go_sem, c3]
        refine call_closed (con_nan) (by simp (disch := omega) only [go_sem]) ?_
        rintro r hs ⟨rfl, rfl, _⟩
        refine ⟨by simp [freeN], ?_⟩
        simp (disch := omega) only [go_sem]
        unfold mulV mulG
        rw [if_neg c1', if_neg c1', if_pos c2, if_pos c2, if_pos c3, if_pos c3]
        exact fin_valc (by simp (disch := omega) only [go_sem]) (by simp (disch := omega) only [go_sem]) isA_mk
      · simp (disch := omega) only [go_sem, c3]
        have c3' : ¬ (decide (k1 = 0) || decide (k2 = 0)) = true := by rw [c3]; simp
        refine call_closed (con_hasKind 2 k1 (n1 : Int) e1 k2 (n2 : Int) e2 s1 s2) (by simp (disch := omega) only [go_sem]) ?_
        rintro r hs ⟨rfl, rfl, _⟩
        refine ⟨by simp [freeN], ?_⟩
        simp (disch := omega) only [go_sem]
        simp (disch := omega) only [go_sem, c2]
        refine call_closed (con_infinity (s1 != s2)) (by simp (disch := omega) only [go_sem]) ?_
        rintro r hs ⟨rfl, rfl, _⟩
        refine ⟨by simp [freeN], ?_⟩
        simp (disch := omega) only [go_sem]
        unfold mulV mulG
        rw [if_neg c1', if_neg c1', if_pos c2, if_pos c2, if_neg c3', if_neg c3']
        exact fin_valc (by simp (disch := omega) only [go_sem]) (by simp (disch := omega) only [go_sem]) isA_mk
    · have c2' : ¬ (decide (k1 = 2) || decide (k2 = 2)) = true := by rw [c2]; simp
      simp (disch := omega) only [go_sem, c2]
      refine call_closed (con_hasKind 2 k1 (n1 : Int) e1 k2 (n2 : Int) e2 s1 s2) (by simp (disch := omega) only [go_sem]) ?_
      rintro r hs ⟨rfl, rfl, _⟩
      refine ⟨by simp [freeN], ?_⟩
      simp (disch := omega) only [go_sem]
      simp (disch := omega) only [go_sem, c2]
      refine draw_of rfl [⟨0, [], []⟩, ⟨2, [0], []⟩, ⟨5, [0, 2], []⟩, ⟨6, [0, 2], []⟩, ⟨1, [2], []⟩, ⟨3, [], []⟩, ⟨4, [], []⟩, ⟨7, [], []⟩, ⟨8, [], []⟩, ⟨9, [], []⟩, ⟨10, [], []⟩, ⟨11, [], []⟩] (by kernel_rfl) ?_
      simp (disch := omega) only [go_sem]
      refine call_open (con_flexact k1 s1 n1 e1 (by omega)) (by simp (disch := omega) only [go_sem]) ?_
      rintro r hs ⟨rfl, rfl, _⟩
      refine ⟨by simp [freeN], ?_⟩
      simp (disch := omega) only [go_sem]
      refine call_open (con_flexact k2 s2 n2 e2 (by omega)) (by simp (disch := omega) only [go_sem]) ?_
      rintro r hs ⟨rfl, rfl, _⟩
      refine ⟨by simp [freeN], ?_⟩
      simp (disch := omega) only [go_sem]
      refine call_open (con_timesX (s1 && decide (k1 = 1)) n1 e1 (s2 && decide (k2 = 1)) n2 e2 (by omega) (by omega) (by omega) (by omega)) (by simp (disch := omega) only [go_sem]) ?_
      rintro r hs ⟨rfl, rfl, _⟩
      refine ⟨by simp [freeN], ?_⟩
      simp (disch := omega) only [go_sem]
      refine call_closed (con_float (((s1 && decide (k1 = 1)) != (s2 && decide (k2 = 1))) && decide (n1 * n2 ≠ 0)) (n1 * n2) (e1 + e2) mode (s1 != s2) (by omega) (by omega)) (by simp (disch := omega) only [go_sem]) ?_
      rintro r hs ⟨rfl, rfl, _⟩
      refine ⟨by simp [freeN], ?_⟩
      simp (disch := omega) only [go_sem]
      unfold mulV mulG muS
      rw [if_neg c1', if_neg c1', if_neg c2', if_neg c2', Int.toNat_natCast, Int.toNat_natCast]
      exact fin_valc (by simp (disch := omega) only [go_sem]) (by simp (disch := omega) only [go_sem]) isA_mk
end Go.Ab
namespace Go.Ab
set_option linter.unusedVariables false

/-! ### Numbers with a sign -/
/-- A magnitude with its sign. -/
def sv (s : Bool) (m : Nat) : Int := if s = true then -(m : Int) else (m : Int)

theorem sv_abs (s : Bool) (m : Nat) : (sv s m).natAbs = m := by unfold sv; split <;> omega
theorem sv_zero (s : Bool) : sv s 0 = 0 := by unfold sv; split <;> rfl
theorem sv_mk (z : Int) : sv (decide (z < 0)) z.natAbs = z := by
  unfold sv; split
  · rename_i h; simp only [decide_eq_true_eq] at h; omega
  · rename_i h; simp only [decide_eq_true_eq] at h; omega
theorem sv_mul (s : Bool) (m k : Nat) : sv s (m * k) = sv s m * (k : Int) := by
  unfold sv; split
  · rw [Int.natCast_mul, Int.neg_mul]
  · rw [Int.natCast_mul]
theorem sv_and (s : Bool) (m : Nat) : sv (s && decide (m ≠ 0)) m = sv s m := by
  by_cases h : m = 0
  · subst h; rw [sv_zero, sv_zero]
  · rw [decide_eq_true h, Bool.and_true]
theorem sv_oS (s : Bool) (m : Nat) : sv (oS s m) m = sv s m := by
  unfold oS
  by_cases h : m = 0
  · subst h; rw [sv_zero, sv_zero]
  · rw [if_neg h]
theorem sv_ne (s1 : Bool) (m1 : Nat) (s2 : Bool) (m2 : Nat) : sv (s1 != s2) (m1 * m2) = sv s1 m1 * sv s2 m2 := by
  cases s1 <;> cases s2 <;> simp [sv, Int.natCast_mul, Int.neg_mul, Int.mul_neg]
theorem sv_lt {s : Bool} {m : Nat} (h : m ≠ 0) : decide (sv s m < 0) = s := by
  cases s <;> simp [sv] <;> omega
/-- The number times 2^K. -/
def dv (K : Nat) (s : Bool) (m : Nat) (e : Int) : Int := sv s m * 2 ^ (e + K).toNat

theorem dv_inj {K : Nat} {s : Bool} {m : Nat} {e : Int} {s' : Bool} {m' : Nat} {e' : Int} (h0 : m ≠ 0) (he : -(K : Int) ≤ e) (he' : -(K : Int) ≤ e') (h : dv K s m e = dv K s' m' e') :
    s = s' ∧ oM m = oM m' ∧ oE m e = oE m' e' ∧ m' ≠ 0 := by
  unfold dv at h
  obtain ⟨a, ha⟩ : ∃ a, a = (e + K).toNat := ⟨_, rfl⟩
  obtain ⟨a', ha'⟩ : ∃ a, a = (e' + K).toNat := ⟨_, rfl⟩
  rw [← ha, ← ha'] at h
  have habs : m * 2 ^ a = m' * 2 ^ a' := by
    have := congrArg Int.natAbs h
    rw [Int.natAbs_mul, Int.natAbs_mul, sv_abs, sv_abs, Int.natAbs_pow, Int.natAbs_pow] at this
    exact this
  have hp : 0 < 2 ^ a := Nat.pow_pos (by omega)
  have h1 : 0 < m * 2 ^ a := Nat.mul_pos (by omega) hp
  have h0' : m' ≠ 0 := fun e => by rw [habs, e, Nat.zero_mul] at h1; omega
  have hM : oM m = oM m' := by rw [← @oM_pow m a, habs, oM_pow]
  have hT : tz m + a = tz m' + a' := by rw [← tz_mul_pow h0, habs, tz_mul_pow h0']
  refine ⟨?_, hM, ?_, h0'⟩
  · have e1 : sv s m * 2 ^ a = sv s (m * 2 ^ a) := by rw [sv_mul, Int.natCast_pow]; rfl
    have e2 : sv s' m' * 2 ^ a' = sv s' (m' * 2 ^ a') := by rw [sv_mul, Int.natCast_pow]; rfl
    rw [e1, e2, ← habs] at h
    rw [← sv_lt (s := s) (m := m * 2 ^ a) (by omega), h, sv_lt (by omega)]
  · unfold oE; rw [if_neg h0, if_neg h0']; omega

theorem dv_zero {K : Nat} {s : Bool} {e : Int} : dv K s 0 e = 0 := by unfold dv; rw [sv_zero, Int.zero_mul]
theorem dv_eq_zero {K : Nat} {s : Bool} {m : Nat} {e : Int} : dv K s m e = 0 ↔ m = 0 := by
  refine ⟨fun h => ?_, fun h => by rw [h, dv_zero]⟩
  unfold dv at h
  rcases Int.mul_eq_zero.1 h with h | h
  · rw [← sv_abs s m, h]; rfl
  · have : (0 : Int) < 2 ^ (e + K).toNat := Int.pow_pos (by omega)
    omega

theorem dv_oS (K : Nat) (s : Bool) (m : Nat) (e : Int) : dv K (oS s m) m e = dv K s m e := by unfold dv; rw [sv_oS]
theorem dv_and (K : Nat) (s : Bool) (m : Nat) (e : Int) : dv K (s && decide (m ≠ 0)) m e = dv K s m e := by unfold dv; rw [sv_and]

theorem dv_norm {K : Nat} {s : Bool} {m : Nat} {e : Int} (he : -(K : Int) ≤ e) : dv K s (oM m) (oE m e) = dv K s m e := by
  by_cases h : m = 0
  · subst h; rw [oM_zero, dv_zero, dv_zero]
  · unfold dv oE
    rw [if_neg h]
    have e1 : (e + (tz m : Int) + K).toNat = tz m + (e + K).toNat := by omega
    conv => rhs; rw [← @oM_mul m]
    rw [e1, Int.pow_add, sv_mul, Int.natCast_pow, Int.mul_assoc]; rfl

theorem oE_ge {K : Int} {m : Nat} {e : Int} (h : -K ≤ e) (h0 : 0 ≤ K) : -K ≤ oE m e := by unfold oE; split <;> omega

theorem dv_mul {K K' : Nat} {s s' : Bool} {m m' : Nat} {e e' : Int} (he : -(K : Int) ≤ e) (he' : -(K' : Int) ≤ e') : dv (K + K') (s != s') (m * m') (e + e') = dv K s m e * dv K' s' m' e' := by
  unfold dv
  have e1 : (e + e' + ((K + K' : Nat) : Int)).toNat = (e + K).toNat + (e' + K').toNat := by omega
  rw [e1, Int.pow_add, sv_ne]
  simp only [Int.mul_assoc, Int.mul_left_comm]

/-! ### Sums -/
def suM (s1 : Bool) (m1 : Nat) (s2 : Bool) (m2 : Nat) : Nat := (sv s1 m1 + sv s2 m2).natAbs
def suS (s1 : Bool) (m1 : Nat) (s2 : Bool) (m2 : Nat) : Bool := decide (sv s1 m1 + sv s2 m2 < 0)
/-- The sign that a sum is given, whatever its magnitude. -/
def sgS (s1 : Bool) (m1 : Nat) (s2 : Bool) (m2 : Nat) : Bool := if s1 = s2 then s1 else if m2 ≤ m1 then s1 else s2

theorem suM_same (s : Bool) (m1 m2 : Nat) : suM s m1 s m2 = m1 + m2 := by unfold suM sv; split <;> omega
theorem suM_ge {s1 s2 : Bool} {m1 m2 : Nat} (h : s1 ≠ s2) (hm : m2 ≤ m1) : suM s1 m1 s2 m2 = m1 - m2 := by
  cases s1 <;> cases s2 <;> simp [suM, sv] at * <;> omega
theorem suM_lt {s1 s2 : Bool} {m1 m2 : Nat} (h : s1 ≠ s2) (hm : ¬ m2 ≤ m1) : suM s1 m1 s2 m2 = m2 - m1 := by
  cases s1 <;> cases s2 <;> simp [suM, sv] at * <;> omega
theorem sgS_same (s : Bool) (m1 m2 : Nat) : sgS s m1 s m2 = s := by unfold sgS; rw [if_pos rfl]
theorem sgS_ge {s1 s2 : Bool} {m1 m2 : Nat} (h : s1 ≠ s2) (hm : m2 ≤ m1) : sgS s1 m1 s2 m2 = s1 := by unfold sgS; rw [if_neg h, if_pos hm]
theorem sgS_lt {s1 s2 : Bool} {m1 m2 : Nat} (h : s1 ≠ s2) (hm : ¬ m2 ≤ m1) : sgS s1 m1 s2 m2 = s2 := by unfold sgS; rw [if_neg h, if_neg hm]
theorem sgS_and (s1 : Bool) (m1 : Nat) (s2 : Bool) (m2 : Nat) : (sgS s1 m1 s2 m2 && decide (suM s1 m1 s2 m2 ≠ 0)) = suS s1 m1 s2 m2 := by
  rw [Bool.eq_iff_iff]
  simp only [Bool.and_eq_true, decide_eq_true_eq, suS]
  unfold sgS suM
  cases s1 <;> cases s2 <;> simp [sv]
  all_goals omega
theorem suM_le (s1 : Bool) (m1 : Nat) (s2 : Bool) (m2 : Nat) : suM s1 m1 s2 m2 ≤ m1 + m2 := by unfold suM sv; split <;> split <;> omega
theorem bl_add {a b B : Nat} (ha : bl a ≤ B) (hb : bl b ≤ B) : bl (a + b) ≤ B + 1 := by
  have h1 := bl_le.1 ha
  have h2 := bl_le.1 hb
  refine bl_le.2 ?_
  rw [Nat.pow_succ]; omega
theorem bl_suM {s1 : Bool} {m1 : Nat} {s2 : Bool} {m2 B : Nat} (h1 : bl m1 ≤ B) (h2 : bl m2 ≤ B) : bl (suM s1 m1 s2 m2) ≤ B + 1 :=
  Nat.le_trans (bl_mono (suM_le _ _ _ _)) (bl_add h1 h2)

/-- The power of two that a sum is told in. -/
def alE (m1 : Nat) (e1 : Int) (m2 : Nat) (e2 : Int) : Int := if m2 = 0 then e1 else if m1 = 0 then e2 else if e2 < e1 then e2 else e1
def alA (m : Nat) (e E : Int) : Nat := m * 2 ^ (e - E).toNat
def adM (s1 : Bool) (m1 : Nat) (e1 : Int) (s2 : Bool) (m2 : Nat) (e2 : Int) : Nat := suM s1 (alA m1 e1 (alE m1 e1 m2 e2)) s2 (alA m2 e2 (alE m1 e1 m2 e2))
def adS (s1 : Bool) (m1 : Nat) (e1 : Int) (s2 : Bool) (m2 : Nat) (e2 : Int) : Bool := suS s1 (alA m1 e1 (alE m1 e1 m2 e2)) s2 (alA m2 e2 (alE m1 e1 m2 e2))

theorem alE_ge {K : Int} {m1 : Nat} {e1 : Int} {m2 : Nat} {e2 : Int} (h1 : K ≤ e1) (h2 : K ≤ e2) : K ≤ alE m1 e1 m2 e2 := by
  unfold alE
  repeat' split
  all_goals omega
theorem alE_le {K : Int} {m1 : Nat} {e1 : Int} {m2 : Nat} {e2 : Int} (h1 : e1 ≤ K) (h2 : e2 ≤ K) : alE m1 e1 m2 e2 ≤ K := by
  unfold alE
  repeat' split
  all_goals omega
theorem alA_dv {K : Nat} {s : Bool} {m : Nat} {e E : Int} (hE : -(K : Int) ≤ E) (h : m ≠ 0 → E ≤ e) : sv s (alA m e E) * 2 ^ (E + K).toNat = dv K s m e := by
  by_cases h0 : m = 0
  · subst h0; unfold alA; rw [Nat.zero_mul, sv_zero, dv_zero, Int.zero_mul]
  · have := h h0
    unfold alA dv
    have e1 : (e + K).toNat = (e - E).toNat + (E + K).toNat := by omega
    rw [e1, Int.pow_add, sv_mul, Int.natCast_pow, Int.mul_assoc]; rfl
theorem bl_alA {m B : Nat} {e E : Int} {C : Nat} (h : bl m ≤ B) (hk : e - E ≤ C) : bl (alA m e E) ≤ B + C := by
  have := bl_up m (e - E).toNat
  unfold alA; omega
theorem ad_dv {K : Nat} {s1 : Bool} {m1 : Nat} {e1 : Int} {s2 : Bool} {m2 : Nat} {e2 : Int} (h1 : -(K : Int) ≤ e1) (h2 : -(K : Int) ≤ e2) :
    dv K (adS s1 m1 e1 s2 m2 e2) (adM s1 m1 e1 s2 m2 e2) (alE m1 e1 m2 e2) = dv K s1 m1 e1 + dv K s2 m2 e2 := by
  have hE : -(K : Int) ≤ alE m1 e1 m2 e2 := alE_ge h1 h2
  have g1 : m1 ≠ 0 → alE m1 e1 m2 e2 ≤ e1 := fun h => by
    unfold alE
    repeat' split
    all_goals omega
  have g2 : m2 ≠ 0 → alE m1 e1 m2 e2 ≤ e2 := fun h => by
    unfold alE
    repeat' split
    all_goals omega
  rw [← alA_dv hE g1, ← alA_dv hE g2, ← Int.add_mul]
  show sv (adS s1 m1 e1 s2 m2 e2) (adM s1 m1 e1 s2 m2 e2) * _ = _
  unfold adS adM suS suM
  rw [sv_mk]
end Go.Ab
namespace Go.Ab
set_option linter.unusedVariables false

/-- The same number is rounded to the same float. -/
theorem flV_same {K : Nat} {s : Bool} {m : Nat} {e : Int} {s' : Bool} {m' : Nat} {e' : Int} (mode : Int) (z : Bool) (he : -(K : Int) ≤ e) (he' : -(K : Int) ≤ e') (h : dv K s m e = dv K s' m' e') :
    flV s m e mode z = flV s' m' e' mode z ∧ flG s m e mode = flG s' m' e' mode := by
  by_cases h0 : m = 0
  · have h0' : m' = 0 := by rw [h0, dv_zero] at h; exact dv_eq_zero.1 h.symm
    unfold flV flG; rw [if_pos h0, if_pos h0, if_pos h0', if_pos h0']; exact ⟨rfl, rfl⟩
  · obtain ⟨rfl, hM, hE, _⟩ := dv_inj h0 he he' h
    rw [← (flV_norm s m e mode z).1, ← (flV_norm s m e mode z).2, hM, hE, (flV_norm s m' e' mode z).1, (flV_norm s m' e' mode z).2]
    exact ⟨rfl, rfl⟩

/-! ### Sums of floats -/
def ngS (k : Int) (s : Bool) : Bool := if k = 3 then s else !s
def xS (k : Int) (s : Bool) : Bool := s && decide (k = 1)
def adZ (k1 : Int) (s1 : Bool) (k2 : Int) (s2 : Bool) (mode : Int) : Bool := if k1 = 0 ∧ k2 = 0 ∧ s1 = s2 then s1 else decide (mode = 3)
def addV (k1 : Int) (s1 : Bool) (m1 e1 k2 : Int) (s2 : Bool) (m2 e2 mode : Int) : FlV :=
  if k1 = 3 ∨ k2 = 3 then ⟨3, false, 0, 0⟩
  else if k1 = 2 ∧ k2 = 2 ∧ s1 ≠ s2 then ⟨3, false, 0, 0⟩
  else if k1 = 2 then ⟨k1, s1, m1, e1⟩
  else if k2 = 2 then ⟨k2, s2, m2, e2⟩
  else flV (adS (xS k1 s1) m1.toNat e1 (xS k2 s2) m2.toNat e2) (adM (xS k1 s1) m1.toNat e1 (xS k2 s2) m2.toNat e2) (alE m1.toNat e1 m2.toNat e2) mode (adZ k1 s1 k2 s2 mode)
def addG (k1 : Int) (s1 : Bool) (m1 e1 k2 : Int) (s2 : Bool) (m2 e2 mode : Int) : Int :=
  if k1 = 3 ∨ k2 = 3 then 0
  else if k1 = 2 ∧ k2 = 2 ∧ s1 ≠ s2 then 16
  else if k1 = 2 then 0
  else if k2 = 2 then 0
  else flG (adS (xS k1 s1) m1.toNat e1 (xS k2 s2) m2.toNat e2) (adM (xS k1 s1) m1.toNat e1 (xS k2 s2) m2.toNat e2) (alE m1.toNat e1 m2.toNat e2) mode

section
variable {k1 : Int} {s1 : Bool} {m1 e1 k2 : Int} {s2 : Bool} {m2 e2 mode : Int}
theorem addV_nan (h : k1 = 3 ∨ k2 = 3) : addV k1 s1 m1 e1 k2 s2 m2 e2 mode = ⟨3, false, 0, 0⟩ ∧ addG k1 s1 m1 e1 k2 s2 m2 e2 mode = 0 := by
  unfold addV addG; rw [if_pos h, if_pos h]; exact ⟨rfl, rfl⟩
theorem addV_bad (h1 : k1 = 2) (h2 : k2 = 2) (hs : s1 ≠ s2) : addV k1 s1 m1 e1 k2 s2 m2 e2 mode = ⟨3, false, 0, 0⟩ ∧ addG k1 s1 m1 e1 k2 s2 m2 e2 mode = 16 := by
  have h0 : ¬ (k1 = 3 ∨ k2 = 3) := by omega
  unfold addV addG; rw [if_neg h0, if_neg h0, if_pos ⟨h1, h2, hs⟩, if_pos ⟨h1, h2, hs⟩]; exact ⟨rfl, rfl⟩
theorem addV_inf1 (h1 : k1 = 2) (h2 : k2 ≠ 3) (hs : k2 = 2 → s1 = s2) : addV k1 s1 m1 e1 k2 s2 m2 e2 mode = ⟨k1, s1, m1, e1⟩ ∧ addG k1 s1 m1 e1 k2 s2 m2 e2 mode = 0 := by
  have h : ¬ (k1 = 2 ∧ k2 = 2 ∧ s1 ≠ s2) := fun ⟨_, a, b⟩ => b (hs a)
  have h0 : ¬ (k1 = 3 ∨ k2 = 3) := by omega
  unfold addV addG; rw [if_neg h0, if_neg h0, if_neg h, if_neg h, if_pos h1, if_pos h1]; exact ⟨rfl, rfl⟩
theorem addV_inf2 (h1 : k1 ≠ 3) (h1' : k1 ≠ 2) (h2 : k2 = 2) : addV k1 s1 m1 e1 k2 s2 m2 e2 mode = ⟨k2, s2, m2, e2⟩ ∧ addG k1 s1 m1 e1 k2 s2 m2 e2 mode = 0 := by
  have h : ¬ (k1 = 2 ∧ k2 = 2 ∧ s1 ≠ s2) := fun ⟨a, _⟩ => h1' a
  have h0 : ¬ (k1 = 3 ∨ k2 = 3) := by omega
  unfold addV addG; rw [if_neg h0, if_neg h0, if_neg h, if_neg h, if_neg h1', if_neg h1', if_pos h2, if_pos h2]; exact ⟨rfl, rfl⟩
theorem addV_fin (h1 : k1 ≠ 3) (h1' : k1 ≠ 2) (h2 : k2 ≠ 3) (h2' : k2 ≠ 2) :
    addV k1 s1 m1 e1 k2 s2 m2 e2 mode = flV (adS (xS k1 s1) m1.toNat e1 (xS k2 s2) m2.toNat e2) (adM (xS k1 s1) m1.toNat e1 (xS k2 s2) m2.toNat e2) (alE m1.toNat e1 m2.toNat e2) mode (adZ k1 s1 k2 s2 mode) ∧
    addG k1 s1 m1 e1 k2 s2 m2 e2 mode = flG (adS (xS k1 s1) m1.toNat e1 (xS k2 s2) m2.toNat e2) (adM (xS k1 s1) m1.toNat e1 (xS k2 s2) m2.toNat e2) (alE m1.toNat e1 m2.toNat e2) mode := by
  have h : ¬ (k1 = 2 ∧ k2 = 2 ∧ s1 ≠ s2) := fun ⟨a, _⟩ => h1' a
  have h0 : ¬ (k1 = 3 ∨ k2 = 3) := by omega
  unfold addV addG; rw [if_neg h0, if_neg h0, if_neg h, if_neg h, if_neg h1', if_neg h1', if_neg h2', if_neg h2']; exact ⟨rfl, rfl⟩
end

/-! ### A product and a sum -/
def fmZ (k1 : Int) (s1 : Bool) (k2 : Int) (s2 : Bool) (k3 : Int) (s3 : Bool) (mode : Int) : Bool := if (k1 = 0 ∨ k2 = 0) ∧ k3 = 0 ∧ s3 = (s1 != s2) then s3 else decide (mode = 3)
def fmaV (k1 : Int) (s1 : Bool) (m1 e1 k2 : Int) (s2 : Bool) (m2 e2 k3 : Int) (s3 : Bool) (m3 e3 mode : Int) : FlV :=
  if k1 = 3 ∨ k2 = 3 then ⟨3, false, 0, 0⟩
  else if k1 = 2 ∨ k2 = 2 then (if k1 = 0 ∨ k2 = 0 then ⟨3, false, 0, 0⟩ else addV 2 (s1 != s2) 0 0 k3 s3 m3 e3 mode)
  else if k3 = 2 ∨ k3 = 3 then ⟨k3, s3, m3, e3⟩
  else flV (adS (muS k1 s1 m1 k2 s2 m2) (m1.toNat * m2.toNat) (e1 + e2) (xS k3 s3) m3.toNat e3) (adM (muS k1 s1 m1 k2 s2 m2) (m1.toNat * m2.toNat) (e1 + e2) (xS k3 s3) m3.toNat e3) (alE (m1.toNat * m2.toNat) (e1 + e2) m3.toNat e3) mode (fmZ k1 s1 k2 s2 k3 s3 mode)
def fmaG (k1 : Int) (s1 : Bool) (m1 e1 k2 : Int) (s2 : Bool) (m2 e2 k3 : Int) (s3 : Bool) (m3 e3 mode : Int) : Int :=
  if k1 = 3 ∨ k2 = 3 then 0
  else if k1 = 2 ∨ k2 = 2 then (if k1 = 0 ∨ k2 = 0 then 16 else addG 2 (s1 != s2) 0 0 k3 s3 m3 e3 mode)
  else if k3 = 2 ∨ k3 = 3 then 0
  else flG (adS (muS k1 s1 m1 k2 s2 m2) (m1.toNat * m2.toNat) (e1 + e2) (xS k3 s3) m3.toNat e3) (adM (muS k1 s1 m1 k2 s2 m2) (m1.toNat * m2.toNat) (e1 + e2) (xS k3 s3) m3.toNat e3) (alE (m1.toNat * m2.toNat) (e1 + e2) m3.toNat e3) mode

section
variable {k1 : Int} {s1 : Bool} {m1 e1 k2 : Int} {s2 : Bool} {m2 e2 k3 : Int} {s3 : Bool} {m3 e3 mode : Int}
theorem fmaV_nan (h : k1 = 3 ∨ k2 = 3) : fmaV k1 s1 m1 e1 k2 s2 m2 e2 k3 s3 m3 e3 mode = ⟨3, false, 0, 0⟩ ∧ fmaG k1 s1 m1 e1 k2 s2 m2 e2 k3 s3 m3 e3 mode = 0 := by
  unfold fmaV fmaG; rw [if_pos h, if_pos h]; exact ⟨rfl, rfl⟩
theorem fmaV_bad (h0 : ¬ (k1 = 3 ∨ k2 = 3)) (h1 : k1 = 2 ∨ k2 = 2) (h2 : k1 = 0 ∨ k2 = 0) : fmaV k1 s1 m1 e1 k2 s2 m2 e2 k3 s3 m3 e3 mode = ⟨3, false, 0, 0⟩ ∧ fmaG k1 s1 m1 e1 k2 s2 m2 e2 k3 s3 m3 e3 mode = 16 := by
  unfold fmaV fmaG; rw [if_neg h0, if_neg h0, if_pos h1, if_pos h1, if_pos h2, if_pos h2]; exact ⟨rfl, rfl⟩
theorem fmaV_inf (h0 : ¬ (k1 = 3 ∨ k2 = 3)) (h1 : k1 = 2 ∨ k2 = 2) (h2 : ¬ (k1 = 0 ∨ k2 = 0)) : fmaV k1 s1 m1 e1 k2 s2 m2 e2 k3 s3 m3 e3 mode = addV 2 (s1 != s2) 0 0 k3 s3 m3 e3 mode ∧ fmaG k1 s1 m1 e1 k2 s2 m2 e2 k3 s3 m3 e3 mode = addG 2 (s1 != s2) 0 0 k3 s3 m3 e3 mode := by
  unfold fmaV fmaG; rw [if_neg h0, if_neg h0, if_pos h1, if_pos h1, if_neg h2, if_neg h2]; exact ⟨rfl, rfl⟩
theorem fmaV_c (h0 : ¬ (k1 = 3 ∨ k2 = 3)) (h1 : ¬ (k1 = 2 ∨ k2 = 2)) (h2 : k3 = 2 ∨ k3 = 3) : fmaV k1 s1 m1 e1 k2 s2 m2 e2 k3 s3 m3 e3 mode = ⟨k3, s3, m3, e3⟩ ∧ fmaG k1 s1 m1 e1 k2 s2 m2 e2 k3 s3 m3 e3 mode = 0 := by
  unfold fmaV fmaG; rw [if_neg h0, if_neg h0, if_neg h1, if_neg h1, if_pos h2, if_pos h2]; exact ⟨rfl, rfl⟩
theorem fmaV_fin (h0 : ¬ (k1 = 3 ∨ k2 = 3)) (h1 : ¬ (k1 = 2 ∨ k2 = 2)) (h2 : ¬ (k3 = 2 ∨ k3 = 3)) : fmaV k1 s1 m1 e1 k2 s2 m2 e2 k3 s3 m3 e3 mode = flV (adS (muS k1 s1 m1 k2 s2 m2) (m1.toNat * m2.toNat) (e1 + e2) (xS k3 s3) m3.toNat e3) (adM (muS k1 s1 m1 k2 s2 m2) (m1.toNat * m2.toNat) (e1 + e2) (xS k3 s3) m3.toNat e3) (alE (m1.toNat * m2.toNat) (e1 + e2) m3.toNat e3) mode (fmZ k1 s1 k2 s2 k3 s3 mode) ∧ fmaG k1 s1 m1 e1 k2 s2 m2 e2 k3 s3 m3 e3 mode = flG (adS (muS k1 s1 m1 k2 s2 m2) (m1.toNat * m2.toNat) (e1 + e2) (xS k3 s3) m3.toNat e3) (adM (muS k1 s1 m1 k2 s2 m2) (m1.toNat * m2.toNat) (e1 + e2) (xS k3 s3) m3.toNat e3) (alE (m1.toNat * m2.toNat) (e1 + e2) m3.toNat e3) mode := by
  unfold fmaV fmaG; rw [if_neg h0, if_neg h0, if_neg h1, if_neg h1, if_neg h2, if_neg h2]; exact ⟨rfl, rfl⟩
end
end Go.Ab
namespace Go.Ab
open Go Go.Proofs
set_option linter.unusedVariables false
set_option linter.unusedSimpArgs false

theorem con_minus (cl : Bool) (A B : List Int) (hA : gd A) (hB : gd B) (lA : A.length ≤ 1000000) (lB : B.length ≤ A.length) (hle : vl B ≤ vl A) :
    Con Tryz.prog 141 cl [.sl A.length (ints A), .sl B.length (ints B)] [] (numR (lim (vl A - vl B).toNat)) := by
  refine Con.of_aw Tryz.func141 rfl Tryz.ntmps141 (by simp) (by simp) (by simp) (W.sound ?_)
  show @W Tryz.prog 43 ⟨_⟩ ⟨fun x σ => @retW _ _ _ ⟨_⟩ _ ⟨_⟩ x σ⟩ _ _
  simp (disch := omega) only [go_sem]
  refine ⟨by omega, ?_⟩
  refine loop_intro (fun x : Nat × List Int × Int => [(1, .sl B.length (ints B)), (5, .rf 1 0 x.2.1.length), (6, .v (.int .i64 x.2.2)), (12, .sl A.length (ints A)), (13, .v (.int .i64 A.length)), (14, .v (.int .i64 x.1))])
    (fun x => [(1, .own 1 (ints x.2.1))])
    (fun x => x.1 ≤ A.length ∧ x.2.1.length = x.1 ∧ gd x.2.1 ∧ (0 ≤ x.2.2 ∧ x.2.2 ≤ 1) ∧ vl x.2.1 - 65536 ^ x.1 * x.2.2 = vl (A.take x.1) - vl (B.take x.1))
    (fun x => A.length - x.1) (0, [], 0) ⟨by simp, rfl, gd_nil, by simp, by simp [vl]⟩
    (Le.lst [(1, 130000000)] _ _ rfl (by simp (disch := omega) only [go_sem]) (by simp (disch := omega) only [go_sem])) ?_
  rintro ⟨i, out, bo⟩ ⟨hi, hol, hog, hbo, hov⟩
  dsimp only at hi hol hog hbo hov ⊢
  simp (disch := omega) only [go_sem]
  refine ifW_dec (fun h1 => ?_) (fun h1 => ?_)
  · have hx := gd_getD hA i
    have hy := gd_getD hB i
    have hstep : ∀ z b : Int, A.getD i 0 - bo - B.getD i 0 = z - 65536 * b → vl (out ++ [z]) - 65536 ^ (i + 1) * b = vl (A.take (i + 1)) - vl (B.take (i + 1)) := by
      intro z b hz
      rw [vl_snoc, vl_take_any, vl_take_any, hol, Int.pow_succ]
      generalize (65536 : Int) ^ i = Pi at *
      grind
    have hyz : ¬ i < B.length → B.getD i 0 = 0 := fun h => by rw [List.getD_eq_getElem?_getD, List.getElem?_eq_none (by omega)]; rfl
    simp (disch := omega) only [go_sem, h1]
    refine ⟨by omega, by omega, ifW_dec (fun h2 => ?_) (fun h2 => ?_)⟩
    · simp (disch := omega) only [go_sem, h2]
      refine ⟨by omega, by omega, ifW_dec (fun h3 => ?_) (fun h3 => ?_)⟩
      · simp (disch := omega) only [go_sem, h3]
        refine ⟨by omega, next_intro (i + 1, out ++ [A.getD i 0 - bo - B.getD i 0 + 65536], 1) [(1, 410000000)] ⟨by show i + 1 ≤ _; omega, by simp [hol], gd_append.2 ⟨hog, gd_one.2 (by omega)⟩, by simp, hstep (A.getD i 0 - bo - B.getD i 0 + 65536) 1 (by omega)⟩ (by show A.length - (i + 1) < A.length - i; omega) rfl (by simp (disch := omega) only [go_sem, List.length_append]; try omega) (by simp (disch := omega) only [go_sem])⟩
      · simp (disch := omega) only [go_sem, h3]
        refine ⟨by omega, next_intro (i + 1, out ++ [A.getD i 0 - bo - B.getD i 0], 0) [(1, 410000000)] ⟨by show i + 1 ≤ _; omega, by simp [hol], gd_append.2 ⟨hog, gd_one.2 (by omega)⟩, by simp, hstep (A.getD i 0 - bo - B.getD i 0) 0 (by omega)⟩ (by show A.length - (i + 1) < A.length - i; omega) rfl (by simp (disch := omega) only [go_sem, List.length_append]; try omega) (by simp (disch := omega) only [go_sem])⟩
    · simp (disch := omega) only [go_sem, h2]
      refine ifW_dec (fun h3 => ?_) (fun h3 => ?_)
      · simp (disch := omega) only [go_sem, h3]
        have hy0 := hyz (by omega)
        refine ⟨by omega, next_intro (i + 1, out ++ [A.getD i 0 - bo + 65536], 1) [(1, 410000000)] ⟨by show i + 1 ≤ _; omega, by simp [hol], gd_append.2 ⟨hog, gd_one.2 (by omega)⟩, by simp, hstep (A.getD i 0 - bo + 65536) 1 (by omega)⟩ (by show A.length - (i + 1) < A.length - i; omega) rfl (by simp (disch := omega) only [go_sem, List.length_append]; try omega) (by simp (disch := omega) only [go_sem])⟩
      · simp (disch := omega) only [go_sem, h3]
        have hy0 := hyz (by omega)
        refine ⟨by omega, next_intro (i + 1, out ++ [A.getD i 0 - bo], 0) [(1, 410000000)] ⟨by show i + 1 ≤ _; omega, by simp [hol], gd_append.2 ⟨hog, gd_one.2 (by omega)⟩, by simp, hstep (A.getD i 0 - bo) 0 (by omega)⟩ (by show A.length - (i + 1) < A.length - i; omega) rfl (by simp (disch := omega) only [go_sem, List.length_append]; try omega) (by simp (disch := omega) only [go_sem])⟩
  · simp (disch := omega) only [go_sem, h1]
    have hiA : i = A.length := by omega
    subst hiA
    rw [List.take_length, List.take_of_length_le lB] at hov
    have hb0 : bo = 0 := by
      have h2 := vl_lt hog
      rw [hol] at h2
      rcases (by omega : bo = 0 ∨ bo = 1) with h | h
      · exact h
      · subst h; omega
    subst hb0
    have hov2 : vl out = vl A - vl B := by omega
    refine call_lend false [1] (con_trim out (by omega)) (by simp (disch := omega) only [go_sem]) (by simp (disch := omega) only [go_sem]) rfl (lend_cons (z := 1) (cs := ints out) (by simp (disch := omega) only [go_sem]) (by simp (disch := omega) only [go_sem])) (by intro n hn; exact ⟨_, List.mem_singleton.2 rfl, by rw [List.mem_singleton.1 hn]; rfl⟩) ?_
    rintro r hs bs ⟨rfl, rfl, rfl⟩ _
    refine ⟨by simp [freeN], ?_⟩
    simp (disch := omega) only [go_sem]
    obtain ⟨z, hz⟩ := cutZ_pre out
    have hc := cutZ_lim hog
    rw [hov2] at hc
    rw [hc] at hz ⊢
    refine fin_intro [(0, 1)] [.own 1 (ints out)] [] [.rf 0 0 (lim (vl A - vl B).toNat).length] rfl (by simp (disch := omega) only [go_sem]) (by simp (disch := omega) only [go_sem]) (by simp) (by intro _; simp [tupA, AV.pu, AV.pu.puL, Ob.pu, pu_ints]) (.inr ⟨List.replicate z 0, rfl, by rw [← hz]⟩)
end Go.Ab
namespace Go.Ab
open Go Go.Proofs
set_option linter.unusedVariables false
set_option linter.unusedSimpArgs false

theorem con_minusN (a b : Nat) (h : b ≤ a) (la : (lim a).length ≤ 1000000) : Con Tryz.prog 141 false [.sl (lim (a)).length (ints (lim (a))), .sl (lim (b)).length (ints (lim (b)))] [] (numF (lim (a - b))) := by
  have := (con_minus false (lim a) (lim b) (gd_lim a) (gd_lim b) la (lim_mono h) (by rw [vl_lim, vl_lim]; omega)).num
  rwa [toN_sub] at this

theorem con_signedSum (s1 : Bool) (m1 : Nat) (s2 : Bool) (m2 : Nat) (l1 : (lim m1).length ≤ 1000000) (l2 : (lim m2).length ≤ 1000000) :
    Con Tryz.prog 116 false [.v (.bool s1), .sl (lim (m1)).length (ints (lim (m1))), .v (.bool s2), .sl (lim (m2)).length (ints (lim (m2)))] [] (isA (.tu [.v (.bool (sgS s1 m1 s2 m2)), .sl (lim (suM s1 m1 s2 m2)).length (ints (lim (suM s1 m1 s2 m2)))])) := by
  refine Con.frzA ?_
  have hge : (0 ≤ cmpI (m1 : Int) (m2 : Int)) ↔ m2 ≤ m1 := by rw [cmp_pos.2.2]; omega
  refine Con.of_aw Tryz.func116 rfl Tryz.ntmps116 (by simp) (by simp) (by simp) (W.sound ?_)
  show @W Tryz.prog 31 ⟨_⟩ ⟨fun x σ => @retW _ _ _ ⟨_⟩ _ ⟨_⟩ x σ⟩ _ _
  simp (disch := omega) only [go_sem]
  refine ifW_b (fun h1 => ?_) (fun h1 => ?_)
  · have h1' : s1 = s2 := by simpa using h1
    simp (disch := omega) only [go_sem, h1]
    subst h1'
    refine call_open (con_plusN m1 m2 (by omega) (by omega)) (by simp (disch := omega) only [go_sem]) ?_
    rintro r hs ⟨rfl, rfl, _⟩
    refine ⟨by simp [freeN], ?_⟩
    simp (disch := omega) only [go_sem]
    refine fin_val (by simp (disch := omega) only [go_sem]) ?_
    show snap _ 6 _ = _
    rw [sgS_same, suM_same]
    simp (disch := omega) only [go_sem]
  · have h1' : s1 ≠ s2 := by simpa using h1
    simp (disch := omega) only [go_sem, h1]
    refine call_closed (con_compare m1 m2 (by omega) (by omega)) (by simp (disch := omega) only [go_sem]) ?_
    rintro r hs ⟨rfl, rfl, _⟩
    refine ⟨by simp [freeN], ?_⟩
    simp (disch := omega) only [go_sem]
    refine ifW_dec (fun h2 => ?_) (fun h2 => ?_)
    · have h2' : m2 ≤ m1 := hge.1 (by omega)
      simp (disch := omega) only [go_sem, h2]
      refine call_open (con_minusN m1 m2 h2' (by omega)) (by simp (disch := omega) only [go_sem]) ?_
      rintro r hs ⟨rfl, rfl, _⟩
      refine ⟨by simp [freeN], ?_⟩
      simp (disch := omega) only [go_sem]
      refine fin_val (by simp (disch := omega) only [go_sem]) ?_
      show snap _ 6 _ = _
      rw [sgS_ge h1' h2', suM_ge h1' h2']
      simp (disch := omega) only [go_sem]
    · have h2' : ¬ m2 ≤ m1 := fun h => h2 (by have := hge.2 h; omega)
      simp (disch := omega) only [go_sem, h2]
      refine call_open (con_minusN m2 m1 (by omega) (by omega)) (by simp (disch := omega) only [go_sem]) ?_
      rintro r hs ⟨rfl, rfl, _⟩
      refine ⟨by simp [freeN], ?_⟩
      simp (disch := omega) only [go_sem]
      refine fin_val (by simp (disch := omega) only [go_sem]) ?_
      show snap _ 6 _ = _
      rw [sgS_lt h1' h2', suM_lt h1' h2']
      simp (disch := omega) only [go_sem]

theorem con_aligned (s1 : Bool) (m1 : Nat) (e1 : Int) (s2 : Bool) (m2 : Nat) (e2 : Int) (h1 : bl m1 ≤ 4000000) (h2 : bl m2 ≤ 4000000) (he1 : -1000000 ≤ e1 ∧ e1 ≤ 1000000) (he2 : -1000000 ≤ e2 ∧ e2 ≤ 1000000) :
    Con Tryz.prog 115 false [.ag [.v (.bool (s1)), .sl (lim (m1)).length (ints (lim (m1))), .v (.int .i64 (e1))], .ag [.v (.bool (s2)), .sl (lim (m2)).length (ints (lim (m2))), .v (.int .i64 (e2))]] [] (isA (.tu [.sl (lim (alA m1 e1 (alE m1 e1 m2 e2))).length (ints (lim (alA m1 e1 (alE m1 e1 m2 e2)))), .sl (lim (alA m2 e2 (alE m1 e1 m2 e2))).length (ints (lim (alA m2 e2 (alE m1 e1 m2 e2)))), .v (.int .i64 (alE m1 e1 m2 e2))])) := by
  refine Con.frzA ?_
  have l1 := len_bl h1
  have l2 := len_bl h2
  have hE := alE_ge (m1 := m1) (m2 := m2) he1.1 he2.1
  have hE2 := alE_le (m1 := m1) (m2 := m2) he1.2 he2.2
  have x1 : ∀ d : Int, (if 0 > d then 0 else d) = ((d.toNat : Nat) : Int) := fun d => by split <;> omega
  refine Con.of_aw Tryz.func115 rfl Tryz.ntmps115 (by simp) (by simp) (by simp) (W.sound ?_)
  show @W Tryz.prog 42 ⟨_⟩ ⟨fun x σ => @retW _ _ _ ⟨_⟩ _ ⟨_⟩ x σ⟩ _ _
  simp (disch := omega) only [go_sem]
  refine ifW_dec (fun c1 => ?_) (fun c1 => ?_)
  · have z1 : m1 = 0 := lim_eq_nil.1 (List.length_eq_zero_iff.1 (by omega))
    simp (disch := omega) only [go_sem, c1]
    refine ifW_dec (fun c2 => ?_) (fun c2 => ?_)
    · have z2 : m2 = 0 := lim_eq_nil.1 (List.length_eq_zero_iff.1 (by omega))
      have eE : alE m1 e1 m2 e2 = e1 := by unfold alE; rw [if_pos z2]
      simp (disch := omega) only [go_sem, c2]
      refine draw_of rfl [⟨0, [], []⟩, ⟨1, [], []⟩, ⟨2, [1], []⟩, ⟨3, [1], []⟩, ⟨4, [1, 3], []⟩, ⟨5, [1], []⟩, ⟨6, [1], []⟩, ⟨8, [1, 3], []⟩, ⟨9, [1, 3], []⟩, ⟨10, [1, 3, 9], []⟩, ⟨11, [1, 3, 9], []⟩, ⟨12, [1, 3, 9, 11], []⟩, ⟨13, [1, 3, 9], []⟩, ⟨14, [1, 3, 9], []⟩, ⟨16, [1, 3, 9, 11], []⟩, ⟨7, [9, 11], []⟩, ⟨15, [], []⟩, ⟨17, [], []⟩, ⟨18, [], []⟩, ⟨19, [], []⟩] (by kernel_rfl) ?_
      simp (disch := omega) only [go_sem, x1]
      refine call_open (con_upN m1 (e1 - e1).toNat (by omega) (by omega)) (by simp (disch := omega) only [go_sem, x1]) ?_
      rintro r hs ⟨rfl, rfl, _⟩
      refine ⟨by simp [freeN], ?_⟩
      simp (disch := omega) only [go_sem]
      refine call_open (con_upN m2 (e2 - e1).toNat (by omega) (by omega)) (by simp (disch := omega) only [go_sem, x1]) ?_
      rintro r hs ⟨rfl, rfl, _⟩
      refine ⟨by simp [freeN], ?_⟩
      simp (disch := omega) only [go_sem]
      refine fin_val (by simp (disch := omega) only [go_sem]) ?_
      show snap _ 6 _ = _
      rw [eE]; unfold alA
      simp (disch := omega) only [go_sem]
    · have z2 : m2 ≠ 0 := fun e => c2 (by rw [e, lim_zero]; rfl)
      have eE : alE m1 e1 m2 e2 = e2 := by unfold alE; rw [if_neg z2, if_pos z1]
      simp (disch := omega) only [go_sem, c2]
      refine draw_of rfl [⟨0, [], []⟩, ⟨1, [], []⟩, ⟨2, [1], []⟩, ⟨3, [1], []⟩, ⟨4, [1, 3], []⟩, ⟨5, [1], []⟩, ⟨6, [1], []⟩, ⟨8, [1, 3], []⟩, ⟨9, [1, 3], []⟩, ⟨10, [1, 3, 9], []⟩, ⟨11, [1, 3, 9], []⟩, ⟨12, [1, 3, 9, 11], []⟩, ⟨13, [1, 3, 9], []⟩, ⟨14, [1, 3, 9], []⟩, ⟨16, [1, 3, 9, 11], []⟩, ⟨7, [9, 11], []⟩, ⟨15, [], []⟩, ⟨17, [], []⟩, ⟨18, [], []⟩, ⟨19, [], []⟩] (by kernel_rfl) ?_
      simp (disch := omega) only [go_sem, x1]
      refine call_open (con_upN m1 (e1 - e2).toNat (by omega) (by omega)) (by simp (disch := omega) only [go_sem, x1]) ?_
      rintro r hs ⟨rfl, rfl, _⟩
      refine ⟨by simp [freeN], ?_⟩
      simp (disch := omega) only [go_sem]
      refine call_open (con_upN m2 (e2 - e2).toNat (by omega) (by omega)) (by simp (disch := omega) only [go_sem, x1]) ?_
      rintro r hs ⟨rfl, rfl, _⟩
      refine ⟨by simp [freeN], ?_⟩
      simp (disch := omega) only [go_sem]
      refine fin_val (by simp (disch := omega) only [go_sem]) ?_
      show snap _ 6 _ = _
      rw [eE]; unfold alA
      simp (disch := omega) only [go_sem]
  · have z1 : m1 ≠ 0 := fun e => c1 (by rw [e, lim_zero]; rfl)
    simp (disch := omega) only [go_sem, c1]
    refine ifW_dec (fun c2 => ?_) (fun c2 => ?_)
    · have z2 : m2 = 0 := lim_eq_nil.1 (List.length_eq_zero_iff.1 (by omega))
      have eE : alE m1 e1 m2 e2 = e1 := by unfold alE; rw [if_pos z2]
      simp (disch := omega) only [go_sem, c2]
      refine draw_of rfl [⟨0, [], []⟩, ⟨1, [], []⟩, ⟨2, [1], []⟩, ⟨3, [1], []⟩, ⟨4, [1, 3], []⟩, ⟨5, [1], []⟩, ⟨6, [1], []⟩, ⟨8, [1, 3], []⟩, ⟨9, [1, 3], []⟩, ⟨10, [1, 3, 9], []⟩, ⟨11, [1, 3, 9], []⟩, ⟨12, [1, 3, 9, 11], []⟩, ⟨13, [1, 3, 9], []⟩, ⟨14, [1, 3, 9], []⟩, ⟨16, [1, 3, 9, 11], []⟩, ⟨7, [9, 11], []⟩, ⟨15, [], []⟩, ⟨17, [], []⟩, ⟨18, [], []⟩, ⟨19, [], []⟩] (by kernel_rfl) ?_
      simp (disch := omega) only [go_sem, x1]
      refine call_open (con_upN m1 (e1 - e1).toNat (by omega) (by omega)) (by simp (disch := omega) only [go_sem, x1]) ?_
      rintro r hs ⟨rfl, rfl, _⟩
      refine ⟨by simp [freeN], ?_⟩
      simp (disch := omega) only [go_sem]
      refine call_open (con_upN m2 (e2 - e1).toNat (by omega) (by omega)) (by simp (disch := omega) only [go_sem, x1]) ?_
      rintro r hs ⟨rfl, rfl, _⟩
      refine ⟨by simp [freeN], ?_⟩
      simp (disch := omega) only [go_sem]
      refine fin_val (by simp (disch := omega) only [go_sem]) ?_
      show snap _ 6 _ = _
      rw [eE]; unfold alA
      simp (disch := omega) only [go_sem]
    · have z2 : m2 ≠ 0 := fun e => c2 (by rw [e, lim_zero]; rfl)
      have eE : (if e2 < e1 then e2 else e1) = alE m1 e1 m2 e2 := by unfold alE; rw [if_neg z2, if_neg z1]
      simp (disch := omega) only [go_sem, c2, eE]
      refine draw_of rfl [⟨0, [], []⟩, ⟨1, [], []⟩, ⟨2, [1], []⟩, ⟨3, [1], []⟩, ⟨4, [1, 3], []⟩, ⟨5, [1], []⟩, ⟨6, [1], []⟩, ⟨8, [1, 3], []⟩, ⟨9, [1, 3], []⟩, ⟨10, [1, 3, 9], []⟩, ⟨11, [1, 3, 9], []⟩, ⟨12, [1, 3, 9, 11], []⟩, ⟨13, [1, 3, 9], []⟩, ⟨14, [1, 3, 9], []⟩, ⟨16, [1, 3, 9, 11], []⟩, ⟨7, [9, 11], []⟩, ⟨15, [], []⟩, ⟨17, [], []⟩, ⟨18, [], []⟩, ⟨19, [], []⟩] (by kernel_rfl) ?_
      simp (disch := omega) only [go_sem, x1, eE]
      refine call_open (con_upN m1 (e1 - alE m1 e1 m2 e2).toNat (by omega) (by omega)) (by simp (disch := omega) only [go_sem, x1, eE]) ?_
      rintro r hs ⟨rfl, rfl, _⟩
      refine ⟨by simp [freeN], ?_⟩
      simp (disch := omega) only [go_sem]
      refine call_open (con_upN m2 (e2 - alE m1 e1 m2 e2).toNat (by omega) (by omega)) (by simp (disch := omega) only [go_sem, x1, eE]) ?_
      rintro r hs ⟨rfl, rfl, _⟩
      refine ⟨by simp [freeN], ?_⟩
      simp (disch := omega) only [go_sem]
      refine fin_val (by simp (disch := omega) only [go_sem]) ?_
      show snap _ 6 _ = _
      unfold alA
      simp (disch := omega) only [go_sem]

theorem con_plusX (s1 : Bool) (m1 : Nat) (e1 : Int) (s2 : Bool) (m2 : Nat) (e2 : Int) (h1 : bl m1 ≤ 4000000) (h2 : bl m2 ≤ 4000000) (he1 : -1000000 ≤ e1 ∧ e1 ≤ 1000000) (he2 : -1000000 ≤ e2 ∧ e2 ≤ 1000000) :
    Con Tryz.prog 76 false [.ag [.v (.bool (s1)), .sl (lim (m1)).length (ints (lim (m1))), .v (.int .i64 (e1))], .ag [.v (.bool (s2)), .sl (lim (m2)).length (ints (lim (m2))), .v (.int .i64 (e2))]] [] (isA (.ag [.v (.bool (adS s1 m1 e1 s2 m2 e2)), .sl (lim (adM s1 m1 e1 s2 m2 e2)).length (ints (lim (adM s1 m1 e1 s2 m2 e2))), .v (.int .i64 (alE m1 e1 m2 e2))])) := by
  refine Con.frzA ?_
  have hE := alE_ge (m1 := m1) (m2 := m2) he1.1 he2.1
  have b1 := bl_alA (e := e1) (E := alE m1 e1 m2 e2) (C := 2000000) h1 (by omega)
  have b2 := bl_alA (e := e2) (E := alE m1 e1 m2 e2) (C := 2000000) h2 (by omega)
  have l1 := len_bl b1
  have l2 := len_bl b2
  refine Con.of_aw Tryz.func76 rfl Tryz.ntmps76 (by simp) (by simp) (by simp) (W.sound ?_)
  show @W Tryz.prog 36 ⟨_⟩ ⟨fun x σ => @retW _ _ _ ⟨_⟩ _ ⟨_⟩ x σ⟩ _ _
  simp (disch := omega) only [go_sem]
  refine call_open (con_aligned s1 m1 e1 s2 m2 e2 h1 h2 he1 he2) (by simp (disch := omega) only [go_sem]) ?_
  rintro r hs ⟨rfl, rfl, _⟩
  refine ⟨by simp [freeN], ?_⟩
  simp (disch := omega) only [go_sem]
  unfold adS adM
  generalize alA m1 e1 (alE m1 e1 m2 e2) = A at *
  generalize alA m2 e2 (alE m1 e1 m2 e2) = B at *
  generalize alE m1 e1 m2 e2 = E at *
  refine call_open (con_signedSum s1 A s2 B (by omega) (by omega)) (by simp (disch := omega) only [go_sem]) ?_
  rintro r hs ⟨rfl, rfl, _⟩
  refine ⟨by simp [freeN], ?_⟩
  simp (disch := omega) only [go_sem]
  have hb := bl_suM (s1 := s1) (s2 := s2) b1 b2
  have hl : (lim (suM s1 A s2 B)).length ≤ 2000000 := by have := len_bl hb; omega
  have hq : decide ((0 : Int) < ((lim (suM s1 A s2 B)).length : Int)) = decide (suM s1 A s2 B ≠ 0) := by
    rw [decide_eq_decide]
    exact ⟨fun h e => by rw [e, lim_zero] at h; simp at h, fun h => by have := lim_ne h; omega⟩
  rw [← sgS_and]
  refine ifW_b (fun h3 => ?_) (fun h3 => ?_)
  · simp (disch := omega) only [go_sem, h3, hq]
    refine fin_val (by simp (disch := omega) only [go_sem]) ?_
    show snap _ 6 _ = _
    simp (disch := omega) only [go_sem, h3, Bool.true_and]
  · simp (disch := omega) only [go_sem, h3]
    refine fin_val (by simp (disch := omega) only [go_sem]) ?_
    show snap _ 6 _ = _
    simp (disch := omega) only [go_sem, h3, Bool.false_and]
end Go.Ab
namespace Go.Ab
open Go

theorem bhp_nil (m : Nat) : bhp [] m = .free := by unfold bhp; split <;> simp

/-- From a contract to a walk: called with nothing lent. -/
theorem Con.enter {P : Program} {f : FuncId} {cl : Bool} {args : List AV} {x : Value} (h : Con P f cl args [] (isA (.v x))) (R : Nat → Prop) (w : World) (vs : Array Value)
    (hlt : ∀ b, R b → b < w.heap.size) (hr : RepA R (fun _ => none) w vs args) (ha : AllL (fun m => bhp [] m ≠ .free) args) (hg : Gd w) :
    Calls P f vs w fun e w' => e = .returned x ∧ Ext (fun _ => False) w w' := by
  have hno : ∀ b, ¬ OwnB (bhp []) (fun _ => none) b := fun b ⟨nm, z, cs, B, e, _⟩ => by rw [bhp_nil] at e; cases e
  have hh : HpOk R (fun _ => none) w (bhp []) :=
    ⟨fun nm => (by rw [bhp_nil]; trivial), fun nm z cs B e => absurd e (by rw [bhp_nil]; simp), fun nm nm' z z' cs cs' B B' e => absurd e (by rw [bhp_nil]; simp), fun nm z cs e => absurd e (by rw [bhp_nil]; simp)⟩
  refine (h R (fun _ => none) w vs hlt hr ha hh ⟨hg, fun g l _ => hno g⟩).mono ?_
  rintro e w' ⟨y, r, hs, bs', R', ι', rfl, ⟨rfl, rfl, rfl⟩, hf⟩
  refine ⟨?_, hf.ext.os, hf.ext.tape, hf.ext.output, hf.ext.size, fun b hb _ => hf.ext.block b hb (hno b)⟩
  cases hf.rep with
  | fr _ _ h => cases h; rfl

theorem Ext.kept {w w' : World} (h : Ext (fun _ => False) w w') (may : MemPlace → Prop) : w.keptBut w' may := by
  refine ⟨h.os, h.output, fun i hi => ?_⟩
  rw [h.block i hi (fun h => h)]
  cases w.heap[i]? with
  | none => trivial
  | some o => cases o with
    | cells c t fr => exact ⟨rfl, rfl, rfl, fun _ _ => rfl⟩
    | map es cl => exact .inr ⟨rfl, rfl⟩
    | _ => rfl

theorem Ext.below {w w' : World} (h : Ext (fun _ => False) w w') : RowKit.Below w.heap.size w w' := ⟨h.os, h.tape, h.output, h.size, fun k hk => h.block k hk (fun h => h)⟩

/-- What was read reads so again. -/
theorem Ext.trod {H : Type} {enc : TypeId × Value → H} {P : Program} {t : TypeId} {W W' : World} (hw : Ext (fun _ => False) W W') (hl : laidOutB P = true) (hr : P.readableRec t = true) (hrow : t < P.types.size) {v : Value} {d : DataW H} {ps : List MemPlace}
    (h : DataW.Trod enc P W 0 (fun _ => true) true t v d ps) (hlt : ∀ x ∈ ps, x.block < W.heap.size) : DataW.Trod enc P W' 0 (fun b => decide (b < W.heap.size)) true t v d ps :=
  RowKit.Below.trod hl hr hrow h hw.below hlt

theorem cell_blk {w : World} {a : Addr} {v : Value} (h : w.cell? a = some v) : a.block < w.heap.size := by
  rcases Nat.lt_or_ge a.block w.heap.size with h' | h'
  · exact h'
  · simp [World.cell?, Array.getElem?_eq_none h'] at h

theorem add_at (b o i : Nat) : (⟨b, o, none⟩ : Addr).add i = ⟨b, o + i, none⟩ := by
  unfold Addr.add
  split
  · subst_vars; rfl
  · rfl

theorem frep_nil {R : Nat → Prop} {W : World} : FRep R W (.slice none 0 0) (.sl 0 []) :=
  .sl none 0 0 [] (fun _ => undef) 0 0 (Nat.le_refl _) (fun h => absurd h (by simp)) (fun i h => absurd h (by simp)) (fun i h => absurd h (by simp))

end Go.Ab
namespace Go.Ab
open Go
set_option linter.unusedVariables false

/-- A dyadic number, as it stands in memory. -/
structure DyV where
  s : Bool
  xs : List Int
  e : Int

def DyV.cs (x : DyV) : List AV := [.v (.bool x.s), .sl x.xs.length (ints x.xs), .v (.int .i64 x.e)]
theorem dy_cs3 (x : DyV) : x.cs.length = 3 := rfl
theorem dy_ren {ρ : Nat → Nat} (x : DyV) : renL ρ x.cs = x.cs := rfl
theorem dy_snap {hp : Nat → Ob} {k : Nat} (x : DyV) : x.cs.map (snap hp (k + 1)) = x.cs := rfl
attribute [go_sem] dy_ren dy_snap
end Go.Ab
namespace Go.Ab
open Go

/-! ### The simplifier's words for truth values -/
theorem o_t (b : Bool) : (true || b) = true := _root_.id rfl
theorem o_f (b : Bool) : (false || b) = b := _root_.id rfl
theorem o_t' (b : Bool) : (b || true) = true := by cases b <;> rfl
theorem o_f' (b : Bool) : (b || false) = b := by cases b <;> rfl
theorem a_t (b : Bool) : (true && b) = b := _root_.id rfl
theorem a_f (b : Bool) : (false && b) = false := _root_.id rfl
attribute [go_sem] o_t o_f
attribute [go_sem] o_t' o_f' a_t a_f
theorem bin_fle {P : Program} {t : TypeId} [h : FlE P t] {k m e k' m' e' : Int} {s s' : Bool} {K : AV → Prop} :
    @binW P .eql t (.ag [.v (.int .i64 k), .v (.bool s), .v (.int .i64 m), .v (.int .i64 e)]) (.ag [.v (.int .i64 k'), .v (.bool s'), .v (.int .i64 m'), .v (.int .i64 e')]) ⟨K⟩ = K (.v (.bool (flEq k s m e k' s' m' e'))) :=
  propext ⟨fun g => g.2, fun g => ⟨h, g⟩⟩
theorem bin_fln {P : Program} {t : TypeId} [h : FlE P t] {k m e k' m' e' : Int} {s s' : Bool} {K : AV → Prop} :
    @binW P .neq t (.ag [.v (.int .i64 k), .v (.bool s), .v (.int .i64 m), .v (.int .i64 e)]) (.ag [.v (.int .i64 k'), .v (.bool s'), .v (.int .i64 m'), .v (.int .i64 e')]) ⟨K⟩ = K (.v (.bool (!flEq k s m e k' s' m' e'))) :=
  propext ⟨fun g => g.2, fun g => ⟨h, g⟩⟩
attribute [go_sem] bin_fle bin_fln
/-! ### Bits of any numbers -/
def xorI (x y : Int) : Int := IntKind.i64.wrap (BitVec.ofInt IntKind.i64.bits x ^^^ BitVec.ofInt IntKind.i64.bits y).toNat
theorem bin_xor {x y : Int} {P : Program} {t : Nat} {K : AV → Prop} : @binW P .xor t (.v (.int .i64 x)) (.v (.int .i64 y)) ⟨K⟩ = K (.v (.int .i64 (xorI x y))) := by
  simp only [binW, binA, intA, true_and]; rfl
theorem ofInt_toNat (x : Int) : ((BitVec.ofInt 64 x).toNat : Int) = x % 18446744073709551616 := by
  rw [BitVec.toNat_ofInt]; omega
theorem bin_and255 {x : Int} {P : Program} {t : Nat} {K : AV → Prop} : @binW P .and t (.v (.int .i64 x)) (.v (.int .i64 255)) ⟨K⟩ = K (.v (.int .i64 (x % 256))) := by
  have e : IntKind.i64.wrap (BitVec.ofInt 64 x &&& BitVec.ofInt 64 255).toNat = x % 256 := by
    have h1 := ofInt_toNat x
    have h2 : (BitVec.ofInt 64 255).toNat = 2 ^ 8 - 1 := by decide
    rw [BitVec.toNat_and, h2, Nat.and_two_pow_sub_one_eq_mod, wrap_nat (by omega)]
    omega
  rw [← e]; simp only [binW, binA, intA, true_and]; rfl
theorem bin_and30 {x : Int} {P : Program} {t : Nat} {K : AV → Prop} : @binW P .and t (.v (.int .i64 x)) (.v (.int .i64 1073741823)) ⟨K⟩ = K (.v (.int .i64 (x % 1073741824))) := by
  have e : IntKind.i64.wrap (BitVec.ofInt 64 x &&& BitVec.ofInt 64 1073741823).toNat = x % 1073741824 := by
    have h1 := ofInt_toNat x
    have h2 : (BitVec.ofInt 64 1073741823).toNat = 2 ^ 30 - 1 := by decide
    rw [BitVec.toNat_and, h2, Nat.and_two_pow_sub_one_eq_mod, wrap_nat (by omega)]
    omega
  rw [← e]; simp only [binW, binA, intA, true_and]; rfl
attribute [go_sem] bin_xor bin_and255 bin_and30
theorem lend_two {h : Nat → Ob} {n n' z z' : Nat} {cs cs' : List AV} (hn : h n = .own z cs) (hc : AllL (fun _ => False) cs) (hn' : h n' = .own z' cs') (hc' : AllL (fun _ => False) cs') : lendOk h [n, n'] := by
  intro m hm
  rw [List.mem_cons, List.mem_singleton] at hm
  rcases hm with rfl | rfl
  · exact ⟨z, cs, hn, hc.mono fun _ h => h.elim⟩
  · exact ⟨z', cs', hn', hc'.mono fun _ h => h.elim⟩
/-- What is lent, as the callee names it. -/
def lentB (h : Nat → Ob) (nms : List Nat) : List Nat → List Ob
  | [] => []
  | n :: r => (h n).ren (back nms) :: lentB h nms r
theorem lentB_map {h : Nat → Ob} {nms : List Nat} : ∀ r : List Nat, lentB h nms r = r.map (fun n => (h n).ren (back nms))
  | [] => rfl
  | n :: r => by rw [lentB, List.map_cons, lentB_map r]
theorem lentB_nil {h : Nat → Ob} {nms : List Nat} : lentB h nms [] = [] := _root_.id rfl
theorem lentB_cons {h : Nat → Ob} {nms : List Nat} {n : Nat} {r : List Nat} : lentB h nms (n :: r) = (h n).ren (back nms) :: lentB h nms r := _root_.id rfl
attribute [go_sem] lentB_nil lentB_cons
theorem call_lent {P : Program} {f : FuncId} {aa0 : List AV} {h : Nat → Ob} {c : Nat} {K : KV} (cl : Bool) (nms : List Nat) {args : List AV} {bs : List Ob} {post : AV → List Ob → List Ob → Prop} (hc : Con P f cl args bs post) (ha : aa0.map (snp (hpx cl nms h) (idx nms) 6) = args)
    (hb : lentB h nms nms = bs) (hnd : nodupB nms = true) (hl : lendOk h nms) (hin : ∀ n ∈ nms, ∃ a ∈ aa0, a.top = some n)
    (hk : ∀ r hs bs', post r hs bs' → bs'.length = bs.length → (hs.length ≤ 10000000 ∧ freeN h c hs ∧ (cl = true → ∀ ob ∈ bs', ob.plain)) ∧ K (r.ren (rho c nms)) (updB (addH (rho c nms) h c hs) nms (bs'.map (Ob.ren (rho c nms))))) : @callW P f aa0 h c ⟨K⟩ :=
  call_lend cl nms hc ha ((lentB_map nms).symm.trans hb) hnd hl hin hk
end Go.Ab
namespace Go.Ab
open Go Go.Proofs
set_option linter.unusedVariables false
set_option linter.unusedSimpArgs false

set_option maxRecDepth 100000 in
theorem con_add (k1 : Int) (s1 : Bool) (m1 e1 k2 : Int) (s2 : Bool) (m2 e2 mode : Int) (h1 : flB k1 s1 m1 e1 = true) (h2 : flB k2 s2 m2 e2 = true) :
    Con Tryz.prog 74 true [.ag [.v (.int .i64 (k1)), .v (.bool (s1)), .v (.int .i64 (m1)), .v (.int .i64 (e1))], .ag [.v (.int .i64 (k2)), .v (.bool (s2)), .v (.int .i64 (m2)), .v (.int .i64 (e2))], .v (.int .i64 mode)] []
      (isA (.tu [.ag [.v (.int .i64 ((addV k1 s1 m1 e1 k2 s2 m2 e2 mode).k)), .v (.bool ((addV k1 s1 m1 e1 k2 s2 m2 e2 mode).s)), .v (.int .i64 ((addV k1 s1 m1 e1 k2 s2 m2 e2 mode).m)), .v (.int .i64 ((addV k1 s1 m1 e1 k2 s2 m2 e2 mode).e))], .v (.int .i64 (addG k1 s1 m1 e1 k2 s2 m2 e2 mode))])) := by
  obtain ⟨a1, a2, a3, a4⟩ := flB_rng h1
  obtain ⟨b1, b2, b3, b4⟩ := flB_rng h2
  obtain ⟨n1, rfl⟩ := Int.eq_ofNat_of_zero_le a1.1
  obtain ⟨n2, rfl⟩ := Int.eq_ofNat_of_zero_le b1.1
  have q1 : bl n1 ≤ 53 := bl_le.2 (by omega)
  have q2 : bl n2 ≤ 53 := bl_le.2 (by omega)
  have r1 : ((n1 : Nat) : Int).toNat = n1 := rfl
  have r2 : ((n2 : Nat) : Int).toNat = n2 := rfl
  by_cases c1 : k1 = 3
  · subst c1
    refine Con.of_aw Tryz.func74 rfl Tryz.ntmps74 (by simp) (by simp) (by simp) (W.sound ?_)
    show @W Tryz.prog 70 ⟨_⟩ ⟨fun x σ => @retW _ _ _ ⟨_⟩ _ ⟨_⟩ x σ⟩ _ _
    simp (disch := omega) only [go_sem]
    refine call_closed (con_hasKind 3 3 (n1 : Int) e1 k2 (n2 : Int) e2 s1 s2) (by simp (disch := omega) only [go_sem]) ?_
    rintro r hs ⟨rfl, rfl, _⟩
    refine ⟨by simp [freeN], ?_⟩
    simp (disch := omega) only [go_sem]
    refine call_closed (con_nan) (by simp (disch := omega) only [go_sem]) ?_
    rintro r hs ⟨rfl, rfl, _⟩
    refine ⟨by simp [freeN], ?_⟩
    simp (disch := omega) only [go_sem]
    rw [(addV_nan (.inl rfl)).1, (addV_nan (.inl rfl)).2]
    exact fin_valc (by simp (disch := omega) only [go_sem]) (by simp (disch := omega) only [go_sem]) isA_mk
  by_cases c2 : k2 = 3
  · subst c2
    refine Con.of_aw Tryz.func74 rfl Tryz.ntmps74 (by simp) (by simp) (by simp) (W.sound ?_)
    show @W Tryz.prog 70 ⟨_⟩ ⟨fun x σ => @retW _ _ _ ⟨_⟩ _ ⟨_⟩ x σ⟩ _ _
    simp (disch := omega) only [go_sem]
    refine call_closed (con_hasKind 3 k1 (n1 : Int) e1 3 (n2 : Int) e2 s1 s2) (by simp (disch := omega) only [go_sem]) ?_
    rintro r hs ⟨rfl, rfl, _⟩
    refine ⟨by simp [freeN], ?_⟩
    simp (disch := omega) only [go_sem]
    refine call_closed (con_nan) (by simp (disch := omega) only [go_sem]) ?_
    rintro r hs ⟨rfl, rfl, _⟩
    refine ⟨by simp [freeN], ?_⟩
    simp (disch := omega) only [go_sem]
    rw [(addV_nan (.inr rfl)).1, (addV_nan (.inr rfl)).2]
    exact fin_valc (by simp (disch := omega) only [go_sem]) (by simp (disch := omega) only [go_sem]) isA_mk
  by_cases d1 : k1 = 2
  · by_cases d2 : k2 = 2
    · by_cases hs : s1 = s2
      · subst d1
        subst d2
        subst hs
        have hx : (s1 != s1) = false := by simp
        refine Con.of_aw Tryz.func74 rfl Tryz.ntmps74 (by simp) (by simp) (by simp) (W.sound ?_)
        show @W Tryz.prog 70 ⟨_⟩ ⟨fun x σ => @retW _ _ _ ⟨_⟩ _ ⟨_⟩ x σ⟩ _ _
        simp (disch := omega) only [go_sem, hx]
        refine call_closed (con_hasKind 3 2 (n1 : Int) e1 2 (n2 : Int) e2 s1 s1) (by simp (disch := omega) only [go_sem, hx]) ?_
        rintro r hs ⟨rfl, rfl, _⟩
        refine ⟨by simp [freeN], ?_⟩
        simp (disch := omega) only [go_sem]
        simp (disch := omega) only [go_sem, hx]
        rw [(addV_inf1 rfl (by omega) (fun _ => rfl)).1, (addV_inf1 rfl (by omega) (fun _ => rfl)).2]
        exact fin_valc (by simp (disch := omega) only [go_sem]) (by simp (disch := omega) only [go_sem]) isA_mk
      · subst d1
        subst d2
        have hx : (s1 != s2) = true := by simpa using hs
        refine Con.of_aw Tryz.func74 rfl Tryz.ntmps74 (by simp) (by simp) (by simp) (W.sound ?_)
        show @W Tryz.prog 70 ⟨_⟩ ⟨fun x σ => @retW _ _ _ ⟨_⟩ _ ⟨_⟩ x σ⟩ _ _
        simp (disch := omega) only [go_sem, hx]
        refine call_closed (con_hasKind 3 2 (n1 : Int) e1 2 (n2 : Int) e2 s1 s2) (by simp (disch := omega) only [go_sem, hx]) ?_
        rintro r hs ⟨rfl, rfl, _⟩
        refine ⟨by simp [freeN], ?_⟩
        simp (disch := omega) only [go_sem]
        simp (disch := omega) only [go_sem, hx]
        refine call_closed (con_nan) (by simp (disch := omega) only [go_sem]) ?_
        rintro r hs ⟨rfl, rfl, _⟩
        refine ⟨by simp [freeN], ?_⟩
        simp (disch := omega) only [go_sem]
        rw [(addV_bad rfl rfl hs).1, (addV_bad rfl rfl hs).2]
        exact fin_valc (by simp (disch := omega) only [go_sem]) (by simp (disch := omega) only [go_sem]) isA_mk
    · subst d1
      refine Con.of_aw Tryz.func74 rfl Tryz.ntmps74 (by simp) (by simp) (by simp) (W.sound ?_)
      show @W Tryz.prog 70 ⟨_⟩ ⟨fun x σ => @retW _ _ _ ⟨_⟩ _ ⟨_⟩ x σ⟩ _ _
      simp (disch := omega) only [go_sem, c2, d2]
      refine call_closed (con_hasKind 3 2 (n1 : Int) e1 k2 (n2 : Int) e2 s1 s2) (by simp (disch := omega) only [go_sem, c2, d2]) ?_
      rintro r hs ⟨rfl, rfl, _⟩
      refine ⟨by simp [freeN], ?_⟩
      simp (disch := omega) only [go_sem]
      simp (disch := omega) only [go_sem, c2, d2]
      rw [(addV_inf1 rfl c2 (fun h => absurd h d2)).1, (addV_inf1 rfl c2 (fun h => absurd h d2)).2]
      exact fin_valc (by simp (disch := omega) only [go_sem]) (by simp (disch := omega) only [go_sem]) isA_mk
  by_cases d2 : k2 = 2
  · subst d2
    refine Con.of_aw Tryz.func74 rfl Tryz.ntmps74 (by simp) (by simp) (by simp) (W.sound ?_)
    show @W Tryz.prog 70 ⟨_⟩ ⟨fun x σ => @retW _ _ _ ⟨_⟩ _ ⟨_⟩ x σ⟩ _ _
    simp (disch := omega) only [go_sem, c1, d1]
    refine call_closed (con_hasKind 3 k1 (n1 : Int) e1 2 (n2 : Int) e2 s1 s2) (by simp (disch := omega) only [go_sem, c1, d1]) ?_
    rintro r hs ⟨rfl, rfl, _⟩
    refine ⟨by simp [freeN], ?_⟩
    simp (disch := omega) only [go_sem]
    simp (disch := omega) only [go_sem, c1, d1]
    rw [(addV_inf2 c1 d1 rfl).1, (addV_inf2 c1 d1 rfl).2]
    exact fin_valc (by simp (disch := omega) only [go_sem]) (by simp (disch := omega) only [go_sem]) isA_mk
  have g1 : xS k1 s1 = (s1 && decide (k1 = 1)) := rfl
  have g2 : xS k2 s2 = (s2 && decide (k2 = 1)) := rfl
  have fin : ∀ z, z = adZ k1 s1 k2 s2 mode → (addV k1 s1 n1 e1 k2 s2 n2 e2 mode = flV (adS (xS k1 s1) n1 e1 (xS k2 s2) n2 e2) (adM (xS k1 s1) n1 e1 (xS k2 s2) n2 e2) (alE n1 e1 n2 e2) mode z ∧ addG k1 s1 n1 e1 k2 s2 n2 e2 mode = flG (adS (xS k1 s1) n1 e1 (xS k2 s2) n2 e2) (adM (xS k1 s1) n1 e1 (xS k2 s2) n2 e2) (alE n1 e1 n2 e2) mode) := fun z hz => by rw [hz]; exact addV_fin c1 d1 c2 d2
  have hE := alE_ge (K := -1074) (m1 := n1) (m2 := n2) (e1 := e1) (e2 := e2) (by omega) (by omega)
  have hE2 := alE_le (K := 971) (m1 := n1) (m2 := n2) (e1 := e1) (e2 := e2) (by omega) (by omega)
  have hM : bl (adM (xS k1 s1) n1 e1 (xS k2 s2) n2 e2) ≤ 3000 := by
    have y1 := bl_alA (e := e1) (E := alE n1 e1 n2 e2) (C := 2900) q1 (by omega)
    have y2 := bl_alA (e := e2) (E := alE n1 e1 n2 e2) (C := 2900) q2 (by omega)
    exact Nat.le_trans (bl_suM y1 y2) (by omega)
  by_cases u1 : k1 = 0
  · have v1 : decide (k1 = 0) = true := decide_eq_true u1
    by_cases u2 : k2 = 0
    · have v2 : decide (k2 = 0) = true := decide_eq_true u2
      by_cases hs : s1 = s2
      · have hx : (s1 == s2) = true := by simpa using hs
        refine Con.of_aw Tryz.func74 rfl Tryz.ntmps74 (by simp) (by simp) (by simp) (W.sound ?_)
        show @W Tryz.prog 70 ⟨_⟩ ⟨fun x σ => @retW _ _ _ ⟨_⟩ _ ⟨_⟩ x σ⟩ _ _
        simp (disch := omega) only [go_sem, c1, c2, d1, d2, v1, v2, hx]
        refine call_closed (con_hasKind 3 k1 (n1 : Int) e1 k2 (n2 : Int) e2 s1 s2) (by simp (disch := omega) only [go_sem, c1, c2, d1, d2, v1, v2, hx]) ?_
        rintro r hs ⟨rfl, rfl, _⟩
        refine ⟨by simp [freeN], ?_⟩
        simp (disch := omega) only [go_sem]
        simp (disch := omega) only [go_sem, c1, c2, d1, d2, v1, v2, hx]
        refine draw_of rfl [⟨0, [], []⟩, ⟨2, [0], []⟩, ⟨5, [0, 2], []⟩, ⟨6, [0, 2], []⟩, ⟨1, [2], []⟩, ⟨3, [], []⟩, ⟨4, [], []⟩, ⟨7, [], []⟩, ⟨8, [], []⟩, ⟨9, [], []⟩, ⟨10, [], []⟩, ⟨11, [], []⟩] (by kernel_rfl) ?_
        simp (disch := omega) only [go_sem, c1, c2, d1, d2, v1, v2, hx]
        refine call_open (con_flexact k1 s1 n1 e1 (by omega)) (by simp (disch := omega) only [go_sem]) ?_
        rintro r hs ⟨rfl, rfl, _⟩
        refine ⟨by simp [freeN], ?_⟩
        simp (disch := omega) only [go_sem]
        refine call_open (con_flexact k2 s2 n2 e2 (by omega)) (by simp (disch := omega) only [go_sem]) ?_
        rintro r hs ⟨rfl, rfl, _⟩
        refine ⟨by simp [freeN], ?_⟩
        simp (disch := omega) only [go_sem]
        refine call_open (con_plusX (s1 && decide (k1 = 1)) n1 e1 (s2 && decide (k2 = 1)) n2 e2 (by omega) (by omega) (by omega) (by omega)) (by simp (disch := omega) only [go_sem]) ?_
        rintro r hs ⟨rfl, rfl, _⟩
        refine ⟨by simp [freeN], ?_⟩
        simp (disch := omega) only [go_sem]
        refine call_closed (con_float (adS (xS k1 s1) n1 e1 (xS k2 s2) n2 e2) (adM (xS k1 s1) n1 e1 (xS k2 s2) n2 e2) (alE n1 e1 n2 e2) mode (s1) (by omega) (by omega)) (by simp (disch := omega) only [go_sem, g1, g2]) ?_
        rintro r hs ⟨rfl, rfl, _⟩
        refine ⟨by simp [freeN], ?_⟩
        simp (disch := omega) only [go_sem]
        rw [(fin (s1) (by unfold adZ; rw [if_pos ⟨u1, u2, hs⟩])).1, (fin (s1) (by unfold adZ; rw [if_pos ⟨u1, u2, hs⟩])).2]
        exact fin_valc (by simp (disch := omega) only [go_sem]) (by simp (disch := omega) only [go_sem]) isA_mk
      · have hx : (s1 == s2) = false := by simpa using hs
        refine Con.of_aw Tryz.func74 rfl Tryz.ntmps74 (by simp) (by simp) (by simp) (W.sound ?_)
        show @W Tryz.prog 70 ⟨_⟩ ⟨fun x σ => @retW _ _ _ ⟨_⟩ _ ⟨_⟩ x σ⟩ _ _
        simp (disch := omega) only [go_sem, c1, c2, d1, d2, v1, v2, hx]
        refine call_closed (con_hasKind 3 k1 (n1 : Int) e1 k2 (n2 : Int) e2 s1 s2) (by simp (disch := omega) only [go_sem, c1, c2, d1, d2, v1, v2, hx]) ?_
        rintro r hs ⟨rfl, rfl, _⟩
        refine ⟨by simp [freeN], ?_⟩
        simp (disch := omega) only [go_sem]
        simp (disch := omega) only [go_sem, c1, c2, d1, d2, v1, v2, hx]
        refine draw_of rfl [⟨0, [], []⟩, ⟨2, [0], []⟩, ⟨5, [0, 2], []⟩, ⟨6, [0, 2], []⟩, ⟨1, [2], []⟩, ⟨3, [], []⟩, ⟨4, [], []⟩, ⟨7, [], []⟩, ⟨8, [], []⟩, ⟨9, [], []⟩, ⟨10, [], []⟩, ⟨11, [], []⟩] (by kernel_rfl) ?_
        simp (disch := omega) only [go_sem, c1, c2, d1, d2, v1, v2, hx]
        refine call_open (con_flexact k1 s1 n1 e1 (by omega)) (by simp (disch := omega) only [go_sem]) ?_
        rintro r hs ⟨rfl, rfl, _⟩
        refine ⟨by simp [freeN], ?_⟩
        simp (disch := omega) only [go_sem]
        refine call_open (con_flexact k2 s2 n2 e2 (by omega)) (by simp (disch := omega) only [go_sem]) ?_
        rintro r hs ⟨rfl, rfl, _⟩
        refine ⟨by simp [freeN], ?_⟩
        simp (disch := omega) only [go_sem]
        refine call_open (con_plusX (s1 && decide (k1 = 1)) n1 e1 (s2 && decide (k2 = 1)) n2 e2 (by omega) (by omega) (by omega) (by omega)) (by simp (disch := omega) only [go_sem]) ?_
        rintro r hs ⟨rfl, rfl, _⟩
        refine ⟨by simp [freeN], ?_⟩
        simp (disch := omega) only [go_sem]
        refine call_closed (con_float (adS (xS k1 s1) n1 e1 (xS k2 s2) n2 e2) (adM (xS k1 s1) n1 e1 (xS k2 s2) n2 e2) (alE n1 e1 n2 e2) mode (decide (mode = 3)) (by omega) (by omega)) (by simp (disch := omega) only [go_sem, g1, g2]) ?_
        rintro r hs ⟨rfl, rfl, _⟩
        refine ⟨by simp [freeN], ?_⟩
        simp (disch := omega) only [go_sem]
        rw [(fin (decide (mode = 3)) (by unfold adZ; rw [if_neg (fun h => hs h.2.2)])).1, (fin (decide (mode = 3)) (by unfold adZ; rw [if_neg (fun h => hs h.2.2)])).2]
        exact fin_valc (by simp (disch := omega) only [go_sem]) (by simp (disch := omega) only [go_sem]) isA_mk
    · have v2 : decide (k2 = 0) = false := decide_eq_false u2
      refine Con.of_aw Tryz.func74 rfl Tryz.ntmps74 (by simp) (by simp) (by simp) (W.sound ?_)
      show @W Tryz.prog 70 ⟨_⟩ ⟨fun x σ => @retW _ _ _ ⟨_⟩ _ ⟨_⟩ x σ⟩ _ _
      simp (disch := omega) only [go_sem, c1, c2, d1, d2, v1, v2]
      refine call_closed (con_hasKind 3 k1 (n1 : Int) e1 k2 (n2 : Int) e2 s1 s2) (by simp (disch := omega) only [go_sem, c1, c2, d1, d2, v1, v2]) ?_
      rintro r hs ⟨rfl, rfl, _⟩
      refine ⟨by simp [freeN], ?_⟩
      simp (disch := omega) only [go_sem]
      simp (disch := omega) only [go_sem, c1, c2, d1, d2, v1, v2]
      refine draw_of rfl [⟨0, [], []⟩, ⟨2, [0], []⟩, ⟨5, [0, 2], []⟩, ⟨6, [0, 2], []⟩, ⟨1, [2], []⟩, ⟨3, [], []⟩, ⟨4, [], []⟩, ⟨7, [], []⟩, ⟨8, [], []⟩, ⟨9, [], []⟩, ⟨10, [], []⟩, ⟨11, [], []⟩] (by kernel_rfl) ?_
      simp (disch := omega) only [go_sem, c1, c2, d1, d2, v1, v2]
      refine call_open (con_flexact k1 s1 n1 e1 (by omega)) (by simp (disch := omega) only [go_sem]) ?_
      rintro r hs ⟨rfl, rfl, _⟩
      refine ⟨by simp [freeN], ?_⟩
      simp (disch := omega) only [go_sem]
      refine call_open (con_flexact k2 s2 n2 e2 (by omega)) (by simp (disch := omega) only [go_sem]) ?_
      rintro r hs ⟨rfl, rfl, _⟩
      refine ⟨by simp [freeN], ?_⟩
      simp (disch := omega) only [go_sem]
      refine call_open (con_plusX (s1 && decide (k1 = 1)) n1 e1 (s2 && decide (k2 = 1)) n2 e2 (by omega) (by omega) (by omega) (by omega)) (by simp (disch := omega) only [go_sem]) ?_
      rintro r hs ⟨rfl, rfl, _⟩
      refine ⟨by simp [freeN], ?_⟩
      simp (disch := omega) only [go_sem]
      refine call_closed (con_float (adS (xS k1 s1) n1 e1 (xS k2 s2) n2 e2) (adM (xS k1 s1) n1 e1 (xS k2 s2) n2 e2) (alE n1 e1 n2 e2) mode (decide (mode = 3)) (by omega) (by omega)) (by simp (disch := omega) only [go_sem, g1, g2]) ?_
      rintro r hs ⟨rfl, rfl, _⟩
      refine ⟨by simp [freeN], ?_⟩
      simp (disch := omega) only [go_sem]
      rw [(fin (decide (mode = 3)) (by unfold adZ; rw [if_neg (fun h => u2 h.2.1)])).1, (fin (decide (mode = 3)) (by unfold adZ; rw [if_neg (fun h => u2 h.2.1)])).2]
      exact fin_valc (by simp (disch := omega) only [go_sem]) (by simp (disch := omega) only [go_sem]) isA_mk
  · have v1 : decide (k1 = 0) = false := decide_eq_false u1
    refine Con.of_aw Tryz.func74 rfl Tryz.ntmps74 (by simp) (by simp) (by simp) (W.sound ?_)
    show @W Tryz.prog 70 ⟨_⟩ ⟨fun x σ => @retW _ _ _ ⟨_⟩ _ ⟨_⟩ x σ⟩ _ _
    simp (disch := omega) only [go_sem, c1, c2, d1, d2, v1]
    refine call_closed (con_hasKind 3 k1 (n1 : Int) e1 k2 (n2 : Int) e2 s1 s2) (by simp (disch := omega) only [go_sem, c1, c2, d1, d2, v1]) ?_
    rintro r hs ⟨rfl, rfl, _⟩
    refine ⟨by simp [freeN], ?_⟩
    simp (disch := omega) only [go_sem]
    simp (disch := omega) only [go_sem, c1, c2, d1, d2, v1]
    refine draw_of rfl [⟨0, [], []⟩, ⟨2, [0], []⟩, ⟨5, [0, 2], []⟩, ⟨6, [0, 2], []⟩, ⟨1, [2], []⟩, ⟨3, [], []⟩, ⟨4, [], []⟩, ⟨7, [], []⟩, ⟨8, [], []⟩, ⟨9, [], []⟩, ⟨10, [], []⟩, ⟨11, [], []⟩] (by kernel_rfl) ?_
    simp (disch := omega) only [go_sem, c1, c2, d1, d2, v1]
    refine call_open (con_flexact k1 s1 n1 e1 (by omega)) (by simp (disch := omega) only [go_sem]) ?_
    rintro r hs ⟨rfl, rfl, _⟩
    refine ⟨by simp [freeN], ?_⟩
    simp (disch := omega) only [go_sem]
    refine call_open (con_flexact k2 s2 n2 e2 (by omega)) (by simp (disch := omega) only [go_sem]) ?_
    rintro r hs ⟨rfl, rfl, _⟩
    refine ⟨by simp [freeN], ?_⟩
    simp (disch := omega) only [go_sem]
    refine call_open (con_plusX (s1 && decide (k1 = 1)) n1 e1 (s2 && decide (k2 = 1)) n2 e2 (by omega) (by omega) (by omega) (by omega)) (by simp (disch := omega) only [go_sem]) ?_
    rintro r hs ⟨rfl, rfl, _⟩
    refine ⟨by simp [freeN], ?_⟩
    simp (disch := omega) only [go_sem]
    refine call_closed (con_float (adS (xS k1 s1) n1 e1 (xS k2 s2) n2 e2) (adM (xS k1 s1) n1 e1 (xS k2 s2) n2 e2) (alE n1 e1 n2 e2) mode (decide (mode = 3)) (by omega) (by omega)) (by simp (disch := omega) only [go_sem, g1, g2]) ?_
    rintro r hs ⟨rfl, rfl, _⟩
    refine ⟨by simp [freeN], ?_⟩
    simp (disch := omega) only [go_sem]
    rw [(fin (decide (mode = 3)) (by unfold adZ; rw [if_neg (fun h => u1 h.1)])).1, (fin (decide (mode = 3)) (by unfold adZ; rw [if_neg (fun h => u1 h.1)])).2]
    exact fin_valc (by simp (disch := omega) only [go_sem]) (by simp (disch := omega) only [go_sem]) isA_mk

end Go.Ab
namespace Go.Ab
open Go Go.Proofs
set_option linter.unusedVariables false
set_option linter.unusedSimpArgs false

theorem con_areFloats2 (mode k1 : Int) (s1 : Bool) (m1 e1 k2 : Int) (s2 : Bool) (m2 e2 : Int) :
    Con Tryz.prog 41 true [.v (.int .i64 mode), .sl 2 [.v (.int .i64 k1), .v (.bool s1), .v (.int .i64 m1), .v (.int .i64 e1), .v (.int .i64 k2), .v (.bool s2), .v (.int .i64 m2), .v (.int .i64 e2)]] []
      (isA (.v (.bool (modeB mode && (flB k1 s1 m1 e1 && flB k2 s2 m2 e2))))) := by
  have := con_areFloats mode [⟨k1, s1, m1, e1⟩, ⟨k2, s2, m2, e2⟩] (by simp)
  simp only [List.all_cons, List.all_nil, Bool.and_true] at this
  exact this

end Go.Ab
namespace Go.Ab
open Go Go.Proofs
set_option linter.unusedVariables false
set_option linter.unusedSimpArgs false

theorem con_FlAdd (k1 : Int) (s1 : Bool) (m1 e1 k2 : Int) (s2 : Bool) (m2 e2 mode : Int) :
    Con Tryz.prog 30 true [.ag [.v (.int .i64 (k1)), .v (.bool (s1)), .v (.int .i64 (m1)), .v (.int .i64 (e1))], .ag [.v (.int .i64 (k2)), .v (.bool (s2)), .v (.int .i64 (m2)), .v (.int .i64 (e2))], .v (.int .i64 mode)] []
      (isA (if (modeB mode && (flB k1 s1 m1 e1 && flB k2 s2 m2 e2)) = true then .tu [.ag [.v (.int .i64 ((addV k1 s1 m1 e1 k2 s2 m2 e2 mode).k)), .v (.bool ((addV k1 s1 m1 e1 k2 s2 m2 e2 mode).s)), .v (.int .i64 ((addV k1 s1 m1 e1 k2 s2 m2 e2 mode).m)), .v (.int .i64 ((addV k1 s1 m1 e1 k2 s2 m2 e2 mode).e))], .v (.int .i64 (addG k1 s1 m1 e1 k2 s2 m2 e2 mode))]
        else .tu [.ag [.v (.int .i64 (3)), .v (.bool (false)), .v (.int .i64 (0)), .v (.int .i64 (0))], .v (.int .i64 16)])) := by
  refine Con.of_aw Tryz.func30 rfl Tryz.ntmps30 (by simp) (by simp) (by simp) (W.sound ?_)
  show @W Tryz.prog 21 ⟨_⟩ ⟨fun x σ => @retW _ _ _ ⟨_⟩ _ ⟨_⟩ x σ⟩ _ _
  simp (disch := omega) only [go_sem]
  refine call_closed (con_areFloats2 mode k1 s1 m1 e1 k2 s2 m2 e2) (by simp (disch := omega) only [go_sem]) ?_
  rintro r hs ⟨rfl, rfl, _⟩
  refine ⟨by simp [freeN], ?_⟩
  simp (disch := omega) only [go_sem]
  refine ifW_nb (fun h => ?_) (fun h => ?_)
  · simp (disch := omega) only [go_sem, h]
    refine call_closed (con_nan) (by simp (disch := omega) only [go_sem]) ?_
    rintro r hs ⟨rfl, rfl, _⟩
    refine ⟨by simp [freeN], ?_⟩
    simp (disch := omega) only [go_sem]
    rw [if_neg (by rw [h]; simp)]
    exact fin_valc (by simp (disch := omega) only [go_sem]) (by simp (disch := omega) only [go_sem]) isA_mk
  · simp (disch := omega) only [go_sem, h]
    have h' := h
    simp only [Bool.and_eq_true, modeB, decide_eq_true_eq] at h'
    refine call_closed (con_add k1 s1 m1 e1 k2 s2 m2 e2 mode h'.2.1 h'.2.2) (by simp (disch := omega) only [go_sem]) ?_
    rintro r hs ⟨rfl, rfl, _⟩
    refine ⟨by simp [freeN], ?_⟩
    simp (disch := omega) only [go_sem]
    rw [if_pos h]
    exact fin_valc (by simp (disch := omega) only [go_sem]) (by simp (disch := omega) only [go_sem]) isA_mk

end Go.Ab
namespace Go.Ab
open Go Go.Proofs
set_option linter.unusedVariables false
set_option linter.unusedSimpArgs false

section
variable {k1 : Int} {s1 : Bool} {m1 e1 k2 : Int} {s2 : Bool} {m2 e2 mode : Int}
theorem mulV_nan (h : k1 = 3 ∨ k2 = 3) : mulV k1 s1 m1 e1 k2 s2 m2 e2 mode = ⟨3, false, 0, 0⟩ ∧ mulG k1 s1 m1 e1 k2 s2 m2 e2 mode = 0 := by
  have h' : (decide (k1 = 3) || decide (k2 = 3)) = true := by simpa using h
  unfold mulV mulG; rw [if_pos h', if_pos h']; exact ⟨rfl, rfl⟩
theorem mulV_bad (h0 : ¬ (k1 = 3 ∨ k2 = 3)) (h1 : k1 = 2 ∨ k2 = 2) (h2 : k1 = 0 ∨ k2 = 0) : mulV k1 s1 m1 e1 k2 s2 m2 e2 mode = ⟨3, false, 0, 0⟩ ∧ mulG k1 s1 m1 e1 k2 s2 m2 e2 mode = 16 := by
  have h0' : ¬ (decide (k1 = 3) || decide (k2 = 3)) = true := by simpa using h0
  have h1' : (decide (k1 = 2) || decide (k2 = 2)) = true := by simpa using h1
  have h2' : (decide (k1 = 0) || decide (k2 = 0)) = true := by simpa using h2
  unfold mulV mulG; rw [if_neg h0', if_neg h0', if_pos h1', if_pos h1', if_pos h2', if_pos h2']; exact ⟨rfl, rfl⟩
theorem mulV_inf (h0 : ¬ (k1 = 3 ∨ k2 = 3)) (h1 : k1 = 2 ∨ k2 = 2) (h2 : ¬ (k1 = 0 ∨ k2 = 0)) : mulV k1 s1 m1 e1 k2 s2 m2 e2 mode = ⟨2, s1 != s2, 0, 0⟩ ∧ mulG k1 s1 m1 e1 k2 s2 m2 e2 mode = 0 := by
  have h0' : ¬ (decide (k1 = 3) || decide (k2 = 3)) = true := by simpa using h0
  have h1' : (decide (k1 = 2) || decide (k2 = 2)) = true := by simpa using h1
  have h2' : ¬ (decide (k1 = 0) || decide (k2 = 0)) = true := by simpa using h2
  unfold mulV mulG; rw [if_neg h0', if_neg h0', if_pos h1', if_pos h1', if_neg h2', if_neg h2']; exact ⟨rfl, rfl⟩
theorem mulV_fin (h0 : ¬ (k1 = 3 ∨ k2 = 3)) (h1 : ¬ (k1 = 2 ∨ k2 = 2)) : mulV k1 s1 m1 e1 k2 s2 m2 e2 mode = flV (muS k1 s1 m1 k2 s2 m2) (m1.toNat * m2.toNat) (e1 + e2) mode (s1 != s2) ∧ mulG k1 s1 m1 e1 k2 s2 m2 e2 mode = flG (muS k1 s1 m1 k2 s2 m2) (m1.toNat * m2.toNat) (e1 + e2) mode := by
  have h0' : ¬ (decide (k1 = 3) || decide (k2 = 3)) = true := by simpa using h0
  have h1' : ¬ (decide (k1 = 2) || decide (k2 = 2)) = true := by simpa using h1
  unfold mulV mulG; rw [if_neg h0', if_neg h0', if_neg h1', if_neg h1']; exact ⟨rfl, rfl⟩
end
theorem inf_flB (s : Bool) : flB 2 s 0 0 = true := by unfold flB; simp
theorem nan_flB : flB 3 false 0 0 = true := by unfold flB; simp
theorem zero_flB (s : Bool) : flB 0 s 0 0 = true := by unfold flB; simp

theorem con_areFloats3 (mode k1 : Int) (s1 : Bool) (m1 e1 k2 : Int) (s2 : Bool) (m2 e2 k3 : Int) (s3 : Bool) (m3 e3 : Int) :
    Con Tryz.prog 41 true [.v (.int .i64 mode), .sl 3 [.v (.int .i64 k1), .v (.bool s1), .v (.int .i64 m1), .v (.int .i64 e1), .v (.int .i64 k2), .v (.bool s2), .v (.int .i64 m2), .v (.int .i64 e2), .v (.int .i64 k3), .v (.bool s3), .v (.int .i64 m3), .v (.int .i64 e3)]] []
      (isA (.v (.bool (modeB mode && (flB k1 s1 m1 e1 && (flB k2 s2 m2 e2 && flB k3 s3 m3 e3)))))) := by
  have := con_areFloats mode [⟨k1, s1, m1, e1⟩, ⟨k2, s2, m2, e2⟩, ⟨k3, s3, m3, e3⟩] (by simp)
  simp only [List.all_cons, List.all_nil, Bool.and_true] at this
  exact this

theorem con_isFinite (k : Int) (s : Bool) (m e : Int) : Con Tryz.prog 42 true [.ag [.v (.int .i64 (k)), .v (.bool (s)), .v (.int .i64 (m)), .v (.int .i64 (e))]] [] (isA (.v (.bool (decide (k = 0) || decide (k = 1))))) := by
  refine Con.of_aw Tryz.func42 rfl Tryz.ntmps42 (by simp) (by simp) (by simp) (W.sound ?_)
  show @W Tryz.prog 11 ⟨_⟩ ⟨fun x σ => @retW _ _ _ ⟨_⟩ _ ⟨_⟩ x σ⟩ _ _
  simp (disch := omega) only [go_sem]
  repeat' first
    | simp (disch := omega) only [go_sem, *]
    | (with_reducible refine ifW_dec (fun _ => ?_) (fun _ => ?_))
    | (with_reducible refine ifW_not (fun _ => ?_) (fun _ => ?_))
    | (with_reducible refine ifW_nb (fun _ => ?_) (fun _ => ?_))
    | (with_reducible refine ifW_b (fun _ => ?_) (fun _ => ?_))
  all_goals exact fin_valc (by simp (disch := omega) only [go_sem]) (by simp (disch := omega) only [go_sem]) ⟨by simp_all [tupA] <;> omega, rfl, rfl⟩
end Go.Ab
namespace Go.Ab
open Go Go.Proofs
set_option linter.unusedVariables false
set_option linter.unusedSimpArgs false

theorem con_FlFma (k1 : Int) (s1 : Bool) (m1 e1 k2 : Int) (s2 : Bool) (m2 e2 k3 : Int) (s3 : Bool) (m3 e3 mode : Int) :
    Con Tryz.prog 29 true [.ag [.v (.int .i64 (k1)), .v (.bool (s1)), .v (.int .i64 (m1)), .v (.int .i64 (e1))], .ag [.v (.int .i64 (k2)), .v (.bool (s2)), .v (.int .i64 (m2)), .v (.int .i64 (e2))], .ag [.v (.int .i64 (k3)), .v (.bool (s3)), .v (.int .i64 (m3)), .v (.int .i64 (e3))], .v (.int .i64 mode)] []
      (isA (if (modeB mode && (flB k1 s1 m1 e1 && (flB k2 s2 m2 e2 && flB k3 s3 m3 e3))) = true then .tu [.ag [.v (.int .i64 ((fmaV k1 s1 m1 e1 k2 s2 m2 e2 k3 s3 m3 e3 mode).k)), .v (.bool ((fmaV k1 s1 m1 e1 k2 s2 m2 e2 k3 s3 m3 e3 mode).s)), .v (.int .i64 ((fmaV k1 s1 m1 e1 k2 s2 m2 e2 k3 s3 m3 e3 mode).m)), .v (.int .i64 ((fmaV k1 s1 m1 e1 k2 s2 m2 e2 k3 s3 m3 e3 mode).e))], .v (.int .i64 (fmaG k1 s1 m1 e1 k2 s2 m2 e2 k3 s3 m3 e3 mode))]
        else .tu [.ag [.v (.int .i64 (3)), .v (.bool (false)), .v (.int .i64 (0)), .v (.int .i64 (0))], .v (.int .i64 16)])) := by
  by_cases hv : (modeB mode && (flB k1 s1 m1 e1 && (flB k2 s2 m2 e2 && flB k3 s3 m3 e3))) = true
  · rw [if_pos hv]
    have h' := hv
    simp only [Bool.and_eq_true, modeB, decide_eq_true_eq] at h'
    obtain ⟨hmode, h1, h2, h3⟩ := h'
    obtain ⟨a1, a2, a3, a4⟩ := flB_rng h1
    obtain ⟨b1, b2, b3, b4⟩ := flB_rng h2
    obtain ⟨g1, g2, g3, g4⟩ := flB_rng h3
    have cm := con_mul k1 s1 m1 e1 k2 s2 m2 e2 mode h1 h2
    cases hf1 : (decide (k1 = 0) || decide (k1 = 1)) with
    | false =>
      have hf1' : ¬ (k1 = 0 ∨ k1 = 1) := by simpa using hf1
      by_cases c3 : k1 = 3 ∨ k2 = 3
      · rw [(mulV_nan c3).1, (mulV_nan c3).2] at cm
        rw [(fmaV_nan c3).1, (fmaV_nan c3).2]
        refine Con.of_aw Tryz.func29 rfl Tryz.ntmps29 (by simp) (by simp) (by simp) (W.sound ?_)
        show @W Tryz.prog 88 ⟨_⟩ ⟨fun x σ => @retW _ _ _ ⟨_⟩ _ ⟨_⟩ x σ⟩ _ _
        simp (disch := omega) only [go_sem]
        refine call_closed (con_areFloats3 mode k1 s1 m1 e1 k2 s2 m2 e2 k3 s3 m3 e3) (by simp (disch := omega) only [go_sem]) ?_
        rintro r hs ⟨rfl, rfl, _⟩
        refine ⟨by simp [freeN], ?_⟩
        simp (disch := omega) only [go_sem]
        simp (disch := omega) only [go_sem, hv]
        refine call_closed (con_isFinite k1 s1 m1 e1) (by simp (disch := omega) only [go_sem]) ?_
        rintro r hs ⟨rfl, rfl, _⟩
        refine ⟨by simp [freeN], ?_⟩
        simp (disch := omega) only [go_sem]
        simp (disch := omega) only [go_sem, hf1]
        refine call_closed (cm) (by simp (disch := omega) only [go_sem]) ?_
        rintro r hs ⟨rfl, rfl, _⟩
        refine ⟨by simp [freeN], ?_⟩
        simp (disch := omega) only [go_sem]
        refine call_closed (con_add 3 false 0 0 k3 s3 m3 e3 mode nan_flB h3) (by simp (disch := omega) only [go_sem]) ?_
        rintro r hs ⟨rfl, rfl, _⟩
        refine ⟨by simp [freeN], ?_⟩
        simp (disch := omega) only [go_sem]
        rw [(addV_nan (.inl rfl)).1, (addV_nan (.inl rfl)).2]
        exact fin_valc (by simp (disch := omega) only [go_sem]) (by simp (disch := omega) only [go_sem]) isA_mk
      have c2 : k1 = 2 ∨ k2 = 2 := by omega
      by_cases c0 : k1 = 0 ∨ k2 = 0
      · rw [(mulV_bad c3 c2 c0).1, (mulV_bad c3 c2 c0).2] at cm
        rw [(fmaV_bad c3 c2 c0).1, (fmaV_bad c3 c2 c0).2]
        refine Con.of_aw Tryz.func29 rfl Tryz.ntmps29 (by simp) (by simp) (by simp) (W.sound ?_)
        show @W Tryz.prog 88 ⟨_⟩ ⟨fun x σ => @retW _ _ _ ⟨_⟩ _ ⟨_⟩ x σ⟩ _ _
        simp (disch := omega) only [go_sem]
        refine call_closed (con_areFloats3 mode k1 s1 m1 e1 k2 s2 m2 e2 k3 s3 m3 e3) (by simp (disch := omega) only [go_sem]) ?_
        rintro r hs ⟨rfl, rfl, _⟩
        refine ⟨by simp [freeN], ?_⟩
        simp (disch := omega) only [go_sem]
        simp (disch := omega) only [go_sem, hv]
        refine call_closed (con_isFinite k1 s1 m1 e1) (by simp (disch := omega) only [go_sem]) ?_
        rintro r hs ⟨rfl, rfl, _⟩
        refine ⟨by simp [freeN], ?_⟩
        simp (disch := omega) only [go_sem]
        simp (disch := omega) only [go_sem, hf1]
        refine call_closed (cm) (by simp (disch := omega) only [go_sem]) ?_
        rintro r hs ⟨rfl, rfl, _⟩
        refine ⟨by simp [freeN], ?_⟩
        simp (disch := omega) only [go_sem]
        exact fin_valc (by simp (disch := omega) only [go_sem]) (by simp (disch := omega) only [go_sem]) isA_mk
      rw [(mulV_inf c3 c2 c0).1, (mulV_inf c3 c2 c0).2] at cm
      rw [(fmaV_inf c3 c2 c0).1, (fmaV_inf c3 c2 c0).2]
      refine Con.of_aw Tryz.func29 rfl Tryz.ntmps29 (by simp) (by simp) (by simp) (W.sound ?_)
      show @W Tryz.prog 88 ⟨_⟩ ⟨fun x σ => @retW _ _ _ ⟨_⟩ _ ⟨_⟩ x σ⟩ _ _
      simp (disch := omega) only [go_sem]
      refine call_closed (con_areFloats3 mode k1 s1 m1 e1 k2 s2 m2 e2 k3 s3 m3 e3) (by simp (disch := omega) only [go_sem]) ?_
      rintro r hs ⟨rfl, rfl, _⟩
      refine ⟨by simp [freeN], ?_⟩
      simp (disch := omega) only [go_sem]
      simp (disch := omega) only [go_sem, hv]
      refine call_closed (con_isFinite k1 s1 m1 e1) (by simp (disch := omega) only [go_sem]) ?_
      rintro r hs ⟨rfl, rfl, _⟩
      refine ⟨by simp [freeN], ?_⟩
      simp (disch := omega) only [go_sem]
      simp (disch := omega) only [go_sem, hf1]
      refine call_closed (cm) (by simp (disch := omega) only [go_sem]) ?_
      rintro r hs ⟨rfl, rfl, _⟩
      refine ⟨by simp [freeN], ?_⟩
      simp (disch := omega) only [go_sem]
      refine call_closed (con_add 2 (s1 != s2) 0 0 k3 s3 m3 e3 mode (inf_flB _) h3) (by simp (disch := omega) only [go_sem]) ?_
      rintro r hs ⟨rfl, rfl, _⟩
      refine ⟨by simp [freeN], ?_⟩
      simp (disch := omega) only [go_sem]
      exact fin_valc (by simp (disch := omega) only [go_sem]) (by simp (disch := omega) only [go_sem]) isA_mk
    | true =>
    have hf1' : k1 = 0 ∨ k1 = 1 := by simpa using hf1
    cases hf2 : (decide (k2 = 0) || decide (k2 = 1)) with
    | false =>
      have hf2' : ¬ (k2 = 0 ∨ k2 = 1) := by simpa using hf2
      by_cases c3 : k1 = 3 ∨ k2 = 3
      · rw [(mulV_nan c3).1, (mulV_nan c3).2] at cm
        rw [(fmaV_nan c3).1, (fmaV_nan c3).2]
        refine Con.of_aw Tryz.func29 rfl Tryz.ntmps29 (by simp) (by simp) (by simp) (W.sound ?_)
        show @W Tryz.prog 88 ⟨_⟩ ⟨fun x σ => @retW _ _ _ ⟨_⟩ _ ⟨_⟩ x σ⟩ _ _
        simp (disch := omega) only [go_sem]
        refine call_closed (con_areFloats3 mode k1 s1 m1 e1 k2 s2 m2 e2 k3 s3 m3 e3) (by simp (disch := omega) only [go_sem]) ?_
        rintro r hs ⟨rfl, rfl, _⟩
        refine ⟨by simp [freeN], ?_⟩
        simp (disch := omega) only [go_sem]
        simp (disch := omega) only [go_sem, hv]
        refine call_closed (con_isFinite k1 s1 m1 e1) (by simp (disch := omega) only [go_sem]) ?_
        rintro r hs ⟨rfl, rfl, _⟩
        refine ⟨by simp [freeN], ?_⟩
        simp (disch := omega) only [go_sem]
        simp (disch := omega) only [go_sem, hf1]
        refine call_closed (con_isFinite k2 s2 m2 e2) (by simp (disch := omega) only [go_sem, hf1]) ?_
        rintro r hs ⟨rfl, rfl, _⟩
        refine ⟨by simp [freeN], ?_⟩
        simp (disch := omega) only [go_sem]
        simp (disch := omega) only [go_sem, hf2]
        refine call_closed (cm) (by simp (disch := omega) only [go_sem]) ?_
        rintro r hs ⟨rfl, rfl, _⟩
        refine ⟨by simp [freeN], ?_⟩
        simp (disch := omega) only [go_sem]
        refine call_closed (con_add 3 false 0 0 k3 s3 m3 e3 mode nan_flB h3) (by simp (disch := omega) only [go_sem]) ?_
        rintro r hs ⟨rfl, rfl, _⟩
        refine ⟨by simp [freeN], ?_⟩
        simp (disch := omega) only [go_sem]
        rw [(addV_nan (.inl rfl)).1, (addV_nan (.inl rfl)).2]
        exact fin_valc (by simp (disch := omega) only [go_sem]) (by simp (disch := omega) only [go_sem]) isA_mk
      have c2 : k1 = 2 ∨ k2 = 2 := by omega
      by_cases c0 : k1 = 0 ∨ k2 = 0
      · rw [(mulV_bad c3 c2 c0).1, (mulV_bad c3 c2 c0).2] at cm
        rw [(fmaV_bad c3 c2 c0).1, (fmaV_bad c3 c2 c0).2]
        refine Con.of_aw Tryz.func29 rfl Tryz.ntmps29 (by simp) (by simp) (by simp) (W.sound ?_)
        show @W Tryz.prog 88 ⟨_⟩ ⟨fun x σ => @retW _ _ _ ⟨_⟩ _ ⟨_⟩ x σ⟩ _ _
        simp (disch := omega) only [go_sem]
        refine call_closed (con_areFloats3 mode k1 s1 m1 e1 k2 s2 m2 e2 k3 s3 m3 e3) (by simp (disch := omega) only [go_sem]) ?_
        rintro r hs ⟨rfl, rfl, _⟩
        refine ⟨by simp [freeN], ?_⟩
        simp (disch := omega) only [go_sem]
        simp (disch := omega) only [go_sem, hv]
        refine call_closed (con_isFinite k1 s1 m1 e1) (by simp (disch := omega) only [go_sem]) ?_
        rintro r hs ⟨rfl, rfl, _⟩
        refine ⟨by simp [freeN], ?_⟩
        simp (disch := omega) only [go_sem]
        simp (disch := omega) only [go_sem, hf1]
        refine call_closed (con_isFinite k2 s2 m2 e2) (by simp (disch := omega) only [go_sem, hf1]) ?_
        rintro r hs ⟨rfl, rfl, _⟩
        refine ⟨by simp [freeN], ?_⟩
        simp (disch := omega) only [go_sem]
        simp (disch := omega) only [go_sem, hf2]
        refine call_closed (cm) (by simp (disch := omega) only [go_sem]) ?_
        rintro r hs ⟨rfl, rfl, _⟩
        refine ⟨by simp [freeN], ?_⟩
        simp (disch := omega) only [go_sem]
        exact fin_valc (by simp (disch := omega) only [go_sem]) (by simp (disch := omega) only [go_sem]) isA_mk
      rw [(mulV_inf c3 c2 c0).1, (mulV_inf c3 c2 c0).2] at cm
      rw [(fmaV_inf c3 c2 c0).1, (fmaV_inf c3 c2 c0).2]
      refine Con.of_aw Tryz.func29 rfl Tryz.ntmps29 (by simp) (by simp) (by simp) (W.sound ?_)
      show @W Tryz.prog 88 ⟨_⟩ ⟨fun x σ => @retW _ _ _ ⟨_⟩ _ ⟨_⟩ x σ⟩ _ _
      simp (disch := omega) only [go_sem]
      refine call_closed (con_areFloats3 mode k1 s1 m1 e1 k2 s2 m2 e2 k3 s3 m3 e3) (by simp (disch := omega) only [go_sem]) ?_
      rintro r hs ⟨rfl, rfl, _⟩
      refine ⟨by simp [freeN], ?_⟩
      simp (disch := omega) only [go_sem]
      simp (disch := omega) only [go_sem, hv]
      refine call_closed (con_isFinite k1 s1 m1 e1) (by simp (disch := omega) only [go_sem]) ?_
      rintro r hs ⟨rfl, rfl, _⟩
      refine ⟨by simp [freeN], ?_⟩
      simp (disch := omega) only [go_sem]
      simp (disch := omega) only [go_sem, hf1]
      refine call_closed (con_isFinite k2 s2 m2 e2) (by simp (disch := omega) only [go_sem, hf1]) ?_
      rintro r hs ⟨rfl, rfl, _⟩
      refine ⟨by simp [freeN], ?_⟩
      simp (disch := omega) only [go_sem]
      simp (disch := omega) only [go_sem, hf2]
      refine call_closed (cm) (by simp (disch := omega) only [go_sem]) ?_
      rintro r hs ⟨rfl, rfl, _⟩
      refine ⟨by simp [freeN], ?_⟩
      simp (disch := omega) only [go_sem]
      refine call_closed (con_add 2 (s1 != s2) 0 0 k3 s3 m3 e3 mode (inf_flB _) h3) (by simp (disch := omega) only [go_sem]) ?_
      rintro r hs ⟨rfl, rfl, _⟩
      refine ⟨by simp [freeN], ?_⟩
      simp (disch := omega) only [go_sem]
      exact fin_valc (by simp (disch := omega) only [go_sem]) (by simp (disch := omega) only [go_sem]) isA_mk
    | true =>
    have hf2' : k2 = 0 ∨ k2 = 1 := by simpa using hf2
    have c3 : ¬ (k1 = 3 ∨ k2 = 3) := by omega
    have c2 : ¬ (k1 = 2 ∨ k2 = 2) := by omega
    cases hf3 : (decide (k3 = 0) || decide (k3 = 1)) with
    | false =>
      have hf3' : ¬ (k3 = 0 ∨ k3 = 1) := by simpa using hf3
      have c4 : k3 = 2 ∨ k3 = 3 := by omega
      rw [(fmaV_c c3 c2 c4).1, (fmaV_c c3 c2 c4).2]
      refine Con.of_aw Tryz.func29 rfl Tryz.ntmps29 (by simp) (by simp) (by simp) (W.sound ?_)
      show @W Tryz.prog 88 ⟨_⟩ ⟨fun x σ => @retW _ _ _ ⟨_⟩ _ ⟨_⟩ x σ⟩ _ _
      simp (disch := omega) only [go_sem]
      refine call_closed (con_areFloats3 mode k1 s1 m1 e1 k2 s2 m2 e2 k3 s3 m3 e3) (by simp (disch := omega) only [go_sem]) ?_
      rintro r hs ⟨rfl, rfl, _⟩
      refine ⟨by simp [freeN], ?_⟩
      simp (disch := omega) only [go_sem]
      simp (disch := omega) only [go_sem, hv]
      refine call_closed (con_isFinite k1 s1 m1 e1) (by simp (disch := omega) only [go_sem]) ?_
      rintro r hs ⟨rfl, rfl, _⟩
      refine ⟨by simp [freeN], ?_⟩
      simp (disch := omega) only [go_sem]
      simp (disch := omega) only [go_sem, hf1]
      refine call_closed (con_isFinite k2 s2 m2 e2) (by simp (disch := omega) only [go_sem, hf1]) ?_
      rintro r hs ⟨rfl, rfl, _⟩
      refine ⟨by simp [freeN], ?_⟩
      simp (disch := omega) only [go_sem]
      simp (disch := omega) only [go_sem, hf2]
      refine call_closed (con_isFinite k3 s3 m3 e3) (by simp (disch := omega) only [go_sem]) ?_
      rintro r hs ⟨rfl, rfl, _⟩
      refine ⟨by simp [freeN], ?_⟩
      simp (disch := omega) only [go_sem]
      simp (disch := omega) only [go_sem, hf3]
      exact fin_valc (by simp (disch := omega) only [go_sem]) (by simp (disch := omega) only [go_sem]) isA_mk
    | true =>
    have hf3' : k3 = 0 ∨ k3 = 1 := by simpa using hf3
    have c4 : ¬ (k3 = 2 ∨ k3 = 3) := by omega
    obtain ⟨n1, rfl⟩ := Int.eq_ofNat_of_zero_le a1.1
    obtain ⟨n2, rfl⟩ := Int.eq_ofNat_of_zero_le b1.1
    obtain ⟨n3, rfl⟩ := Int.eq_ofNat_of_zero_le g1.1
    have q1 : bl n1 ≤ 53 := bl_le.2 (by omega)
    have q2 : bl n2 ≤ 53 := bl_le.2 (by omega)
    have q3 : bl n3 ≤ 53 := bl_le.2 (by omega)
    have q4 := bl_mulle n1 n2
    have r1 : ((n1 : Nat) : Int).toNat = n1 := rfl
    have r2 : ((n2 : Nat) : Int).toNat = n2 := rfl
    have r3 : ((n3 : Nat) : Int).toNat = n3 := rfl
    have x1 : xS k3 s3 = (s3 && decide (k3 = 1)) := rfl
    have x2 : muS k1 s1 n1 k2 s2 n2 = (((s1 && decide (k1 = 1)) != (s2 && decide (k2 = 1))) && decide (n1 * n2 ≠ 0)) := rfl
    have fin : ∀ z, z = fmZ k1 s1 k2 s2 k3 s3 mode → (fmaV k1 s1 n1 e1 k2 s2 n2 e2 k3 s3 n3 e3 mode = flV (adS (muS k1 s1 n1 k2 s2 n2) (n1 * n2) (e1 + e2) (xS k3 s3) n3 e3) (adM (muS k1 s1 n1 k2 s2 n2) (n1 * n2) (e1 + e2) (xS k3 s3) n3 e3) (alE (n1 * n2) (e1 + e2) n3 e3) mode z ∧ fmaG k1 s1 n1 e1 k2 s2 n2 e2 k3 s3 n3 e3 mode = flG (adS (muS k1 s1 n1 k2 s2 n2) (n1 * n2) (e1 + e2) (xS k3 s3) n3 e3) (adM (muS k1 s1 n1 k2 s2 n2) (n1 * n2) (e1 + e2) (xS k3 s3) n3 e3) (alE (n1 * n2) (e1 + e2) n3 e3) mode) := fun z hz => by rw [hz]; exact fmaV_fin c3 c2 c4
    have hE := alE_ge (K := -2148) (m1 := n1 * n2) (m2 := n3) (e1 := e1 + e2) (e2 := e3) (by omega) (by omega)
    have hE2 := alE_le (K := 1942) (m1 := n1 * n2) (m2 := n3) (e1 := e1 + e2) (e2 := e3) (by omega) (by omega)
    have hM : bl (adM (muS k1 s1 n1 k2 s2 n2) (n1 * n2) (e1 + e2) (xS k3 s3) n3 e3) ≤ 6000 := by
      have y1 := bl_alA (B := 106) (e := e1 + e2) (E := alE (n1 * n2) (e1 + e2) n3 e3) (C := 5000) (show bl (n1 * n2) ≤ 106 by omega) (by omega)
      have y2 := bl_alA (B := 106) (e := e3) (E := alE (n1 * n2) (e1 + e2) n3 e3) (C := 5000) (show bl n3 ≤ 106 by omega) (by omega)
      exact Nat.le_trans (bl_suM y1 y2) (by omega)
    by_cases z0 : k1 = 0 ∨ k2 = 0
    · have z0' : (decide (k1 = 0) || decide (k2 = 0)) = true := by simpa using z0
      by_cases z3 : k3 = 0
      · have z3' : decide (k3 = 0) = true := decide_eq_true z3
        by_cases hs : s3 = (s1 != s2)
        · have hs' : (s3 == (s1 != s2)) = true := by simpa using hs
          have hs2 : ((s1 != s2) == s3) = true := by rw [← hs]; simp
          refine Con.of_aw Tryz.func29 rfl Tryz.ntmps29 (by simp) (by simp) (by simp) (W.sound ?_)
          show @W Tryz.prog 88 ⟨_⟩ ⟨fun x σ => @retW _ _ _ ⟨_⟩ _ ⟨_⟩ x σ⟩ _ _
          simp (disch := omega) only [go_sem]
          refine call_closed (con_areFloats3 mode k1 s1 (n1 : Int) e1 k2 s2 (n2 : Int) e2 k3 s3 (n3 : Int) e3) (by simp (disch := omega) only [go_sem]) ?_
          rintro r hs ⟨rfl, rfl, _⟩
          refine ⟨by simp [freeN], ?_⟩
          simp (disch := omega) only [go_sem]
          simp (disch := omega) only [go_sem, hv]
          refine call_closed (con_isFinite k1 s1 (n1 : Int) e1) (by simp (disch := omega) only [go_sem]) ?_
          rintro r hs ⟨rfl, rfl, _⟩
          refine ⟨by simp [freeN], ?_⟩
          simp (disch := omega) only [go_sem]
          simp (disch := omega) only [go_sem, hf1]
          refine call_closed (con_isFinite k2 s2 (n2 : Int) e2) (by simp (disch := omega) only [go_sem, hf1]) ?_
          rintro r hs ⟨rfl, rfl, _⟩
          refine ⟨by simp [freeN], ?_⟩
          simp (disch := omega) only [go_sem]
          simp (disch := omega) only [go_sem, hf2]
          refine call_closed (con_isFinite k3 s3 (n3 : Int) e3) (by simp (disch := omega) only [go_sem]) ?_
          rintro r hs ⟨rfl, rfl, _⟩
          refine ⟨by simp [freeN], ?_⟩
          simp (disch := omega) only [go_sem]
          simp (disch := omega) only [go_sem, hf3]
          refine call_closed (con_hasKind 0 k1 (n1 : Int) e1 k2 (n2 : Int) e2 s1 s2) (by simp (disch := omega) only [go_sem]) ?_
          rintro r hs ⟨rfl, rfl, _⟩
          refine ⟨by simp [freeN], ?_⟩
          simp (disch := omega) only [go_sem]
          simp (disch := omega) only [go_sem, z0', z3', hs', hs2]
          refine draw_of rfl [⟨0, [], []⟩, ⟨2, [0], []⟩, ⟨5, [0, 2], []⟩, ⟨8, [0, 2, 5], []⟩, ⟨9, [0, 2, 5], []⟩, ⟨1, [2, 5], []⟩, ⟨3, [5], []⟩, ⟨4, [5], []⟩, ⟨6, [], []⟩, ⟨7, [], []⟩, ⟨10, [], []⟩, ⟨11, [], []⟩, ⟨12, [], []⟩, ⟨13, [], []⟩, ⟨14, [], []⟩] (by kernel_rfl) ?_
          simp (disch := omega) only [go_sem, z0', z3', hs', hs2]
          refine call_open (con_flexact k1 s1 n1 e1 (by omega)) (by simp (disch := omega) only [go_sem]) ?_
          rintro r hs ⟨rfl, rfl, _⟩
          refine ⟨by simp [freeN], ?_⟩
          simp (disch := omega) only [go_sem]
          refine call_open (con_flexact k2 s2 n2 e2 (by omega)) (by simp (disch := omega) only [go_sem]) ?_
          rintro r hs ⟨rfl, rfl, _⟩
          refine ⟨by simp [freeN], ?_⟩
          simp (disch := omega) only [go_sem]
          refine call_open (con_timesX (s1 && decide (k1 = 1)) n1 e1 (s2 && decide (k2 = 1)) n2 e2 (by omega) (by omega) (by omega) (by omega)) (by simp (disch := omega) only [go_sem]) ?_
          rintro r hs ⟨rfl, rfl, _⟩
          refine ⟨by simp [freeN], ?_⟩
          simp (disch := omega) only [go_sem]
          refine call_open (con_flexact k3 s3 n3 e3 (by omega)) (by simp (disch := omega) only [go_sem]) ?_
          rintro r hs ⟨rfl, rfl, _⟩
          refine ⟨by simp [freeN], ?_⟩
          simp (disch := omega) only [go_sem]
          refine call_open (con_plusX (((s1 && decide (k1 = 1)) != (s2 && decide (k2 = 1))) && decide (n1 * n2 ≠ 0)) (n1 * n2) (e1 + e2) (s3 && decide (k3 = 1)) n3 e3 (by omega) (by omega) (by omega) (by omega)) (by simp (disch := omega) only [go_sem]) ?_
          rintro r hs ⟨rfl, rfl, _⟩
          refine ⟨by simp [freeN], ?_⟩
          simp (disch := omega) only [go_sem]
          refine call_closed (con_float (adS (muS k1 s1 n1 k2 s2 n2) (n1 * n2) (e1 + e2) (xS k3 s3) n3 e3) (adM (muS k1 s1 n1 k2 s2 n2) (n1 * n2) (e1 + e2) (xS k3 s3) n3 e3) (alE (n1 * n2) (e1 + e2) n3 e3) mode (s3) (by omega) (by omega)) (by simp (disch := omega) only [go_sem, x1, x2]) ?_
          rintro r hs ⟨rfl, rfl, _⟩
          refine ⟨by simp [freeN], ?_⟩
          simp (disch := omega) only [go_sem]
          rw [(fin (s3) (by unfold fmZ; rw [if_pos ⟨z0, z3, hs⟩])).1, (fin (s3) (by unfold fmZ; rw [if_pos ⟨z0, z3, hs⟩])).2]
          exact fin_valc (by simp (disch := omega) only [go_sem]) (by simp (disch := omega) only [go_sem]) isA_mk
        · have hs' : (s3 == (s1 != s2)) = false := by simpa using hs
          have hs2 : ((s1 != s2) == s3) = false := by rw [Bool.beq_comm]; exact hs'
          refine Con.of_aw Tryz.func29 rfl Tryz.ntmps29 (by simp) (by simp) (by simp) (W.sound ?_)
          show @W Tryz.prog 88 ⟨_⟩ ⟨fun x σ => @retW _ _ _ ⟨_⟩ _ ⟨_⟩ x σ⟩ _ _
          simp (disch := omega) only [go_sem]
          refine call_closed (con_areFloats3 mode k1 s1 (n1 : Int) e1 k2 s2 (n2 : Int) e2 k3 s3 (n3 : Int) e3) (by simp (disch := omega) only [go_sem]) ?_
          rintro r hs ⟨rfl, rfl, _⟩
          refine ⟨by simp [freeN], ?_⟩
          simp (disch := omega) only [go_sem]
          simp (disch := omega) only [go_sem, hv]
          refine call_closed (con_isFinite k1 s1 (n1 : Int) e1) (by simp (disch := omega) only [go_sem]) ?_
          rintro r hs ⟨rfl, rfl, _⟩
          refine ⟨by simp [freeN], ?_⟩
          simp (disch := omega) only [go_sem]
          simp (disch := omega) only [go_sem, hf1]
          refine call_closed (con_isFinite k2 s2 (n2 : Int) e2) (by simp (disch := omega) only [go_sem, hf1]) ?_
          rintro r hs ⟨rfl, rfl, _⟩
          refine ⟨by simp [freeN], ?_⟩
          simp (disch := omega) only [go_sem]
          simp (disch := omega) only [go_sem, hf2]
          refine call_closed (con_isFinite k3 s3 (n3 : Int) e3) (by simp (disch := omega) only [go_sem]) ?_
          rintro r hs ⟨rfl, rfl, _⟩
          refine ⟨by simp [freeN], ?_⟩
          simp (disch := omega) only [go_sem]
          simp (disch := omega) only [go_sem, hf3]
          refine call_closed (con_hasKind 0 k1 (n1 : Int) e1 k2 (n2 : Int) e2 s1 s2) (by simp (disch := omega) only [go_sem]) ?_
          rintro r hs ⟨rfl, rfl, _⟩
          refine ⟨by simp [freeN], ?_⟩
          simp (disch := omega) only [go_sem]
          simp (disch := omega) only [go_sem, z0', z3', hs', hs2]
          refine draw_of rfl [⟨0, [], []⟩, ⟨2, [0], []⟩, ⟨5, [0, 2], []⟩, ⟨8, [0, 2, 5], []⟩, ⟨9, [0, 2, 5], []⟩, ⟨1, [2, 5], []⟩, ⟨3, [5], []⟩, ⟨4, [5], []⟩, ⟨6, [], []⟩, ⟨7, [], []⟩, ⟨10, [], []⟩, ⟨11, [], []⟩, ⟨12, [], []⟩, ⟨13, [], []⟩, ⟨14, [], []⟩] (by kernel_rfl) ?_
          simp (disch := omega) only [go_sem, z0', z3', hs', hs2]
          refine call_open (con_flexact k1 s1 n1 e1 (by omega)) (by simp (disch := omega) only [go_sem]) ?_
          rintro r hs ⟨rfl, rfl, _⟩
          refine ⟨by simp [freeN], ?_⟩
          simp (disch := omega) only [go_sem]
          refine call_open (con_flexact k2 s2 n2 e2 (by omega)) (by simp (disch := omega) only [go_sem]) ?_
          rintro r hs ⟨rfl, rfl, _⟩
          refine ⟨by simp [freeN], ?_⟩
          simp (disch := omega) only [go_sem]
          refine call_open (con_timesX (s1 && decide (k1 = 1)) n1 e1 (s2 && decide (k2 = 1)) n2 e2 (by omega) (by omega) (by omega) (by omega)) (by simp (disch := omega) only [go_sem]) ?_
          rintro r hs ⟨rfl, rfl, _⟩
          refine ⟨by simp [freeN], ?_⟩
          simp (disch := omega) only [go_sem]
          refine call_open (con_flexact k3 s3 n3 e3 (by omega)) (by simp (disch := omega) only [go_sem]) ?_
          rintro r hs ⟨rfl, rfl, _⟩
          refine ⟨by simp [freeN], ?_⟩
          simp (disch := omega) only [go_sem]
          refine call_open (con_plusX (((s1 && decide (k1 = 1)) != (s2 && decide (k2 = 1))) && decide (n1 * n2 ≠ 0)) (n1 * n2) (e1 + e2) (s3 && decide (k3 = 1)) n3 e3 (by omega) (by omega) (by omega) (by omega)) (by simp (disch := omega) only [go_sem]) ?_
          rintro r hs ⟨rfl, rfl, _⟩
          refine ⟨by simp [freeN], ?_⟩
          simp (disch := omega) only [go_sem]
          refine call_closed (con_float (adS (muS k1 s1 n1 k2 s2 n2) (n1 * n2) (e1 + e2) (xS k3 s3) n3 e3) (adM (muS k1 s1 n1 k2 s2 n2) (n1 * n2) (e1 + e2) (xS k3 s3) n3 e3) (alE (n1 * n2) (e1 + e2) n3 e3) mode (decide (mode = 3)) (by omega) (by omega)) (by simp (disch := omega) only [go_sem, x1, x2]) ?_
          rintro r hs ⟨rfl, rfl, _⟩
          refine ⟨by simp [freeN], ?_⟩
          simp (disch := omega) only [go_sem]
          rw [(fin (decide (mode = 3)) (by unfold fmZ; rw [if_neg (fun h => hs h.2.2)])).1, (fin (decide (mode = 3)) (by unfold fmZ; rw [if_neg (fun h => hs h.2.2)])).2]
          exact fin_valc (by simp (disch := omega) only [go_sem]) (by simp (disch := omega) only [go_sem]) isA_mk
      · have z3' : decide (k3 = 0) = false := decide_eq_false z3
        refine Con.of_aw Tryz.func29 rfl Tryz.ntmps29 (by simp) (by simp) (by simp) (W.sound ?_)
        show @W Tryz.prog 88 ⟨_⟩ ⟨fun x σ => @retW _ _ _ ⟨_⟩ _ ⟨_⟩ x σ⟩ _ _
        simp (disch := omega) only [go_sem]
        refine call_closed (con_areFloats3 mode k1 s1 (n1 : Int) e1 k2 s2 (n2 : Int) e2 k3 s3 (n3 : Int) e3) (by simp (disch := omega) only [go_sem]) ?_
        rintro r hs ⟨rfl, rfl, _⟩
        refine ⟨by simp [freeN], ?_⟩
        simp (disch := omega) only [go_sem]
        simp (disch := omega) only [go_sem, hv]
        refine call_closed (con_isFinite k1 s1 (n1 : Int) e1) (by simp (disch := omega) only [go_sem]) ?_
        rintro r hs ⟨rfl, rfl, _⟩
        refine ⟨by simp [freeN], ?_⟩
        simp (disch := omega) only [go_sem]
        simp (disch := omega) only [go_sem, hf1]
        refine call_closed (con_isFinite k2 s2 (n2 : Int) e2) (by simp (disch := omega) only [go_sem, hf1]) ?_
        rintro r hs ⟨rfl, rfl, _⟩
        refine ⟨by simp [freeN], ?_⟩
        simp (disch := omega) only [go_sem]
        simp (disch := omega) only [go_sem, hf2]
        refine call_closed (con_isFinite k3 s3 (n3 : Int) e3) (by simp (disch := omega) only [go_sem]) ?_
        rintro r hs ⟨rfl, rfl, _⟩
        refine ⟨by simp [freeN], ?_⟩
        simp (disch := omega) only [go_sem]
        simp (disch := omega) only [go_sem, hf3]
        refine call_closed (con_hasKind 0 k1 (n1 : Int) e1 k2 (n2 : Int) e2 s1 s2) (by simp (disch := omega) only [go_sem]) ?_
        rintro r hs ⟨rfl, rfl, _⟩
        refine ⟨by simp [freeN], ?_⟩
        simp (disch := omega) only [go_sem]
        simp (disch := omega) only [go_sem, z0', z3']
        refine draw_of rfl [⟨0, [], []⟩, ⟨2, [0], []⟩, ⟨5, [0, 2], []⟩, ⟨8, [0, 2, 5], []⟩, ⟨9, [0, 2, 5], []⟩, ⟨1, [2, 5], []⟩, ⟨3, [5], []⟩, ⟨4, [5], []⟩, ⟨6, [], []⟩, ⟨7, [], []⟩, ⟨10, [], []⟩, ⟨11, [], []⟩, ⟨12, [], []⟩, ⟨13, [], []⟩, ⟨14, [], []⟩] (by kernel_rfl) ?_
        simp (disch := omega) only [go_sem, z0', z3']
        refine call_open (con_flexact k1 s1 n1 e1 (by omega)) (by simp (disch := omega) only [go_sem]) ?_
        rintro r hs ⟨rfl, rfl, _⟩
        refine ⟨by simp [freeN], ?_⟩
        simp (disch := omega) only [go_sem]
        refine call_open (con_flexact k2 s2 n2 e2 (by omega)) (by simp (disch := omega) only [go_sem]) ?_
        rintro r hs ⟨rfl, rfl, _⟩
        refine ⟨by simp [freeN], ?_⟩
        simp (disch := omega) only [go_sem]
        refine call_open (con_timesX (s1 && decide (k1 = 1)) n1 e1 (s2 && decide (k2 = 1)) n2 e2 (by omega) (by omega) (by omega) (by omega)) (by simp (disch := omega) only [go_sem]) ?_
        rintro r hs ⟨rfl, rfl, _⟩
        refine ⟨by simp [freeN], ?_⟩
        simp (disch := omega) only [go_sem]
        refine call_open (con_flexact k3 s3 n3 e3 (by omega)) (by simp (disch := omega) only [go_sem]) ?_
        rintro r hs ⟨rfl, rfl, _⟩
        refine ⟨by simp [freeN], ?_⟩
        simp (disch := omega) only [go_sem]
        refine call_open (con_plusX (((s1 && decide (k1 = 1)) != (s2 && decide (k2 = 1))) && decide (n1 * n2 ≠ 0)) (n1 * n2) (e1 + e2) (s3 && decide (k3 = 1)) n3 e3 (by omega) (by omega) (by omega) (by omega)) (by simp (disch := omega) only [go_sem]) ?_
        rintro r hs ⟨rfl, rfl, _⟩
        refine ⟨by simp [freeN], ?_⟩
        simp (disch := omega) only [go_sem]
        refine call_closed (con_float (adS (muS k1 s1 n1 k2 s2 n2) (n1 * n2) (e1 + e2) (xS k3 s3) n3 e3) (adM (muS k1 s1 n1 k2 s2 n2) (n1 * n2) (e1 + e2) (xS k3 s3) n3 e3) (alE (n1 * n2) (e1 + e2) n3 e3) mode (decide (mode = 3)) (by omega) (by omega)) (by simp (disch := omega) only [go_sem, x1, x2]) ?_
        rintro r hs ⟨rfl, rfl, _⟩
        refine ⟨by simp [freeN], ?_⟩
        simp (disch := omega) only [go_sem]
        rw [(fin (decide (mode = 3)) (by unfold fmZ; rw [if_neg (fun h => z3 h.2.1)])).1, (fin (decide (mode = 3)) (by unfold fmZ; rw [if_neg (fun h => z3 h.2.1)])).2]
        exact fin_valc (by simp (disch := omega) only [go_sem]) (by simp (disch := omega) only [go_sem]) isA_mk
    · have z0' : (decide (k1 = 0) || decide (k2 = 0)) = false := by simpa using z0
      refine Con.of_aw Tryz.func29 rfl Tryz.ntmps29 (by simp) (by simp) (by simp) (W.sound ?_)
      show @W Tryz.prog 88 ⟨_⟩ ⟨fun x σ => @retW _ _ _ ⟨_⟩ _ ⟨_⟩ x σ⟩ _ _
      simp (disch := omega) only [go_sem]
      refine call_closed (con_areFloats3 mode k1 s1 (n1 : Int) e1 k2 s2 (n2 : Int) e2 k3 s3 (n3 : Int) e3) (by simp (disch := omega) only [go_sem]) ?_
      rintro r hs ⟨rfl, rfl, _⟩
      refine ⟨by simp [freeN], ?_⟩
      simp (disch := omega) only [go_sem]
      simp (disch := omega) only [go_sem, hv]
      refine call_closed (con_isFinite k1 s1 (n1 : Int) e1) (by simp (disch := omega) only [go_sem]) ?_
      rintro r hs ⟨rfl, rfl, _⟩
      refine ⟨by simp [freeN], ?_⟩
      simp (disch := omega) only [go_sem]
      simp (disch := omega) only [go_sem, hf1]
      refine call_closed (con_isFinite k2 s2 (n2 : Int) e2) (by simp (disch := omega) only [go_sem, hf1]) ?_
      rintro r hs ⟨rfl, rfl, _⟩
      refine ⟨by simp [freeN], ?_⟩
      simp (disch := omega) only [go_sem]
      simp (disch := omega) only [go_sem, hf2]
      refine call_closed (con_isFinite k3 s3 (n3 : Int) e3) (by simp (disch := omega) only [go_sem]) ?_
      rintro r hs ⟨rfl, rfl, _⟩
      refine ⟨by simp [freeN], ?_⟩
      simp (disch := omega) only [go_sem]
      simp (disch := omega) only [go_sem, hf3]
      refine call_closed (con_hasKind 0 k1 (n1 : Int) e1 k2 (n2 : Int) e2 s1 s2) (by simp (disch := omega) only [go_sem]) ?_
      rintro r hs ⟨rfl, rfl, _⟩
      refine ⟨by simp [freeN], ?_⟩
      simp (disch := omega) only [go_sem]
      simp (disch := omega) only [go_sem, z0']
      refine draw_of rfl [⟨0, [], []⟩, ⟨2, [0], []⟩, ⟨5, [0, 2], []⟩, ⟨8, [0, 2, 5], []⟩, ⟨9, [0, 2, 5], []⟩, ⟨1, [2, 5], []⟩, ⟨3, [5], []⟩, ⟨4, [5], []⟩, ⟨6, [], []⟩, ⟨7, [], []⟩, ⟨10, [], []⟩, ⟨11, [], []⟩, ⟨12, [], []⟩, ⟨13, [], []⟩, ⟨14, [], []⟩] (by kernel_rfl) ?_
      simp (disch := omega) only [go_sem, z0']
      refine call_open (con_flexact k1 s1 n1 e1 (by omega)) (by simp (disch := omega) only [go_sem]) ?_
      rintro r hs ⟨rfl, rfl, _⟩
      refine ⟨by simp [freeN], ?_⟩
      simp (disch := omega) only [go_sem]
      refine call_open (con_flexact k2 s2 n2 e2 (by omega)) (by simp (disch := omega) only [go_sem]) ?_
      rintro r hs ⟨rfl, rfl, _⟩
      refine ⟨by simp [freeN], ?_⟩
      simp (disch := omega) only [go_sem]
      refine call_open (con_timesX (s1 && decide (k1 = 1)) n1 e1 (s2 && decide (k2 = 1)) n2 e2 (by omega) (by omega) (by omega) (by omega)) (by simp (disch := omega) only [go_sem]) ?_
      rintro r hs ⟨rfl, rfl, _⟩
      refine ⟨by simp [freeN], ?_⟩
      simp (disch := omega) only [go_sem]
      refine call_open (con_flexact k3 s3 n3 e3 (by omega)) (by simp (disch := omega) only [go_sem]) ?_
      rintro r hs ⟨rfl, rfl, _⟩
      refine ⟨by simp [freeN], ?_⟩
      simp (disch := omega) only [go_sem]
      refine call_open (con_plusX (((s1 && decide (k1 = 1)) != (s2 && decide (k2 = 1))) && decide (n1 * n2 ≠ 0)) (n1 * n2) (e1 + e2) (s3 && decide (k3 = 1)) n3 e3 (by omega) (by omega) (by omega) (by omega)) (by simp (disch := omega) only [go_sem]) ?_
      rintro r hs ⟨rfl, rfl, _⟩
      refine ⟨by simp [freeN], ?_⟩
      simp (disch := omega) only [go_sem]
      refine call_closed (con_float (adS (muS k1 s1 n1 k2 s2 n2) (n1 * n2) (e1 + e2) (xS k3 s3) n3 e3) (adM (muS k1 s1 n1 k2 s2 n2) (n1 * n2) (e1 + e2) (xS k3 s3) n3 e3) (alE (n1 * n2) (e1 + e2) n3 e3) mode (decide (mode = 3)) (by omega) (by omega)) (by simp (disch := omega) only [go_sem, x1, x2]) ?_
      rintro r hs ⟨rfl, rfl, _⟩
      refine ⟨by simp [freeN], ?_⟩
      simp (disch := omega) only [go_sem]
      rw [(fin (decide (mode = 3)) (by unfold fmZ; rw [if_neg (fun h => z0 h.1)])).1, (fin (decide (mode = 3)) (by unfold fmZ; rw [if_neg (fun h => z0 h.1)])).2]
      exact fin_valc (by simp (disch := omega) only [go_sem]) (by simp (disch := omega) only [go_sem]) isA_mk
  · rw [if_neg hv]
    have hv' : (modeB mode && (flB k1 s1 m1 e1 && (flB k2 s2 m2 e2 && flB k3 s3 m3 e3))) = false := by simpa using hv
    refine Con.of_aw Tryz.func29 rfl Tryz.ntmps29 (by simp) (by simp) (by simp) (W.sound ?_)
    show @W Tryz.prog 88 ⟨_⟩ ⟨fun x σ => @retW _ _ _ ⟨_⟩ _ ⟨_⟩ x σ⟩ _ _
    simp (disch := omega) only [go_sem]
    refine call_closed (con_areFloats3 mode k1 s1 m1 e1 k2 s2 m2 e2 k3 s3 m3 e3) (by simp (disch := omega) only [go_sem]) ?_
    rintro r hs ⟨rfl, rfl, _⟩
    refine ⟨by simp [freeN], ?_⟩
    simp (disch := omega) only [go_sem]
    simp (disch := omega) only [go_sem, hv']
    refine call_closed (con_nan) (by simp (disch := omega) only [go_sem]) ?_
    rintro r hs ⟨rfl, rfl, _⟩
    refine ⟨by simp [freeN], ?_⟩
    simp (disch := omega) only [go_sem]
    exact fin_valc (by simp (disch := omega) only [go_sem]) (by simp (disch := omega) only [go_sem]) isA_mk
end Go.Ab
namespace Go.Ab
open Go Go.Proofs
set_option linter.unusedVariables false
set_option linter.unusedSimpArgs false

theorem con_l2norm (cl : Bool) (xs : List Int) (m : Nat) (hl : xs.length ≤ 2 ^ 39) (hx : gd xs) (hv : vl xs = (m : Int)) : Con Tryz.prog 124 cl [.sl xs.length (ints xs)] [] (natR m) := by
  refine Con.of_aw Tryz.func124 rfl Tryz.ntmps124 (by simp) (by simp) (by simp) (W.sound ?_)
  show @W Tryz.prog 24 ⟨_⟩ ⟨fun x σ => @retW _ _ _ ⟨_⟩ _ ⟨_⟩ x σ⟩ _ _
  simp (disch := omega) only [go_sem]
  have hcz : cutZ xs = lim m := by rw [cutZ_lim hx, hv, Int.toNat_natCast]
  refine loop_intro (fun k : Nat => [(0, .sl xs.length (ints xs)), (2, .pt 40000000 0), (3, .v (.int .i64 k))]) (fun _ => [(40000000, .own 0 [.v (.slice none 0 0)])]) (fun k => k ≤ xs.length ∧ cutZ (xs.take k) = cutZ xs) id xs.length ⟨Nat.le_refl _, by simp⟩
    (Le.lst [] _ _ rfl (by simp (disch := omega) only [go_sem]) (by simp (disch := omega) only [go_sem])) ?_
  intro k ⟨hk, hc⟩
  have hkx : ∀ j, j + 1 = k → xs.take k = xs.take j ++ [xs.getD j 0] := fun j hj => by rw [← hj]; exact take_succ' (by omega)
  simp (disch := omega) only [go_sem]
  refine ifW_dec (fun h1 => ?_) (fun h1 => ?_)
  · obtain ⟨j, rfl⟩ : ∃ j, k = j + 1 := ⟨k - 1, by omega⟩
    have e1 : ((j + 1 : Nat) : Int) - 1 = (j : Nat) := by omega
    rw [hkx j rfl] at hc
    simp (disch := omega) only [go_sem, h1, e1]
    refine ⟨by omega, by omega, ifW_dec (fun h2 => ?_) (fun h2 => ?_)⟩
    · simp (disch := omega) only [go_sem, h2, e1]
      rw [h2, cutZ_zero] at hc
      exact next_intro j [] ⟨by omega, hc⟩ (by show j < j + 1; omega) rfl (by simp (disch := omega) only [go_sem]; try omega) (by simp (disch := omega) only [go_sem])
    · rw [cutZ_ne _ h2, ← hkx j rfl, hcz] at hc
      have hlm : j + 1 = (lim m).length := by rw [← hc, List.length_take]; omega
      have e0 : (((j + 1 : Nat) : Int) - 0).toNat = (lim m).length := by omega
      rw [hlm] at hc
      simp (disch := omega) only [go_sem, h2, e0, hc]
      refine ⟨by omega, by omega, ?_⟩
      refine fin_intro [(0, 240000000)] [.own 1 (ints (lim m))] [] [.ag [.rf 0 0 (lim m).length]] rfl (by simp (disch := omega) only [go_sem]) (by simp (disch := omega) only [go_sem]) (by simp) (by intro _; simp [tupA, AV.pu, AV.pu.puL, Ob.pu, pu_ints]) (.inr ⟨[], rfl, by rw [List.append_nil]⟩)
  · have hlm : k = (lim m).length := by
      have : k = 0 := by omega
      rw [← hcz, ← hc, this]; rfl
    subst hlm
    have hc : xs.take (lim m).length = lim m := by
      have : lim m = [] := List.length_eq_zero_iff.1 (by omega)
      rw [this]; simp
    have e0 : (((lim m).length : Int) - 0).toNat = (lim m).length := by omega
    simp (disch := omega) only [go_sem, h1, e0, hc]
    refine ⟨by omega, by omega, ?_⟩
    refine fin_intro [(0, 240000000)] [.own 1 (ints (lim m))] [] [.ag [.rf 0 0 (lim m).length]] rfl (by simp (disch := omega) only [go_sem]) (by simp (disch := omega) only [go_sem]) (by simp) (by intro _; simp [tupA, AV.pu, AV.pu.puL, Ob.pu, pu_ints]) (.inr ⟨[], rfl, by rw [List.append_nil]⟩)

theorem con_l2of (cl : Bool) (n : Nat) (hn : n < 2 ^ 63) : Con Tryz.prog 91 cl [.v (.int .i64 n)] [] (natR n) := by
  refine Con.of_aw Tryz.func91 rfl Tryz.ntmps91 (by simp) (by simp) (by simp) (W.sound ?_)
  show @W Tryz.prog 15 ⟨_⟩ ⟨fun x σ => @retW _ _ _ ⟨_⟩ _ ⟨_⟩ x σ⟩ _ _
  simp (disch := omega) only [go_sem]
  refine loop_intro (fun x : Nat × List Int => [(0, .v (.int .i64 x.1)), (2, .pt 2 0), (3, .rf 1 0 x.2.length)]) (fun x => [(1, .own 1 (ints x.2)), (2, .own 0 [.v (.slice none 0 0)])]) (fun x => x.1 < 2 ^ 63 ∧ x.2 ++ lim x.1 = lim n) (fun x => x.1) (n, []) ⟨hn, rfl⟩
    ((Le.ghost 3 1 1 (by simp (disch := omega) only [go_sem]) (by simp (disch := omega) only [go_sem])).trans (Le.lst [(2, 40000000)] _ _ rfl (by simp (disch := omega) only [go_sem]) (by simp (disch := omega) only [go_sem]))) ?_
  rintro ⟨k, l⟩ ⟨hk, hl⟩
  dsimp only at hk hl ⊢
  have hlen : l.length ≤ 4 := by
    have h1 := congrArg List.length hl
    have h2 := lim_len (n := n) (k := 4) |>.2 (by omega)
    rw [List.length_append] at h1; omega
  simp (disch := omega) only [go_sem]
  refine ifW_dec (fun h1 => ?_) (fun h1 => ?_)
  · simp (disch := omega) only [go_sem, h1]
    have hk0 : k ≠ 0 := by omega
    refine ⟨by omega, next_intro (k / 65536, l ++ [(k : Int) % 65536]) [(1, 120000000)] ⟨by show k / 65536 < 2 ^ 63; omega, ?_⟩ (by show k / 65536 < k; omega) rfl (by simp (disch := omega) only [go_sem, List.length_append]; try omega) (by simp (disch := omega) only [go_sem])⟩
    rw [lim_pos hk0] at hl
    rw [← hl, List.append_assoc]; rfl
  · simp (disch := omega) only [go_sem, h1]
    have hk0 : k = 0 := by omega
    subst hk0
    rw [lim_zero, List.append_nil] at hl
    subst hl
    refine fin_intro [(0, 1)] [.own 1 (ints (lim n ++ []))] [] [.ag [.rf 0 0 (lim n).length]] rfl (by simp (disch := omega) only [go_sem]) (by simp (disch := omega) only [go_sem]) (by simp) (by intro _; simp [tupA, AV.pu, AV.pu.puL, Ob.pu, pu_ints]) (.inr ⟨[], rfl, rfl⟩)
end Go.Ab
namespace Go.Ab
open Go Go.Proofs
set_option linter.unusedVariables false
set_option linter.unusedSimpArgs false

set_option maxRecDepth 100000 in
theorem con_l2add (cl : Bool) (a b : Nat) (la : (lim a).length ≤ 2000000) (lb : (lim b).length ≤ 2000000) : Con Tryz.prog 90 cl [.ag [.sl (lim (a)).length (ints (lim (a)))], .ag [.sl (lim (b)).length (ints (lim (b)))]] [] (natR (a + b)) := by
  refine Con.of_aw Tryz.func90 rfl Tryz.ntmps90 (by simp) (by simp) (by simp) (W.sound ?_)
  show @W Tryz.prog 61 ⟨_⟩ ⟨fun x σ => @retW _ _ _ ⟨_⟩ _ ⟨_⟩ x σ⟩ _ _
  simp (disch := omega) only [go_sem]
  have hA := gd_lim a
  have hB := gd_lim b
  refine loop_intro (fun x : Nat × List Int × Int => [(2, .pt 3 0), (3, .pt 4 0), (4, .pt 2 0), (5, .rf 1 0 x.2.1.length), (6, .v (.int .i64 x.2.2)), (7, .v (.int .i64 x.1))])
    (fun x => [(1, .own 1 (ints x.2.1)), (2, .own 0 [.v (.slice none 0 0)]), (3, .own 0 [.sl (lim (a)).length (ints (lim (a)))]), (4, .own 0 [.sl (lim (b)).length (ints (lim (b)))])])
    (fun x => x.1 ≤ max (lim a).length (lim b).length + 1 ∧ x.2.1.length = x.1 ∧ gd x.2.1 ∧ (0 ≤ x.2.2 ∧ x.2.2 ≤ 1) ∧ vl x.2.1 + 65536 ^ x.1 * x.2.2 = vl ((lim a).take x.1) + vl ((lim b).take x.1) ∧ (max (lim a).length (lim b).length < x.1 → x.2.2 = 0))
    (fun x => 2 * (max (lim a).length (lim b).length - x.1) + x.2.2.toNat) (0, [], 0) ⟨by simp, rfl, gd_nil, by simp, by simp [vl], fun h => rfl⟩
    ((Le.ghost 5 1 1 (by simp (disch := omega) only [go_sem]) (by simp (disch := omega) only [go_sem])).trans (Le.lst [(2, 60000000), (3, 40000000), (4, 50000000)] _ _ rfl (by simp (disch := omega) only [go_sem]) (by simp (disch := omega) only [go_sem]))) ?_
  rintro ⟨i, out, cy⟩ ⟨hi, hol, hog, hcy, hov, hcz⟩
  dsimp only at hi hol hog hcy hov hcz ⊢
  have hx := gd_getD hA i
  have hy := gd_getD hB i
  have hxz : ¬ (i : Int) < (lim a).length → (lim a).getD i 0 = 0 := fun h => by rw [List.getD_eq_getElem?_getD, List.getElem?_eq_none (by omega)]; rfl
  have hyz : ¬ (i : Int) < (lim b).length → (lim b).getD i 0 = 0 := fun h => by rw [List.getD_eq_getElem?_getD, List.getElem?_eq_none (by omega)]; rfl
  have hstep : ∀ q : Int, q = cy + (lim a).getD i 0 + (lim b).getD i 0 → vl (out ++ [q % 65536]) + 65536 ^ (i + 1) * (q / 65536) = vl ((lim a).take (i + 1)) + vl ((lim b).take (i + 1)) := by
    intro q hq
    rw [vl_snoc, vl_take_any, vl_take_any, hol, Int.pow_succ]
    have e3 : q % 65536 + 65536 * (q / 65536) = q := Int.emod_add_mul_ediv q 65536
    generalize (65536 : Int) ^ i = Pi at *
    grind
  have key : ∀ q : Int, q = cy + (lim a).getD i 0 + (lim b).getD i 0 → (i : Int) < (lim a).length ∨ (i : Int) < (lim b).length ∨ 0 < cy →
      ((i + 1 ≤ max (lim a).length (lim b).length + 1 ∧ (out ++ [q % 65536]).length = i + 1 ∧ gd (out ++ [q % 65536]) ∧ (0 ≤ q / 65536 ∧ q / 65536 ≤ 1) ∧ vl (out ++ [q % 65536]) + 65536 ^ (i + 1) * (q / 65536) = vl ((lim a).take (i + 1)) + vl ((lim b).take (i + 1)) ∧ (max (lim a).length (lim b).length < i + 1 → q / 65536 = 0)) ∧
      2 * (max (lim a).length (lim b).length - (i + 1)) + (q / 65536).toNat < 2 * (max (lim a).length (lim b).length - i) + cy.toNat) := by
    intro q hq hc
    have hle : i ≤ max (lim a).length (lim b).length := by
      rcases Nat.lt_or_ge (max (lim a).length (lim b).length) i with h | h
      · have := hcz h; omega
      · exact h
    have hbig : max (lim a).length (lim b).length < i + 1 → q / 65536 = 0 := fun h => by
      have := hxz (by omega)
      have := hyz (by omega)
      omega
    refine ⟨⟨by omega, by simp [hol], gd_append.2 ⟨hog, gd_one.2 (by omega)⟩, by omega, hstep q hq, hbig⟩, ?_⟩
    by_cases hm : max (lim a).length (lim b).length < i + 1
    · have := hbig hm; omega
    · omega
  by_cases h1 : (i : Int) < (lim a).length <;> by_cases h2 : (i : Int) < (lim b).length
  · simp (disch := omega) only [go_sem, h1, h2]
    obtain ⟨k1, k2⟩ := key _ rfl (.inl h1)
    refine ⟨by omega, by omega, by omega, by omega, by omega, next_intro (i + 1, out ++ [(cy + (lim a).getD i 0 + (lim b).getD i 0) % 65536], (cy + (lim a).getD i 0 + (lim b).getD i 0) / 65536) [(1, 580000000)] k1 k2 rfl (by simp (disch := omega) only [go_sem, List.length_append]; try omega) (by simp (disch := omega) only [go_sem])⟩
  · simp (disch := omega) only [go_sem, h1, h2]
    have e0 : cy + (lim a).getD i 0 = cy + (lim a).getD i 0 + (lim b).getD i 0 := by rw [hyz h2]; omega
    obtain ⟨k1, k2⟩ := key (cy + (lim a).getD i 0) e0 (.inl h1)
    refine ⟨by omega, by omega, by omega, next_intro (i + 1, out ++ [(cy + (lim a).getD i 0) % 65536], (cy + (lim a).getD i 0) / 65536) [(1, 580000000)] k1 k2 rfl (by simp (disch := omega) only [go_sem, List.length_append]; try omega) (by simp (disch := omega) only [go_sem])⟩
  · simp (disch := omega) only [go_sem, h1, h2]
    have e0 : cy + (lim b).getD i 0 = cy + (lim a).getD i 0 + (lim b).getD i 0 := by rw [hxz h1]; omega
    obtain ⟨k1, k2⟩ := key (cy + (lim b).getD i 0) e0 (.inr (.inl h2))
    refine ⟨by omega, by omega, by omega, next_intro (i + 1, out ++ [(cy + (lim b).getD i 0) % 65536], (cy + (lim b).getD i 0) / 65536) [(1, 580000000)] k1 k2 rfl (by simp (disch := omega) only [go_sem, List.length_append]; try omega) (by simp (disch := omega) only [go_sem])⟩
  · by_cases h3 : 0 < cy
    · simp (disch := omega) only [go_sem, h1, h2, h3]
      have e0 : cy = cy + (lim a).getD i 0 + (lim b).getD i 0 := by rw [hxz h1, hyz h2]; omega
      obtain ⟨k1, k2⟩ := key cy e0 (.inr (.inr h3))
      refine ⟨by omega, next_intro (i + 1, out ++ [cy % 65536], cy / 65536) [(1, 580000000)] k1 k2 rfl (by simp (disch := omega) only [go_sem, List.length_append]; try omega) (by simp (disch := omega) only [go_sem])⟩
    · have hcy0 : cy = 0 := by omega
      have hov2 : vl out = ((a + b : Nat) : Int) := by
        rw [List.take_of_length_le (by omega), List.take_of_length_le (by omega), vl_lim, vl_lim, hcy0] at hov
        simp at hov; omega
      simp (disch := omega) only [go_sem, h1, h2, h3]
      refine call_closed (con_l2norm true out (a + b) (by omega) hog hov2) (by simp (disch := omega) only [go_sem]) ?_
      rintro r hs (⟨h0, rfl, rfl⟩ | ⟨zs, rfl, rfl⟩)
      · refine ⟨⟨by simp, by simp (disch := omega) only [go_sem]⟩, ?_⟩
        simp (disch := omega) only [go_sem]
        refine fin_intro [] [] [] [.ag [.v (.slice none 0 0)]] rfl (by simp (disch := omega) only [go_sem]) (by simp (disch := omega) only [go_sem]) (by simp) (by intro _; simp [tupA, AV.pu, AV.pu.puL, Ob.pu, pu_ints]) (.inl ⟨h0, rfl, rfl⟩)
      · refine ⟨⟨by simp, by simp (disch := omega) only [go_sem]⟩, ?_⟩
        simp (disch := omega) only [go_sem]
        refine fin_intro [(0, 620000000)] [.own 1 (ints (lim (a + b) ++ zs))] [] [.ag [.rf 0 0 (lim (a + b)).length]] rfl (by simp (disch := omega) only [go_sem]) (by simp (disch := omega) only [go_sem]) (by simp) (by intro _; simp [tupA, AV.pu, AV.pu.puL, Ob.pu, pu_ints]) (.inr ⟨zs, rfl, rfl⟩)
end Go.Ab
namespace Go.Ab
open Go Go.Proofs
set_option linter.unusedVariables false
set_option linter.unusedSimpArgs false

set_option maxRecDepth 100000 in
theorem con_l2mulL (cl : Bool) (A : List Int) (hA : gd A) (b : Nat) (lA : A.length ≤ 1000000) (lB : (lim b).length ≤ 1000000) (m : Nat) (hm : vl A * (b : Int) = (m : Int)) :
    Con Tryz.prog 153 cl [.ag [.sl A.length (ints A)], .ag [.sl (lim (b)).length (ints (lim (b)))]] [] (natR m) := by
  refine Con.of_aw Tryz.func153 rfl Tryz.ntmps153 (by simp) (by simp) (by simp) (W.sound ?_)
  show @W Tryz.prog 80 ⟨_⟩ ⟨fun x σ => @retW _ _ _ ⟨_⟩ _ ⟨_⟩ x σ⟩ _ _
  have hvb := vl_lim b
  have hB := gd_lim b
  generalize lim b = B at *
  simp (disch := omega) only [go_sem]
  refine ⟨by omega, ?_⟩
  refine loop_intro (fun x : Nat × List Int => [(2, .pt 0 0), (3, .pt 1 0), (4, .pt 2 0), (5, .rf 3 0 (A.length + B.length)), (6, .v (.int .i64 x.1))])
    (fun x => [(0, .own 0 [.sl A.length (ints A)]), (1, .own 0 [.sl B.length (ints B)]), (2, .own 0 [.v (.slice none 0 0)]), (3, .own 1 (ints x.2))])
    (fun x => x.1 ≤ A.length ∧ x.2.length = A.length + B.length ∧ gd x.2 ∧ vl x.2 = vl (A.take x.1) * vl B ∧ ∀ j, x.1 + B.length ≤ j → x.2.getD j 0 = 0)
    (fun x => A.length - x.1) (0, List.replicate (A.length + B.length) 0) ⟨by simp, by simp, gd_replicate _, by simp [vl_replicate, vl], fun j _ => by
      rw [List.getD_eq_getElem?_getD, List.getElem?_replicate]; split <;> rfl⟩
    (Le.lst [(0, 40000000), (1, 50000000), (2, 60000000), (3, 190000000)] _ _ rfl (by simp (disch := omega) only [go_sem]; try omega) (by simp (disch := omega) only [go_sem, show ((A.length : Int) + (B.length : Int)).toNat = A.length + B.length by omega])) ?_
  rintro ⟨i, out⟩ ⟨hi, hol, hog, hov, hoz⟩
  dsimp only at hi hol hog hov hoz ⊢
  simp (disch := omega) only [go_sem]
  refine ifW_dec (fun h1 => ?_) (fun h1 => ?_)
  · have hx := gd_getD hA i
    simp (disch := omega) only [go_sem, h1]
    refine loop_intro (fun x : Nat × List Int × Int => [(2, .pt 0 0), (3, .pt 1 0), (4, .pt 2 0), (5, .rf 3 0 (A.length + B.length)), (6, .v (.int .i64 i)), (7, .v (.int .i64 x.2.2)), (8, .v (.int .i64 x.1))])
      (fun x => [(0, .own 0 [.sl A.length (ints A)]), (1, .own 0 [.sl B.length (ints B)]), (2, .own 0 [.v (.slice none 0 0)]), (3, .own 1 (ints x.2.1))])
      (fun x => x.1 ≤ B.length ∧ x.2.1.length = A.length + B.length ∧ gd x.2.1 ∧ (0 ≤ x.2.2 ∧ x.2.2 < 65536) ∧ vl x.2.1 + 65536 ^ (i + x.1) * x.2.2 = vl out + 65536 ^ i * (A.getD i 0 * vl (B.take x.1)) ∧ ∀ j, i + B.length ≤ j → x.2.1.getD j 0 = 0)
      (fun x => B.length - x.1) (0, out, 0) ⟨by simp, hol, hog, by simp, by simp [vl], hoz⟩
      (Le.lst [] _ _ rfl (by simp (disch := omega) only [go_sem]; try omega) (by simp (disch := omega) only [go_sem])) ?_
    rintro ⟨j, o2, cy⟩ ⟨hj, hol2, hog2, hcy, hov2, hoz2⟩
    dsimp only at hj hol2 hog2 hcy hov2 hoz2 ⊢
    simp (disch := omega) only [go_sem]
    refine ifW_dec (fun h2 => ?_) (fun h2 => ?_)
    · have hy := gd_getD hB j
      have ho := gd_getD hog2 (i + j)
      have hxy := mul_lim hx hy
      have e1 : ((i : Int) + (j : Int)).toNat = i + j := by omega
      simp (disch := omega) only [go_sem, h2]
      refine draw_of rfl [⟨0, [], []⟩, ⟨1, [], []⟩, ⟨2, [], []⟩, ⟨3, [], []⟩, ⟨4, [], []⟩, ⟨5, [], []⟩, ⟨6, [5], []⟩, ⟨7, [5], []⟩, ⟨8, [5, 7], []⟩, ⟨9, [5], []⟩, ⟨10, [5], []⟩, ⟨11, [5, 7, 10], []⟩, ⟨12, [5, 7, 10], []⟩, ⟨13, [5, 7, 10, 12], []⟩, ⟨14, [5, 7, 10], []⟩, ⟨15, [5, 7, 10], []⟩, ⟨16, [5], []⟩, ⟨17, [], []⟩, ⟨18, [5, 7, 10, 12, 15], []⟩, ⟨19, [], []⟩, ⟨20, [], []⟩] (by kernel_rfl) ?_
      simp (disch := omega) only [go_sem, e1]
      generalize hq : o2.getD (i + j) 0 + A.getD i 0 * B.getD j 0 + cy = q
      refine ⟨by omega, by omega, by omega, by omega, by omega, by omega, by omega, by omega, next_intro (j + 1, o2.set (i + j) (q % 65536), q / 65536) [] ⟨by show j + 1 ≤ _; omega, by simp [hol2], gd_set hog2 (by omega), by show 0 ≤ q / 65536 ∧ q / 65536 < 65536; omega, ?_, fun k hk => ?_⟩
        (by show B.length - (j + 1) < B.length - j; omega) rfl (by simp (disch := omega) only [go_sem]; try omega) (by simp (disch := omega) only [go_sem])⟩
      · show vl (o2.set (i + j) (q % 65536)) + 65536 ^ (i + (j + 1)) * (q / 65536) = vl out + 65536 ^ i * (A.getD i 0 * vl (B.take (j + 1)))
        rw [vl_set (by omega), vl_take_succ (by omega), ← Nat.add_assoc, Int.pow_succ]
        have e2 : (65536 : Int) ^ (i + j) = 65536 ^ i * 65536 ^ j := Int.pow_add _ _ _
        have e3 : q % 65536 + 65536 * (q / 65536) = q := Int.emod_add_mul_ediv q 65536
        rw [e2] at hov2 ⊢
        generalize (65536 : Int) ^ i = Pi at *
        generalize (65536 : Int) ^ j = Pj at *
        grind
      · show (o2.set (i + j) (q % 65536)).getD k 0 = 0
        rw [List.getD_eq_getElem?_getD, List.getElem?_set_ne (by omega), ← List.getD_eq_getElem?_getD]
        exact hoz2 k hk
    · simp (disch := omega) only [go_sem, h2]
      have e1 : ((i : Int) + (B.length : Int)).toNat = i + B.length := by omega
      have hjB : j = B.length := by omega
      subst hjB
      rw [List.take_length] at hov2
      have hz := hoz2 (i + B.length) (Nat.le_refl _)
      refine draw_of rfl [⟨0, [], []⟩, ⟨1, [], []⟩, ⟨2, [], []⟩, ⟨3, [], []⟩, ⟨4, [], []⟩, ⟨5, [], []⟩, ⟨6, [3], []⟩, ⟨7, [3], []⟩, ⟨8, [3], []⟩, ⟨9, [3], []⟩, ⟨10, [3], []⟩, ⟨11, [3], []⟩, ⟨12, [3], []⟩, ⟨13, [3], []⟩, ⟨14, [3, 9, 13], []⟩, ⟨15, [3], []⟩, ⟨16, [], []⟩, ⟨17, [], []⟩] (by kernel_rfl) ?_
      simp (disch := omega) only [go_sem, e1, hz]
      have e0 : (0 : Int) + cy = cy := by omega
      refine ⟨by omega, by omega, by omega, by omega, next_intro (i + 1, o2.set (i + B.length) cy) [] ⟨by show i + 1 ≤ _; omega, by simp [hol2], gd_set hog2 hcy, ?_, fun k hk => ?_⟩ (by show A.length - (i + 1) < A.length - i; omega) rfl (by simp (disch := omega) only [go_sem]; try omega) (by simp (disch := omega) only [go_sem, e0])⟩
      · show vl (o2.set (i + B.length) cy) = vl (A.take (i + 1)) * vl B
        rw [vl_set (by omega), hz, vl_take_succ (by omega)]
        generalize (65536 : Int) ^ i = Pi at *
        grind
      · show (o2.set (i + B.length) cy).getD k 0 = 0
        rw [List.getD_eq_getElem?_getD, List.getElem?_set_ne (by show i + B.length ≠ k; omega), ← List.getD_eq_getElem?_getD]
        exact hoz2 k (by omega)
  · simp (disch := omega) only [go_sem, h1]
    have hiA : i = A.length := by omega
    subst hiA
    rw [List.take_length, hvb, hm] at hov
    rw [← hol]
    refine call_closed (con_l2norm true (out) (m) (by omega) (hog) (hov)) (by simp (disch := omega) only [go_sem]) ?_
    rintro r hs (⟨h0, rfl, rfl⟩ | ⟨zs, rfl, rfl⟩)
    · refine ⟨⟨by simp, by simp (disch := omega) only [go_sem]⟩, ?_⟩
      simp (disch := omega) only [go_sem]
      refine fin_intro [] [] [] [.ag [.v (.slice none 0 0)]] rfl (by simp (disch := omega) only [go_sem]) (by simp (disch := omega) only [go_sem]) (by simp) (by intro _; simp [tupA, AV.pu, AV.pu.puL, Ob.pu, pu_ints]) (.inl ⟨h0, rfl, rfl⟩)
    · refine ⟨⟨by simp, by simp (disch := omega) only [go_sem]⟩, ?_⟩
      simp (disch := omega) only [go_sem]
      refine fin_intro [(0, 810000000)] [.own 1 (ints (lim (m) ++ zs))] [] [.ag [.rf 0 0 (lim (m)).length]] rfl (by simp (disch := omega) only [go_sem]) (by simp (disch := omega) only [go_sem]) (by simp) (by intro _; simp [tupA, AV.pu, AV.pu.puL, Ob.pu, pu_ints]) (.inr ⟨zs, rfl, rfl⟩)

theorem con_l2mul (cl : Bool) (a b : Nat) (la : (lim a).length ≤ 1000000) (lb : (lim b).length ≤ 1000000) : Con Tryz.prog 153 cl [.ag [.sl (lim (a)).length (ints (lim (a)))], .ag [.sl (lim (b)).length (ints (lim (b)))]] [] (natR (a * b)) :=
  con_l2mulL cl (lim a) (gd_lim a) b la lb (a * b) (by rw [vl_lim, Int.natCast_mul])
end Go.Ab
namespace Go.Ab
open Go Go.Proofs
set_option linter.unusedVariables false
set_option linter.unusedSimpArgs false

/-- A quotient by a small number, and the rest. -/
def natR2 (m : Nat) (r0 : Int) : AV → List Ob → List Ob → Prop := fun r hs bs =>
  (m = 0 ∧ r = .tu [.ag [.v (.slice none 0 0)], .v (.int .i64 r0)] ∧ hs = []) ∨ ∃ zs, r = .tu [.ag [.rf 0 0 (lim m).length], .v (.int .i64 r0)] ∧ hs = [.own 1 (ints (lim m ++ zs))]

theorem Con.natF2 {P : Program} {f : FuncId} {args : List AV} {m : Nat} {r0 : Int} (h : Con P f false args [] (natR2 m r0)) : Con P f false args [] (isA (.tu [.ag [.sl (lim (m)).length (ints (lim (m)))], .v (.int .i64 r0)])) :=
  Con.frzA <| h.mono fun r hs bs h => by
    rcases h with ⟨rfl, rfl, rfl⟩ | ⟨zs, rfl, rfl⟩
    · show snap _ 6 _ = _
      rw [lim_zero]; rfl
    · show snap _ 6 _ = _
      rw [snap_tu, List.map_cons, List.map_cons, List.map_nil, snap_ag, List.map_cons, List.map_nil, snap_num (k := 2) (l := lim m) (zs := zs) rhp_zero rfl]
      rfl

theorem con_l2smallL (cl : Bool) (A : List Int) (d : Nat) (hA : gd A) (lA : A.length ≤ 1000000) (hd : 0 < d) (hd2 : d < 65536) (m : Nat) (hm : vl A / (d : Int) = (m : Int)) :
    Con Tryz.prog 128 cl [.ag [.sl A.length (ints A)], .v (.int .i64 d)] [] (natR2 m (vl A % d)) := by
  refine Con.of_aw Tryz.func128 rfl Tryz.ntmps128 (by simp) (by simp) (by simp) (W.sound ?_)
  show @W Tryz.prog 42 ⟨_⟩ ⟨fun x σ => @retW _ _ _ ⟨_⟩ _ ⟨_⟩ x σ⟩ _ _
  simp (disch := omega) only [go_sem]
  refine ⟨by omega, ?_⟩
  refine loop_intro (fun x : Nat × List Int × Int => [(1, .v (.int .i64 d)), (2, .pt 0 0), (4, .pt 1 0), (6, .rf 2 0 A.length), (7, .v (.int .i64 x.2.2)), (8, .v (.int .i64 ((x.1 : Int) - 1)))])
    (fun x => [(0, .own 0 [.sl A.length (ints A)]), (1, .own 0 [.v (.slice none 0 0)]), (2, .own 1 (ints x.2.1))])
    (fun x => x.1 ≤ A.length ∧ x.2.1.length = A.length ∧ gd x.2.1 ∧ x.2.2 = vl (A.drop x.1) % d ∧ vl (x.2.1.drop x.1) = vl (A.drop x.1) / d)
    (fun x => x.1) (A.length, List.replicate A.length 0, 0) ⟨Nat.le_refl _, by simp, gd_replicate _, by simp [vl], by simp [vl]⟩
    (Le.lst [(0, 40000000), (1, 60000000), (2, 150000000)] _ _ rfl (by simp (disch := omega) only [go_sem, List.length_replicate]; try omega) (by simp (disch := omega) only [go_sem])) ?_
  rintro ⟨k, out, rest⟩ ⟨hk, hol, hog, hr, hov⟩
  dsimp only at hk hol hog hr hov ⊢
  have hr0 : 0 ≤ rest ∧ rest < d := by rw [hr]; exact ⟨Int.emod_nonneg _ (by omega), Int.emod_lt_of_pos _ (by omega)⟩
  simp (disch := omega) only [go_sem]
  refine ifW_dec (fun h1 => ?_) (fun h1 => ?_)
  · obtain ⟨i, rfl⟩ : ∃ i, k = i + 1 := ⟨k - 1, by omega⟩
    have ei : ((i + 1 : Nat) : Int) - 1 = (i : Nat) := by omega
    have hx := gd_getD hA i
    have hq6 : 0 ≤ (rest * 65536 + A.getD i 0) / d ∧ (rest * 65536 + A.getD i 0) / d < 65536 := by
      refine ⟨Int.ediv_nonneg (by omega) (by omega), Int.ediv_lt_of_lt_mul (by omega) ?_⟩
      have : rest + 1 ≤ (d : Int) := by omega
      have := Int.mul_le_mul_of_nonneg_left this (show (0 : Int) ≤ 65536 by omega)
      omega
    simp (disch := omega) only [go_sem, h1, ei]
    generalize hq : rest * 65536 + A.getD i 0 = q at *
    refine ⟨by omega, by omega, by omega, by omega, by omega, by omega, next_intro (i, out.set i (q / d), q % d) [] ⟨by show i ≤ _; omega, by simp [hol], gd_set hog hq6, ?_, ?_⟩ (by show i < i + 1; omega) rfl (by simp (disch := omega) only [go_sem]; try omega) (by simp (disch := omega) only [go_sem])⟩
    · show q % d = vl (A.drop i) % d
      rw [vl_drop (l := A) (i := i) (by omega), ← hq, hr]
      have h3 := Int.emod_add_mul_ediv (vl (A.drop (i + 1))) d
      rw [show A.getD i 0 + 65536 * vl (A.drop (i + 1)) = vl (A.drop (i + 1)) % d * 65536 + A.getD i 0 + d * (65536 * (vl (A.drop (i + 1)) / d)) by grind, Int.add_mul_emod_self_left]
    · show vl ((out.set i (q / d)).drop i) = vl (A.drop i) / d
      rw [drop_set (by omega), vl, hov, vl_drop (l := A) (i := i) (by omega), ← hq, hr]
      have h3 := Int.emod_add_mul_ediv (vl (A.drop (i + 1))) d
      rw [show A.getD i 0 + 65536 * vl (A.drop (i + 1)) = vl (A.drop (i + 1)) % d * 65536 + A.getD i 0 + d * (65536 * (vl (A.drop (i + 1)) / d)) by grind, Int.add_mul_ediv_left _ _ (by omega)]
  · simp (disch := omega) only [go_sem, h1]
    have : k = 0 := by omega
    subst this
    rw [List.drop_zero, List.drop_zero, hm] at hov
    rw [List.drop_zero] at hr
    rw [← hol]
    refine call_closed (con_l2norm true out m (by omega) hog hov) (by simp (disch := omega) only [go_sem]) ?_
    rintro r hs (⟨h0, rfl, rfl⟩ | ⟨zs, rfl, rfl⟩)
    · refine ⟨⟨by simp, by simp (disch := omega) only [go_sem]⟩, ?_⟩
      simp (disch := omega) only [go_sem]
      rw [hr]
      refine fin_intro [] [] [] [.ag [.v (.slice none 0 0)], .v (.int .i64 (vl A % d))] rfl (by simp (disch := omega) only [go_sem]) (by simp (disch := omega) only [go_sem]) (by simp) (by intro _; simp [tupA, AV.pu, AV.pu.puL, Ob.pu, pu_ints]) (.inl ⟨h0, rfl, rfl⟩)
    · refine ⟨⟨by simp, by simp (disch := omega) only [go_sem]⟩, ?_⟩
      simp (disch := omega) only [go_sem]
      rw [hr]
      refine fin_intro [(0, 420000000)] [.own 1 (ints (lim m ++ zs))] [] [.ag [.rf 0 0 (lim m).length], .v (.int .i64 (vl A % d))] rfl (by simp (disch := omega) only [go_sem]) (by simp (disch := omega) only [go_sem]) (by simp) (by intro _; simp [tupA, AV.pu, AV.pu.puL, Ob.pu, pu_ints]) (.inr ⟨zs, rfl, rfl⟩)

/-! ### Shifts -/
theorem shl_one {k : Nat} (hk : k < 16) : IntKind.i64.wrap (1 * 2 ^ (min ((k : Int)).toNat 64)) = ((2 ^ k : Nat) : Int) := by
  have e : min ((k : Int)).toNat 64 = k := by omega
  rw [e, Int.one_mul]
  have h := pow_le_15 k hk
  rw [wrap_id (by omega) (by omega), Int.natCast_pow]; rfl

theorem con_l2shl (cl : Bool) (a k : Nat) (la : (lim a).length ≤ 400000) (hk : k ≤ 5000000) : Con Tryz.prog 134 cl [.ag [.sl (lim (a)).length (ints (lim (a)))], .v (.int .i64 k)] [] (natR (a * 2 ^ k)) := by
  refine Con.of_aw Tryz.func134 rfl Tryz.ntmps134 (by simp) (by simp) (by simp) (W.sound ?_)
  show @W Tryz.prog 22 ⟨_⟩ ⟨fun x σ => @retW _ _ _ ⟨_⟩ _ ⟨_⟩ x σ⟩ _ _
  have hz : ((lim a).length : Int) = 0 → a = 0 := fun h => lim_eq_nil.1 (List.length_eq_zero_iff.1 (by omega))
  have hvA := vl_lim a
  have gA := gd_lim a
  generalize hLA : lim a = A at *
  simp (disch := omega) only [go_sem]
  refine ifW_dec (fun h1 => ?_) (fun h1 => ?_)
  · simp (disch := omega) only [go_sem, h1]
    have h0 := hz h1
    subst h0
    refine fin_intro [] [] [] [.ag [.v (.slice none 0 0)]] rfl (by simp (disch := omega) only [go_sem]) (by simp (disch := omega) only [go_sem]) (by simp) (by intro _; simp [tupA, AV.pu, AV.pu.puL, Ob.pu, pu_ints]) (.inl ⟨by simp, rfl, rfl⟩)
  · simp (disch := omega) only [go_sem, h1]
    refine draw_of rfl [⟨0, [], []⟩, ⟨1, [], []⟩, ⟨3, [], []⟩, ⟨4, [], []⟩, ⟨7, [4], []⟩, ⟨8, [4], []⟩, ⟨9, [4], []⟩, ⟨2, [4], []⟩, ⟨5, [], []⟩, ⟨6, [], []⟩, ⟨10, [], []⟩, ⟨11, [], []⟩, ⟨12, [], []⟩] (by kernel_rfl) ?_
    have e16 : ((k : Int) / 16).toNat = k / 16 := by omega
    have e17 : (k : Int) % 16 = ((k % 16 : Nat) : Int) := by omega
    have es : IntKind.i64.wrap (1 * 2 ^ (min ((k : Int) % 16).toNat 64)) = ((2 ^ (k % 16) : Nat) : Int) := by rw [e17]; exact shl_one (by omega)
    have hp15 : 2 ^ (k % 16) ≤ 2 ^ 15 := Nat.pow_le_pow_right (by omega) (by omega)
    have ecut : (List.replicate (k / 16) (0 : Int)).take (k / 16) = List.replicate (k / 16) 0 := List.take_of_length_le (by simp)
    simp (disch := omega) only [go_sem, e16, ecut, es]
    refine ⟨by omega, by omega, by simp; omega, ?_⟩
    refine call_open ((con_l2of false (2 ^ (k % 16)) (by omega)).natF) (by simp (disch := omega) only [go_sem]) ?_
    rintro r hs ⟨rfl, rfl, _⟩
    refine ⟨by simp [freeN], ?_⟩
    simp (disch := omega) only [go_sem]
    have hvA2 : vl (List.replicate (k / 16) 0 ++ A) * ((2 ^ (k % 16) : Nat) : Int) = ((a * 2 ^ k : Nat) : Int) := by
      rw [vl_append, vl_replicate, hvA, List.length_replicate]
      have h2 : a * 2 ^ k = 65536 ^ (k / 16) * a * 2 ^ (k % 16) := by
        have : 2 ^ k = 65536 ^ (k / 16) * 2 ^ (k % 16) := by rw [pow16, ← Nat.pow_add, Nat.div_add_mod]
        rw [this]; grind
      rw [h2, Int.natCast_mul, Int.natCast_mul, Int.natCast_pow]
      simp
    have gA2 : gd (List.replicate (k / 16) 0 ++ A) := gd_append.2 ⟨gd_replicate _, gA⟩
    have lA2 : (List.replicate (k / 16) (0 : Int) ++ A).length = k / 16 + A.length := by simp
    have et : (List.replicate (k / 16) (0 : Int) ++ A).take (k / 16 + A.length) = List.replicate (k / 16) 0 ++ A := List.take_of_length_le (by simp)
    have l2s : (lim (2 ^ (k % 16))).length ≤ 1000000 := by
      have := len_bl (m := 2 ^ (k % 16)) (B := 16) (bl_le.2 (by omega)); omega
    refine call_closed (con_l2mulL true (List.replicate (k / 16) 0 ++ A) gA2 (2 ^ (k % 16)) (by omega) l2s (a * 2 ^ k) hvA2) (by simp (disch := omega) only [go_sem, lA2, et]) ?_
    rintro r hs (⟨h0, rfl, rfl⟩ | ⟨zs, rfl, rfl⟩)
    · refine ⟨⟨by simp, by simp (disch := omega) only [go_sem]⟩, ?_⟩
      simp (disch := omega) only [go_sem]
      refine fin_intro [] [] [] [.ag [.v (.slice none 0 0)]] rfl (by simp (disch := omega) only [go_sem]) (by simp (disch := omega) only [go_sem]) (by simp) (by intro _; simp [tupA, AV.pu, AV.pu.puL, Ob.pu, pu_ints]) (.inl ⟨h0, rfl, rfl⟩)
    · refine ⟨⟨by simp, by simp (disch := omega) only [go_sem]⟩, ?_⟩
      simp (disch := omega) only [go_sem]
      refine fin_intro [(0, 230000000)] [.own 1 (ints (lim (a * 2 ^ k) ++ zs))] [] [.ag [.rf 0 0 (lim (a * 2 ^ k)).length]] rfl (by simp (disch := omega) only [go_sem]) (by simp (disch := omega) only [go_sem]) (by simp) (by intro _; simp [tupA, AV.pu, AV.pu.puL, Ob.pu, pu_ints]) (.inr ⟨zs, rfl, rfl⟩)
end Go.Ab
namespace Go.Ab
open Go Go.Proofs
set_option linter.unusedVariables false
set_option linter.unusedSimpArgs false

theorem con_l2shr (a k : Nat) (la : (lim a).length ≤ 1000000) (hk : k ≤ 100000000) : Con Tryz.prog 97 false [.ag [.sl (lim (a)).length (ints (lim (a)))], .v (.int .i64 k)] [] (isA (.ag [.sl (lim (a / 2 ^ k)).length (ints (lim (a / 2 ^ k)))])) := by
  refine Con.frzA ?_
  refine Con.of_aw Tryz.func97 rfl Tryz.ntmps97 (by simp) (by simp) (by simp) (W.sound ?_)
  show @W Tryz.prog 28 ⟨_⟩ ⟨fun x σ => @retW _ _ _ ⟨_⟩ _ ⟨_⟩ x σ⟩ _ _
  simp (disch := omega) only [go_sem]
  refine ifW_dec (fun h1 => ?_) (fun h1 => ?_)
  · simp (disch := omega) only [go_sem, h1]
    have h0 : a / 2 ^ k = 0 := by
      refine Nat.div_eq_of_lt (Nat.lt_of_lt_of_le (lim_lt a) ?_)
      rw [pow16]; exact Nat.pow_le_pow_right (by omega) (by omega)
    rw [h0, lim_zero]
    refine fin_val (by simp (disch := omega) only [go_sem]) ?_
    show snap _ 6 _ = _
    simp (disch := omega) only [go_sem]
  · simp (disch := omega) only [go_sem, h1]
    refine draw_of rfl [⟨0, [], []⟩, ⟨1, [], []⟩, ⟨2, [1], []⟩, ⟨3, [1], []⟩, ⟨4, [], []⟩, ⟨5, [], []⟩, ⟨6, [1, 4], []⟩, ⟨7, [1, 4], []⟩, ⟨8, [1, 4], []⟩, ⟨13, [1, 4], []⟩, ⟨9, [], [70000000]⟩, ⟨10, [], [70000000]⟩, ⟨11, [], [70000000]⟩, ⟨12, [], [70000000]⟩, ⟨14, [], []⟩, ⟨15, [], []⟩] (by kernel_rfl) ?_
    have e16 : ((k : Int) / 16).toNat = k / 16 := by omega
    have e17 : (k : Int) % 16 = ((k % 16 : Nat) : Int) := by omega
    have e18 : (((lim a).length : Int) - (k : Int) / 16).toNat = ((lim a).drop (k / 16)).length := by simp; omega
    have es : IntKind.i64.wrap (1 * 2 ^ (min ((k : Int) % 16).toNat 64)) = ((2 ^ (k % 16) : Nat) : Int) := by rw [e17]; exact shl_one (by omega)
    have hp15 : 2 ^ (k % 16) ≤ 2 ^ 15 := Nat.pow_le_pow_right (by omega) (by omega)
    have hp0 : 0 < 2 ^ (k % 16) := Nat.pow_pos (by omega)
    have hvD := vl_div (gd_lim a) (i := k / 16) (by omega)
    have gD := gd_drop (gd_lim a) (k / 16)
    have hlD : ((lim a).drop (k / 16)).length ≤ 1000000 := by simp; omega
    have hm : vl ((lim a).drop (k / 16)) / ((2 ^ (k % 16) : Nat) : Int) = ((a / 2 ^ k : Nat) : Int) := by
      rw [← hvD, vl_lim]
      have : a / 2 ^ k = a / 65536 ^ (k / 16) / 2 ^ (k % 16) := by rw [Nat.div_div_eq_div_mul, pow16, ← Nat.pow_add, Nat.div_add_mod]
      rw [this, Int.natCast_ediv, Int.natCast_ediv, Int.natCast_pow 65536]; rfl
    have et : ((lim a).drop (k / 16)).take ((lim a).drop (k / 16)).length = (lim a).drop (k / 16) := List.take_length
    simp (disch := omega) only [go_sem, e16, e18, et, es]
    generalize (lim a).drop (k / 16) = D at *
    refine ⟨by omega, by omega, ?_⟩
    refine call_open ((con_l2smallL false D (2 ^ (k % 16)) gD hlD hp0 (by omega) (a / 2 ^ k) hm).natF2) (by simp (disch := omega) only [go_sem]) ?_
    rintro r hs ⟨rfl, rfl, _⟩
    refine ⟨by simp [freeN], ?_⟩
    simp (disch := omega) only [go_sem]
    refine fin_val (by simp (disch := omega) only [go_sem]) ?_
    show snap _ 6 _ = _
    simp (disch := omega) only [go_sem]

theorem con_l2bits (a : Nat) (la : (lim a).length ≤ 2 ^ 40) : Con Tryz.prog 156 true [.ag [.sl (lim (a)).length (ints (lim (a)))]] [] (isA (.v (.int .i64 (bl a)))) := by
  refine Con.of_aw Tryz.func156 rfl Tryz.ntmps156 (by simp) (by simp) (by simp) (W.sound ?_)
  show @W Tryz.prog 29 ⟨_⟩ ⟨fun x σ => @retW _ _ _ ⟨_⟩ _ ⟨_⟩ x σ⟩ _ _
  simp (disch := omega) only [go_sem]
  refine ifW_dec (fun h1 => ?_) (fun h1 => ?_)
  · simp (disch := omega) only [go_sem, h1]
    have : a = 0 := lim_eq_nil.1 (List.length_eq_zero_iff.1 (by omega))
    subst this
    rw [bl_zero]
    exact fin_valc (by simp (disch := omega) only [go_sem]) (by simp (disch := omega) only [go_sem]) isA_mk
  · have hm : a ≠ 0 := fun e => by rw [e, lim_zero] at h1; simp at h1
    have e2 : (((lim a).length : Int) - 1).toNat = (lim a).length - 1 := by omega
    have ht := len_top hm
    have hb := bl_lim hm
    have eq : (lim a).getD ((lim a).length - 1) 0 = ((a / 65536 ^ ((lim a).length - 1) : Nat) : Int) := by rw [lim_get, Nat.mod_eq_of_lt ht.2]
    generalize a / 65536 ^ ((lim a).length - 1) = q at *
    simp (disch := omega) only [go_sem, h1, e2, eq]
    refine ⟨by omega, by omega, ?_⟩
    refine loop_intro (fun x : Nat × Nat => [(3, .v (.int .i64 x.1)), (4, .v (.int .i64 x.2))]) (fun _ => []) (fun x => x.1 + bl x.2 = bl a ∧ x.2 < 65536 ∧ x.1 ≤ 2 ^ 45) (fun x => x.2) (16 * ((lim a).length - 1), q) ⟨hb.symm, ht.2, by show 16 * ((lim a).length - 1) ≤ 2 ^ 45; omega⟩ (Le.lst [] _ _ rfl (by simp (disch := omega) only [go_sem]; try omega) (by simp (disch := omega) only [go_sem])) ?_
    rintro ⟨n, x⟩ ⟨hn, hx, hn2⟩
    dsimp only at hn hx hn2 ⊢
    simp (disch := omega) only [go_sem]
    refine ifW_dec (fun h2 => ?_) (fun h2 => ?_)
    · simp (disch := omega) only [go_sem, h2]
      have hd := bl_dbl (x := x) (by omega)
      have hp := bl_le.2 (show x < 2 ^ 16 by omega)
      refine next_intro (n + 1, x / 2) [] ⟨by show n + 1 + bl (x / 2) = bl a; omega, by show x / 2 < 65536; omega, ?_⟩ (by show x / 2 < x; omega) rfl (by simp (disch := omega) only [go_sem]; try omega) (by simp (disch := omega) only [go_sem])
      show n + 1 ≤ 2 ^ 45
      have := bl_len (m := a)
      omega
    · simp (disch := omega) only [go_sem, h2]
      have : x = 0 := by omega
      subst this
      rw [bl_zero] at hn
      refine fin_valc (by simp (disch := omega) only [go_sem]) (by simp (disch := omega) only [go_sem]) ⟨?_, rfl, rfl⟩
      simp [tupA]; omega

theorem con_l2bit (m : Nat) (i : Int) (hl : (lim m).length ≤ 2 ^ 40) (hi : 0 ≤ i) (hi2 : i < 2 ^ 62) : Con Tryz.prog 105 true [.ag [.sl (lim (m)).length (ints (lim (m)))], .v (.int .i64 i)] [] (isA (.v (.int .i64 ((m / 2 ^ i.toNat % 2 : Nat) : Int)))) := by
  refine Con.of_aw Tryz.func105 rfl Tryz.ntmps105 (by simp) (by simp) (by simp) (W.sound ?_)
  show @W Tryz.prog 25 ⟨_⟩ ⟨fun x σ => @retW _ _ _ ⟨_⟩ _ ⟨_⟩ x σ⟩ _ _
  obtain ⟨k, rfl⟩ := Int.eq_ofNat_of_zero_le hi
  rw [Int.toNat_natCast]
  have h0 : ¬ ((k : Int) < 0) := by omega
  have e16 : ((k : Int) / 16).toNat = k / 16 := by omega
  have em : min ((k : Int) % 16).toNat 64 = k % 16 := by omega
  have hb := bit_div m k
  simp (disch := omega) only [go_sem, h0]
  refine ifW_dec (fun h1 => ?_) (fun h1 => ?_)
  · simp (disch := omega) only [go_sem, h1]
    have : m / 2 ^ k % 2 = 0 := by
      rw [← hb]
      have h2 := lim_get m (k / 16)
      rw [List.getD_eq_getElem?_getD, List.getElem?_eq_none (by omega)] at h2
      have h3 : m / 65536 ^ (k / 16) % 65536 = 0 := by simp only [Option.getD_none] at h2; omega
      rw [h3]; simp
    rw [this]
    exact fin_valc (by simp (disch := omega) only [go_sem]) (by simp (disch := omega) only [go_sem]) isA_mk
  · have hx := gd_getD (gd_lim m) (k / 16)
    have hp : (0 : Int) < 2 ^ (k % 16) := Int.pow_pos (by omega)
    have efd : ∀ x : Int, x.fdiv (2 ^ (k % 16)) = x / 2 ^ (k % 16) := fun x => Int.fdiv_eq_ediv_of_nonneg _ (Int.le_of_lt hp)
    have hq : 0 ≤ (lim m).getD (k / 16) 0 / 2 ^ (k % 16) ∧ (lim m).getD (k / 16) 0 / 2 ^ (k % 16) < 65536 := by
      refine ⟨Int.ediv_nonneg hx.1 (Int.le_of_lt hp), Int.lt_of_le_of_lt (Int.ediv_le_self _ hx.1) hx.2⟩
    have hr : (lim m).getD (k / 16) 0 / 2 ^ (k % 16) % 2 = ((m / 2 ^ k % 2 : Nat) : Int) := by
      rw [← hb, lim_get]
      generalize m / 65536 ^ (k / 16) % 65536 = x
      rw [Int.natCast_emod, Int.natCast_ediv, Int.natCast_pow]; rfl
    simp (disch := omega) only [go_sem, h1, e16, em, efd, hr]
    refine ⟨by omega, by omega, by omega, ?_⟩
    exact fin_valc (by simp (disch := omega) only [go_sem]) (by simp (disch := omega) only [go_sem]) isA_mk

theorem tz_first {m i : Nat} (hz : ∀ j, j < i → m / 2 ^ j % 2 = 0) (h1 : m / 2 ^ i % 2 = 1) : tz m = i := by
  have key : ∀ k, k ≤ i → 2 ^ k * (m / 2 ^ k) = m := by
    intro k
    induction k with
    | zero => intro _; simp
    | succ k ih =>
      intro hk
      have h2 := ih (by omega)
      have h3 := hz k (by omega)
      have h4 : m / 2 ^ (k + 1) = m / 2 ^ k / 2 := by rw [Nat.pow_succ, Nat.div_div_eq_div_mul]
      rw [h4, Nat.pow_succ, Nat.mul_assoc, show 2 * (m / 2 ^ k / 2) = m / 2 ^ k by omega]; exact h2
  refine tz_uniq (a := m / 2 ^ i / 2) ?_
  have := key i (Nat.le_refl _)
  rw [show 2 * (m / 2 ^ i / 2) + 1 = m / 2 ^ i by omega]; exact this.symm

theorem con_l2trail (m : Nat) (hl : (lim m).length ≤ 2 ^ 40) : Con Tryz.prog 96 true [.ag [.sl (lim (m)).length (ints (lim (m)))]] [] (isA (.v (.int .i64 (tz m)))) := by
  refine Con.of_aw Tryz.func96 rfl Tryz.ntmps96 (by simp) (by simp) (by simp) (W.sound ?_)
  show @W Tryz.prog 17 ⟨_⟩ ⟨fun x σ => @retW _ _ _ ⟨_⟩ _ ⟨_⟩ x σ⟩ _ _
  simp (disch := omega) only [go_sem]
  refine loop_intro (fun i : Nat => [(1, .pt 0 0), (3, .v (.int .i64 i))]) (fun _ => [(0, .own 0 [.sl (lim (m)).length (ints (lim (m)))])]) (fun i => i ≤ 16 * (lim m).length ∧ ∀ j, j < i → m / 2 ^ j % 2 = 0) (fun i => 16 * (lim m).length - i) 0 ⟨by omega, fun j hj => by omega⟩ (Le.lst [(0, 30000000)] _ _ rfl (by simp (disch := omega) only [go_sem]; try omega) (by simp (disch := omega) only [go_sem])) ?_
  rintro i ⟨hi, hz⟩
  simp (disch := omega) only [go_sem]
  refine ifW_dec (fun h1 => ?_) (fun h1 => ?_)
  · simp (disch := omega) only [go_sem, h1]
    refine call_closed (con_l2bit m i hl (by omega) (by omega)) (by simp (disch := omega) only [go_sem]) ?_
    rintro r hs ⟨rfl, rfl, _⟩
    refine ⟨by simp [freeN], ?_⟩
    simp (disch := omega) only [go_sem]
    refine ifW_dec (fun h2 => ?_) (fun h2 => ?_)
    · simp (disch := omega) only [go_sem, h2]
      have := tz_first hz (by omega)
      rw [this]
      exact fin_valc (by simp (disch := omega) only [go_sem]) (by simp (disch := omega) only [go_sem]) isA_mk
    · simp (disch := omega) only [go_sem, h2]
      refine next_intro (i + 1) [] ⟨by omega, fun j hj => ?_⟩ (by show 16 * (lim m).length - (i + 1) < 16 * (lim m).length - i; omega) rfl (by simp (disch := omega) only [go_sem]; try omega) (by simp (disch := omega) only [go_sem])
      rcases (by omega : j < i ∨ j = i) with h | h
      · exact hz j h
      · subst h; omega
  · simp (disch := omega) only [go_sem, h1]
    have hm : m = 0 := by
      have h3 := bl_len (m := m)
      rcases Nat.eq_zero_or_pos m with h | h
      · exact h
      · have h4 := tz_lt_bl (n := m) (by omega)
        have h5 := (odd_part (n := m) (by omega)).1
        have := hz (tz m) (by omega)
        omega
    subst hm
    rw [tz_zero]
    exact fin_valc (by simp (disch := omega) only [go_sem]) (by simp (disch := omega) only [go_sem]) isA_mk

theorem con_l2int (m : Nat) (hm : m < 2 ^ 63) : Con Tryz.prog 145 true [.ag [.sl (lim (m)).length (ints (lim (m)))]] [] (isA (.v (.int .i64 m))) := by
  refine Con.of_aw Tryz.func145 rfl Tryz.ntmps145 (by simp) (by simp) (by simp) (W.sound ?_)
  show @W Tryz.prog 22 ⟨_⟩ ⟨fun x σ => @retW _ _ _ ⟨_⟩ _ ⟨_⟩ x σ⟩ _ _
  simp (disch := omega) only [go_sem]
  have hl : (lim m).length ≤ 4 := lim_len.2 (by omega)
  have hb : ∀ i, i ≤ (lim m).length → 0 ≤ vl ((lim m).drop i) ∧ vl ((lim m).drop i) < 2 ^ 63 := fun i hi => by
    have h1 := vl_nonneg (gd_drop (gd_lim m) i)
    have h2 := vl_take_drop (lim m) i hi
    have h3 := vl_nonneg (gd_take (gd_lim m) i)
    have hp : (0 : Int) < 65536 ^ i := Int.pow_pos (by omega)
    rw [vl_lim] at h2
    have h4 := Int.mul_le_mul_of_nonneg_right (show (1 : Int) ≤ 65536 ^ i by omega) h1
    omega
  refine loop_intro (fun k : Nat => [(1, .pt 0 0), (3, .v (.int .i64 (vl ((lim m).drop k)))), (4, .v (.int .i64 ((k : Int) - 1)))]) (fun _ => [(0, .own 0 [.sl (lim (m)).length (ints (lim (m)))])]) (fun k => k ≤ (lim m).length) (fun k => k) (lim m).length (Nat.le_refl _) (Le.lst [(0, 30000000)] _ _ rfl (by simp (disch := omega) only [go_sem, List.drop_length, vl]; try omega) (by simp (disch := omega) only [go_sem])) ?_
  intro k hk
  have hbk := hb k hk
  simp (disch := omega) only [go_sem]
  refine ifW_dec (fun h1 => ?_) (fun h1 => ?_)
  · obtain ⟨i, rfl⟩ : ∃ i, k = i + 1 := ⟨k - 1, by omega⟩
    have ei : ((i + 1 : Nat) : Int) - 1 = (i : Nat) := by omega
    have hx := gd_getD (gd_lim m) i
    have hbi := hb i (by omega)
    have hd := vl_drop (l := lim m) (i := i) (by omega)
    have e2 : vl ((lim m).drop (i + 1)) * 65536 + (lim m).getD i 0 = vl ((lim m).drop i) := by omega
    simp (disch := omega) only [go_sem, h1, ei, e2]
    refine ⟨by omega, by omega, next_intro i [] (by show i ≤ _; omega) (by show i < i + 1; omega) rfl (by simp (disch := omega) only [go_sem]; try omega) (by simp (disch := omega) only [go_sem])⟩
  · have : k = 0 := by omega
    subst this
    have e2 : vl ((lim m).drop 0) = (m : Int) := by rw [List.drop_zero, vl_lim]
    simp (disch := omega) only [go_sem, h1, e2]
    exact fin_valc (by simp (disch := omega) only [go_sem]) (by simp (disch := omega) only [go_sem]) ⟨by simp [tupA, vl_lim], rfl, rfl⟩
end Go.Ab
namespace Go.Ab
open Go Go.Proofs
set_option linter.unusedVariables false
set_option linter.unusedSimpArgs false

theorem lenpos (m : Nat) : decide ((0 : Int) < ((lim m).length : Int)) = decide (m ≠ 0) := by
  rw [decide_eq_decide]
  exact ⟨fun h e => by rw [e, lim_zero] at h; simp at h, fun h => by have := lim_ne h; omega⟩
theorem con_l2normF (m : Nat) (hl : (lim m).length ≤ 2 ^ 39) : Con Tryz.prog 124 false [.sl (lim (m)).length (ints (lim (m)))] [] (isA (.ag [.sl (lim (m)).length (ints (lim (m)))])) := (con_l2norm false (lim m) m hl (gd_lim m) (vl_lim m)).natF
theorem con_l2ofF (n : Nat) (hn : n < 2 ^ 63) : Con Tryz.prog 91 false [.v (.int .i64 n)] [] (isA (.ag [.sl (lim (n)).length (ints (lim (n)))])) := (con_l2of false n hn).natF
theorem con_l2addF (a b : Nat) (la : (lim a).length ≤ 2000000) (lb : (lim b).length ≤ 2000000) : Con Tryz.prog 90 false [.ag [.sl (lim (a)).length (ints (lim (a)))], .ag [.sl (lim (b)).length (ints (lim (b)))]] [] (isA (.ag [.sl (lim (a + b)).length (ints (lim (a + b)))])) := (con_l2add false a b la lb).natF
theorem con_l2mulF (a b : Nat) (la : (lim a).length ≤ 1000000) (lb : (lim b).length ≤ 1000000) : Con Tryz.prog 153 false [.ag [.sl (lim (a)).length (ints (lim (a)))], .ag [.sl (lim (b)).length (ints (lim (b)))]] [] (isA (.ag [.sl (lim (a * b)).length (ints (lim (a * b)))])) := (con_l2mul false a b la lb).natF
theorem con_l2shlF (a k : Nat) (la : (lim a).length ≤ 400000) (hk : k ≤ 5000000) : Con Tryz.prog 134 false [.ag [.sl (lim (a)).length (ints (lim (a)))], .v (.int .i64 k)] [] (isA (.ag [.sl (lim (a * 2 ^ k)).length (ints (lim (a * 2 ^ k)))])) := (con_l2shl false a k la hk).natF

theorem con_l3make (s : Bool) (m : Nat) (hl : (lim m).length ≤ 2 ^ 39) : Con Tryz.prog 89 false [.v (.bool s), .ag [.sl (lim (m)).length (ints (lim (m)))]] [] (isA (.ag [.v (.bool (s && decide (m ≠ 0))), .sl (lim (m)).length (ints (lim (m)))])) := by
  refine Con.frzA ?_
  refine Con.of_aw Tryz.func89 rfl Tryz.ntmps89 (by simp) (by simp) (by simp) (W.sound ?_)
  show @W Tryz.prog 16 ⟨_⟩ ⟨fun x σ => @retW _ _ _ ⟨_⟩ _ ⟨_⟩ x σ⟩ _ _
  simp (disch := omega) only [go_sem]
  refine draw_of rfl [⟨0, [], []⟩, ⟨1, [], []⟩, ⟨2, [], []⟩, ⟨3, [], []⟩, ⟨4, [], []⟩, ⟨5, [], []⟩, ⟨6, [], []⟩, ⟨7, [3], []⟩, ⟨8, [3], []⟩, ⟨9, [3], []⟩, ⟨10, [], []⟩, ⟨11, [], []⟩] (by kernel_rfl) ?_
  simp (disch := omega) only [go_sem]
  refine ifW_b (fun h1 => ?_) (fun h1 => ?_)
  · simp (disch := omega) only [go_sem, h1, lenpos]
    refine call_open (con_l2normF m hl) (by simp (disch := omega) only [go_sem]) ?_
    rintro r hs ⟨rfl, rfl, _⟩
    refine ⟨by simp [freeN], ?_⟩
    simp (disch := omega) only [go_sem]
    refine fin_val (by simp (disch := omega) only [go_sem]) ?_
    show snap _ 6 _ = _
    simp (disch := omega) only [go_sem, h1, Bool.true_and]
  · simp (disch := omega) only [go_sem, h1]
    refine call_open (con_l2normF m hl) (by simp (disch := omega) only [go_sem]) ?_
    rintro r hs ⟨rfl, rfl, _⟩
    refine ⟨by simp [freeN], ?_⟩
    simp (disch := omega) only [go_sem]
    refine fin_val (by simp (disch := omega) only [go_sem]) ?_
    show snap _ 6 _ = _
    simp (disch := omega) only [go_sem, h1, Bool.false_and]

theorem con_l3of (n : Int) (h : -9223372036854775808 ≤ n ∧ n < 9223372036854775808) : Con Tryz.prog 48 false [.v (.int .i64 n)] [] (isA (.ag [.v (.bool (decide (n < 0))), .sl (lim (n.natAbs)).length (ints (lim (n.natAbs)))])) := by
  refine Con.frzA ?_
  refine Con.of_aw Tryz.func48 rfl Tryz.ntmps48 (by simp) (by simp) (by simp) (W.sound ?_)
  show @W Tryz.prog 15 ⟨_⟩ ⟨fun x σ => @retW _ _ _ ⟨_⟩ _ ⟨_⟩ x σ⟩ _ _
  simp (disch := omega) only [go_sem]
  refine ifW_dec (fun h1 => ?_) (fun h1 => ?_)
  · simp (disch := omega) only [go_sem, h1]
    have e1 : 0 - (n + 1) = (((0 - (n + 1)).toNat : Nat) : Int) := by omega
    refine call_open (con_l2ofF (0 - (n + 1)).toNat (by omega)) (by simp (disch := omega) only [go_sem, ← e1]) ?_
    rintro r hs ⟨rfl, rfl, _⟩
    refine ⟨by simp [freeN], ?_⟩
    simp (disch := omega) only [go_sem]
    refine call_open (con_l2ofF 1 (by omega)) (by simp (disch := omega) only [go_sem]) ?_
    rintro r hs ⟨rfl, rfl, _⟩
    refine ⟨by simp [freeN], ?_⟩
    simp (disch := omega) only [go_sem]
    have l1 := len_bl (m := (0 - (n + 1)).toNat) (B := 64) (bl_le.2 (by omega))
    have l2 := len_bl (m := 1) (B := 64) (by decide)
    refine call_open (con_l2addF (0 - (n + 1)).toNat 1 (by omega) (by omega)) (by simp (disch := omega) only [go_sem]) ?_
    rintro r hs ⟨rfl, rfl, _⟩
    refine ⟨by simp [freeN], ?_⟩
    simp (disch := omega) only [go_sem]
    have e2 : (0 - (n + 1)).toNat + 1 = n.natAbs := by omega
    have l3 := len_bl (m := (0 - (n + 1)).toNat + 1) (B := 64) (bl_le.2 (by omega))
    refine call_open (con_l3make true ((0 - (n + 1)).toNat + 1) (by omega)) (by simp (disch := omega) only [go_sem]) ?_
    rintro r hs ⟨rfl, rfl, _⟩
    refine ⟨by simp [freeN], ?_⟩
    simp (disch := omega) only [go_sem]
    refine fin_val (by simp (disch := omega) only [go_sem]) ?_
    show snap _ 6 _ = _
    have e3 : decide (n.natAbs ≠ 0) = true := by simp; omega
    rw [e2]
    simp (disch := omega) only [go_sem, e3, h1, Bool.true_and]
  · simp (disch := omega) only [go_sem, h1]
    have e1 : n = ((n.natAbs : Nat) : Int) := by omega
    refine call_open (con_l2ofF n.natAbs (by omega)) (by simp (disch := omega) only [go_sem, ← e1]) ?_
    rintro r hs ⟨rfl, rfl, _⟩
    refine ⟨by simp [freeN], ?_⟩
    simp (disch := omega) only [go_sem]
    have l3 := len_bl (m := n.natAbs) (B := 64) (bl_le.2 (by omega))
    refine call_open (con_l3make false n.natAbs (by omega)) (by simp (disch := omega) only [go_sem]) ?_
    rintro r hs ⟨rfl, rfl, _⟩
    refine ⟨by simp [freeN], ?_⟩
    simp (disch := omega) only [go_sem]
    refine fin_val (by simp (disch := omega) only [go_sem]) ?_
    show snap _ 6 _ = _
    simp (disch := omega) only [go_sem, h1, Bool.false_and]

theorem con_l3mul (s1 : Bool) (m1 : Nat) (s2 : Bool) (m2 : Nat) (h1 : bl m1 ≤ 4000000) (h2 : bl m2 ≤ 4000000) : Con Tryz.prog 132 false [.ag [.v (.bool (s1)), .sl (lim (m1)).length (ints (lim (m1)))], .ag [.v (.bool (s2)), .sl (lim (m2)).length (ints (lim (m2)))]] [] (isA (.ag [.v (.bool ((s1 != s2) && decide (m1 * m2 ≠ 0))), .sl (lim (m1 * m2)).length (ints (lim (m1 * m2)))])) := by
  refine Con.frzA ?_
  refine Con.of_aw Tryz.func132 rfl Tryz.ntmps132 (by simp) (by simp) (by simp) (W.sound ?_)
  show @W Tryz.prog 16 ⟨_⟩ ⟨fun x σ => @retW _ _ _ ⟨_⟩ _ ⟨_⟩ x σ⟩ _ _
  simp (disch := omega) only [go_sem]
  have l1 := len_bl h1
  have l2 := len_bl h2
  refine draw_of rfl [⟨0, [], []⟩, ⟨1, [], []⟩, ⟨2, [1], []⟩, ⟨3, [1], []⟩, ⟨4, [], []⟩, ⟨5, [1, 3], []⟩, ⟨6, [1, 3], []⟩, ⟨7, [1, 3, 6], []⟩, ⟨8, [1, 3, 6], []⟩, ⟨9, [1, 3], []⟩, ⟨10, [], []⟩, ⟨11, [], []⟩] (by kernel_rfl) ?_
  simp (disch := omega) only [go_sem]
  refine call_open (con_l2mulF m1 m2 (by omega) (by omega)) (by simp (disch := omega) only [go_sem]) ?_
  rintro r hs ⟨rfl, rfl, _⟩
  refine ⟨by simp [freeN], ?_⟩
  simp (disch := omega) only [go_sem]
  have l3 := len_bl (Nat.le_trans (bl_mulle m1 m2) (Nat.add_le_add h1 h2))
  refine call_open (con_l3make (s1 != s2) (m1 * m2) (by omega)) (by simp (disch := omega) only [go_sem]) ?_
  rintro r hs ⟨rfl, rfl, _⟩
  refine ⟨by simp [freeN], ?_⟩
  simp (disch := omega) only [go_sem]
  refine fin_val (by simp (disch := omega) only [go_sem]) ?_
  show snap _ 6 _ = _
  simp (disch := omega) only [go_sem]

theorem con_l4make (s : Bool) (m : Nat) (e : Int) (hm : bl m ≤ 8000000) (he : -2 ^ 40 ≤ e ∧ e ≤ 2 ^ 40) : Con Tryz.prog 57 false [.ag [.v (.bool (s)), .sl (lim (m)).length (ints (lim (m)))], .v (.int .i64 e)] [] (isA (.ag [.v (.bool (oS s m)), .sl (lim (oM m)).length (ints (lim (oM m))), .v (.int .i64 (oE m e))])) := by
  refine Con.frzA ?_
  refine Con.of_aw Tryz.func57 rfl Tryz.ntmps57 (by simp) (by simp) (by simp) (W.sound ?_)
  show @W Tryz.prog 26 ⟨_⟩ ⟨fun x σ => @retW _ _ _ ⟨_⟩ _ ⟨_⟩ x σ⟩ _ _
  simp (disch := omega) only [go_sem]
  have hl := len_bl hm
  refine ifW_dec (fun h1 => ?_) (fun h1 => ?_)
  · simp (disch := omega) only [go_sem, h1]
    have h0 : m = 0 := lim_eq_nil.1 (List.length_eq_zero_iff.1 (by omega))
    subst h0
    refine fin_val (by simp (disch := omega) only [go_sem]) ?_
    show snap _ 6 _ = _
    simp only [oS, oM_zero, oE, lim_zero, if_true]
    simp (disch := omega) only [go_sem]
  · have h0 : m ≠ 0 := fun e => h1 (by rw [e, lim_zero]; rfl)
    have ht := tz_lt_bl h0
    simp (disch := omega) only [go_sem, h1]
    refine call_closed (con_l2trail m (by omega)) (by simp (disch := omega) only [go_sem]) ?_
    rintro r hs ⟨rfl, rfl, _⟩
    refine ⟨by simp [freeN], ?_⟩
    simp (disch := omega) only [go_sem]
    refine draw_of rfl [⟨0, [], []⟩, ⟨1, [], []⟩, ⟨2, [1], []⟩, ⟨3, [1], []⟩, ⟨4, [1, 3], []⟩, ⟨7, [1, 3], []⟩, ⟨8, [1, 3], []⟩, ⟨9, [1, 3], []⟩, ⟨5, [1], []⟩, ⟨6, [], []⟩, ⟨10, [], []⟩, ⟨11, [], []⟩] (by kernel_rfl) ?_
    simp (disch := omega) only [go_sem]
    refine call_open (con_l2shr m (tz m) (by omega) (by omega)) (by simp (disch := omega) only [go_sem]) ?_
    rintro r hs ⟨rfl, rfl, _⟩
    refine ⟨by simp [freeN], ?_⟩
    simp (disch := omega) only [go_sem]
    have l3 := len_bl (Nat.le_trans (bl_divle m (2 ^ tz m)) hm)
    refine call_open (con_l3make s (m / 2 ^ tz m) (by omega)) (by simp (disch := omega) only [go_sem]) ?_
    rintro r hs ⟨rfl, rfl, _⟩
    refine ⟨by simp [freeN], ?_⟩
    simp (disch := omega) only [go_sem]
    refine fin_val (by simp (disch := omega) only [go_sem]) ?_
    show snap _ 6 _ = _
    have h3 : decide (m / 2 ^ tz m ≠ 0) = true := by
      have := (odd_part h0).1
      simp only [decide_eq_true_eq]; omega
    simp only [oS, oM, oE, if_neg h0]
    simp (disch := omega) only [go_sem, h3, Bool.and_true]

theorem con_l4mul (s1 : Bool) (m1 : Nat) (e1 : Int) (s2 : Bool) (m2 : Nat) (e2 : Int) (h1 : bl m1 ≤ 4000000) (h2 : bl m2 ≤ 4000000) (he1 : -2 ^ 39 ≤ e1 ∧ e1 ≤ 2 ^ 39) (he2 : -2 ^ 39 ≤ e2 ∧ e2 ≤ 2 ^ 39) :
    Con Tryz.prog 103 false [.ag [.v (.bool (s1)), .sl (lim (m1)).length (ints (lim (m1))), .v (.int .i64 (e1))], .ag [.v (.bool (s2)), .sl (lim (m2)).length (ints (lim (m2))), .v (.int .i64 (e2))]] [] (isA (.ag [.v (.bool (oS ((s1 != s2) && decide (m1 * m2 ≠ 0)) (m1 * m2))), .sl (lim (oM (m1 * m2))).length (ints (lim (oM (m1 * m2)))), .v (.int .i64 (oE (m1 * m2) (e1 + e2)))])) := by
  refine Con.frzA ?_
  refine Con.of_aw Tryz.func103 rfl Tryz.ntmps103 (by simp) (by simp) (by simp) (W.sound ?_)
  show @W Tryz.prog 16 ⟨_⟩ ⟨fun x σ => @retW _ _ _ ⟨_⟩ _ ⟨_⟩ x σ⟩ _ _
  simp (disch := omega) only [go_sem]
  refine draw_of rfl [⟨0, [], []⟩, ⟨1, [], []⟩, ⟨2, [1], []⟩, ⟨3, [1], []⟩, ⟨5, [1, 3], []⟩, ⟨6, [1, 3], []⟩, ⟨7, [1, 3, 6], []⟩, ⟨8, [1, 3, 6], []⟩, ⟨9, [1, 3], []⟩, ⟨4, [6, 8], []⟩, ⟨10, [], []⟩, ⟨11, [], []⟩] (by kernel_rfl) ?_
  simp (disch := omega) only [go_sem]
  refine call_open (con_l3mul s1 m1 s2 m2 h1 h2) (by simp (disch := omega) only [go_sem]) ?_
  rintro r hs ⟨rfl, rfl, _⟩
  refine ⟨by simp [freeN], ?_⟩
  simp (disch := omega) only [go_sem]
  have h3 := Nat.le_trans (bl_mulle m1 m2) (Nat.add_le_add h1 h2)
  refine call_open (con_l4make ((s1 != s2) && decide (m1 * m2 ≠ 0)) (m1 * m2) (e1 + e2) (by omega) (by omega)) (by simp (disch := omega) only [go_sem]) ?_
  rintro r hs ⟨rfl, rfl, _⟩
  refine ⟨by simp [freeN], ?_⟩
  simp (disch := omega) only [go_sem]
  refine fin_val (by simp (disch := omega) only [go_sem]) ?_
  show snap _ 6 _ = _
  simp (disch := omega) only [go_sem]

theorem con_l4top (s : Bool) (m : Nat) (e : Int) (hm : (lim m).length ≤ 2 ^ 40) (he : -2 ^ 40 ≤ e ∧ e ≤ 2 ^ 40) : Con Tryz.prog 143 true [.ag [.v (.bool (s)), .sl (lim (m)).length (ints (lim (m))), .v (.int .i64 (e))]] [] (isA (.v (.int .i64 (if m = 0 then 0 else e + (bl m : Int))))) := by
  refine Con.of_aw Tryz.func143 rfl Tryz.ntmps143 (by simp) (by simp) (by simp) (W.sound ?_)
  show @W Tryz.prog 16 ⟨_⟩ ⟨fun x σ => @retW _ _ _ ⟨_⟩ _ ⟨_⟩ x σ⟩ _ _
  simp (disch := omega) only [go_sem]
  refine ifW_dec (fun h1 => ?_) (fun h1 => ?_)
  · simp (disch := omega) only [go_sem, h1]
    have h0 : m = 0 := lim_eq_nil.1 (List.length_eq_zero_iff.1 (by omega))
    rw [if_pos h0]
    exact fin_valc (by simp (disch := omega) only [go_sem]) (by simp (disch := omega) only [go_sem]) isA_mk
  · have h0 : m ≠ 0 := fun e => h1 (by rw [e, lim_zero]; rfl)
    have := bl_len (m := m)
    simp (disch := omega) only [go_sem, h1]
    refine draw_of rfl [⟨0, [], []⟩, ⟨1, [], []⟩, ⟨2, [1], []⟩, ⟨3, [1], []⟩, ⟨4, [1], []⟩, ⟨5, [1], []⟩, ⟨6, [], []⟩, ⟨7, [], []⟩] (by kernel_rfl) ?_
    simp (disch := omega) only [go_sem]
    refine call_closed (con_l2bits m hm) (by simp (disch := omega) only [go_sem]) ?_
    rintro r hs ⟨rfl, rfl, _⟩
    refine ⟨by simp [freeN], ?_⟩
    simp (disch := omega) only [go_sem]
    rw [if_neg h0]
    exact fin_valc (by simp (disch := omega) only [go_sem]) (by simp (disch := omega) only [go_sem]) isA_mk
end Go.Ab
