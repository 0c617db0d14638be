/- What the proof of this claim stands on: the walks of the functions and the plain laws, part 4. -/
import Derived.Test.YtkmldlminmlcnaaGreatDoorFnNextsLib3
import Derived.Carry
import Derived.ChangeSlices
namespace Go.Ab
open Go Go.Proofs
set_option linter.unusedVariables false
set_option linter.unusedSimpArgs false

theorem Con.boolI {P : Program} {f : FuncId} {args : List AV} {b : Bool} (h : Con P f true args [] (boolR b)) : Con P f true args [] (isA (.v (.bool b))) :=
  (Con.len h).mono fun r hs bs ⟨⟨h1, h2⟩, h3⟩ => ⟨h1, h2, h3⟩

theorem con_withinI (n lo hi : Int) : Con Tryz.prog 78 true [.v (.int .i64 n), .v (.int .i64 lo), .v (.int .i64 hi)] [] (isA (.v (.bool (decide (lo ≤ n) && decide (n ≤ hi))))) :=
  Con.boolI (con_within n lo hi)

theorem con_natokI (xs : List Int) (hl : xs.length ≤ 2 ^ 40) : Con Tryz.prog 127 true [.ag [.sl xs.length (ints xs)]] [] (isA (.v (.bool (natB xs)))) := Con.boolI (con_natok xs hl)

theorem con_wholeok (s : Bool) (xs : List Int) (hl : xs.length ≤ 2 ^ 40) : Con Tryz.prog 93 true [.ag [.v (.bool s), .sl xs.length (ints xs)]] [] (isA (.v (.bool (wholeB s xs)))) := by
  refine Con.of_aw Tryz.func93 rfl Tryz.ntmps93 (by simp) (by simp) (by simp) (W.sound ?_)
  show @W Tryz.prog 18 ⟨_⟩ ⟨fun x σ => @retW _ _ _ ⟨_⟩ _ ⟨_⟩ x σ⟩ _ _
  simp (disch := omega) only [go_sem]
  refine call_closed (con_natokI xs hl) (by simp (disch := omega) only [go_sem]) ?_
  rintro r hs ⟨rfl, rfl, _⟩
  refine ⟨by simp [freeN], ?_⟩
  simp (disch := omega) only [go_sem]
  repeat' first
    | simp (disch := omega) only [go_sem, *]
    | (with_reducible refine ifW_dec (fun _ => ?_) (fun _ => ?_))
    | (with_reducible refine ifW_not (fun _ => ?_) (fun _ => ?_))
    | (with_reducible refine ifW_nb (fun _ => ?_) (fun _ => ?_))
    | (with_reducible refine ifW_b (fun _ => ?_) (fun _ => ?_))
  all_goals exact fin_valc (by simp (disch := omega) only [go_sem]) (by simp (disch := omega) only [go_sem]) ⟨by simp_all [tupA, wholeB] <;> omega, rfl, rfl⟩

theorem con_hasKind (k ka ma ea kb mb eb : Int) (sa sb : Bool) : Con Tryz.prog 61 true [.v (.int .i64 k), .ag [.v (.int .i64 (ka)), .v (.bool (sa)), .v (.int .i64 (ma)), .v (.int .i64 (ea))], .ag [.v (.int .i64 (kb)), .v (.bool (sb)), .v (.int .i64 (mb)), .v (.int .i64 (eb))]] [] (isA (.v (.bool (decide (ka = k) || decide (kb = k))))) := by
  refine Con.of_aw Tryz.func61 rfl Tryz.ntmps61 (by simp) (by simp) (by simp) (W.sound ?_)
  show @W Tryz.prog 17 ⟨_⟩ ⟨fun x σ => @retW _ _ _ ⟨_⟩ _ ⟨_⟩ x σ⟩ _ _
  simp (disch := omega) only [go_sem]
  repeat' first
    | simp (disch := omega) only [go_sem, *]
    | (with_reducible refine ifW_dec (fun _ => ?_) (fun _ => ?_))
    | (with_reducible refine ifW_not (fun _ => ?_) (fun _ => ?_))
    | (with_reducible refine ifW_nb (fun _ => ?_) (fun _ => ?_))
    | (with_reducible refine ifW_b (fun _ => ?_) (fun _ => ?_))
  all_goals exact fin_valc (by simp (disch := omega) only [go_sem]) (by simp (disch := omega) only [go_sem]) ⟨by simp_all [tupA] <;> omega, rfl, rfl⟩

theorem con_nan : Con Tryz.prog 37 true [] [] (isA (.ag [.v (.int .i64 (3)), .v (.bool (false)), .v (.int .i64 (0)), .v (.int .i64 (0))])) := by
  refine Con.of_aw Tryz.func37 rfl Tryz.ntmps37 (by simp) (by simp) (by simp) (W.sound ?_)
  show @W Tryz.prog 2 ⟨_⟩ ⟨fun x σ => @retW _ _ _ ⟨_⟩ _ ⟨_⟩ x σ⟩ _ _
  simp (disch := omega) only [go_sem]
  exact fin_valc (by simp (disch := omega) only [go_sem]) (by simp (disch := omega) only [go_sem]) isA_mk

theorem con_zero (s : Bool) : Con Tryz.prog 80 true [.v (.bool s)] [] (isA (.ag [.v (.int .i64 (0)), .v (.bool (s)), .v (.int .i64 (0)), .v (.int .i64 (0))])) := by
  refine Con.of_aw Tryz.func80 rfl Tryz.ntmps80 (by simp) (by simp) (by simp) (W.sound ?_)
  show @W Tryz.prog 5 ⟨_⟩ ⟨fun x σ => @retW _ _ _ ⟨_⟩ _ ⟨_⟩ x σ⟩ _ _
  simp (disch := omega) only [go_sem]
  exact fin_valc (by simp (disch := omega) only [go_sem]) (by simp (disch := omega) only [go_sem]) isA_mk

theorem con_infinity (s : Bool) : Con Tryz.prog 98 true [.v (.bool s)] [] (isA (.ag [.v (.int .i64 (2)), .v (.bool (s)), .v (.int .i64 (0)), .v (.int .i64 (0))])) := by
  refine Con.of_aw Tryz.func98 rfl Tryz.ntmps98 (by simp) (by simp) (by simp) (W.sound ?_)
  show @W Tryz.prog 5 ⟨_⟩ ⟨fun x σ => @retW _ _ _ ⟨_⟩ _ ⟨_⟩ x σ⟩ _ _
  simp (disch := omega) only [go_sem]
  exact fin_valc (by simp (disch := omega) only [go_sem]) (by simp (disch := omega) only [go_sem]) isA_mk

/-- What is too great is the greatest number: else it has no end. -/
def ovB (s : Bool) (mode : Int) : Bool := decide (mode = 1) || ((decide (mode = 2) && s) || (decide (mode = 3) && !s))

theorem con_overflow (s : Bool) (mode : Int) : Con Tryz.prog 117 true [.v (.bool s), .v (.int .i64 mode)] [] (isA (.tu [.ag [.v (.int .i64 (if ovB s mode then 1 else 2)), .v (.bool s), .v (.int .i64 (if ovB s mode then 9007199254740991 else 0)), .v (.int .i64 (if ovB s mode then 971 else 0))], .v (.int .i64 3)])) := by
  refine Con.of_aw Tryz.func117 rfl Tryz.ntmps117 (by simp) (by simp) (by simp) (W.sound ?_)
  show @W Tryz.prog 29 ⟨_⟩ ⟨fun x σ => @retW _ _ _ ⟨_⟩ _ ⟨_⟩ x σ⟩ _ _
  simp (disch := omega) only [go_sem]
  refine call_closed (con_infinity s) (by simp (disch := omega) only [go_sem]) ?_
  rintro r hs ⟨rfl, rfl, _⟩
  refine ⟨by simp [freeN], ?_⟩
  simp (disch := omega) only [go_sem]
  repeat' first
    | simp (disch := omega) only [go_sem, *]
    | (with_reducible refine ifW_dec (fun _ => ?_) (fun _ => ?_))
    | (with_reducible refine ifW_not (fun _ => ?_) (fun _ => ?_))
    | (with_reducible refine ifW_nb (fun _ => ?_) (fun _ => ?_))
    | (with_reducible refine ifW_b (fun _ => ?_) (fun _ => ?_))
  all_goals exact fin_valc (by simp (disch := omega) only [go_sem]) (by simp (disch := omega) only [go_sem]) ⟨by simp_all [tupA, ovB] <;> omega, rfl, rfl⟩

def flB (k : Int) (s : Bool) (m e : Int) : Bool :=
  if k = 1 then (decide (-1074 ≤ e) && decide (e ≤ 971)) && ((decide (4503599627370496 ≤ m) && decide (m ≤ 9007199254740991)) || ((decide (1 ≤ m) && decide (m ≤ 4503599627370495)) && decide (e = -1074)))
  else if k = 0 ∨ k = 2 then decide (m = 0) && decide (e = 0) else ((decide (k = 3) && decide (m = 0)) && decide (e = 0)) && !s

theorem con_flok (k : Int) (s : Bool) (m e : Int) : Con Tryz.prog 49 true [.ag [.v (.int .i64 (k)), .v (.bool (s)), .v (.int .i64 (m)), .v (.int .i64 (e))]] [] (isA (.v (.bool (flB k s m e)))) := by
  refine Con.of_aw Tryz.func49 rfl Tryz.ntmps49 (by simp) (by simp) (by simp) (W.sound ?_)
  show @W Tryz.prog 54 ⟨_⟩ ⟨fun x σ => @retW _ _ _ ⟨_⟩ _ ⟨_⟩ x σ⟩ _ _
  simp (disch := omega) only [go_sem]
  refine ifW_dec (fun h1 => ?_) (fun h1 => ?_)
  · simp (disch := omega) only [go_sem, h1]
    refine call_closed (con_withinI e (-1074) 971) (by simp (disch := omega) only [go_sem]) ?_
    rintro r hs ⟨rfl, rfl, _⟩
    refine ⟨by simp [freeN], ?_⟩
    simp (disch := omega) only [go_sem]
    refine ifW_b (fun h2 => ?_) (fun h2 => ?_)
    · simp (disch := omega) only [go_sem, h2]
      refine call_closed (con_withinI m 4503599627370496 9007199254740991) (by simp (disch := omega) only [go_sem]) ?_
      rintro r hs ⟨rfl, rfl, _⟩
      refine ⟨by simp [freeN], ?_⟩
      simp (disch := omega) only [go_sem]
      refine ifW_nb (fun h3 => ?_) (fun h3 => ?_)
      · simp (disch := omega) only [go_sem, h3]
        refine call_closed (con_withinI m 1 4503599627370495) (by simp (disch := omega) only [go_sem]) ?_
        rintro r hs ⟨rfl, rfl, _⟩
        refine ⟨by simp [freeN], ?_⟩
        simp (disch := omega) only [go_sem]
        refine ifW_b (fun h4 => ?_) (fun h4 => ?_)
        · simp (disch := omega) only [go_sem, h4]
          refine fin_valc (by simp (disch := omega) only [go_sem]) (by simp (disch := omega) only [go_sem]) ⟨?_, rfl, rfl⟩
          show AV.v (.bool _) = AV.v (.bool _)
          unfold flB; rw [if_pos h1, h2, h3, h4]; rfl
        · simp (disch := omega) only [go_sem, h4]
          refine fin_valc (by simp (disch := omega) only [go_sem]) (by simp (disch := omega) only [go_sem]) ⟨?_, rfl, rfl⟩
          show AV.v (.bool _) = AV.v (.bool _)
          unfold flB; rw [if_pos h1, h2, h3, h4]; rfl
      · simp (disch := omega) only [go_sem, h3]
        refine fin_valc (by simp (disch := omega) only [go_sem]) (by simp (disch := omega) only [go_sem]) ⟨?_, rfl, rfl⟩
        show AV.v (.bool _) = AV.v (.bool _)
        unfold flB; rw [if_pos h1, h2, h3]; rfl
    · simp (disch := omega) only [go_sem, h2]
      refine fin_valc (by simp (disch := omega) only [go_sem]) (by simp (disch := omega) only [go_sem]) ⟨?_, rfl, rfl⟩
      show AV.v (.bool _) = AV.v (.bool _)
      unfold flB; rw [if_pos h1, h2]; rfl
  · repeat' first
      | simp (disch := omega) only [go_sem, *]
      | (with_reducible refine ifW_dec (fun _ => ?_) (fun _ => ?_))
      | (with_reducible refine ifW_not (fun _ => ?_) (fun _ => ?_))
      | (with_reducible refine ifW_nb (fun _ => ?_) (fun _ => ?_))
      | (with_reducible refine ifW_b (fun _ => ?_) (fun _ => ?_))
    all_goals exact fin_valc (by simp (disch := omega) only [go_sem]) (by simp (disch := omega) only [go_sem]) ⟨by simp_all [tupA, flB] <;> omega, rfl, rfl⟩
end Go.Ab
namespace Go.Ab
open Go Go.Proofs
set_option linter.unusedVariables false
set_option linter.unusedSimpArgs false

def flLow (top : Int) : Int := if -1074 > top - 53 then -1074 else top - 53
def flE (rm : Nat) (re : Int) : Int := flLow ((bl rm : Int) + re)
def flM (rm : Nat) (re : Int) : Nat := oM rm * 2 ^ (oE rm re - flE rm re).toNat
def flFlags (top : Int) (same : Bool) : Int := if same then 0 else if top ≤ -1022 then 5 else 1

/-- The float of what was rounded. -/
def flK (s : Bool) (mode : Int) (rm : Nat) (re : Int) : Int := if rm = 0 then 0 else if 1024 < (bl rm : Int) + re then (if ovB s mode then 1 else 2) else 1
def flMm (s : Bool) (mode : Int) (rm : Nat) (re : Int) : Int := if rm = 0 then 0 else if 1024 < (bl rm : Int) + re then (if ovB s mode then 9007199254740991 else 0) else (flM rm re : Int)
def flEe (s : Bool) (mode : Int) (rm : Nat) (re : Int) : Int := if rm = 0 then 0 else if 1024 < (bl rm : Int) + re then (if ovB s mode then 971 else 0) else flE rm re
def flFl (top : Int) (same : Bool) (rm : Nat) (re : Int) : Int := if rm ≠ 0 ∧ 1024 < (bl rm : Int) + re then 3 else flFlags top same

theorem or_add {a b k : Nat} (h : a < 2 ^ k) : a ||| b * 2 ^ k = a + b * 2 ^ k := by
  have := Nat.two_pow_add_eq_or_of_lt h b
  rw [Nat.or_comm, Nat.mul_comm b, ← this, Nat.add_comm]

theorem flM_lt {rm : Nat} {re : Int} (h0 : rm ≠ 0) (he : flE rm re ≤ oE rm re) : bl (flM rm re) ≤ 53 := by
  have h1 : oM rm ≠ 0 := fun e => h0 (oM_eq_zero.1 e)
  have h2 := bl_oM h0
  unfold flM
  rw [bl_mul_pow h1]
  unfold flE flLow oE at *
  rw [if_neg h0] at *
  split at he <;> split <;> omega

set_option maxRecDepth 100000 in
theorem con_floatOf (s : Bool) (top mode : Int) (f : Nat) (caps : List AV) (rs same : Bool) (rm : Nat) (re : Int) (ht : -1000000 ≤ top ∧ top ≤ 1000000) (hf : Con Tryz.prog f false (.v (.int .i64 (flLow top)) :: caps) [] (isA (.tu [.ag [.v (.bool (rs)), .sl (lim (rm)).length (ints (lim (rm))), .v (.int .i64 (re))], .v (.bool same)]))) (hg : fnOk Tryz.prog f = True)
    (hc : ∀ h : Nat → Ob, caps.map (snap h 6) = caps) (hm : bl rm ≤ 4000000) (hre : -1000000 ≤ re ∧ re ≤ 1000000) (he : rm ≠ 0 → (bl rm : Int) + re ≤ 1024 → flE rm re ≤ oE rm re) :
    Con Tryz.prog 81 true [.v (.bool s), .v (.int .i64 top), .v (.int .i64 mode), .fn f caps] []
      (isA (.tu [.ag [.v (.int .i64 (flK s mode rm re)), .v (.bool (s)), .v (.int .i64 (flMm s mode rm re)), .v (.int .i64 (flEe s mode rm re))], .v (.int .i64 (flFl top same rm re))])) := by
  refine Con.of_aw Tryz.func81 rfl Tryz.ntmps81 (by simp) (by simp) (by simp) (W.sound ?_)
  show @W Tryz.prog 77 ⟨_⟩ ⟨fun x σ => @retW _ _ _ ⟨_⟩ _ ⟨_⟩ x σ⟩ _ _
  have elow : (if -1074 > top - 53 then (-1074 : Int) else top - 53) = flLow top := rfl
  have elow2 : -2000000 ≤ flLow top ∧ flLow top ≤ 2000000 := by unfold flLow; split <;> omega
  simp (disch := omega) only [go_sem, elow, hg]
  refine call_open hf (by simp (disch := omega) only [go_sem, hc]) ?_
  rintro r hs ⟨rfl, rfl, _⟩
  refine ⟨by simp [freeN], ?_⟩
  simp (disch := omega) only [go_sem]
  refine ifW_nb (fun h1 => ?_) (fun h1 => ?_)
  · simp (disch := omega) only [go_sem, h1]
    refine ifW_dec (fun h2 => ?_) (fun h2 => ?_)
    · have hfl : flFlags top same = 5 := by unfold flFlags; rw [h1, if_pos h2]; rfl
      have e5 : ((1 ||| 4 : Nat) : Int) = 5 := rfl
      simp (disch := omega) only [go_sem, h2, e5]
      refine call_open (con_odd rs rm re (by omega) (by omega)) (by simp (disch := omega) only [go_sem]) ?_
      rintro r hs ⟨rfl, rfl, _⟩
      refine ⟨by simp [freeN], ?_⟩
      simp (disch := omega) only [go_sem]
      refine call_closed (con_isZero (oS rs rm) (oM rm) (oE rm re)) (by simp (disch := omega) only [go_sem]) ?_
      rintro r hs ⟨rfl, rfl, _⟩
      refine ⟨by simp [freeN], ?_⟩
      simp (disch := omega) only [go_sem]
      refine ifW_dec (fun h3 => ?_) (fun h3 => ?_)
      · have h0 : rm = 0 := oM_eq_zero.1 h3
        simp (disch := omega) only [go_sem, h3]
        refine call_closed (con_zero s) (by simp (disch := omega) only [go_sem]) ?_
        rintro r hs ⟨rfl, rfl, _⟩
        refine ⟨by simp [freeN], ?_⟩
        simp (disch := omega) only [go_sem]
        refine fin_valc (by simp (disch := omega) only [go_sem]) (by simp (disch := omega) only [go_sem]) ⟨?_, rfl, rfl⟩
        simp [tupA, flK, flMm, flEe, flFl, h0, hfl]
      · have h0 : rm ≠ 0 := fun e => h3 (by rw [e]; exact oM_zero)
        have hlo : (lim (oM rm)).length ≤ 2 ^ 40 := by have := len_bl (Nat.le_trans (bl_mono (oM_le rm)) hm); omega
        have hblo := bl_oM h0
        have hoE : oE rm re = re + tz rm := by unfold oE; rw [if_neg h0]
        have etop : (if oM rm = 0 then (0 : Int) else (bl (oM rm) : Int) + oE rm re) = (bl rm : Int) + re := by rw [if_neg h3, hoE]; omega
        simp (disch := omega) only [go_sem, h3]
        refine call_closed (con_topX (oS rs rm) (oM rm) (oE rm re) hlo (by omega)) (by simp (disch := omega) only [go_sem]) ?_
        rintro r hs ⟨rfl, rfl, _⟩
        refine ⟨by simp [freeN], ?_⟩
        simp (disch := omega) only [go_sem]
        refine ifW_dec (fun h4 => ?_) (fun h4 => ?_)
        · simp (disch := omega) only [go_sem, h4, etop]
          refine call_closed (con_overflow s mode) (by simp (disch := omega) only [go_sem]) ?_
          rintro r hs ⟨rfl, rfl, _⟩
          refine ⟨by simp [freeN], ?_⟩
          simp (disch := omega) only [go_sem]
          rw [etop] at h4
          refine fin_valc (by simp (disch := omega) only [go_sem]) (by simp (disch := omega) only [go_sem]) ⟨?_, rfl, rfl⟩
          simp [tupA, flK, flMm, flEe, flFl, h0, h4]
        · rw [etop] at h4
          have he' := he h0 (by omega)
          have hM := flM_lt h0 he'
          have eE : (if -1074 > (bl rm : Int) + re - 53 then (-1074 : Int) else (bl rm : Int) + re - 53) = flE rm re := rfl
          have eE2 : -2000000 ≤ flE rm re ∧ flE rm re ≤ 2000000 := by unfold flE flLow; split <;> omega
          have ek : oE rm re - flE rm re = (((oE rm re - flE rm re).toNat : Nat) : Int) := by omega
          have hML := len_bl hM
          simp (disch := omega) only [go_sem, h4, etop]
          refine call_closed (con_topX (oS rs rm) (oM rm) (oE rm re) hlo (by omega)) (by simp (disch := omega) only [go_sem]) ?_
          rintro r hs ⟨rfl, rfl, _⟩
          refine ⟨by simp [freeN], ?_⟩
          simp (disch := omega) only [go_sem]
          simp (disch := omega) only [go_sem, etop, eE]
          refine call_open (con_upN (oM rm) (oE rm re - flE rm re).toNat (by have := len_bl (Nat.le_trans (bl_mono (oM_le rm)) hm); omega) (by omega)) (by simp (disch := omega) only [go_sem, etop, eE, ← ek]) ?_
          rintro r hs ⟨rfl, rfl, _⟩
          refine ⟨by simp [freeN], ?_⟩
          simp (disch := omega) only [go_sem]
          generalize hLM : flM rm re = M at *
          have eM : oM rm * 2 ^ (oE rm re - flE rm re).toNat = M := hLM
          have hM6 : M < 2 ^ 53 := Nat.lt_of_lt_of_le (bl_lt M) (Nat.pow_le_pow_right (by omega) hM)
          have htk : ∀ i, i ≤ (lim M).length → 0 ≤ vl ((lim M).take i) ∧ vl ((lim M).take i) < 2 ^ 53 := fun i hi => by
            have h1 := vl_nonneg (gd_take (gd_lim M) i)
            have h2 := vl_take_drop (lim M) i hi
            have hp : (0 : Int) < 65536 ^ i := Int.pow_pos (by omega)
            have h3 := Int.mul_nonneg (Int.le_of_lt hp) (vl_nonneg (gd_drop (gd_lim M) i))
            rw [vl_lim] at h2
            omega
          refine loop_intro (fun i : Nat => [(0, .v (.bool s)), (8, .pt 100000000 0), (12, .v (.int .i64 5)), (13, .v (.int .i64 (flE rm re))), (14, .v (.int .i64 (vl ((lim M).take i)))), (58, .sl (lim M).length (ints (lim M))), (59, .v (.int .i64 (lim M).length)), (60, .v (.int .i64 i))])
            (fun _ => [(100000000, .own 0 [.v (.int .i64 0), .v (.bool false), .v (.int .i64 0), .v (.int .i64 0)])]) (fun i => i ≤ (lim M).length) (fun i => (lim M).length - i) 0 (by omega)
            (Le.lst [] _ _ rfl (by simp (disch := omega) only [go_sem, etop, eE, eM, vl, List.take_zero, e5]; try omega) (by simp (disch := omega) only [go_sem])) ?_
          intro i hi
          have hti := htk i hi
          simp (disch := omega) only [go_sem]
          refine ifW_dec (fun h5 => ?_) (fun h5 => ?_)
          · have hti2 := htk (i + 1) (by omega)
            have hx := gd_getD (gd_lim M) i
            have hts := vl_take_succ (l := lim M) (i := i) (by omega)
            have hi3 : i ≤ 3 := by omega
            have es : (min ((16 : Int) * (i : Int)).toNat 64) = 16 * i := by omega
            have ep : (2 : Int) ^ (16 * i) = 65536 ^ i := by rw [Int.pow_mul]; rfl
            have hp : (0 : Int) < 65536 ^ i := Int.pow_pos (by omega)
            have hnn := Int.mul_nonneg (Int.le_of_lt hp) hx.1
            have hcm : (lim M).getD i 0 * 65536 ^ i = 65536 ^ i * (lim M).getD i 0 := Int.mul_comm _ _
            have hmul : 0 ≤ (lim M).getD i 0 * 65536 ^ i ∧ (lim M).getD i 0 * 65536 ^ i < 2 ^ 53 := by omega
            have eor : (((vl ((lim M).take i)).toNat ||| ((lim M).getD i 0 * 65536 ^ i).toNat : Nat) : Int) = vl ((lim M).take (i + 1)) := by
              obtain ⟨a, ha⟩ := Int.eq_ofNat_of_zero_le hti.1
              obtain ⟨b, hb⟩ := Int.eq_ofNat_of_zero_le hx.1
              have hlt := vl_lt (gd_take (gd_lim M) i)
              rw [List.length_take, Nat.min_eq_left hi] at hlt
              rw [hts, ← hcm, ha, hb]
              have e1 : (b : Int) * 65536 ^ i = ((b * 2 ^ (16 * i) : Nat) : Int) := by rw [← pow16, Int.natCast_mul, Int.natCast_pow]; rfl
              rw [e1, Int.toNat_natCast, Int.toNat_natCast, or_add, Int.natCast_add]
              rw [ha, show ((65536 : Int) ^ i) = ((2 ^ (16 * i) : Nat) : Int) by rw [← pow16, Int.natCast_pow]; rfl] at hlt
              omega
            simp (disch := omega) only [go_sem, h5]
            simp (disch := omega) only [go_sem, es, ep, wrap_id]
            simp (disch := omega) only [go_sem, eor]
            refine ⟨by omega, by omega, by omega, next_intro (i + 1) [] (by show i + 1 ≤ _; omega) (by show (lim M).length - (i + 1) < (lim M).length - i; omega) rfl (by simp (disch := omega) only [go_sem]; try omega) (by simp (disch := omega) only [go_sem])⟩
          · have : i = (lim M).length := by omega
            subst this
            have evl : vl ((lim M).take (lim M).length) = (M : Int) := by rw [List.take_length, vl_lim]
            simp (disch := omega) only [go_sem, h5, evl]
            refine fin_valc (by simp (disch := omega) only [go_sem]) (by simp (disch := omega) only [go_sem]) ⟨?_, rfl, rfl⟩
            simp [tupA, flK, flMm, flEe, flFl, h0, h4, hfl, hLM, vl_lim]
    · have hfl : flFlags top same = 1 := by unfold flFlags; rw [h1, if_neg h2]; rfl
      have e5 := (rfl : (0 : Nat) = 0)
      simp (disch := omega) only [go_sem, h2]
      refine call_open (con_odd rs rm re (by omega) (by omega)) (by simp (disch := omega) only [go_sem]) ?_
      rintro r hs ⟨rfl, rfl, _⟩
      refine ⟨by simp [freeN], ?_⟩
      simp (disch := omega) only [go_sem]
      refine call_closed (con_isZero (oS rs rm) (oM rm) (oE rm re)) (by simp (disch := omega) only [go_sem]) ?_
      rintro r hs ⟨rfl, rfl, _⟩
      refine ⟨by simp [freeN], ?_⟩
      simp (disch := omega) only [go_sem]
      refine ifW_dec (fun h3 => ?_) (fun h3 => ?_)
      · have h0 : rm = 0 := oM_eq_zero.1 h3
        simp (disch := omega) only [go_sem, h3]
        refine call_closed (con_zero s) (by simp (disch := omega) only [go_sem]) ?_
        rintro r hs ⟨rfl, rfl, _⟩
        refine ⟨by simp [freeN], ?_⟩
        simp (disch := omega) only [go_sem]
        refine fin_valc (by simp (disch := omega) only [go_sem]) (by simp (disch := omega) only [go_sem]) ⟨?_, rfl, rfl⟩
        simp [tupA, flK, flMm, flEe, flFl, h0, hfl]
      · have h0 : rm ≠ 0 := fun e => h3 (by rw [e]; exact oM_zero)
        have hlo : (lim (oM rm)).length ≤ 2 ^ 40 := by have := len_bl (Nat.le_trans (bl_mono (oM_le rm)) hm); omega
        have hblo := bl_oM h0
        have hoE : oE rm re = re + tz rm := by unfold oE; rw [if_neg h0]
        have etop : (if oM rm = 0 then (0 : Int) else (bl (oM rm) : Int) + oE rm re) = (bl rm : Int) + re := by rw [if_neg h3, hoE]; omega
        simp (disch := omega) only [go_sem, h3]
        refine call_closed (con_topX (oS rs rm) (oM rm) (oE rm re) hlo (by omega)) (by simp (disch := omega) only [go_sem]) ?_
        rintro r hs ⟨rfl, rfl, _⟩
        refine ⟨by simp [freeN], ?_⟩
        simp (disch := omega) only [go_sem]
        refine ifW_dec (fun h4 => ?_) (fun h4 => ?_)
        · simp (disch := omega) only [go_sem, h4, etop]
          refine call_closed (con_overflow s mode) (by simp (disch := omega) only [go_sem]) ?_
          rintro r hs ⟨rfl, rfl, _⟩
          refine ⟨by simp [freeN], ?_⟩
          simp (disch := omega) only [go_sem]
          rw [etop] at h4
          refine fin_valc (by simp (disch := omega) only [go_sem]) (by simp (disch := omega) only [go_sem]) ⟨?_, rfl, rfl⟩
          simp [tupA, flK, flMm, flEe, flFl, h0, h4]
        · rw [etop] at h4
          have he' := he h0 (by omega)
          have hM := flM_lt h0 he'
          have eE : (if -1074 > (bl rm : Int) + re - 53 then (-1074 : Int) else (bl rm : Int) + re - 53) = flE rm re := rfl
          have eE2 : -2000000 ≤ flE rm re ∧ flE rm re ≤ 2000000 := by unfold flE flLow; split <;> omega
          have ek : oE rm re - flE rm re = (((oE rm re - flE rm re).toNat : Nat) : Int) := by omega
          have hML := len_bl hM
          simp (disch := omega) only [go_sem, h4, etop]
          refine call_closed (con_topX (oS rs rm) (oM rm) (oE rm re) hlo (by omega)) (by simp (disch := omega) only [go_sem]) ?_
          rintro r hs ⟨rfl, rfl, _⟩
          refine ⟨by simp [freeN], ?_⟩
          simp (disch := omega) only [go_sem]
          simp (disch := omega) only [go_sem, etop, eE]
          refine call_open (con_upN (oM rm) (oE rm re - flE rm re).toNat (by have := len_bl (Nat.le_trans (bl_mono (oM_le rm)) hm); omega) (by omega)) (by simp (disch := omega) only [go_sem, etop, eE, ← ek]) ?_
          rintro r hs ⟨rfl, rfl, _⟩
          refine ⟨by simp [freeN], ?_⟩
          simp (disch := omega) only [go_sem]
          generalize hLM : flM rm re = M at *
          have eM : oM rm * 2 ^ (oE rm re - flE rm re).toNat = M := hLM
          have hM6 : M < 2 ^ 53 := Nat.lt_of_lt_of_le (bl_lt M) (Nat.pow_le_pow_right (by omega) hM)
          have htk : ∀ i, i ≤ (lim M).length → 0 ≤ vl ((lim M).take i) ∧ vl ((lim M).take i) < 2 ^ 53 := fun i hi => by
            have h1 := vl_nonneg (gd_take (gd_lim M) i)
            have h2 := vl_take_drop (lim M) i hi
            have hp : (0 : Int) < 65536 ^ i := Int.pow_pos (by omega)
            have h3 := Int.mul_nonneg (Int.le_of_lt hp) (vl_nonneg (gd_drop (gd_lim M) i))
            rw [vl_lim] at h2
            omega
          refine loop_intro (fun i : Nat => [(0, .v (.bool s)), (8, .pt 100000000 0), (12, .v (.int .i64 1)), (13, .v (.int .i64 (flE rm re))), (14, .v (.int .i64 (vl ((lim M).take i)))), (58, .sl (lim M).length (ints (lim M))), (59, .v (.int .i64 (lim M).length)), (60, .v (.int .i64 i))])
            (fun _ => [(100000000, .own 0 [.v (.int .i64 0), .v (.bool false), .v (.int .i64 0), .v (.int .i64 0)])]) (fun i => i ≤ (lim M).length) (fun i => (lim M).length - i) 0 (by omega)
            (Le.lst [] _ _ rfl (by simp (disch := omega) only [go_sem, etop, eE, eM, vl, List.take_zero, e5]; try omega) (by simp (disch := omega) only [go_sem])) ?_
          intro i hi
          have hti := htk i hi
          simp (disch := omega) only [go_sem]
          refine ifW_dec (fun h5 => ?_) (fun h5 => ?_)
          · have hti2 := htk (i + 1) (by omega)
            have hx := gd_getD (gd_lim M) i
            have hts := vl_take_succ (l := lim M) (i := i) (by omega)
            have hi3 : i ≤ 3 := by omega
            have es : (min ((16 : Int) * (i : Int)).toNat 64) = 16 * i := by omega
            have ep : (2 : Int) ^ (16 * i) = 65536 ^ i := by rw [Int.pow_mul]; rfl
            have hp : (0 : Int) < 65536 ^ i := Int.pow_pos (by omega)
            have hnn := Int.mul_nonneg (Int.le_of_lt hp) hx.1
            have hcm : (lim M).getD i 0 * 65536 ^ i = 65536 ^ i * (lim M).getD i 0 := Int.mul_comm _ _
            have hmul : 0 ≤ (lim M).getD i 0 * 65536 ^ i ∧ (lim M).getD i 0 * 65536 ^ i < 2 ^ 53 := by omega
            have eor : (((vl ((lim M).take i)).toNat ||| ((lim M).getD i 0 * 65536 ^ i).toNat : Nat) : Int) = vl ((lim M).take (i + 1)) := by
              obtain ⟨a, ha⟩ := Int.eq_ofNat_of_zero_le hti.1
              obtain ⟨b, hb⟩ := Int.eq_ofNat_of_zero_le hx.1
              have hlt := vl_lt (gd_take (gd_lim M) i)
              rw [List.length_take, Nat.min_eq_left hi] at hlt
              rw [hts, ← hcm, ha, hb]
              have e1 : (b : Int) * 65536 ^ i = ((b * 2 ^ (16 * i) : Nat) : Int) := by rw [← pow16, Int.natCast_mul, Int.natCast_pow]; rfl
              rw [e1, Int.toNat_natCast, Int.toNat_natCast, or_add, Int.natCast_add]
              rw [ha, show ((65536 : Int) ^ i) = ((2 ^ (16 * i) : Nat) : Int) by rw [← pow16, Int.natCast_pow]; rfl] at hlt
              omega
            simp (disch := omega) only [go_sem, h5]
            simp (disch := omega) only [go_sem, es, ep, wrap_id]
            simp (disch := omega) only [go_sem, eor]
            refine ⟨by omega, by omega, by omega, next_intro (i + 1) [] (by show i + 1 ≤ _; omega) (by show (lim M).length - (i + 1) < (lim M).length - i; omega) rfl (by simp (disch := omega) only [go_sem]; try omega) (by simp (disch := omega) only [go_sem])⟩
          · have : i = (lim M).length := by omega
            subst this
            have evl : vl ((lim M).take (lim M).length) = (M : Int) := by rw [List.take_length, vl_lim]
            simp (disch := omega) only [go_sem, h5, evl]
            refine fin_valc (by simp (disch := omega) only [go_sem]) (by simp (disch := omega) only [go_sem]) ⟨?_, rfl, rfl⟩
            simp [tupA, flK, flMm, flEe, flFl, h0, h4, hfl, hLM, vl_lim]
  · have hfl : flFlags top same = 0 := by unfold flFlags; rw [h1, if_pos rfl]
    have e5 := (rfl : (0 : Nat) = 0)
    simp (disch := omega) only [go_sem, h1]
    refine call_open (con_odd rs rm re (by omega) (by omega)) (by simp (disch := omega) only [go_sem]) ?_
    rintro r hs ⟨rfl, rfl, _⟩
    refine ⟨by simp [freeN], ?_⟩
    simp (disch := omega) only [go_sem]
    refine call_closed (con_isZero (oS rs rm) (oM rm) (oE rm re)) (by simp (disch := omega) only [go_sem]) ?_
    rintro r hs ⟨rfl, rfl, _⟩
    refine ⟨by simp [freeN], ?_⟩
    simp (disch := omega) only [go_sem]
    refine ifW_dec (fun h3 => ?_) (fun h3 => ?_)
    · have h0 : rm = 0 := oM_eq_zero.1 h3
      simp (disch := omega) only [go_sem, h3]
      refine call_closed (con_zero s) (by simp (disch := omega) only [go_sem]) ?_
      rintro r hs ⟨rfl, rfl, _⟩
      refine ⟨by simp [freeN], ?_⟩
      simp (disch := omega) only [go_sem]
      refine fin_valc (by simp (disch := omega) only [go_sem]) (by simp (disch := omega) only [go_sem]) ⟨?_, rfl, rfl⟩
      simp [tupA, flK, flMm, flEe, flFl, h0, hfl]
    · have h0 : rm ≠ 0 := fun e => h3 (by rw [e]; exact oM_zero)
      have hlo : (lim (oM rm)).length ≤ 2 ^ 40 := by have := len_bl (Nat.le_trans (bl_mono (oM_le rm)) hm); omega
      have hblo := bl_oM h0
      have hoE : oE rm re = re + tz rm := by unfold oE; rw [if_neg h0]
      have etop : (if oM rm = 0 then (0 : Int) else (bl (oM rm) : Int) + oE rm re) = (bl rm : Int) + re := by rw [if_neg h3, hoE]; omega
      simp (disch := omega) only [go_sem, h3]
      refine call_closed (con_topX (oS rs rm) (oM rm) (oE rm re) hlo (by omega)) (by simp (disch := omega) only [go_sem]) ?_
      rintro r hs ⟨rfl, rfl, _⟩
      refine ⟨by simp [freeN], ?_⟩
      simp (disch := omega) only [go_sem]
      refine ifW_dec (fun h4 => ?_) (fun h4 => ?_)
      · simp (disch := omega) only [go_sem, h4, etop]
        refine call_closed (con_overflow s mode) (by simp (disch := omega) only [go_sem]) ?_
        rintro r hs ⟨rfl, rfl, _⟩
        refine ⟨by simp [freeN], ?_⟩
        simp (disch := omega) only [go_sem]
        rw [etop] at h4
        refine fin_valc (by simp (disch := omega) only [go_sem]) (by simp (disch := omega) only [go_sem]) ⟨?_, rfl, rfl⟩
        simp [tupA, flK, flMm, flEe, flFl, h0, h4]
      · rw [etop] at h4
        have he' := he h0 (by omega)
        have hM := flM_lt h0 he'
        have eE : (if -1074 > (bl rm : Int) + re - 53 then (-1074 : Int) else (bl rm : Int) + re - 53) = flE rm re := rfl
        have eE2 : -2000000 ≤ flE rm re ∧ flE rm re ≤ 2000000 := by unfold flE flLow; split <;> omega
        have ek : oE rm re - flE rm re = (((oE rm re - flE rm re).toNat : Nat) : Int) := by omega
        have hML := len_bl hM
        simp (disch := omega) only [go_sem, h4, etop]
        refine call_closed (con_topX (oS rs rm) (oM rm) (oE rm re) hlo (by omega)) (by simp (disch := omega) only [go_sem]) ?_
        rintro r hs ⟨rfl, rfl, _⟩
        refine ⟨by simp [freeN], ?_⟩
        simp (disch := omega) only [go_sem]
        simp (disch := omega) only [go_sem, etop, eE]
        refine call_open (con_upN (oM rm) (oE rm re - flE rm re).toNat (by have := len_bl (Nat.le_trans (bl_mono (oM_le rm)) hm); omega) (by omega)) (by simp (disch := omega) only [go_sem, etop, eE, ← ek]) ?_
        rintro r hs ⟨rfl, rfl, _⟩
        refine ⟨by simp [freeN], ?_⟩
        simp (disch := omega) only [go_sem]
        generalize hLM : flM rm re = M at *
        have eM : oM rm * 2 ^ (oE rm re - flE rm re).toNat = M := hLM
        have hM6 : M < 2 ^ 53 := Nat.lt_of_lt_of_le (bl_lt M) (Nat.pow_le_pow_right (by omega) hM)
        have htk : ∀ i, i ≤ (lim M).length → 0 ≤ vl ((lim M).take i) ∧ vl ((lim M).take i) < 2 ^ 53 := fun i hi => by
          have h1 := vl_nonneg (gd_take (gd_lim M) i)
          have h2 := vl_take_drop (lim M) i hi
          have hp : (0 : Int) < 65536 ^ i := Int.pow_pos (by omega)
          have h3 := Int.mul_nonneg (Int.le_of_lt hp) (vl_nonneg (gd_drop (gd_lim M) i))
          rw [vl_lim] at h2
          omega
        refine loop_intro (fun i : Nat => [(0, .v (.bool s)), (8, .pt 100000000 0), (12, .v (.int .i64 0)), (13, .v (.int .i64 (flE rm re))), (14, .v (.int .i64 (vl ((lim M).take i)))), (58, .sl (lim M).length (ints (lim M))), (59, .v (.int .i64 (lim M).length)), (60, .v (.int .i64 i))])
          (fun _ => [(100000000, .own 0 [.v (.int .i64 0), .v (.bool false), .v (.int .i64 0), .v (.int .i64 0)])]) (fun i => i ≤ (lim M).length) (fun i => (lim M).length - i) 0 (by omega)
          (Le.lst [] _ _ rfl (by simp (disch := omega) only [go_sem, etop, eE, eM, vl, List.take_zero, e5]; try omega) (by simp (disch := omega) only [go_sem])) ?_
        intro i hi
        have hti := htk i hi
        simp (disch := omega) only [go_sem]
        refine ifW_dec (fun h5 => ?_) (fun h5 => ?_)
        · have hti2 := htk (i + 1) (by omega)
          have hx := gd_getD (gd_lim M) i
          have hts := vl_take_succ (l := lim M) (i := i) (by omega)
          have hi3 : i ≤ 3 := by omega
          have es : (min ((16 : Int) * (i : Int)).toNat 64) = 16 * i := by omega
          have ep : (2 : Int) ^ (16 * i) = 65536 ^ i := by rw [Int.pow_mul]; rfl
          have hp : (0 : Int) < 65536 ^ i := Int.pow_pos (by omega)
          have hnn := Int.mul_nonneg (Int.le_of_lt hp) hx.1
          have hcm : (lim M).getD i 0 * 65536 ^ i = 65536 ^ i * (lim M).getD i 0 := Int.mul_comm _ _
          have hmul : 0 ≤ (lim M).getD i 0 * 65536 ^ i ∧ (lim M).getD i 0 * 65536 ^ i < 2 ^ 53 := by omega
          have eor : (((vl ((lim M).take i)).toNat ||| ((lim M).getD i 0 * 65536 ^ i).toNat : Nat) : Int) = vl ((lim M).take (i + 1)) := by
            obtain ⟨a, ha⟩ := Int.eq_ofNat_of_zero_le hti.1
            obtain ⟨b, hb⟩ := Int.eq_ofNat_of_zero_le hx.1
            have hlt := vl_lt (gd_take (gd_lim M) i)
            rw [List.length_take, Nat.min_eq_left hi] at hlt
            rw [hts, ← hcm, ha, hb]
            have e1 : (b : Int) * 65536 ^ i = ((b * 2 ^ (16 * i) : Nat) : Int) := by rw [← pow16, Int.natCast_mul, Int.natCast_pow]; rfl
            rw [e1, Int.toNat_natCast, Int.toNat_natCast, or_add, Int.natCast_add]
            rw [ha, show ((65536 : Int) ^ i) = ((2 ^ (16 * i) : Nat) : Int) by rw [← pow16, Int.natCast_pow]; rfl] at hlt
            omega
          simp (disch := omega) only [go_sem, h5]
          simp (disch := omega) only [go_sem, es, ep, wrap_id]
          simp (disch := omega) only [go_sem, eor]
          refine ⟨by omega, by omega, by omega, next_intro (i + 1) [] (by show i + 1 ≤ _; omega) (by show (lim M).length - (i + 1) < (lim M).length - i; omega) rfl (by simp (disch := omega) only [go_sem]; try omega) (by simp (disch := omega) only [go_sem])⟩
        · have : i = (lim M).length := by omega
          subst this
          have evl : vl ((lim M).take (lim M).length) = (M : Int) := by rw [List.take_length, vl_lim]
          simp (disch := omega) only [go_sem, h5, evl]
          refine fin_valc (by simp (disch := omega) only [go_sem]) (by simp (disch := omega) only [go_sem]) ⟨?_, rfl, rfl⟩
          simp [tupA, flK, flMm, flEe, flFl, h0, h4, hfl, hLM, vl_lim]
end Go.Ab
namespace Go.Ab
open Go
set_option linter.unusedVariables false

/-- Rows of things of several cells. -/
def rowA {X : Type} (f : X → List AV) (l : List X) : List AV := (l.map f).flatten

section
variable {X : Type} {f : X → List AV} {z : Nat} {l : List X}

end

/-- A float, as it stands in memory. -/
structure FlV where
  k : Int
  s : Bool
  m : Int
  e : Int

def FlV.cs (x : FlV) : List AV := [.v (.int .i64 x.k), .v (.bool x.s), .v (.int .i64 x.m), .v (.int .i64 x.e)]
theorem fl_cs4 (x : FlV) : x.cs.length = 4 := rfl
theorem fl_ren {ρ : Nat → Nat} (x : FlV) : renL ρ x.cs = x.cs := rfl
theorem fl_snap {hp : Nat → Ob} {k : Nat} (x : FlV) : x.cs.map (snap hp (k + 1)) = x.cs := rfl
attribute [go_sem] fl_ren fl_snap
end Go.Ab
namespace Go.Ab
open Go Go.Proofs
set_option linter.unusedVariables false
set_option linter.unusedSimpArgs false

section
variable (g : Nat) (p : FlV → Bool)

end

def flBV (x : FlV) : Bool := flB x.k x.s x.m x.e

end Go.Ab
namespace Go.Ab
open Go Go.Proofs
set_option linter.unusedVariables false
set_option linter.unusedSimpArgs false

theorem con_float1 (s : Bool) (m : Nat) (e low mode : Int) (hm : bl m ≤ 4000000) (he : -1000000 ≤ e ∧ e ≤ 1000000) (hlo : -1000000 ≤ low ∧ low ≤ 1000000) :
    Con Tryz.prog 83 false [.v (.int .i64 low), .fp [.v (.bool s), .sl (lim (m)).length (ints (lim (m))), .v (.int .i64 e)] 0, .fp [.v (.int .i64 mode)] 0] []
      (isA (.tu [.ag [.v (.bool (roS s m e low mode)), .sl (lim (roM s m e low mode)).length (ints (lim (roM s m e low mode))), .v (.int .i64 (roE m e low))], .v (.bool (roX m e low))])) := by
  refine Con.frzA ?_
  refine Con.of_aw Tryz.func83 rfl Tryz.ntmps83 (by simp) (by simp) (by simp) (W.sound ?_)
  show @W Tryz.prog 12 ⟨_⟩ ⟨fun x σ => @retW _ _ _ ⟨_⟩ _ ⟨_⟩ x σ⟩ _ _
  simp (disch := omega) only [go_sem]
  refine call_open (con_rounded s m e low mode hm he hlo) (by simp (disch := omega) only [go_sem]) ?_
  rintro r hs ⟨rfl, rfl, _⟩
  refine ⟨by simp [freeN], ?_⟩
  simp (disch := omega) only [go_sem]
  refine fin_val (by simp (disch := omega) only [go_sem]) ?_
  show snap _ 6 _ = _
  simp (disch := omega) only [go_sem]

/-- The float of a number, and its flags; z is the sign of a zero. -/
def flV (s : Bool) (m : Nat) (e mode : Int) (z : Bool) : FlV :=
  if m = 0 then ⟨0, z, 0, 0⟩ else
    ⟨flK s mode (roM s m e (flLow (bl m + e)) mode) (roE m e (flLow (bl m + e))), s, flMm s mode (roM s m e (flLow (bl m + e)) mode) (roE m e (flLow (bl m + e))), flEe s mode (roM s m e (flLow (bl m + e)) mode) (roE m e (flLow (bl m + e)))⟩
def flG (s : Bool) (m : Nat) (e mode : Int) : Int :=
  if m = 0 then 0 else flFl (bl m + e) (roX m e (flLow (bl m + e))) (roM s m e (flLow (bl m + e)) mode) (roE m e (flLow (bl m + e)))

theorem ro_form {s : Bool} {m : Nat} {e mode : Int} (h0 : m ≠ 0) :
    roM s m e (flLow (bl m + e)) mode ≠ 0 → flE (roM s m e (flLow (bl m + e)) mode) (roE m e (flLow (bl m + e))) ≤ oE (roM s m e (flLow (bl m + e)) mode) (roE m e (flLow (bl m + e))) := by
  intro hr
  unfold oE
  rw [if_neg hr]
  unfold roM roE at *
  by_cases h : flLow (bl m + e) ≤ e ∨ m = 0
  · rw [if_pos h, if_pos h]
    have : flLow (bl m + e) ≤ e := h.resolve_right h0
    unfold flE; omega
  · rw [if_neg h, if_neg h]
    have hlt : e < flLow (bl m + e) := by omega
    have h1 : bl m ≤ 53 + (flLow (bl m + e) - e).toNat := by unfold flLow at *; split at hlt <;> split <;> omega
    have h2 := rnd_form (s := s) (mode := mode) h1
    generalize rq s m (2 ^ (flLow (bl m + e) - e).toNat) mode = q at *
    unfold flE flLow
    split
    · split <;> omega
    · split <;> omega

theorem ro_bl {s : Bool} {m : Nat} {e low mode : Int} {B : Nat} (h : bl m ≤ B) : bl (roM s m e low mode) ≤ B + 1 := by
  unfold roM
  split
  · omega
  · have h1 := bl_mono (rq_le s m (2 ^ (low - e).toNat) mode)
    have h2 := bl_succ (m / 2 ^ (low - e).toNat)
    have h3 := bl_divle m (2 ^ (low - e).toNat)
    omega

theorem con_float (s : Bool) (m : Nat) (e mode : Int) (z : Bool) (hm : bl m ≤ 100000) (he : -100000 ≤ e ∧ e ≤ 100000) :
    Con Tryz.prog 39 true [.ag [.v (.bool (s)), .sl (lim (m)).length (ints (lim (m))), .v (.int .i64 (e))], .v (.int .i64 mode), .v (.bool z)] []
      (isA (.tu [.ag [.v (.int .i64 ((flV s m e mode z).k)), .v (.bool ((flV s m e mode z).s)), .v (.int .i64 ((flV s m e mode z).m)), .v (.int .i64 ((flV s m e mode z).e))], .v (.int .i64 (flG s m e mode))])) := by
  refine Con.of_aw Tryz.func39 rfl Tryz.ntmps39 (by simp) (by simp) (by simp) (W.sound ?_)
  show @W Tryz.prog 21 ⟨_⟩ ⟨fun x σ => @retW _ _ _ ⟨_⟩ _ ⟨_⟩ x σ⟩ _ _
  simp (disch := omega) only [go_sem]
  refine call_closed (con_isZero s m e) (by simp (disch := omega) only [go_sem]) ?_
  rintro r hs ⟨rfl, rfl, _⟩
  refine ⟨by simp [freeN], ?_⟩
  simp (disch := omega) only [go_sem]
  refine ifW_dec (fun h1 => ?_) (fun h1 => ?_)
  · simp (disch := omega) only [go_sem, h1]
    refine call_closed (con_zero z) (by simp (disch := omega) only [go_sem]) ?_
    rintro r hs ⟨rfl, rfl, _⟩
    refine ⟨by simp [freeN], ?_⟩
    simp (disch := omega) only [go_sem]
    refine fin_valc (by simp (disch := omega) only [go_sem]) (by simp (disch := omega) only [go_sem]) ⟨?_, rfl, rfl⟩
    simp only [tupA, flV, flG, h1, if_true]
  · simp (disch := omega) only [go_sem, h1]
    have hl := len_bl hm
    refine draw_of rfl [⟨0, [], []⟩, ⟨1, [], []⟩, ⟨2, [1], []⟩, ⟨4, [1, 2], []⟩, ⟨5, [1, 2, 4], []⟩, ⟨3, [1, 4], []⟩, ⟨6, [], []⟩, ⟨7, [], []⟩, ⟨8, [], []⟩, ⟨9, [], []⟩, ⟨10, [], []⟩] (by kernel_rfl) ?_
    simp (disch := omega) only [go_sem]
    have etop : (if m = 0 then (0 : Int) else (bl m : Int) + e) = (bl m : Int) + e := if_neg h1
    refine call_closed (con_topX s m e (by omega) (by omega)) (by simp (disch := omega) only [go_sem]) ?_
    rintro r hs ⟨rfl, rfl, _⟩
    refine ⟨by simp [freeN], ?_⟩
    simp (disch := omega) only [go_sem]
    have hlow : -1000000 ≤ flLow (bl m + e) ∧ flLow (bl m + e) ≤ 1000000 := by unfold flLow; split <;> omega
    refine call_closed (con_floatOf s ((bl m : Int) + e) mode 83 [.fp [.v (.bool s), .sl (lim (m)).length (ints (lim (m))), .v (.int .i64 e)] 0, .fp [.v (.int .i64 mode)] 0] (roS s m e (flLow (bl m + e)) mode) (roX m e (flLow (bl m + e))) (roM s m e (flLow (bl m + e)) mode) (roE m e (flLow (bl m + e))) (by omega) (con_float1 s m e (flLow (bl m + e)) mode (by omega) (by omega) hlow) (by simp (disch := omega) only [go_sem]) (fun h => rfl) (by have := ro_bl (s := s) (e := e) (low := flLow (bl m + e)) (mode := mode) hm; omega) (by unfold roE; split <;> omega) (fun h _ => ro_form h1 h)) (by simp (disch := omega) only [go_sem, etop]) ?_
    rintro r hs ⟨rfl, rfl, _⟩
    refine ⟨by simp [freeN], ?_⟩
    simp (disch := omega) only [go_sem]
    refine fin_valc (by simp (disch := omega) only [go_sem]) (by simp (disch := omega) only [go_sem]) ⟨?_, rfl, rfl⟩
    simp only [tupA, flV, flG, h1, if_false]

theorem con_flexact (k : Int) (s : Bool) (m : Nat) (e : Int) (hm : m < 2 ^ 63) : Con Tryz.prog 43 false [.ag [.v (.int .i64 (k)), .v (.bool (s)), .v (.int .i64 ((m : Int))), .v (.int .i64 (e))]] [] (isA (.ag [.v (.bool (s && decide (k = 1))), .sl (lim (m)).length (ints (lim (m))), .v (.int .i64 (e))])) := by
  refine Con.frzA ?_
  refine Con.of_aw Tryz.func43 rfl Tryz.ntmps43 (by simp) (by simp) (by simp) (W.sound ?_)
  show @W Tryz.prog 16 ⟨_⟩ ⟨fun x σ => @retW _ _ _ ⟨_⟩ _ ⟨_⟩ x σ⟩ _ _
  simp (disch := omega) only [go_sem]
  refine draw_of rfl [⟨0, [], []⟩, ⟨1, [], []⟩, ⟨2, [], []⟩, ⟨3, [], []⟩, ⟨4, [], []⟩, ⟨5, [], []⟩, ⟨6, [], []⟩, ⟨7, [1, 4], []⟩, ⟨8, [1, 4], []⟩, ⟨10, [1, 4, 8], []⟩, ⟨11, [1, 4, 8], []⟩, ⟨9, [4, 11], []⟩, ⟨12, [], []⟩, ⟨13, [], []⟩] (by kernel_rfl) ?_
  simp (disch := omega) only [go_sem]
  refine ifW_b (fun h3 => ?_) (fun h3 => ?_)
  · simp (disch := omega) only [go_sem, h3]
    refine call_open (con_smallN m hm) (by simp (disch := omega) only [go_sem]) ?_
    rintro r hs ⟨rfl, rfl, _⟩
    refine ⟨by simp [freeN], ?_⟩
    simp (disch := omega) only [go_sem]
    refine fin_val (by simp (disch := omega) only [go_sem]) ?_
    show snap _ 6 _ = _
    simp (disch := omega) only [go_sem, h3, Bool.true_and]
  · simp (disch := omega) only [go_sem, h3]
    refine call_open (con_smallN m hm) (by simp (disch := omega) only [go_sem]) ?_
    rintro r hs ⟨rfl, rfl, _⟩
    refine ⟨by simp [freeN], ?_⟩
    simp (disch := omega) only [go_sem]
    refine fin_val (by simp (disch := omega) only [go_sem]) ?_
    show snap _ 6 _ = _
    simp (disch := omega) only [go_sem, h3, Bool.false_and]
end Go.Ab
namespace Go.Ab
open Go Go.Proofs
set_option linter.unusedVariables false
set_option linter.unusedSimpArgs false

theorem con_withinB (n lo hi : Int) : Con Tryz.prog 78 true [.v (.int .i64 n), .v (.int .i64 lo), .v (.int .i64 hi)] [] (isA (.v (.bool (decide (lo ≤ n) && decide (n ≤ hi))))) := con_withinI n lo hi

theorem con_dyok (s : Bool) (xs : List Int) (e : Int) (hl : xs.length ≤ 2 ^ 40) : Con Tryz.prog 51 true [.ag [.v (.bool s), .sl xs.length (ints xs), .v (.int .i64 e)]] [] (isA (.v (.bool (dyB s xs e)))) := by
  refine Con.of_aw Tryz.func51 rfl Tryz.ntmps51 (by simp) (by simp) (by simp) (W.sound ?_)
  show @W Tryz.prog 32 ⟨_⟩ ⟨fun x σ => @retW _ _ _ ⟨_⟩ _ ⟨_⟩ x σ⟩ _ _
  simp (disch := omega) only [go_sem]
  refine call_closed (con_wholeok s xs hl) (by simp (disch := omega) only [go_sem]) ?_
  rintro r hs ⟨rfl, rfl, _⟩
  refine ⟨by simp [freeN], ?_⟩
  simp (disch := omega) only [go_sem]
  refine ifW_b (fun hw => ?_) (fun h1 => ?_)
  · have h1 := hw
    simp only [wholeB, Bool.and_eq_true] at h1
    obtain ⟨hx, hll⟩ := natB_lim h1.1
    have hxs : xs = lim (vl xs).toNat := hx
    generalize hm : (vl xs).toNat = m at *
    subst hx
    simp (disch := omega) only [go_sem, hw]
    refine call_closed (con_withinB e (-3000) 3000) (by simp (disch := omega) only [go_sem]) ?_
    rintro r hs ⟨rfl, rfl, _⟩
    refine ⟨by simp [freeN], ?_⟩
    simp (disch := omega) only [go_sem]
    refine ifW_nb (fun h2 => ?_) (fun h2 => ?_)
    · simp (disch := omega) only [go_sem, h2]
      refine fin_valc (by simp (disch := omega) only [go_sem]) (by simp (disch := omega) only [go_sem]) ⟨?_, rfl, rfl⟩
      simp [tupA, dyB, hw, h2]
    · simp (disch := omega) only [go_sem, h2]
      refine call_closed (con_bitOf m 0 (by omega) (by omega) (by omega)) (by simp (disch := omega) only [go_sem]) ?_
      rintro r hs ⟨rfl, rfl, _⟩
      refine ⟨by simp [freeN], ?_⟩
      simp (disch := omega) only [go_sem]
      refine ifW_not (fun h3 => ?_) (fun h3 => ?_)
      · have h3' : ¬ m % 2 = 1 := fun h => h3 (by simp; omega)
        simp (disch := omega) only [go_sem, h3]
        refine ifW_dec (fun h4 => ?_) (fun h4 => ?_)
        · simp (disch := omega) only [go_sem, h4]
          refine fin_valc (by simp (disch := omega) only [go_sem]) (by simp (disch := omega) only [go_sem]) ⟨?_, rfl, rfl⟩
          have h4' : (lim m).length = 0 := by omega
          simp [tupA, dyB, hw, h2, hm, h3', h4']
        · simp (disch := omega) only [go_sem, h4]
          refine fin_valc (by simp (disch := omega) only [go_sem]) (by simp (disch := omega) only [go_sem]) ⟨?_, rfl, rfl⟩
          have h4' : ¬ (lim m).length = 0 := by omega
          simp [tupA, dyB, hw, h2, hm, h3', h4']
      · have h3' : m % 2 = 1 := by simp at h3; omega
        simp (disch := omega) only [go_sem, h3]
        refine fin_valc (by simp (disch := omega) only [go_sem]) (by simp (disch := omega) only [go_sem]) ⟨?_, rfl, rfl⟩
        simp [tupA, dyB, hw, h2, hm, h3']
  · simp (disch := omega) only [go_sem, h1]
    refine fin_valc (by simp (disch := omega) only [go_sem]) (by simp (disch := omega) only [go_sem]) ⟨?_, rfl, rfl⟩
    simp [tupA, dyB, h1]
end Go.Ab
namespace Go.Ab
open Go Go.Proofs
set_option linter.unusedVariables false
set_option linter.unusedSimpArgs false

theorem con_dyexact (s : Bool) (m : Nat) (e : Int) : Con Tryz.prog 53 false [.ag [.v (.bool (s)), .sl (lim (m)).length (ints (lim (m))), .v (.int .i64 (e))]] [] (isA (.ag [.v (.bool (s)), .sl (lim (m)).length (ints (lim (m))), .v (.int .i64 (e))])) := by
  refine Con.frzA ?_
  refine Con.of_aw Tryz.func53 rfl Tryz.ntmps53 (by simp) (by simp) (by simp) (W.sound ?_)
  show @W Tryz.prog 13 ⟨_⟩ ⟨fun x σ => @retW _ _ _ ⟨_⟩ _ ⟨_⟩ x σ⟩ _ _
  simp (disch := omega) only [go_sem]
  refine fin_val (by simp (disch := omega) only [go_sem]) ?_
  show snap _ 6 _ = _
  simp (disch := omega) only [go_sem]

def modeB (mode : Int) : Bool := decide (0 ≤ mode) && decide (mode ≤ 4)

def dyV : AV → AV := id

theorem con_FlRound (s : Bool) (xs : List Int) (e mode : Int) (hl : xs.length ≤ 2 ^ 40) :
    Con Tryz.prog 26 true [.ag [.v (.bool s), .sl xs.length (ints xs), .v (.int .i64 e)], .v (.int .i64 mode)] []
      (isA (if dyB s xs e && modeB mode then .tu [.ag [.v (.int .i64 ((flV s (vl xs).toNat e mode false).k)), .v (.bool ((flV s (vl xs).toNat e mode false).s)), .v (.int .i64 ((flV s (vl xs).toNat e mode false).m)), .v (.int .i64 ((flV s (vl xs).toNat e mode false).e))], .v (.int .i64 (flG s (vl xs).toNat e mode)), .v (.bool true)]
        else .tu [.ag [.v (.int .i64 (0)), .v (.bool (false)), .v (.int .i64 (0)), .v (.int .i64 (0))], .v (.int .i64 0), .v (.bool false)])) := by
  refine Con.of_aw Tryz.func26 rfl Tryz.ntmps26 (by simp) (by simp) (by simp) (W.sound ?_)
  show @W Tryz.prog 27 ⟨_⟩ ⟨fun x σ => @retW _ _ _ ⟨_⟩ _ ⟨_⟩ x σ⟩ _ _
  simp (disch := omega) only [go_sem]
  refine call_closed (con_dyok s xs e hl) (by simp (disch := omega) only [go_sem]) ?_
  rintro r hs ⟨rfl, rfl, _⟩
  refine ⟨by simp [freeN], ?_⟩
  simp (disch := omega) only [go_sem]
  refine ifW_b (fun h1 => ?_) (fun h1 => ?_)
  · obtain ⟨m, rfl, hm1, hm2, he, _⟩ := dyB_lim h1
    simp (disch := omega) only [go_sem, h1]
    refine call_closed (con_isMode mode) (by simp (disch := omega) only [go_sem]) ?_
    rintro r hs ⟨rfl, rfl, _⟩
    refine ⟨by simp [freeN], ?_⟩
    simp (disch := omega) only [go_sem]
    refine ifW_nb (fun h2 => ?_) (fun h2 => ?_)
    · simp (disch := omega) only [go_sem, h2]
      rw [h1, if_neg (by unfold modeB; rw [h2]; simp)]
      exact fin_valc (by simp (disch := omega) only [go_sem]) (by simp (disch := omega) only [go_sem]) isA_mk
    · simp (disch := omega) only [go_sem, h2]
      refine call_open (con_dyexact s m e) (by simp (disch := omega) only [go_sem]) ?_
      rintro r hs ⟨rfl, rfl, _⟩
      refine ⟨by simp [freeN], ?_⟩
      simp (disch := omega) only [go_sem]
      refine call_closed (con_float s m e mode false (by omega) (by omega)) (by simp (disch := omega) only [go_sem]) ?_
      rintro r hs ⟨rfl, rfl, _⟩
      refine ⟨by simp [freeN], ?_⟩
      simp (disch := omega) only [go_sem]
      rw [h1, if_pos (by unfold modeB; rw [h2]; rfl), vl_lim, Int.toNat_natCast]
      exact fin_valc (by simp (disch := omega) only [go_sem]) (by simp (disch := omega) only [go_sem]) isA_mk
  · simp (disch := omega) only [go_sem, h1]
    rw [h1, if_neg (by simp)]
    exact fin_valc (by simp (disch := omega) only [go_sem]) (by simp (disch := omega) only [go_sem]) isA_mk
end Go.Ab
namespace Go.Ab
open Go Go.Proofs
set_option linter.unusedVariables false
set_option linter.unusedSimpArgs false

end Go.Ab
namespace Go.Ab
open Go Go.Proofs
set_option linter.unusedVariables false
set_option linter.unusedSimpArgs false

theorem flB_rng {k : Int} {s : Bool} {m e : Int} (h : flB k s m e = true) : (0 ≤ m ∧ m ≤ 9007199254740991) ∧ (-1074 ≤ e ∧ e ≤ 971) ∧ (0 ≤ k ∧ k ≤ 3) ∧ (k ≠ 1 → m = 0 ∧ e = 0) ∧ (k = 1 → 1 ≤ m) ∧ (k = 3 → s = false) := by
  unfold flB at h
  split at h
  · simp only [Bool.and_eq_true, Bool.or_eq_true, decide_eq_true_eq] at h
    omega
  · split at h
    · simp only [Bool.and_eq_true, decide_eq_true_eq] at h
      omega
    · simp only [Bool.and_eq_true, decide_eq_true_eq, Bool.not_eq_true'] at h
      refine ⟨by omega, by omega, by omega, by omega, by omega, fun _ => h.2⟩

/-- A product of floats. -/
def muS (k1 : Int) (s1 : Bool) (m1 : Int) (k2 : Int) (s2 : Bool) (m2 : Int) : Bool := ((s1 && decide (k1 = 1)) != (s2 && decide (k2 = 1))) && decide (m1.toNat * m2.toNat ≠ 0)
def mulV (k1 : Int) (s1 : Bool) (m1 e1 k2 : Int) (s2 : Bool) (m2 e2 mode : Int) : FlV :=
  if (decide (k1 = 3) || decide (k2 = 3)) = true then ⟨3, false, 0, 0⟩
  else if (decide (k1 = 2) || decide (k2 = 2)) = true then (if (decide (k1 = 0) || decide (k2 = 0)) = true then ⟨3, false, 0, 0⟩ else ⟨2, s1 != s2, 0, 0⟩)
  else flV (muS k1 s1 m1 k2 s2 m2) (m1.toNat * m2.toNat) (e1 + e2) mode (s1 != s2)
def mulG (k1 : Int) (s1 : Bool) (m1 e1 k2 : Int) (s2 : Bool) (m2 e2 mode : Int) : Int :=
  if (decide (k1 = 3) || decide (k2 = 3)) = true then 0
  else if (decide (k1 = 2) || decide (k2 = 2)) = true then (if (decide (k1 = 0) || decide (k2 = 0)) = true then 16 else 0)
  else flG (muS k1 s1 m1 k2 s2 m2) (m1.toNat * m2.toNat) (e1 + e2) mode

end Go.Ab
namespace Go.Ab
open Go Go.Proofs
set_option linter.unusedVariables false
set_option linter.unusedSimpArgs false

section
variable {k1 : Int} {s1 : Bool} {m1 e1 k2 : Int} {s2 : Bool} {m2 e2 mode : Int}
end
theorem con_isFinite (k : Int) (s : Bool) (m e : Int) : Con Tryz.prog 42 true [.ag [.v (.int .i64 (k)), .v (.bool (s)), .v (.int .i64 (m)), .v (.int .i64 (e))]] [] (isA (.v (.bool (decide (k = 0) || decide (k = 1))))) := by
  refine Con.of_aw Tryz.func42 rfl Tryz.ntmps42 (by simp) (by simp) (by simp) (W.sound ?_)
  show @W Tryz.prog 11 ⟨_⟩ ⟨fun x σ => @retW _ _ _ ⟨_⟩ _ ⟨_⟩ x σ⟩ _ _
  simp (disch := omega) only [go_sem]
  repeat' first
    | simp (disch := omega) only [go_sem, *]
    | (with_reducible refine ifW_dec (fun _ => ?_) (fun _ => ?_))
    | (with_reducible refine ifW_not (fun _ => ?_) (fun _ => ?_))
    | (with_reducible refine ifW_nb (fun _ => ?_) (fun _ => ?_))
    | (with_reducible refine ifW_b (fun _ => ?_) (fun _ => ?_))
  all_goals exact fin_valc (by simp (disch := omega) only [go_sem]) (by simp (disch := omega) only [go_sem]) ⟨by simp_all [tupA] <;> omega, rfl, rfl⟩
end Go.Ab
namespace Go.Ab
set_option linter.unusedVariables false

theorem oE_rng {m : Nat} {e lo hi : Int} {B : Nat} (h : bl m ≤ B) (h1 : lo ≤ 0) (h2 : 0 ≤ hi) (he : lo ≤ e ∧ e ≤ hi) : lo ≤ oE m e ∧ oE m e ≤ hi + B := by
  unfold oE
  by_cases h0 : m = 0
  · rw [if_pos h0]; omega
  · rw [if_neg h0]; have := tz_lt_bl h0; omega
theorem oM_odd (m : Nat) : oM m % 2 = 1 ∨ oM m = 0 := by
  by_cases h0 : m = 0
  · exact .inr (oM_eq_zero.2 h0)
  · exact .inl (odd_part h0).1
theorem oS_z (s : Bool) (m : Nat) : oM m = 0 → oS s m = false := fun h => by unfold oS; rw [if_pos (oM_eq_zero.1 h)]

end Go.Ab
namespace Go.Ab
open Go

theorem bhp_nil (m : Nat) : bhp [] m = .free := by unfold bhp; split <;> simp

/-- From a contract to a walk: called with nothing lent. -/
theorem Con.enter {P : Program} {f : FuncId} {cl : Bool} {args : List AV} {x : Value} (h : Con P f cl args [] (isA (.v x))) (R : Nat → Prop) (w : World) (vs : Array Value)
    (hlt : ∀ b, R b → b < w.heap.size) (hr : RepA R (fun _ => none) w vs args) (ha : AllL (fun m => bhp [] m ≠ .free) args) (hg : Gd w) :
    Calls P f vs w fun e w' => e = .returned x ∧ Ext (fun _ => False) w w' := by
  have hno : ∀ b, ¬ OwnB (bhp []) (fun _ => none) b := fun b ⟨nm, z, cs, B, e, _⟩ => by rw [bhp_nil] at e; cases e
  have hh : HpOk R (fun _ => none) w (bhp []) :=
    ⟨fun nm => (by rw [bhp_nil]; trivial), fun nm z cs B e => absurd e (by rw [bhp_nil]; simp), fun nm nm' z z' cs cs' B B' e => absurd e (by rw [bhp_nil]; simp), fun nm z cs e => absurd e (by rw [bhp_nil]; simp)⟩
  refine (h R (fun _ => none) w vs hlt hr ha hh ⟨hg, fun g l _ => hno g⟩).mono ?_
  rintro e w' ⟨y, r, hs, bs', R', ι', rfl, ⟨rfl, rfl, rfl⟩, hf⟩
  refine ⟨?_, hf.ext.os, hf.ext.tape, hf.ext.output, hf.ext.size, fun b hb _ => hf.ext.block b hb (hno b)⟩
  cases hf.rep with
  | fr _ _ h => cases h; rfl

theorem Ext.kept {w w' : World} (h : Ext (fun _ => False) w w') (may : MemPlace → Prop) : w.keptBut w' may := by
  refine ⟨h.os, h.output, fun i hi => ?_⟩
  rw [h.block i hi (fun h => h)]
  cases w.heap[i]? with
  | none => trivial
  | some o => cases o with
    | cells c t fr => exact ⟨rfl, rfl, rfl, fun _ _ => rfl⟩
    | map es cl => exact .inr ⟨rfl, rfl⟩
    | _ => rfl

theorem Ext.below {w w' : World} (h : Ext (fun _ => False) w w') : RowKit.Below w.heap.size w w' := ⟨h.os, h.tape, h.output, h.size, fun k hk => h.block k hk (fun h => h)⟩

/-- What was read reads so again. -/
theorem Ext.trod {H : Type} {enc : TypeId × Value → H} {P : Program} {t : TypeId} {W W' : World} (hw : Ext (fun _ => False) W W') (hl : laidOutB P = true) (hr : P.readableRec t = true) (hrow : t < P.types.size) {v : Value} {d : DataW H} {ps : List MemPlace}
    (h : DataW.Trod enc P W 0 (fun _ => true) true t v d ps) (hlt : ∀ x ∈ ps, x.block < W.heap.size) : DataW.Trod enc P W' 0 (fun b => decide (b < W.heap.size)) true t v d ps :=
  RowKit.Below.trod hl hr hrow h hw.below hlt

theorem cell_blk {w : World} {a : Addr} {v : Value} (h : w.cell? a = some v) : a.block < w.heap.size := by
  rcases Nat.lt_or_ge a.block w.heap.size with h' | h'
  · exact h'
  · simp [World.cell?, Array.getElem?_eq_none h'] at h

theorem add_at (b o i : Nat) : (⟨b, o, none⟩ : Addr).add i = ⟨b, o + i, none⟩ := by
  unfold Addr.add
  split
  · subst_vars; rfl
  · rfl

theorem frep_nil {R : Nat → Prop} {W : World} : FRep R W (.slice none 0 0) (.sl 0 []) :=
  .sl none 0 0 [] (fun _ => undef) 0 0 (Nat.le_refl _) (fun h => absurd h (by simp)) (fun i h => absurd h (by simp)) (fun i h => absurd h (by simp))

end Go.Ab
namespace Go.Ab
open Go
set_option linter.unusedVariables false

/-- A dyadic number, as it stands in memory. -/
structure DyV where
  s : Bool
  xs : List Int
  e : Int

def DyV.cs (x : DyV) : List AV := [.v (.bool x.s), .sl x.xs.length (ints x.xs), .v (.int .i64 x.e)]
theorem dy_cs3 (x : DyV) : x.cs.length = 3 := rfl
theorem dy_ren {ρ : Nat → Nat} (x : DyV) : renL ρ x.cs = x.cs := rfl
theorem dy_snap {hp : Nat → Ob} {k : Nat} (x : DyV) : x.cs.map (snap hp (k + 1)) = x.cs := rfl
attribute [go_sem] dy_ren dy_snap
end Go.Ab
namespace Go.Ab
open Go

/-! ### The simplifier's words for truth values -/
theorem n_tt : (true != true) = false := _root_.id rfl
theorem n_ff : (false != false) = false := _root_.id rfl
theorem n_tf : (true != false) = true := _root_.id rfl
theorem n_ft : (false != true) = true := _root_.id rfl
theorem o_t (b : Bool) : (true || b) = true := _root_.id rfl
theorem o_t' (b : Bool) : (b || true) = true := by cases b <;> rfl
theorem o_f' (b : Bool) : (b || false) = b := by cases b <;> rfl
theorem a_t (b : Bool) : (true && b) = b := _root_.id rfl
theorem a_f (b : Bool) : (false && b) = false := _root_.id rfl
theorem a_t' (b : Bool) : (b && true) = b := by cases b <;> rfl
theorem a_f' (b : Bool) : (b && false) = false := by cases b <;> rfl
attribute [go_sem] n_tt n_ff n_tf n_ft o_t
attribute [go_sem] o_t' o_f' a_t a_f a_t' a_f'
/-! ### Bits of any numbers -/
def xorI (x y : Int) : Int := IntKind.i64.wrap (BitVec.ofInt IntKind.i64.bits x ^^^ BitVec.ofInt IntKind.i64.bits y).toNat
theorem bin_xor {x y : Int} {P : Program} {t : Nat} {K : AV → Prop} : @binW P .xor t (.v (.int .i64 x)) (.v (.int .i64 y)) ⟨K⟩ = K (.v (.int .i64 (xorI x y))) := by
  simp only [binW, binA, intA, true_and]; rfl
theorem ofInt_toNat (x : Int) : ((BitVec.ofInt 64 x).toNat : Int) = x % 18446744073709551616 := by
  rw [BitVec.toNat_ofInt]; omega
theorem bin_and255 {x : Int} {P : Program} {t : Nat} {K : AV → Prop} : @binW P .and t (.v (.int .i64 x)) (.v (.int .i64 255)) ⟨K⟩ = K (.v (.int .i64 (x % 256))) := by
  have e : IntKind.i64.wrap (BitVec.ofInt 64 x &&& BitVec.ofInt 64 255).toNat = x % 256 := by
    have h1 := ofInt_toNat x
    have h2 : (BitVec.ofInt 64 255).toNat = 2 ^ 8 - 1 := by decide
    rw [BitVec.toNat_and, h2, Nat.and_two_pow_sub_one_eq_mod, wrap_nat (by omega)]
    omega
  rw [← e]; simp only [binW, binA, intA, true_and]; rfl
theorem bin_and30 {x : Int} {P : Program} {t : Nat} {K : AV → Prop} : @binW P .and t (.v (.int .i64 x)) (.v (.int .i64 1073741823)) ⟨K⟩ = K (.v (.int .i64 (x % 1073741824))) := by
  have e : IntKind.i64.wrap (BitVec.ofInt 64 x &&& BitVec.ofInt 64 1073741823).toNat = x % 1073741824 := by
    have h1 := ofInt_toNat x
    have h2 : (BitVec.ofInt 64 1073741823).toNat = 2 ^ 30 - 1 := by decide
    rw [BitVec.toNat_and, h2, Nat.and_two_pow_sub_one_eq_mod, wrap_nat (by omega)]
    omega
  rw [← e]; simp only [binW, binA, intA, true_and]; rfl
attribute [go_sem] bin_xor bin_and255 bin_and30
theorem lend_two {h : Nat → Ob} {n n' z z' : Nat} {cs cs' : List AV} (hn : h n = .own z cs) (hc : AllL (fun _ => False) cs) (hn' : h n' = .own z' cs') (hc' : AllL (fun _ => False) cs') : lendOk h [n, n'] := by
  intro m hm
  rw [List.mem_cons, List.mem_singleton] at hm
  rcases hm with rfl | rfl
  · exact ⟨z, cs, hn, hc.mono fun _ h => h.elim⟩
  · exact ⟨z', cs', hn', hc'.mono fun _ h => h.elim⟩
/-- What is lent, as the callee names it. -/
def lentB (h : Nat → Ob) (nms : List Nat) : List Nat → List Ob
  | [] => []
  | n :: r => (h n).ren (back nms) :: lentB h nms r
theorem lentB_map {h : Nat → Ob} {nms : List Nat} : ∀ r : List Nat, lentB h nms r = r.map (fun n => (h n).ren (back nms))
  | [] => rfl
  | n :: r => by rw [lentB, List.map_cons, lentB_map r]
theorem lentB_nil {h : Nat → Ob} {nms : List Nat} : lentB h nms [] = [] := _root_.id rfl
theorem lentB_cons {h : Nat → Ob} {nms : List Nat} {n : Nat} {r : List Nat} : lentB h nms (n :: r) = (h n).ren (back nms) :: lentB h nms r := _root_.id rfl
attribute [go_sem] lentB_nil lentB_cons
theorem call_lent {P : Program} {f : FuncId} {aa0 : List AV} {h : Nat → Ob} {c : Nat} {K : KV} (cl : Bool) (nms : List Nat) {args : List AV} {bs : List Ob} {post : AV → List Ob → List Ob → Prop} (hc : Con P f cl args bs post) (ha : aa0.map (snp (hpx cl nms h) (idx nms) 6) = args)
    (hb : lentB h nms nms = bs) (hnd : nodupB nms = true) (hl : lendOk h nms) (hin : ∀ n ∈ nms, ∃ a ∈ aa0, a.top = some n)
    (hk : ∀ r hs bs', post r hs bs' → bs'.length = bs.length → (hs.length ≤ 10000000 ∧ freeN h c hs ∧ (cl = true → ∀ ob ∈ bs', ob.plain)) ∧ K (r.ren (rho c nms)) (updB (addH (rho c nms) h c hs) nms (bs'.map (Ob.ren (rho c nms))))) : @callW P f aa0 h c ⟨K⟩ :=
  call_lend cl nms hc ha ((lentB_map nms).symm.trans hb) hnd hl hin hk
end Go.Ab
namespace Go.Ab
open Go Go.Proofs
set_option linter.unusedVariables false
set_option linter.unusedSimpArgs false

/-- Is a number short enough to be a whole number of the program's? -/
def natFit (m : Nat) : Bool := decide ((lim m).length ≤ 100)
/-- May a number be told as a dyadic number? -/
def dyFit (m : Nat) (e : Int) : Bool := natFit (oM m) && (decide (-3000 ≤ oE m e) && decide (oE m e ≤ 3000))

theorem dyFit_fl {n : Nat} {e : Int} (hn : n < 2 ^ 53) (he : -1074 ≤ e ∧ e ≤ 971) : dyFit n e = true := by
  have hb : bl n ≤ 53 := bl_le.2 hn
  have q4 := bl_mono (oM_le n)
  have q5 := oE_rng (m := n) (e := e) (lo := -1074) (hi := 971) (Nat.le_refl _) (by omega) (by omega) (by omega)
  have l1 := len_bl (m := oM n) (B := 53) (by omega)
  unfold dyFit natFit
  simp only [Bool.and_eq_true, decide_eq_true_eq]
  omega

theorem con_natOf (m : Nat) (hl : (lim m).length ≤ 2 ^ 40) : Con Tryz.prog 87 false [.sl (lim (m)).length (ints (lim (m)))] [] (isA (if natFit m = true then .tu [.ag [.sl (lim (m)).length (ints (lim (m)))], .v (.bool true)] else .tu [.ag [.sl (lim (0)).length (ints (lim (0)))], .v (.bool false)])) := by
  refine Con.frzA ?_
  refine Con.of_aw Tryz.func87 rfl Tryz.ntmps87 (by simp) (by simp) (by simp) (W.sound ?_)
  show @W Tryz.prog 11 ⟨_⟩ ⟨fun x σ => @retW _ _ _ ⟨_⟩ _ ⟨_⟩ x σ⟩ _ _
  simp (disch := omega) only [go_sem]
  refine ifW_dec (fun c1 => ?_) (fun c1 => ?_)
  · have hf : natFit m = false := by unfold natFit; simp; omega
    simp (disch := omega) only [go_sem, c1]
    rw [hf, if_neg (by simp), lim_zero]
    refine fin_val (by simp (disch := omega) only [go_sem]) ?_
    show snap _ 6 _ = _
    simp (disch := omega) only [go_sem]
  · have hf : natFit m = true := by unfold natFit; simp; omega
    simp (disch := omega) only [go_sem, c1]
    rw [hf, if_pos rfl]
    refine call_open ((con_clone false (lim m) (by omega)).num) (by simp (disch := omega) only [go_sem]) ?_
    rintro r hs ⟨rfl, rfl, _⟩
    refine ⟨by simp [freeN], ?_⟩
    simp (disch := omega) only [go_sem]
    refine fin_val (by simp (disch := omega) only [go_sem]) ?_
    show snap _ 6 _ = _
    simp (disch := omega) only [go_sem]

theorem con_wholeOf (s : Bool) (m : Nat) (hl : (lim m).length ≤ 2 ^ 40) : Con Tryz.prog 45 false [.v (.bool s), .sl (lim (m)).length (ints (lim (m)))] [] (isA (if natFit m = true then .tu [.ag [.v (.bool (s && decide (m ≠ 0))), .sl (lim (m)).length (ints (lim (m)))], .v (.bool true)] else .tu [.ag [.v (.bool (false)), .sl (lim (0)).length (ints (lim (0)))], .v (.bool false)])) := by
  refine Con.frzA ?_
  have cn := con_natOf m hl
  have hq : decide ((0 : Int) < ((lim m).length : Int)) = decide (m ≠ 0) := by
    rw [decide_eq_decide]
    exact ⟨fun h e => by rw [e, lim_zero] at h; simp at h, fun h => by have := lim_ne h; omega⟩
  cases hf : natFit m
  · rw [hf, if_neg (by simp)] at cn
    rw [if_neg (by simp), lim_zero]
    refine Con.of_aw Tryz.func45 rfl Tryz.ntmps45 (by simp) (by simp) (by simp) (W.sound ?_)
    show @W Tryz.prog 24 ⟨_⟩ ⟨fun x σ => @retW _ _ _ ⟨_⟩ _ ⟨_⟩ x σ⟩ _ _
    simp (disch := omega) only [go_sem]
    refine call_open (cn) (by simp (disch := omega) only [go_sem]) ?_
    rintro r hs ⟨rfl, rfl, _⟩
    refine ⟨by simp [freeN], ?_⟩
    simp (disch := omega) only [go_sem]
    refine fin_val (by simp (disch := omega) only [go_sem]) ?_
    show snap _ 6 _ = _
    simp (disch := omega) only [go_sem]
  · rw [hf, if_pos rfl] at cn
    rw [if_pos rfl]
    refine Con.of_aw Tryz.func45 rfl Tryz.ntmps45 (by simp) (by simp) (by simp) (W.sound ?_)
    show @W Tryz.prog 24 ⟨_⟩ ⟨fun x σ => @retW _ _ _ ⟨_⟩ _ ⟨_⟩ x σ⟩ _ _
    simp (disch := omega) only [go_sem]
    refine call_open (cn) (by simp (disch := omega) only [go_sem]) ?_
    rintro r hs ⟨rfl, rfl, _⟩
    refine ⟨by simp [freeN], ?_⟩
    simp (disch := omega) only [go_sem]
    cases s
    · simp (disch := omega) only [go_sem]
      refine fin_val (by simp (disch := omega) only [go_sem]) ?_
      show snap _ 6 _ = _
      simp (disch := omega) only [go_sem]
    · simp (disch := omega) only [go_sem, hq]
      refine fin_val (by simp (disch := omega) only [go_sem]) ?_
      show snap _ 6 _ = _
      simp (disch := omega) only [go_sem]

theorem con_dyX (s : Bool) (m : Nat) (e : Int) (hm : bl m ≤ 10000000) (he : -2 ^ 39 ≤ e ∧ e ≤ 2 ^ 39) : Con Tryz.prog 50 false [.ag [.v (.bool (s)), .sl (lim (m)).length (ints (lim (m))), .v (.int .i64 (e))]] [] (isA (if dyFit m e = true then .tu [.ag [.v (.bool (oS s m)), .sl (lim (oM m)).length (ints (lim (oM m))), .v (.int .i64 (oE m e))], .v (.bool true)] else .tu [.ag [.v (.bool (false)), .sl (lim (0)).length (ints (lim (0))), .v (.int .i64 (0))], .v (.bool false)])) := by
  refine Con.frzA ?_
  have hb := Nat.le_trans (bl_mono (oM_le m)) hm
  have hl := len_bl hb
  have cw := con_wholeOf (oS s m) (oM m) (by omega)
  have hs : (oS s m && decide (oM m ≠ 0)) = oS s m := by
    unfold oS
    by_cases h : m = 0
    · rw [if_pos h]; rfl
    · rw [if_neg h, decide_eq_true (show oM m ≠ 0 from fun e => h (oM_eq_zero.1 e)), Bool.and_true]
  rw [hs] at cw
  cases hf : natFit (oM m)
  · rw [hf, if_neg (by simp)] at cw
    have hd : dyFit m e = false := by unfold dyFit; rw [hf]; rfl
    rw [hd, if_neg (by simp), lim_zero]
    rw [lim_zero] at cw
    refine Con.of_aw Tryz.func50 rfl Tryz.ntmps50 (by simp) (by simp) (by simp) (W.sound ?_)
    show @W Tryz.prog 29 ⟨_⟩ ⟨fun x σ => @retW _ _ _ ⟨_⟩ _ ⟨_⟩ x σ⟩ _ _
    simp (disch := omega) only [go_sem]
    refine call_open (con_odd s m e hm (by omega)) (by simp (disch := omega) only [go_sem]) ?_
    rintro r hs ⟨rfl, rfl, _⟩
    refine ⟨by simp [freeN], ?_⟩
    simp (disch := omega) only [go_sem]
    refine call_open (cw) (by simp (disch := omega) only [go_sem]) ?_
    rintro r hs ⟨rfl, rfl, _⟩
    refine ⟨by simp [freeN], ?_⟩
    simp (disch := omega) only [go_sem]
    refine fin_val (by simp (disch := omega) only [go_sem]) ?_
    show snap _ 6 _ = _
    simp (disch := omega) only [go_sem]
  · rw [hf, if_pos rfl] at cw
    have hd : dyFit m e = (decide (-3000 ≤ oE m e) && decide (oE m e ≤ 3000)) := by unfold dyFit; rw [hf]; rfl
    rw [hd]
    refine Con.of_aw Tryz.func50 rfl Tryz.ntmps50 (by simp) (by simp) (by simp) (W.sound ?_)
    show @W Tryz.prog 29 ⟨_⟩ ⟨fun x σ => @retW _ _ _ ⟨_⟩ _ ⟨_⟩ x σ⟩ _ _
    simp (disch := omega) only [go_sem]
    refine call_open (con_odd s m e hm (by omega)) (by simp (disch := omega) only [go_sem]) ?_
    rintro r hs ⟨rfl, rfl, _⟩
    refine ⟨by simp [freeN], ?_⟩
    simp (disch := omega) only [go_sem]
    refine call_open (cw) (by simp (disch := omega) only [go_sem]) ?_
    rintro r hs ⟨rfl, rfl, _⟩
    refine ⟨by simp [freeN], ?_⟩
    simp (disch := omega) only [go_sem]
    refine call_closed (con_withinI (oE m e) (-3000) 3000) (by simp (disch := omega) only [go_sem]) ?_
    rintro r hs ⟨rfl, rfl, _⟩
    refine ⟨by simp [freeN], ?_⟩
    simp (disch := omega) only [go_sem]
    refine ifW_nb (fun h => ?_) (fun h => ?_)
    · simp (disch := omega) only [go_sem, h]
      rw [h, if_neg (by simp), lim_zero]
      refine fin_val (by simp (disch := omega) only [go_sem]) ?_
      show snap _ 6 _ = _
      simp (disch := omega) only [go_sem]
    · simp (disch := omega) only [go_sem, h]
      rw [h, if_pos rfl]
      refine fin_val (by simp (disch := omega) only [go_sem]) ?_
      show snap _ 6 _ = _
      simp (disch := omega) only [go_sem]

theorem con_FlDy (k : Int) (s : Bool) (m e : Int) : Con Tryz.prog 12 false [.ag [.v (.int .i64 (k)), .v (.bool (s)), .v (.int .i64 (m)), .v (.int .i64 (e))]] []
    (isA (if (flB k s m e && (decide (k = 0) || decide (k = 1))) = true then .tu [.ag [.v (.bool (oS (s && decide (k = 1)) m.toNat)), .sl (lim (oM m.toNat)).length (ints (lim (oM m.toNat))), .v (.int .i64 (oE m.toNat e))], .v (.bool true)] else .tu [.ag [.v (.bool (false)), .sl (lim (0)).length (ints (lim (0))), .v (.int .i64 (0))], .v (.bool false)])) := by
  refine Con.frzA ?_
  cases hv : flB k s m e
  · rw [if_neg (by simp), lim_zero]
    refine Con.of_aw Tryz.func12 rfl Tryz.ntmps12 (by simp) (by simp) (by simp) (W.sound ?_)
    show @W Tryz.prog 18 ⟨_⟩ ⟨fun x σ => @retW _ _ _ ⟨_⟩ _ ⟨_⟩ x σ⟩ _ _
    simp (disch := omega) only [go_sem]
    refine call_closed (con_flok k s m e) (by simp (disch := omega) only [go_sem]) ?_
    rintro r hs ⟨rfl, rfl, _⟩
    refine ⟨by simp [freeN], ?_⟩
    simp (disch := omega) only [go_sem]
    simp (disch := omega) only [go_sem, hv]
    refine fin_val (by simp (disch := omega) only [go_sem]) ?_
    show snap _ 6 _ = _
    simp (disch := omega) only [go_sem]
  · cases hf : (decide (k = 0) || decide (k = 1))
    · rw [if_neg (by simp), lim_zero]
      refine Con.of_aw Tryz.func12 rfl Tryz.ntmps12 (by simp) (by simp) (by simp) (W.sound ?_)
      show @W Tryz.prog 18 ⟨_⟩ ⟨fun x σ => @retW _ _ _ ⟨_⟩ _ ⟨_⟩ x σ⟩ _ _
      simp (disch := omega) only [go_sem]
      refine call_closed (con_flok k s m e) (by simp (disch := omega) only [go_sem]) ?_
      rintro r hs ⟨rfl, rfl, _⟩
      refine ⟨by simp [freeN], ?_⟩
      simp (disch := omega) only [go_sem]
      simp (disch := omega) only [go_sem, hv]
      refine call_closed (con_isFinite k s m e) (by simp (disch := omega) only [go_sem]) ?_
      rintro r hs ⟨rfl, rfl, _⟩
      refine ⟨by simp [freeN], ?_⟩
      simp (disch := omega) only [go_sem]
      simp (disch := omega) only [go_sem, hf]
      refine fin_val (by simp (disch := omega) only [go_sem]) ?_
      show snap _ 6 _ = _
      simp (disch := omega) only [go_sem]
    · rw [if_pos (by simp)]
      obtain ⟨a1, a2, a3, a4⟩ := flB_rng hv
      obtain ⟨n, rfl⟩ := Int.eq_ofNat_of_zero_le a1.1
      have hb : bl n ≤ 53 := bl_le.2 (by omega)
      have cd := con_dyX (s && decide (k = 1)) n e (by omega) (by omega)
      have hd : dyFit n e = true := dyFit_fl (by omega) (by omega)
      rw [if_pos hd] at cd
      refine Con.of_aw Tryz.func12 rfl Tryz.ntmps12 (by simp) (by simp) (by simp) (W.sound ?_)
      show @W Tryz.prog 18 ⟨_⟩ ⟨fun x σ => @retW _ _ _ ⟨_⟩ _ ⟨_⟩ x σ⟩ _ _
      simp (disch := omega) only [go_sem]
      refine call_closed (con_flok k s (n : Int) e) (by simp (disch := omega) only [go_sem]) ?_
      rintro r hs ⟨rfl, rfl, _⟩
      refine ⟨by simp [freeN], ?_⟩
      simp (disch := omega) only [go_sem]
      simp (disch := omega) only [go_sem, hv]
      refine call_closed (con_isFinite k s (n : Int) e) (by simp (disch := omega) only [go_sem]) ?_
      rintro r hs ⟨rfl, rfl, _⟩
      refine ⟨by simp [freeN], ?_⟩
      simp (disch := omega) only [go_sem]
      simp (disch := omega) only [go_sem, hf]
      refine call_open (con_flexact k s n e (by omega)) (by simp (disch := omega) only [go_sem]) ?_
      rintro r hs ⟨rfl, rfl, _⟩
      refine ⟨by simp [freeN], ?_⟩
      simp (disch := omega) only [go_sem]
      refine call_open (cd) (by simp (disch := omega) only [go_sem]) ?_
      rintro r hs ⟨rfl, rfl, _⟩
      refine ⟨by simp [freeN], ?_⟩
      simp (disch := omega) only [go_sem]
      refine fin_val (by simp (disch := omega) only [go_sem]) ?_
      show snap _ 6 _ = _
      rw [Int.toNat_natCast]
      simp (disch := omega) only [go_sem]
end Go.Ab
namespace Go.Ab
set_option linter.unusedVariables false
set_option linter.unusedSimpArgs false

theorem fl_inv {rm rm' : Nat} {re re' : Int} (hM : oM rm = oM rm') (hE : oE rm re = oE rm' re') : (rm = 0 ↔ rm' = 0) ∧ (rm ≠ 0 → (bl rm : Int) + re = (bl rm' : Int) + re') := by
  have h0 : rm = 0 ↔ rm' = 0 := by rw [← oM_eq_zero, ← @oM_eq_zero rm', hM]
  refine ⟨h0, fun h => ?_⟩
  have h' : rm' ≠ 0 := fun e => h (h0.2 e)
  have e1 := bl_oM h
  have e2 := bl_oM h'
  unfold oE at hE
  rw [if_neg h, if_neg h'] at hE
  rw [hM] at e1
  omega

theorem fl_eqs {s : Bool} {mode : Int} {rm rm' : Nat} {re re' : Int} (hM : oM rm = oM rm') (hE : oE rm re = oE rm' re') :
    flK s mode rm re = flK s mode rm' re' ∧ flMm s mode rm re = flMm s mode rm' re' ∧ flEe s mode rm re = flEe s mode rm' re' ∧ ∀ top same, flFl top same rm re = flFl top same rm' re' := by
  obtain ⟨h0, ht⟩ := fl_inv hM hE
  by_cases h : rm = 0
  · have h' := h0.1 h
    simp [flK, flMm, flEe, flFl, h, h']
  · have h' : rm' ≠ 0 := fun e => h (h0.2 e)
    have h1 := ht h
    simp [flK, flMm, flEe, flFl, flM, flE, h, h', h1, hM, hE]

theorem ro_norm {s : Bool} {m : Nat} {e low mode : Int} (h0 : m ≠ 0) :
    oM (roM s m e low mode) = oM (roM s (oM m) (oE m e) low mode) ∧ oE (roM s m e low mode) (roE m e low) = oE (roM s (oM m) (oE m e) low mode) (roE (oM m) (oE m e) low) ∧ roX m e low = roX (oM m) (oE m e) low := by
  have ha0 : oM m ≠ 0 := fun e => h0 (oM_eq_zero.1 e)
  have hoE : oE m e = e + tz m := by unfold oE; rw [if_neg h0]
  have hao := (odd_part h0).1
  have hmm : oM m * 2 ^ tz m = m := oM_mul
  by_cases h1 : low ≤ e
  · have c1 : low ≤ e ∨ m = 0 := .inl h1
    have c2 : low ≤ oE m e ∨ oM m = 0 := .inl (by omega)
    unfold roM roE roX
    rw [if_pos c1, if_pos c1, if_pos c1, if_pos c2, if_pos c2, if_pos c2]
    exact ⟨(oM_oM m).symm, (oE_oM m e).symm, rfl⟩
  · have c1 : ¬ (low ≤ e ∨ m = 0) := by omega
    by_cases h2 : low ≤ oE m e
    · have c2 : low ≤ oE m e ∨ oM m = 0 := .inl h2
      unfold roM roE roX
      rw [if_neg c1, if_neg c1, if_neg c1, if_pos c2, if_pos c2, if_pos c2, oM_oM, oE_oM]
      obtain ⟨i, hi⟩ : ∃ i, tz m = i + (low - e).toNat := ⟨tz m - (low - e).toNat, by omega⟩
      have e1 : m = oM m * 2 ^ i * 2 ^ (low - e).toNat := by rw [Nat.mul_assoc, ← Nat.pow_add, ← hi, hmm]
      have e2 : rq s m (2 ^ (low - e).toNat) mode = oM m * 2 ^ i := by
        have := rq_scale (s := s) (a := oM m * 2 ^ i) (b := 1) (k := (low - e).toNat) (mode := mode)
        rw [← e1, Nat.one_mul] at this
        rw [this, rq_one]
      rw [e2]
      refine ⟨by rw [oM_pow, oM_oM], ?_, ?_⟩
      · have h3 : oM m * 2 ^ i ≠ 0 := Nat.mul_ne_zero ha0 (Nat.pos_iff_ne_zero.1 (Nat.pow_pos (by omega)))
        have h4 : tz (oM m * 2 ^ i) = i := tz_uniq (a := oM m / 2) (by rw [show 2 * (oM m / 2) + 1 = oM m by unfold oM at *; omega, Nat.mul_comm])
        rw [hoE]; unfold oE; rw [if_neg h3, h4]; omega
      · rw [decide_eq_true_eq]
        have : m % 2 ^ (low - e).toNat = 0 := by
          conv => lhs; lhs; rw [e1]
          exact Nat.mul_mod_left _ _
        exact this
    · have c2 : ¬ (low ≤ oE m e ∨ oM m = 0) := by omega
      unfold roM roE roX
      rw [if_neg c1, if_neg c1, if_neg c1, if_neg c2, if_neg c2, if_neg c2]
      have hj : (low - e).toNat = (low - oE m e).toNat + tz m := by omega
      have e1 : rq s m (2 ^ (low - e).toNat) mode = rq s (oM m) (2 ^ (low - oE m e).toNat) mode := by
        have := rq_scale (s := s) (a := oM m) (b := 2 ^ (low - oE m e).toNat) (k := tz m) (mode := mode)
        rw [hmm, ← Nat.pow_add, ← hj] at this
        exact this
      rw [e1]
      refine ⟨rfl, rfl, ?_⟩
      rw [decide_eq_decide]
      have e2 : m % 2 ^ (low - e).toNat = oM m % 2 ^ (low - oE m e).toNat * 2 ^ tz m := by
        rw [hj, Nat.pow_add, ← Nat.mul_mod_mul_right, hmm]
      have hp : 2 ^ tz m ≠ 0 := Nat.pos_iff_ne_zero.1 (Nat.pow_pos (by omega))
      rw [e2, Nat.mul_eq_zero]
      exact ⟨fun h => h.resolve_right hp, .inl⟩

theorem flV_norm (s : Bool) (m : Nat) (e mode : Int) (z : Bool) : flV s (oM m) (oE m e) mode z = flV s m e mode z ∧ flG s (oM m) (oE m e) mode = flG s m e mode := by
  unfold flV flG
  by_cases h0 : m = 0
  · rw [if_pos h0, if_pos h0, if_pos (oM_eq_zero.2 h0), if_pos (oM_eq_zero.2 h0)]; exact ⟨rfl, rfl⟩
  · have h1 : ¬ oM m = 0 := fun e => h0 (oM_eq_zero.1 e)
    have ht : (bl (oM m) : Int) + oE m e = (bl m : Int) + e := by
      have := bl_oM h0
      unfold oE; rw [if_neg h0]; omega
    rw [if_neg h0, if_neg h0, if_neg h1, if_neg h1, ht]
    obtain ⟨a, b, c⟩ := ro_norm (s := s) (e := e) (low := flLow (bl m + e)) (mode := mode) h0
    obtain ⟨q1, q2, q3, q4⟩ := fl_eqs (s := s) (mode := mode) a b
    rw [q1, q2, q3, q4, c]
    exact ⟨rfl, rfl⟩

end Go.Ab
namespace Go.Ab
set_option linter.unusedVariables false

/-- The same number is rounded to the same float. -/
theorem flV_same {K : Nat} {s : Bool} {m : Nat} {e : Int} {s' : Bool} {m' : Nat} {e' : Int} (mode : Int) (z : Bool) (he : -(K : Int) ≤ e) (he' : -(K : Int) ≤ e') (h : dv K s m e = dv K s' m' e') :
    flV s m e mode z = flV s' m' e' mode z ∧ flG s m e mode = flG s' m' e' mode := by
  by_cases h0 : m = 0
  · have h0' : m' = 0 := by rw [h0, dv_zero] at h; exact dv_eq_zero.1 h.symm
    unfold flV flG; rw [if_pos h0, if_pos h0, if_pos h0', if_pos h0']; exact ⟨rfl, rfl⟩
  · obtain ⟨rfl, hM, hE, _⟩ := dv_inj h0 he he' h
    rw [← (flV_norm s m e mode z).1, ← (flV_norm s m e mode z).2, hM, hE, (flV_norm s m' e' mode z).1, (flV_norm s m' e' mode z).2]
    exact ⟨rfl, rfl⟩

/-! ### Sums of floats -/
def ngS (k : Int) (s : Bool) : Bool := if k = 3 then s else !s
def xS (k : Int) (s : Bool) : Bool := s && decide (k = 1)
def adZ (k1 : Int) (s1 : Bool) (k2 : Int) (s2 : Bool) (mode : Int) : Bool := if k1 = 0 ∧ k2 = 0 ∧ s1 = s2 then s1 else decide (mode = 3)
def addV (k1 : Int) (s1 : Bool) (m1 e1 k2 : Int) (s2 : Bool) (m2 e2 mode : Int) : FlV :=
  if k1 = 3 ∨ k2 = 3 then ⟨3, false, 0, 0⟩
  else if k1 = 2 ∧ k2 = 2 ∧ s1 ≠ s2 then ⟨3, false, 0, 0⟩
  else if k1 = 2 then ⟨k1, s1, m1, e1⟩
  else if k2 = 2 then ⟨k2, s2, m2, e2⟩
  else flV (adS (xS k1 s1) m1.toNat e1 (xS k2 s2) m2.toNat e2) (adM (xS k1 s1) m1.toNat e1 (xS k2 s2) m2.toNat e2) (alE m1.toNat e1 m2.toNat e2) mode (adZ k1 s1 k2 s2 mode)
def addG (k1 : Int) (s1 : Bool) (m1 e1 k2 : Int) (s2 : Bool) (m2 e2 mode : Int) : Int :=
  if k1 = 3 ∨ k2 = 3 then 0
  else if k1 = 2 ∧ k2 = 2 ∧ s1 ≠ s2 then 16
  else if k1 = 2 then 0
  else if k2 = 2 then 0
  else flG (adS (xS k1 s1) m1.toNat e1 (xS k2 s2) m2.toNat e2) (adM (xS k1 s1) m1.toNat e1 (xS k2 s2) m2.toNat e2) (alE m1.toNat e1 m2.toNat e2) mode

section
variable {k1 : Int} {s1 : Bool} {m1 e1 k2 : Int} {s2 : Bool} {m2 e2 mode : Int}
end

/-! ### A product and a sum -/
def fmZ (k1 : Int) (s1 : Bool) (k2 : Int) (s2 : Bool) (k3 : Int) (s3 : Bool) (mode : Int) : Bool := if (k1 = 0 ∨ k2 = 0) ∧ k3 = 0 ∧ s3 = (s1 != s2) then s3 else decide (mode = 3)
def fmaV (k1 : Int) (s1 : Bool) (m1 e1 k2 : Int) (s2 : Bool) (m2 e2 k3 : Int) (s3 : Bool) (m3 e3 mode : Int) : FlV :=
  if k1 = 3 ∨ k2 = 3 then ⟨3, false, 0, 0⟩
  else if k1 = 2 ∨ k2 = 2 then (if k1 = 0 ∨ k2 = 0 then ⟨3, false, 0, 0⟩ else addV 2 (s1 != s2) 0 0 k3 s3 m3 e3 mode)
  else if k3 = 2 ∨ k3 = 3 then ⟨k3, s3, m3, e3⟩
  else flV (adS (muS k1 s1 m1 k2 s2 m2) (m1.toNat * m2.toNat) (e1 + e2) (xS k3 s3) m3.toNat e3) (adM (muS k1 s1 m1 k2 s2 m2) (m1.toNat * m2.toNat) (e1 + e2) (xS k3 s3) m3.toNat e3) (alE (m1.toNat * m2.toNat) (e1 + e2) m3.toNat e3) mode (fmZ k1 s1 k2 s2 k3 s3 mode)
def fmaG (k1 : Int) (s1 : Bool) (m1 e1 k2 : Int) (s2 : Bool) (m2 e2 k3 : Int) (s3 : Bool) (m3 e3 mode : Int) : Int :=
  if k1 = 3 ∨ k2 = 3 then 0
  else if k1 = 2 ∨ k2 = 2 then (if k1 = 0 ∨ k2 = 0 then 16 else addG 2 (s1 != s2) 0 0 k3 s3 m3 e3 mode)
  else if k3 = 2 ∨ k3 = 3 then 0
  else flG (adS (muS k1 s1 m1 k2 s2 m2) (m1.toNat * m2.toNat) (e1 + e2) (xS k3 s3) m3.toNat e3) (adM (muS k1 s1 m1 k2 s2 m2) (m1.toNat * m2.toNat) (e1 + e2) (xS k3 s3) m3.toNat e3) (alE (m1.toNat * m2.toNat) (e1 + e2) m3.toNat e3) mode

section
variable {k1 : Int} {s1 : Bool} {m1 e1 k2 : Int} {s2 : Bool} {m2 e2 k3 : Int} {s3 : Bool} {m3 e3 mode : Int}
end
end Go.Ab
namespace Go.Ab
set_option linter.unusedVariables false

theorem cmpI_mul (x y p : Int) (hp : 0 < p) : cmpI (x * p) (y * p) = cmpI x y := by
  unfold cmpI
  have h1 : x * p < y * p ↔ x < y := ⟨fun h => Int.lt_of_mul_lt_mul_right h (Int.le_of_lt hp), fun h => Int.mul_lt_mul_of_pos_right h hp⟩
  have h2 : y * p < x * p ↔ y < x := ⟨fun h => Int.lt_of_mul_lt_mul_right h (Int.le_of_lt hp), fun h => Int.mul_lt_mul_of_pos_right h hp⟩
  simp only [h1, h2]

theorem alA_zero {m : Nat} {e E : Int} : alA m e E = 0 ↔ m = 0 := by
  unfold alA
  have : 0 < 2 ^ (e - E).toNat := Nat.pow_pos (by omega)
  constructor
  · intro h
    rcases Nat.mul_eq_zero.1 h with h | h
    · exact h
    · omega
  · intro h; rw [h, Nat.zero_mul]

theorem cmp_dv {K : Nat} {s1 : Bool} {m1 : Nat} {e1 : Int} {s2 : Bool} {m2 : Nat} {e2 : Int} (h1 : -(K : Int) ≤ e1) (h2 : -(K : Int) ≤ e2) :
    cmpI (sv s1 (alA m1 e1 (alE m1 e1 m2 e2))) (sv s2 (alA m2 e2 (alE m1 e1 m2 e2))) = cmpI (dv K s1 m1 e1) (dv K s2 m2 e2) := by
  have hE : -(K : Int) ≤ alE m1 e1 m2 e2 := alE_ge h1 h2
  have g1 : m1 ≠ 0 → alE m1 e1 m2 e2 ≤ e1 := fun h => by
    unfold alE
    repeat' split
    all_goals omega
  have g2 : m2 ≠ 0 → alE m1 e1 m2 e2 ≤ e2 := fun h => by
    unfold alE
    repeat' split
    all_goals omega
  rw [← alA_dv hE g1, ← alA_dv hE g2, cmpI_mul _ _ _ (Int.pow_pos (by omega))]

/-- As the program compares magnitudes with signs. -/
theorem cmp_signs {s1 : Bool} {m1 : Nat} {s2 : Bool} {m2 : Nat} (z1 : m1 = 0 → s1 = false) (z2 : m2 = 0 → s2 = false) :
    cmpI (sv s1 m1) (sv s2 m2) = if s1 = true then (if s2 = true then cmpI (m2 : Int) (m1 : Int) else -1) else (if s2 = true then 1 else cmpI (m1 : Int) (m2 : Int)) := by
  cases s1 <;> cases s2 <;> simp only [sv, if_true, Bool.false_eq_true, if_false]
  · have : m2 ≠ 0 := fun h => by have := z2 h; cases this
    unfold cmpI; rw [if_neg (by omega), if_pos (by omega)]
  · have : m1 ≠ 0 := fun h => by have := z1 h; cases this
    unfold cmpI; rw [if_pos (by omega)]
  · unfold cmpI
    rcases Int.lt_trichotomy (m1 : Int) m2 with h | h | h
    · rw [if_neg (by omega), if_pos (by omega), if_neg (by omega), if_pos (by omega)]
    · rw [if_neg (by omega), if_neg (by omega), if_neg (by omega), if_neg (by omega)]
    · rw [if_pos (by omega), if_pos (by omega)]

theorem cmpI_le (x y : Int) : (cmpI x y ≤ 0 ↔ x ≤ y) ∧ (cmpI x y < 0 ↔ x < y) ∧ (cmpI x y = 0 ↔ x = y) := by
  unfold cmpI
  split
  · omega
  · split <;> omega
theorem cmpI_self (x : Int) : cmpI x x = 0 := by unfold cmpI; rw [if_neg (by omega), if_neg (by omega)]
end Go.Ab
namespace Go.Ab
open Go Go.Proofs
set_option linter.unusedVariables false
set_option linter.unusedSimpArgs false

theorem con_signedCompare (s1 : Bool) (m1 : Nat) (s2 : Bool) (m2 : Nat) (l1 : (lim m1).length ≤ 2 ^ 40) (l2 : (lim m2).length ≤ 2 ^ 40) (z1 : m1 = 0 → s1 = false) (z2 : m2 = 0 → s2 = false) :
    Con Tryz.prog 130 true [.v (.bool s1), .sl (lim (m1)).length (ints (lim (m1))), .v (.bool s2), .sl (lim (m2)).length (ints (lim (m2)))] [] (isA (.v (.int .i64 (cmpI (sv s1 m1) (sv s2 m2))))) := by
  rw [cmp_signs z1 z2]
  cases s1 <;> cases s2
  · refine Con.of_aw Tryz.func130 rfl Tryz.ntmps130 (by simp) (by simp) (by simp) (W.sound ?_)
    show @W Tryz.prog 29 ⟨_⟩ ⟨fun x σ => @retW _ _ _ ⟨_⟩ _ ⟨_⟩ x σ⟩ _ _
    simp (disch := omega) only [go_sem]
    refine call_closed (con_compare m1 m2 l1 l2) (by simp (disch := omega) only [go_sem]) ?_
    rintro r hs ⟨rfl, rfl, _⟩
    refine ⟨by simp [freeN], ?_⟩
    simp (disch := omega) only [go_sem]
    exact fin_valc (by simp (disch := omega) only [go_sem]) (by simp (disch := omega) only [go_sem]) isA_mk
  · refine Con.of_aw Tryz.func130 rfl Tryz.ntmps130 (by simp) (by simp) (by simp) (W.sound ?_)
    show @W Tryz.prog 29 ⟨_⟩ ⟨fun x σ => @retW _ _ _ ⟨_⟩ _ ⟨_⟩ x σ⟩ _ _
    simp (disch := omega) only [go_sem]
    exact fin_valc (by simp (disch := omega) only [go_sem]) (by simp (disch := omega) only [go_sem]) isA_mk
  · refine Con.of_aw Tryz.func130 rfl Tryz.ntmps130 (by simp) (by simp) (by simp) (W.sound ?_)
    show @W Tryz.prog 29 ⟨_⟩ ⟨fun x σ => @retW _ _ _ ⟨_⟩ _ ⟨_⟩ x σ⟩ _ _
    simp (disch := omega) only [go_sem]
    exact fin_valc (by simp (disch := omega) only [go_sem]) (by simp (disch := omega) only [go_sem]) isA_mk
  · refine Con.of_aw Tryz.func130 rfl Tryz.ntmps130 (by simp) (by simp) (by simp) (W.sound ?_)
    show @W Tryz.prog 29 ⟨_⟩ ⟨fun x σ => @retW _ _ _ ⟨_⟩ _ ⟨_⟩ x σ⟩ _ _
    simp (disch := omega) only [go_sem]
    refine call_closed (con_compare m2 m1 l2 l1) (by simp (disch := omega) only [go_sem]) ?_
    rintro r hs ⟨rfl, rfl, _⟩
    refine ⟨by simp [freeN], ?_⟩
    simp (disch := omega) only [go_sem]
    exact fin_valc (by simp (disch := omega) only [go_sem]) (by simp (disch := omega) only [go_sem]) isA_mk

theorem con_compareX (K : Nat) (s1 : Bool) (m1 : Nat) (e1 : Int) (s2 : Bool) (m2 : Nat) (e2 : Int) (h1 : bl m1 ≤ 4000000) (h2 : bl m2 ≤ 4000000) (he1 : -1000000 ≤ e1 ∧ e1 ≤ 1000000) (he2 : -1000000 ≤ e2 ∧ e2 ≤ 1000000) (k1 : -(K : Int) ≤ e1) (k2 : -(K : Int) ≤ e2) (z1 : m1 = 0 → s1 = false) (z2 : m2 = 0 → s2 = false) :
    Con Tryz.prog 101 true [.ag [.v (.bool (s1)), .sl (lim (m1)).length (ints (lim (m1))), .v (.int .i64 (e1))], .ag [.v (.bool (s2)), .sl (lim (m2)).length (ints (lim (m2))), .v (.int .i64 (e2))]] [] (isA (.v (.int .i64 (cmpI (dv K s1 m1 e1) (dv K s2 m2 e2))))) := by
  have hE := alE_ge (m1 := m1) (m2 := m2) he1.1 he2.1
  have b1 := len_bl (bl_alA (e := e1) (E := alE m1 e1 m2 e2) (C := 2000000) h1 (by omega))
  have b2 := len_bl (bl_alA (e := e2) (E := alE m1 e1 m2 e2) (C := 2000000) h2 (by omega))
  rw [← cmp_dv k1 k2]
  have y1 : alA m1 e1 (alE m1 e1 m2 e2) = 0 → s1 = false := fun h => z1 (alA_zero.1 h)
  have y2 : alA m2 e2 (alE m1 e1 m2 e2) = 0 → s2 = false := fun h => z2 (alA_zero.1 h)
  refine Con.of_aw Tryz.func101 rfl Tryz.ntmps101 (by simp) (by simp) (by simp) (W.sound ?_)
  show @W Tryz.prog 22 ⟨_⟩ ⟨fun x σ => @retW _ _ _ ⟨_⟩ _ ⟨_⟩ x σ⟩ _ _
  simp (disch := omega) only [go_sem]
  refine call_open (con_aligned s1 m1 e1 s2 m2 e2 h1 h2 he1 he2) (by simp (disch := omega) only [go_sem]) ?_
  rintro r hs ⟨rfl, rfl, _⟩
  refine ⟨by simp [freeN], ?_⟩
  simp (disch := omega) only [go_sem]
  refine call_closed (con_signedCompare s1 (alA m1 e1 (alE m1 e1 m2 e2)) s2 (alA m2 e2 (alE m1 e1 m2 e2)) (by omega) (by omega) y1 y2) (by simp (disch := omega) only [go_sem]) ?_
  rintro r hs ⟨rfl, rfl, _⟩
  refine ⟨by simp [freeN], ?_⟩
  simp (disch := omega) only [go_sem]
  exact fin_valc (by simp (disch := omega) only [go_sem]) (by simp (disch := omega) only [go_sem]) isA_mk

/-- Is a float without end: with which sign? -/
def rkF (k : Int) (s : Bool) : Int := if k = 2 then (if s = true then -1 else 1) else 0
theorem con_rank (k : Int) (s : Bool) (m e : Int) : Con Tryz.prog 99 true [.ag [.v (.int .i64 (k)), .v (.bool (s)), .v (.int .i64 (m)), .v (.int .i64 (e))]] [] (isA (.v (.int .i64 (rkF k s)))) := by
  unfold rkF
  by_cases h : k = 2
  · rw [if_pos h]
    subst h
    cases s
    · refine Con.of_aw Tryz.func99 rfl Tryz.ntmps99 (by simp) (by simp) (by simp) (W.sound ?_)
      show @W Tryz.prog 10 ⟨_⟩ ⟨fun x σ => @retW _ _ _ ⟨_⟩ _ ⟨_⟩ x σ⟩ _ _
      simp (disch := omega) only [go_sem]
      exact fin_valc (by simp (disch := omega) only [go_sem]) (by simp (disch := omega) only [go_sem]) isA_mk
    · refine Con.of_aw Tryz.func99 rfl Tryz.ntmps99 (by simp) (by simp) (by simp) (W.sound ?_)
      show @W Tryz.prog 10 ⟨_⟩ ⟨fun x σ => @retW _ _ _ ⟨_⟩ _ ⟨_⟩ x σ⟩ _ _
      simp (disch := omega) only [go_sem]
      exact fin_valc (by simp (disch := omega) only [go_sem]) (by simp (disch := omega) only [go_sem]) isA_mk
  · rw [if_neg h]
    refine Con.of_aw Tryz.func99 rfl Tryz.ntmps99 (by simp) (by simp) (by simp) (W.sound ?_)
    show @W Tryz.prog 10 ⟨_⟩ ⟨fun x σ => @retW _ _ _ ⟨_⟩ _ ⟨_⟩ x σ⟩ _ _
    simp (disch := omega) only [go_sem, h]
    exact fin_valc (by simp (disch := omega) only [go_sem]) (by simp (disch := omega) only [go_sem]) isA_mk

/-- A comparison of floats. -/
def cmpF (k1 : Int) (s1 : Bool) (m1 e1 k2 : Int) (s2 : Bool) (m2 e2 : Int) : Int :=
  if rkF k1 s1 ≠ rkF k2 s2 ∨ rkF k1 s1 ≠ 0 then cmpI (rkF k1 s1) (rkF k2 s2) else cmpI (dv 3000 (xS k1 s1) m1.toNat e1) (dv 3000 (xS k2 s2) m2.toNat e2)

theorem con_compareFloats (k1 : Int) (s1 : Bool) (m1 e1 k2 : Int) (s2 : Bool) (m2 e2 : Int) (h1 : flB k1 s1 m1 e1 = true) (h2 : flB k2 s2 m2 e2 = true) :
    Con Tryz.prog 62 true [.ag [.v (.int .i64 (k1)), .v (.bool (s1)), .v (.int .i64 (m1)), .v (.int .i64 (e1))], .ag [.v (.int .i64 (k2)), .v (.bool (s2)), .v (.int .i64 (m2)), .v (.int .i64 (e2))]] [] (isA (.v (.int .i64 (cmpF k1 s1 m1 e1 k2 s2 m2 e2)))) := by
  obtain ⟨a1, a2, a3, a4, a5, a6⟩ := flB_rng h1
  obtain ⟨b1, b2, b3, b4, b5, b6⟩ := flB_rng h2
  obtain ⟨n1, rfl⟩ := Int.eq_ofNat_of_zero_le a1.1
  obtain ⟨n2, rfl⟩ := Int.eq_ofNat_of_zero_le b1.1
  have q1 : bl n1 ≤ 53 := bl_le.2 (by omega)
  have q2 : bl n2 ≤ 53 := bl_le.2 (by omega)
  have z1 : n1 = 0 → (s1 && decide (k1 = 1)) = false := fun h => by
    have : k1 ≠ 1 := fun e => by have := a5 e; omega
    rw [decide_eq_false this, Bool.and_false]
  have z2 : n2 = 0 → (s2 && decide (k2 = 1)) = false := fun h => by
    have : k2 ≠ 1 := fun e => by have := b5 e; omega
    rw [decide_eq_false this, Bool.and_false]
  have cc := con_compareX 3000 (s1 && decide (k1 = 1)) n1 e1 (s2 && decide (k2 = 1)) n2 e2 (by omega) (by omega) (by omega) (by omega) (by omega) (by omega) z1 z2
  have hc := cmpI_le (rkF k1 s1) (rkF k2 s2)
  unfold cmpF xS
  rw [Int.toNat_natCast, Int.toNat_natCast]
  refine Con.of_aw Tryz.func62 rfl Tryz.ntmps62 (by simp) (by simp) (by simp) (W.sound ?_)
  show @W Tryz.prog 28 ⟨_⟩ ⟨fun x σ => @retW _ _ _ ⟨_⟩ _ ⟨_⟩ x σ⟩ _ _
  simp (disch := omega) only [go_sem]
  refine draw_of rfl [⟨0, [], []⟩, ⟨1, [], []⟩, ⟨3, [1], []⟩, ⟨4, [1], []⟩, ⟨2, [4], []⟩, ⟨5, [], []⟩, ⟨6, [], []⟩, ⟨7, [], []⟩] (by kernel_rfl) ?_
  simp (disch := omega) only [go_sem]
  refine call_closed (con_rank k1 s1 (n1 : Int) e1) (by simp (disch := omega) only [go_sem]) ?_
  rintro r hs ⟨rfl, rfl, _⟩
  refine ⟨by simp [freeN], ?_⟩
  simp (disch := omega) only [go_sem]
  refine call_closed (con_rank k2 s2 (n2 : Int) e2) (by simp (disch := omega) only [go_sem]) ?_
  rintro r hs ⟨rfl, rfl, _⟩
  refine ⟨by simp [freeN], ?_⟩
  simp (disch := omega) only [go_sem]
  refine call_closed (con_cmp (rkF k1 s1) (rkF k2 s2)) (by simp (disch := omega) only [go_sem]) ?_
  rintro r hs ⟨rfl, rfl, _⟩
  refine ⟨by simp [freeN], ?_⟩
  simp (disch := omega) only [go_sem]
  by_cases c1 : cmpI (rkF k1 s1) (rkF k2 s2) = 0
  · have c1' : decide (cmpI (rkF k1 s1) (rkF k2 s2) = 0) = true := decide_eq_true c1
    simp (disch := omega) only [go_sem, c1']
    refine call_closed (con_rank k1 s1 (n1 : Int) e1) (by simp (disch := omega) only [go_sem]) ?_
    rintro r hs ⟨rfl, rfl, _⟩
    refine ⟨by simp [freeN], ?_⟩
    simp (disch := omega) only [go_sem]
    have e := hc.2.2.1 c1
    by_cases c2 : rkF k1 s1 = 0
    · have c2' : decide (rkF k1 s1 = 0) = true := decide_eq_true c2
      simp (disch := omega) only [go_sem, c2']
      rw [if_neg (by rw [← e, c2]; simp)]
      refine draw_of rfl [⟨0, [], []⟩, ⟨2, [0], []⟩, ⟨1, [2], []⟩, ⟨3, [], []⟩, ⟨4, [], []⟩, ⟨5, [], []⟩] (by kernel_rfl) ?_
      simp (disch := omega) only [go_sem]
      refine call_open (con_flexact k1 s1 n1 e1 (by omega)) (by simp (disch := omega) only [go_sem]) ?_
      rintro r hs ⟨rfl, rfl, _⟩
      refine ⟨by simp [freeN], ?_⟩
      simp (disch := omega) only [go_sem]
      refine call_open (con_flexact k2 s2 n2 e2 (by omega)) (by simp (disch := omega) only [go_sem]) ?_
      rintro r hs ⟨rfl, rfl, _⟩
      refine ⟨by simp [freeN], ?_⟩
      simp (disch := omega) only [go_sem]
      refine call_closed (cc) (by simp (disch := omega) only [go_sem]) ?_
      rintro r hs ⟨rfl, rfl, _⟩
      refine ⟨by simp [freeN], ?_⟩
      simp (disch := omega) only [go_sem]
      exact fin_valc (by simp (disch := omega) only [go_sem]) (by simp (disch := omega) only [go_sem]) isA_mk
    · have c2' : decide (rkF k1 s1 = 0) = false := decide_eq_false c2
      simp (disch := omega) only [go_sem, c2']
      rw [if_pos (.inr c2)]
      exact fin_valc (by simp (disch := omega) only [go_sem]) (by simp (disch := omega) only [go_sem]) isA_mk
  · have c1' : decide (cmpI (rkF k1 s1) (rkF k2 s2) = 0) = false := decide_eq_false c1
    simp (disch := omega) only [go_sem, c1']
    rw [if_pos (.inl (fun e => c1 (hc.2.2.2 e)))]
    exact fin_valc (by simp (disch := omega) only [go_sem]) (by simp (disch := omega) only [go_sem]) isA_mk

theorem con_FlCmp (k1 : Int) (s1 : Bool) (m1 e1 k2 : Int) (s2 : Bool) (m2 e2 : Int) (h1 : flB k1 s1 m1 e1 = true) (h2 : flB k2 s2 m2 e2 = true) (n1 : k1 ≠ 3) (n2 : k2 ≠ 3) :
    Con Tryz.prog 20 true [.ag [.v (.int .i64 (k1)), .v (.bool (s1)), .v (.int .i64 (m1)), .v (.int .i64 (e1))], .ag [.v (.int .i64 (k2)), .v (.bool (s2)), .v (.int .i64 (m2)), .v (.int .i64 (e2))]] [] (isA (.tu [.v (.int .i64 (cmpF k1 s1 m1 e1 k2 s2 m2 e2)), .v (.bool true)])) := by
  have u1 : decide (k1 = 3) = false := decide_eq_false n1
  have u2 : decide (k2 = 3) = false := decide_eq_false n2
  refine Con.of_aw Tryz.func20 rfl Tryz.ntmps20 (by simp) (by simp) (by simp) (W.sound ?_)
  show @W Tryz.prog 22 ⟨_⟩ ⟨fun x σ => @retW _ _ _ ⟨_⟩ _ ⟨_⟩ x σ⟩ _ _
  simp (disch := omega) only [go_sem]
  refine call_closed (con_flok k1 s1 m1 e1) (by simp (disch := omega) only [go_sem]) ?_
  rintro r hs ⟨rfl, rfl, _⟩
  refine ⟨by simp [freeN], ?_⟩
  simp (disch := omega) only [go_sem]
  simp (disch := omega) only [go_sem, h1]
  refine call_closed (con_flok k2 s2 m2 e2) (by simp (disch := omega) only [go_sem]) ?_
  rintro r hs ⟨rfl, rfl, _⟩
  refine ⟨by simp [freeN], ?_⟩
  simp (disch := omega) only [go_sem]
  simp (disch := omega) only [go_sem, h2]
  refine call_closed (con_hasKind 3 k1 m1 e1 k2 m2 e2 s1 s2) (by simp (disch := omega) only [go_sem]) ?_
  rintro r hs ⟨rfl, rfl, _⟩
  refine ⟨by simp [freeN], ?_⟩
  simp (disch := omega) only [go_sem]
  simp (disch := omega) only [go_sem, u1, u2]
  refine call_closed (con_compareFloats k1 s1 m1 e1 k2 s2 m2 e2 h1 h2) (by simp (disch := omega) only [go_sem]) ?_
  rintro r hs ⟨rfl, rfl, _⟩
  refine ⟨by simp [freeN], ?_⟩
  simp (disch := omega) only [go_sem]
  exact fin_valc (by simp (disch := omega) only [go_sem]) (by simp (disch := omega) only [go_sem]) isA_mk
end Go.Ab
namespace Go.Ab
open Go Go.Proofs
set_option linter.unusedVariables false
set_option linter.unusedSimpArgs false

end Go.Ab
namespace Go.Ab
open Go Go.Proofs
set_option linter.unusedVariables false
set_option linter.unusedSimpArgs false

theorem ng_flB {k : Int} {s : Bool} {m e : Int} (h : flB k s m e = true) : flB k (ngS k s) m e = true := by
  obtain ⟨_, _, _, _, _, h3⟩ := flB_rng h
  unfold ngS
  by_cases c : k = 3
  · rw [if_pos c]; exact h
  · rw [if_neg c]
    unfold flB at *
    rw [decide_eq_false c] at *
    simpa using h

theorem con_negated (k : Int) (s : Bool) (m e : Int) : Con Tryz.prog 60 true [.ag [.v (.int .i64 (k)), .v (.bool (s)), .v (.int .i64 (m)), .v (.int .i64 (e))]] [] (isA (.ag [.v (.int .i64 (k)), .v (.bool (ngS k s)), .v (.int .i64 (m)), .v (.int .i64 (e))])) := by
  refine Con.of_aw Tryz.func60 rfl Tryz.ntmps60 (by simp) (by simp) (by simp) (W.sound ?_)
  show @W Tryz.prog 11 ⟨_⟩ ⟨fun x σ => @retW _ _ _ ⟨_⟩ _ ⟨_⟩ x σ⟩ _ _
  simp (disch := omega) only [go_sem]
  refine ifW_not (fun h => ?_) (fun h => ?_)
  · simp (disch := omega) only [go_sem, h]
    unfold ngS
    rw [if_neg h]
    exact fin_valc (by simp (disch := omega) only [go_sem]) (by simp (disch := omega) only [go_sem]) isA_mk
  · subst h
    simp (disch := omega) only [go_sem]
    exact fin_valc (by simp (disch := omega) only [go_sem]) (by simp (disch := omega) only [go_sem]) isA_mk

theorem con_FlNeg (k : Int) (s : Bool) (m e : Int) : Con Tryz.prog 19 true [.ag [.v (.int .i64 (k)), .v (.bool (s)), .v (.int .i64 (m)), .v (.int .i64 (e))]] [] (isA (if flB k s m e = true then .ag [.v (.int .i64 (k)), .v (.bool (ngS k s)), .v (.int .i64 (m)), .v (.int .i64 (e))] else .ag [.v (.int .i64 (3)), .v (.bool (false)), .v (.int .i64 (0)), .v (.int .i64 (0))])) := by
  refine Con.of_aw Tryz.func19 rfl Tryz.ntmps19 (by simp) (by simp) (by simp) (W.sound ?_)
  show @W Tryz.prog 9 ⟨_⟩ ⟨fun x σ => @retW _ _ _ ⟨_⟩ _ ⟨_⟩ x σ⟩ _ _
  simp (disch := omega) only [go_sem]
  refine call_closed (con_flok k s m e) (by simp (disch := omega) only [go_sem]) ?_
  rintro r hs ⟨rfl, rfl, _⟩
  refine ⟨by simp [freeN], ?_⟩
  simp (disch := omega) only [go_sem]
  refine ifW_nb (fun h => ?_) (fun h => ?_)
  · simp (disch := omega) only [go_sem, h]
    refine call_closed (con_nan) (by simp (disch := omega) only [go_sem]) ?_
    rintro r hs ⟨rfl, rfl, _⟩
    refine ⟨by simp [freeN], ?_⟩
    simp (disch := omega) only [go_sem]
    rw [if_neg (by rw [h]; simp)]
    exact fin_valc (by simp (disch := omega) only [go_sem]) (by simp (disch := omega) only [go_sem]) isA_mk
  · simp (disch := omega) only [go_sem, h]
    refine call_closed (con_negated k s m e) (by simp (disch := omega) only [go_sem]) ?_
    rintro r hs ⟨rfl, rfl, _⟩
    refine ⟨by simp [freeN], ?_⟩
    simp (disch := omega) only [go_sem]
    rw [if_pos h]
    exact fin_valc (by simp (disch := omega) only [go_sem]) (by simp (disch := omega) only [go_sem]) isA_mk

end Go.Ab
namespace Go.Ab
open Go Go.Proofs
set_option linter.unusedVariables false
set_option linter.unusedSimpArgs false

/-- The next float away from nought, toward it, the next greater one. -/
def awV (s : Bool) (m e : Int) : FlV := if m < 9007199254740991 then ⟨1, s, m + 1, e⟩ else if e < 971 then ⟨1, s, 4503599627370496, e + 1⟩ else ⟨2, s, 0, 0⟩
def toV (k : Int) (s : Bool) (m e : Int) : FlV := if k = 2 then ⟨1, s, 9007199254740991, 971⟩ else if 4503599627370496 < m ∨ (e = -1074 ∧ 1 < m) then ⟨k, s, m - 1, e⟩ else if -1074 < e then ⟨k, s, 9007199254740991, e - 1⟩ else ⟨0, s, 0, 0⟩
def nxV (k : Int) (s : Bool) (m e : Int) : FlV := if k = 3 ∨ (k = 2 ∧ s = false) then ⟨k, s, m, e⟩ else if k = 0 then ⟨1, false, 1, -1074⟩ else if s = true then toV k s m e else awV s m e

theorem con_away (s : Bool) (m e : Int) (hm : 0 ≤ m ∧ m ≤ 9007199254740991) (he : -1074 ≤ e ∧ e ≤ 971) : Con Tryz.prog 59 true [.ag [.v (.int .i64 (1)), .v (.bool (s)), .v (.int .i64 (m)), .v (.int .i64 (e))]] [] (isA (.ag [.v (.int .i64 ((awV s m e).k)), .v (.bool ((awV s m e).s)), .v (.int .i64 ((awV s m e).m)), .v (.int .i64 ((awV s m e).e))])) := by
  unfold awV
  refine Con.of_aw Tryz.func59 rfl Tryz.ntmps59 (by simp) (by simp) (by simp) (W.sound ?_)
  show @W Tryz.prog 24 ⟨_⟩ ⟨fun x σ => @retW _ _ _ ⟨_⟩ _ ⟨_⟩ x σ⟩ _ _
  simp (disch := omega) only [go_sem]
  refine ifW_dec (fun h1 => ?_) (fun h1 => ?_)
  · simp (disch := omega) only [go_sem, h1]
    rw [if_pos h1]
    exact fin_valc (by simp (disch := omega) only [go_sem]) (by simp (disch := omega) only [go_sem]) isA_mk
  · simp (disch := omega) only [go_sem, h1]
    rw [if_neg h1]
    refine ifW_dec (fun h2 => ?_) (fun h2 => ?_)
    · simp (disch := omega) only [go_sem, h2]
      rw [if_pos h2]
      exact fin_valc (by simp (disch := omega) only [go_sem]) (by simp (disch := omega) only [go_sem]) isA_mk
    · simp (disch := omega) only [go_sem, h2]
      rw [if_neg h2]
      refine call_closed (con_infinity s) (by simp (disch := omega) only [go_sem]) ?_
      rintro r hs ⟨rfl, rfl, _⟩
      refine ⟨by simp [freeN], ?_⟩
      simp (disch := omega) only [go_sem]
      exact fin_valc (by simp (disch := omega) only [go_sem]) (by simp (disch := omega) only [go_sem]) isA_mk

theorem con_toward (k : Int) (s : Bool) (m e : Int) (hm : 0 ≤ m ∧ m ≤ 9007199254740991) (he : -1074 ≤ e ∧ e ≤ 971) : Con Tryz.prog 58 true [.ag [.v (.int .i64 (k)), .v (.bool (s)), .v (.int .i64 (m)), .v (.int .i64 (e))]] [] (isA (.ag [.v (.int .i64 ((toV k s m e).k)), .v (.bool ((toV k s m e).s)), .v (.int .i64 ((toV k s m e).m)), .v (.int .i64 ((toV k s m e).e))])) := by
  unfold toV
  refine Con.of_aw Tryz.func58 rfl Tryz.ntmps58 (by simp) (by simp) (by simp) (W.sound ?_)
  show @W Tryz.prog 41 ⟨_⟩ ⟨fun x σ => @retW _ _ _ ⟨_⟩ _ ⟨_⟩ x σ⟩ _ _
  simp (disch := omega) only [go_sem]
  refine ifW_dec (fun h1 => ?_) (fun h1 => ?_)
  · simp (disch := omega) only [go_sem, h1]
    rw [if_pos h1]
    exact fin_valc (by simp (disch := omega) only [go_sem]) (by simp (disch := omega) only [go_sem]) isA_mk
  · rw [if_neg h1]
    by_cases h2 : 4503599627370496 < m
    · simp (disch := omega) only [go_sem, h1, h2]
      rw [if_pos (.inl h2)]
      exact fin_valc (by simp (disch := omega) only [go_sem]) (by simp (disch := omega) only [go_sem]) isA_mk
    · have h2' : decide (4503599627370496 < m) = false := decide_eq_false h2
      by_cases h3 : e = -1074
      · have h3' : decide (e = -1074) = true := decide_eq_true h3
        by_cases h4 : 1 < m
        · simp (disch := omega) only [go_sem, h1, h2, h3', h4]
          rw [if_pos (.inr ⟨h3, h4⟩)]
          exact fin_valc (by simp (disch := omega) only [go_sem]) (by simp (disch := omega) only [go_sem]) isA_mk
        · have h5 : decide (-1074 < e) = false := decide_eq_false (by omega)
          simp (disch := omega) only [go_sem, h1, h2, h3', h4, h5]
          rw [if_neg (by omega), if_neg (by omega)]
          refine call_closed (con_zero s) (by simp (disch := omega) only [go_sem]) ?_
          rintro r hs ⟨rfl, rfl, _⟩
          refine ⟨by simp [freeN], ?_⟩
          simp (disch := omega) only [go_sem]
          exact fin_valc (by simp (disch := omega) only [go_sem]) (by simp (disch := omega) only [go_sem]) isA_mk
      · have h3' : decide (e = -1074) = false := decide_eq_false h3
        have h5 : decide (-1074 < e) = true := decide_eq_true (by omega)
        simp (disch := omega) only [go_sem, h1, h2, h3', h5]
        rw [if_neg (by omega), if_pos (by omega)]
        exact fin_valc (by simp (disch := omega) only [go_sem]) (by simp (disch := omega) only [go_sem]) isA_mk

theorem con_FlNext (k : Int) (s : Bool) (m e : Int) (h : flB k s m e = true) : Con Tryz.prog 17 true [.ag [.v (.int .i64 (k)), .v (.bool (s)), .v (.int .i64 (m)), .v (.int .i64 (e))]] [] (isA (.ag [.v (.int .i64 ((nxV k s m e).k)), .v (.bool ((nxV k s m e).s)), .v (.int .i64 ((nxV k s m e).m)), .v (.int .i64 ((nxV k s m e).e))])) := by
  obtain ⟨a1, a2, a3, a4, a5, a6⟩ := flB_rng h
  unfold nxV
  by_cases c3 : k = 3
  · rw [if_pos (.inl c3)]
    subst c3
    refine Con.of_aw Tryz.func17 rfl Tryz.ntmps17 (by simp) (by simp) (by simp) (W.sound ?_)
    show @W Tryz.prog 35 ⟨_⟩ ⟨fun x σ => @retW _ _ _ ⟨_⟩ _ ⟨_⟩ x σ⟩ _ _
    simp (disch := omega) only [go_sem]
    refine call_closed (con_flok 3 s m e) (by simp (disch := omega) only [go_sem]) ?_
    rintro r hs ⟨rfl, rfl, _⟩
    refine ⟨by simp [freeN], ?_⟩
    simp (disch := omega) only [go_sem]
    simp (disch := omega) only [go_sem, h]
    exact fin_valc (by simp (disch := omega) only [go_sem]) (by simp (disch := omega) only [go_sem]) isA_mk
  by_cases c2 : k = 2
  · subst c2
    cases s
    · rw [if_pos (.inr ⟨rfl, rfl⟩)]
      refine Con.of_aw Tryz.func17 rfl Tryz.ntmps17 (by simp) (by simp) (by simp) (W.sound ?_)
      show @W Tryz.prog 35 ⟨_⟩ ⟨fun x σ => @retW _ _ _ ⟨_⟩ _ ⟨_⟩ x σ⟩ _ _
      simp (disch := omega) only [go_sem]
      refine call_closed (con_flok 2 false m e) (by simp (disch := omega) only [go_sem]) ?_
      rintro r hs ⟨rfl, rfl, _⟩
      refine ⟨by simp [freeN], ?_⟩
      simp (disch := omega) only [go_sem]
      simp (disch := omega) only [go_sem, h]
      exact fin_valc (by simp (disch := omega) only [go_sem]) (by simp (disch := omega) only [go_sem]) isA_mk
    · rw [if_neg (by simp), if_neg (by omega), if_pos rfl]
      refine Con.of_aw Tryz.func17 rfl Tryz.ntmps17 (by simp) (by simp) (by simp) (W.sound ?_)
      show @W Tryz.prog 35 ⟨_⟩ ⟨fun x σ => @retW _ _ _ ⟨_⟩ _ ⟨_⟩ x σ⟩ _ _
      simp (disch := omega) only [go_sem]
      refine call_closed (con_flok 2 true m e) (by simp (disch := omega) only [go_sem]) ?_
      rintro r hs ⟨rfl, rfl, _⟩
      refine ⟨by simp [freeN], ?_⟩
      simp (disch := omega) only [go_sem]
      simp (disch := omega) only [go_sem, h]
      refine call_closed (con_toward 2 true m e (by omega) (by omega)) (by simp (disch := omega) only [go_sem]) ?_
      rintro r hs ⟨rfl, rfl, _⟩
      refine ⟨by simp [freeN], ?_⟩
      simp (disch := omega) only [go_sem]
      exact fin_valc (by simp (disch := omega) only [go_sem]) (by simp (disch := omega) only [go_sem]) isA_mk
  rw [if_neg (by omega)]
  by_cases c0 : k = 0
  · subst c0
    rw [if_pos rfl]
    refine Con.of_aw Tryz.func17 rfl Tryz.ntmps17 (by simp) (by simp) (by simp) (W.sound ?_)
    show @W Tryz.prog 35 ⟨_⟩ ⟨fun x σ => @retW _ _ _ ⟨_⟩ _ ⟨_⟩ x σ⟩ _ _
    simp (disch := omega) only [go_sem]
    refine call_closed (con_flok 0 s m e) (by simp (disch := omega) only [go_sem]) ?_
    rintro r hs ⟨rfl, rfl, _⟩
    refine ⟨by simp [freeN], ?_⟩
    simp (disch := omega) only [go_sem]
    simp (disch := omega) only [go_sem, h]
    exact fin_valc (by simp (disch := omega) only [go_sem]) (by simp (disch := omega) only [go_sem]) isA_mk
  have c1 : k = 1 := by omega
  subst c1
  rw [if_neg (by omega)]
  cases s
  · rw [if_neg (by simp)]
    refine Con.of_aw Tryz.func17 rfl Tryz.ntmps17 (by simp) (by simp) (by simp) (W.sound ?_)
    show @W Tryz.prog 35 ⟨_⟩ ⟨fun x σ => @retW _ _ _ ⟨_⟩ _ ⟨_⟩ x σ⟩ _ _
    simp (disch := omega) only [go_sem]
    refine call_closed (con_flok 1 false m e) (by simp (disch := omega) only [go_sem]) ?_
    rintro r hs ⟨rfl, rfl, _⟩
    refine ⟨by simp [freeN], ?_⟩
    simp (disch := omega) only [go_sem]
    simp (disch := omega) only [go_sem, h]
    refine call_closed (con_away false m e (by omega) (by omega)) (by simp (disch := omega) only [go_sem]) ?_
    rintro r hs ⟨rfl, rfl, _⟩
    refine ⟨by simp [freeN], ?_⟩
    simp (disch := omega) only [go_sem]
    exact fin_valc (by simp (disch := omega) only [go_sem]) (by simp (disch := omega) only [go_sem]) isA_mk
  · rw [if_pos rfl]
    refine Con.of_aw Tryz.func17 rfl Tryz.ntmps17 (by simp) (by simp) (by simp) (W.sound ?_)
    show @W Tryz.prog 35 ⟨_⟩ ⟨fun x σ => @retW _ _ _ ⟨_⟩ _ ⟨_⟩ x σ⟩ _ _
    simp (disch := omega) only [go_sem]
    refine call_closed (con_flok 1 true m e) (by simp (disch := omega) only [go_sem]) ?_
    rintro r hs ⟨rfl, rfl, _⟩
    refine ⟨by simp [freeN], ?_⟩
    simp (disch := omega) only [go_sem]
    simp (disch := omega) only [go_sem, h]
    refine call_closed (con_toward 1 true m e (by omega) (by omega)) (by simp (disch := omega) only [go_sem]) ?_
    rintro r hs ⟨rfl, rfl, _⟩
    refine ⟨by simp [freeN], ?_⟩
    simp (disch := omega) only [go_sem]
    exact fin_valc (by simp (disch := omega) only [go_sem]) (by simp (disch := omega) only [go_sem]) isA_mk

theorem con_FlNextBad (k : Int) (s : Bool) (m e : Int) (h : flB k s m e = false) : Con Tryz.prog 17 true [.ag [.v (.int .i64 (k)), .v (.bool (s)), .v (.int .i64 (m)), .v (.int .i64 (e))]] [] (isA (.ag [.v (.int .i64 (3)), .v (.bool (false)), .v (.int .i64 (0)), .v (.int .i64 (0))])) := by
  refine Con.of_aw Tryz.func17 rfl Tryz.ntmps17 (by simp) (by simp) (by simp) (W.sound ?_)
  show @W Tryz.prog 35 ⟨_⟩ ⟨fun x σ => @retW _ _ _ ⟨_⟩ _ ⟨_⟩ x σ⟩ _ _
  simp (disch := omega) only [go_sem]
  refine call_closed (con_flok k s m e) (by simp (disch := omega) only [go_sem]) ?_
  rintro r hs ⟨rfl, rfl, _⟩
  refine ⟨by simp [freeN], ?_⟩
  simp (disch := omega) only [go_sem]
  simp (disch := omega) only [go_sem, h]
  refine call_closed (con_nan) (by simp (disch := omega) only [go_sem]) ?_
  rintro r hs ⟨rfl, rfl, _⟩
  refine ⟨by simp [freeN], ?_⟩
  simp (disch := omega) only [go_sem]
  exact fin_valc (by simp (disch := omega) only [go_sem]) (by simp (disch := omega) only [go_sem]) isA_mk

/-- The last place's power of two. -/
def ulE (k e : Int) : Int := if k = 0 then -1074 else e
theorem con_FlUlp (k : Int) (s : Bool) (m e : Int) (h : flB k s m e = true) :
    Con Tryz.prog 21 false [.ag [.v (.int .i64 (k)), .v (.bool (s)), .v (.int .i64 (m)), .v (.int .i64 (e))]] [] (isA (if (decide (k = 0) || decide (k = 1)) = true then .tu [.ag [.v (.bool (false)), .sl (lim (1)).length (ints (lim (1))), .v (.int .i64 (ulE k e))], .v (.bool true)] else .tu [.ag [.v (.bool (false)), .sl (lim (0)).length (ints (lim (0))), .v (.int .i64 (0))], .v (.bool false)])) := by
  refine Con.frzA ?_
  obtain ⟨a1, a2, a3, a4, a5, a6⟩ := flB_rng h
  have ht : tz 1 = 0 := tz_odd rfl
  have hu : -1074 ≤ ulE k e ∧ ulE k e ≤ 971 := by unfold ulE; split <;> omega
  have hb : bl 1 ≤ 1 := by decide
  have cd := con_dyX false 1 (ulE k e) (by omega) (by omega)
  rw [if_pos (dyFit_fl (by omega) hu)] at cd
  have e1 : oM 1 = 1 := by unfold oM; rw [ht]
  have e2 : oE 1 (ulE k e) = ulE k e := by unfold oE; rw [if_neg (by omega), ht]; simp
  have e3 : oS false 1 = false := rfl
  rw [e1, e2, e3] at cd
  cases hf : (decide (k = 0) || decide (k = 1))
  · rw [if_neg (by simp), lim_zero]
    refine Con.of_aw Tryz.func21 rfl Tryz.ntmps21 (by simp) (by simp) (by simp) (W.sound ?_)
    show @W Tryz.prog 25 ⟨_⟩ ⟨fun x σ => @retW _ _ _ ⟨_⟩ _ ⟨_⟩ x σ⟩ _ _
    simp (disch := omega) only [go_sem]
    refine call_closed (con_flok k s m e) (by simp (disch := omega) only [go_sem]) ?_
    rintro r hs ⟨rfl, rfl, _⟩
    refine ⟨by simp [freeN], ?_⟩
    simp (disch := omega) only [go_sem]
    simp (disch := omega) only [go_sem, h]
    refine call_closed (con_isFinite k s m e) (by simp (disch := omega) only [go_sem]) ?_
    rintro r hs ⟨rfl, rfl, _⟩
    refine ⟨by simp [freeN], ?_⟩
    simp (disch := omega) only [go_sem]
    simp (disch := omega) only [go_sem, hf]
    refine fin_val (by simp (disch := omega) only [go_sem]) ?_
    show snap _ 6 _ = _
    simp (disch := omega) only [go_sem]
  · rw [if_pos rfl]
    by_cases c0 : k = 0
    · have eu : ulE k e = -1074 := by unfold ulE; rw [if_pos c0]
      rw [eu] at cd ⊢
      have c0' : decide (k = 0) = true := decide_eq_true c0
      refine Con.of_aw Tryz.func21 rfl Tryz.ntmps21 (by simp) (by simp) (by simp) (W.sound ?_)
      show @W Tryz.prog 25 ⟨_⟩ ⟨fun x σ => @retW _ _ _ ⟨_⟩ _ ⟨_⟩ x σ⟩ _ _
      simp (disch := omega) only [go_sem]
      refine call_closed (con_flok k s m e) (by simp (disch := omega) only [go_sem]) ?_
      rintro r hs ⟨rfl, rfl, _⟩
      refine ⟨by simp [freeN], ?_⟩
      simp (disch := omega) only [go_sem]
      simp (disch := omega) only [go_sem, h]
      refine call_closed (con_isFinite k s m e) (by simp (disch := omega) only [go_sem]) ?_
      rintro r hs ⟨rfl, rfl, _⟩
      refine ⟨by simp [freeN], ?_⟩
      simp (disch := omega) only [go_sem]
      simp (disch := omega) only [go_sem, hf, c0']
      refine call_open (con_smallN 1 (by omega)) (by simp (disch := omega) only [go_sem]) ?_
      rintro r hs ⟨rfl, rfl, _⟩
      refine ⟨by simp [freeN], ?_⟩
      simp (disch := omega) only [go_sem]
      refine call_open (cd) (by simp (disch := omega) only [go_sem]) ?_
      rintro r hs ⟨rfl, rfl, _⟩
      refine ⟨by simp [freeN], ?_⟩
      simp (disch := omega) only [go_sem]
      refine fin_val (by simp (disch := omega) only [go_sem]) ?_
      show snap _ 6 _ = _
      simp (disch := omega) only [go_sem]
    · have eu : ulE k e = e := by unfold ulE; rw [if_neg c0]
      rw [eu] at cd ⊢
      have c0' : decide (k = 0) = false := decide_eq_false c0
      have c1' : decide (k = 1) = true := by rw [c0'] at hf; simpa using hf
      refine Con.of_aw Tryz.func21 rfl Tryz.ntmps21 (by simp) (by simp) (by simp) (W.sound ?_)
      show @W Tryz.prog 25 ⟨_⟩ ⟨fun x σ => @retW _ _ _ ⟨_⟩ _ ⟨_⟩ x σ⟩ _ _
      simp (disch := omega) only [go_sem]
      refine call_closed (con_flok k s m e) (by simp (disch := omega) only [go_sem]) ?_
      rintro r hs ⟨rfl, rfl, _⟩
      refine ⟨by simp [freeN], ?_⟩
      simp (disch := omega) only [go_sem]
      simp (disch := omega) only [go_sem, h]
      refine call_closed (con_isFinite k s m e) (by simp (disch := omega) only [go_sem]) ?_
      rintro r hs ⟨rfl, rfl, _⟩
      refine ⟨by simp [freeN], ?_⟩
      simp (disch := omega) only [go_sem]
      simp (disch := omega) only [go_sem, c0', c1']
      refine call_open (con_smallN 1 (by omega)) (by simp (disch := omega) only [go_sem]) ?_
      rintro r hs ⟨rfl, rfl, _⟩
      refine ⟨by simp [freeN], ?_⟩
      simp (disch := omega) only [go_sem]
      refine call_open (cd) (by simp (disch := omega) only [go_sem]) ?_
      rintro r hs ⟨rfl, rfl, _⟩
      refine ⟨by simp [freeN], ?_⟩
      simp (disch := omega) only [go_sem]
      refine fin_val (by simp (disch := omega) only [go_sem]) ?_
      show snap _ 6 _ = _
      simp (disch := omega) only [go_sem]
end Go.Ab
namespace Go.Ab
set_option linter.unusedVariables false
set_option linter.unusedSimpArgs false

/-- What is rounded, and not too great, is told as a valid float. -/
theorem fl_form {s : Bool} {rm : Nat} {re : Int} (h0 : rm ≠ 0) (ht : (bl rm : Int) + re ≤ 1024) (he : flE rm re ≤ oE rm re) (hr : -1074 ≤ re) :
    flB 1 s (flM rm re : Int) (flE rm re) = true ∧ dv 1074 s (flM rm re) (flE rm re) = dv 1074 s rm re := by
  have h1 : oM rm ≠ 0 := fun e => h0 (oM_eq_zero.1 e)
  have h2 := bl_oM h0
  have hoE : oE rm re = re + tz rm := by unfold oE; rw [if_neg h0]
  have hbl : bl (flM rm re) = bl (oM rm) + (oE rm re - flE rm re).toNat := by unfold flM; rw [bl_mul_pow h1]
  have hM0 : flM rm re ≠ 0 := by
    unfold flM
    exact Nat.mul_ne_zero h1 (Nat.pos_iff_ne_zero.1 (Nat.pow_pos (by omega)))
  have hE : flE rm re = if -1074 > (bl rm : Int) + re - 53 then -1074 else (bl rm : Int) + re - 53 := rfl
  have hlt := bl_lt (flM rm re)
  have hge := bl_ge hM0
  refine ⟨?_, ?_⟩
  · have hlt2 : flM rm re < 2 ^ 53 := Nat.lt_of_lt_of_le hlt (Nat.pow_le_pow_right (by omega) (by split at hE <;> omega))
    by_cases c : -1074 > (bl rm : Int) + re - 53
    · rw [if_pos c] at hE
      unfold flB
      rw [if_pos rfl, hE]
      simp only [Bool.and_eq_true, Bool.or_eq_true, decide_eq_true_eq, and_true]
      omega
    · rw [if_neg c] at hE
      have hb53 : bl (flM rm re) = 53 := by omega
      rw [hb53] at hge
      unfold flB
      rw [if_pos rfl, hE]
      simp only [Bool.and_eq_true, Bool.or_eq_true, decide_eq_true_eq]
      omega
  · have hE1 : -1074 ≤ flE rm re := by rw [hE]; split <;> omega
    rw [← dv_norm (s := s) (m := rm) (e := re) (K := 1074) (by omega)]
    unfold dv flM
    rw [sv_mul]
    have e1 : (oE rm re + ((1074 : Nat) : Int)).toNat = (oE rm re - flE rm re).toNat + (flE rm re + ((1074 : Nat) : Int)).toNat := by omega
    rw [e1, Int.pow_add, Int.natCast_pow, Int.mul_assoc]; rfl

theorem flB_inf (s : Bool) : flB 2 s 0 0 = true := by unfold flB; simp
theorem flB_zero (s : Bool) : flB 0 s 0 0 = true := by unfold flB; simp

/-- The same number has the same one form. -/
theorem dv_form {K : Nat} {s : Bool} {m : Nat} {e : Int} {s' : Bool} {m' : Nat} {e' : Int} (he : -(K : Int) ≤ e) (he' : -(K : Int) ≤ e') (h : dv K s m e = dv K s' m' e') : oS s m = oS s' m' ∧ oM m = oM m' ∧ oE m e = oE m' e' := by
  by_cases h0 : m = 0
  · have h0' : m' = 0 := by rw [h0, dv_zero] at h; exact dv_eq_zero.1 h.symm
    rw [h0, h0']; exact ⟨rfl, rfl, rfl⟩
  · obtain ⟨rfl, hM, hE, h0'⟩ := dv_inj h0 he he' h
    refine ⟨?_, hM, hE⟩
    unfold oS; rw [if_neg h0, if_neg h0']

theorem dyFit_dv {K : Nat} {s : Bool} {m : Nat} {e : Int} {s' : Bool} {m' : Nat} {e' : Int} (he : -(K : Int) ≤ e) (he' : -(K : Int) ≤ e') (h : dv K s m e = dv K s' m' e') : dyFit m e = dyFit m' e' := by
  obtain ⟨_, h1, h2⟩ := dv_form he he' h
  unfold dyFit; rw [h1, h2]

/-- The number half way between two floats next to one another is rounded to the even one. -/
theorem rnd_mid {t : Bool} {a : Nat} {E : Int} (ha : a < 2 ^ 53) (hf : 2 ^ 52 ≤ a ∨ E = -1074) (hE : -1074 ≤ E ∧ E ≤ 971) (ho : ¬ (a + 1 = 2 ^ 53 ∧ E = 971)) (z : Bool) :
    ∃ c : Nat, (c = a ∨ c = a + 1) ∧ flB (flV t (2 * a + 1) (E - 1) 0 z).k (flV t (2 * a + 1) (E - 1) 0 z).s (flV t (2 * a + 1) (E - 1) 0 z).m (flV t (2 * a + 1) (E - 1) 0 z).e = true ∧
      ((flV t (2 * a + 1) (E - 1) 0 z).k = 0 ∨ (flV t (2 * a + 1) (E - 1) 0 z).k = 1) ∧ dv 1074 (xS (flV t (2 * a + 1) (E - 1) 0 z).k (flV t (2 * a + 1) (E - 1) 0 z).s) (flV t (2 * a + 1) (E - 1) 0 z).m.toNat (flV t (2 * a + 1) (E - 1) 0 z).e = dv 1074 t c E := by
  have hbl : bl (2 * a + 1) = bl a + 1 := by
    rw [bl_dbl (by omega), show (2 * a + 1) / 2 = a by omega]
  have hlow : flLow (((bl (2 * a + 1) : Nat) : Int) + (E - 1)) = E := by
    rw [hbl]
    unfold flLow
    rcases hf with h | h
    · have : bl a = 53 := bl_eq (k := 52) h ha
      rw [this]; split <;> omega
    · have : bl a ≤ 53 := bl_le.2 ha
      split <;> omega
  have hpow : 2 ^ (E - (E - 1)).toNat = 2 := by rw [show (E - (E - 1)).toNat = 1 by omega]
  have hrm : roM t (2 * a + 1) (E - 1) E 0 = if a % 2 = 1 then a + 1 else a := by
    unfold roM
    rw [if_neg (by omega), hpow]
    unfold rq
    rw [if_neg (by omega), show (2 * a + 1) / 2 = a by omega, show (2 * a + 1) % 2 = 1 by omega]
    have : cmpI ((1 * 2 : Nat) : Int) ((2 : Nat) : Int) = 0 := by decide
    rw [this]
    unfold rup
    by_cases h : a % 2 = 1 <;> simp [h]
  have hre : roE (2 * a + 1) (E - 1) E = E := by unfold roE; rw [if_neg (by omega)]
  have hform := @ro_form t (2 * a + 1) (E - 1) 0 (by omega)
  rw [hlow, hrm, hre] at hform
  refine ⟨if a % 2 = 1 then a + 1 else a, by split <;> simp, ?_⟩
  unfold flV
  rw [if_neg (by omega), hlow, hrm, hre]
  generalize hc : (if a % 2 = 1 then a + 1 else a) = c at *
  have hcle : c ≤ a + 1 := by rw [← hc]; split <;> omega
  by_cases h0 : c = 0
  · subst h0
    have e1 : flK t 0 0 E = 0 := by unfold flK; simp
    have e2 : flMm t 0 0 E = 0 := by unfold flMm; simp
    have e3 : flEe t 0 0 E = 0 := by unfold flEe; simp
    dsimp only
    rw [e1, e2, e3]
    exact ⟨flB_zero t, .inl rfl, by rw [dv_zero]; exact dv_zero⟩
  · have ht : (bl c : Int) + E ≤ 1024 := by
      have h54 : bl c ≤ 54 := bl_le.2 (by omega)
      by_cases q : c = 2 ^ 53
      · omega
      · have : bl c ≤ 53 := bl_le.2 (by omega)
        omega
    have nt : ¬ 1024 < (bl c : Int) + E := by omega
    have e1 : flK t 0 c E = 1 := by unfold flK; rw [if_neg h0, if_neg nt]
    have e2 : flMm t 0 c E = (flM c E : Int) := by unfold flMm; rw [if_neg h0, if_neg nt]
    have e3 : flEe t 0 c E = flE c E := by unfold flEe; rw [if_neg h0, if_neg nt]
    dsimp only
    rw [e1, e2, e3]
    obtain ⟨f1, f2⟩ := fl_form (s := t) h0 ht (hform h0) hE.1
    refine ⟨f1, .inr rfl, ?_⟩
    rw [Int.toNat_natCast, ← f2]
    unfold xS; simp
end Go.Ab
namespace Go.Ab
set_option linter.unusedVariables false
set_option linter.unusedSimpArgs false

theorem flB_num {s : Bool} {m e : Int} : flB 1 s m e = true ↔ (-1074 ≤ e ∧ e ≤ 971) ∧ ((4503599627370496 ≤ m ∧ m ≤ 9007199254740991) ∨ ((1 ≤ m ∧ m ≤ 4503599627370495) ∧ e = -1074)) := by
  unfold flB
  rw [if_pos rfl]
  simp only [Bool.and_eq_true, Bool.or_eq_true, decide_eq_true_eq]

/-- Two floats next to one another: between them lies one step; a is the lesser magnitude. -/
structure Adj (k : Int) (s : Bool) (m e : Int) (n : FlV) (t : Bool) (a : Nat) (E : Int) : Prop where
  ha : a < 2 ^ 53
  hf : 2 ^ 52 ≤ a ∨ E = -1074
  hE : -1074 ≤ E ∧ E ≤ 971
  ho : ¬ (a + 1 = 2 ^ 53 ∧ E = 971)
  hu : E ≤ ulE k e
  lo : dv 1074 (xS k s) m.toNat e = dv 1074 t (if t = true then a + 1 else a) E
  hi : dv 1074 (xS n.k n.s) n.m.toNat n.e = dv 1074 t (if t = true then a else a + 1) E

theorem dv_top (s : Bool) (E : Int) (hE : -1074 ≤ E) : dv 1074 s 4503599627370496 (E + 1) = dv 1074 s 9007199254740992 E := by
  unfold dv
  have : (E + 1 + ((1074 : Nat) : Int)).toNat = (E + ((1074 : Nat) : Int)).toNat + 1 := by omega
  rw [this, Int.pow_succ]
  cases s <;> simp [sv] <;> omega

theorem nx_adj {k : Int} {s : Bool} {m e : Int} (h : flB k s m e = true) (hk : k = 0 ∨ k = 1) (hn : (nxV k s m e).k = 0 ∨ (nxV k s m e).k = 1) : ∃ t a E, Adj k s m e (nxV k s m e) t a E := by
  obtain ⟨a1, a2, a3, a4, a5, a6⟩ := flB_rng h
  have n3 : ¬ (k = 3 ∨ (k = 2 ∧ s = false)) := by omega
  have nx : nxV k s m e = if k = 0 then ⟨1, false, 1, -1074⟩ else if s = true then toV k s m e else awV s m e := by unfold nxV; rw [if_neg n3]
  rcases hk with rfl | rfl
  · have hm := (a4 (by omega)).1
    rw [if_pos rfl] at nx
    rw [nx] at hn ⊢
    subst hm
    exact ⟨false, 0, -1074, by omega, .inr rfl, by omega, by omega, by unfold ulE; omega, by rw [if_neg (by simp)]; show dv _ _ 0 _ = _; rw [dv_zero, dv_zero], by rw [if_neg (by simp)]; rfl⟩
  · rw [if_neg (by omega)] at nx
    obtain ⟨n, rfl⟩ := Int.eq_ofNat_of_zero_le a1.1
    have hv := flB_num.1 h
    have hxs : xS 1 s = s := by unfold xS; simp
    cases s
    · rw [if_neg (by simp)] at nx
      rw [nx] at hn ⊢
      unfold awV at hn ⊢
      by_cases c1 : (n : Int) < 9007199254740991
      · rw [if_pos c1] at hn ⊢
        refine ⟨false, n, e, by omega, by omega, by omega, by omega, by unfold ulE; split <;> omega, ?_, ?_⟩
        · rw [if_neg (by simp)]; rfl
        · rw [if_neg (by simp)]
          have : ((n : Int) + 1).toNat = n + 1 := by omega
          show dv _ _ ((n : Int) + 1).toNat _ = _
          rw [this]; rfl
      · rw [if_neg c1] at hn ⊢
        by_cases c2 : e < 971
        · rw [if_pos c2] at hn ⊢
          have hnn : n = 9007199254740991 := by omega
          refine ⟨false, n, e, by omega, by omega, by omega, by omega, by unfold ulE; split <;> omega, ?_, ?_⟩
          · rw [if_neg (by simp)]; rfl
          · rw [if_neg (by simp), hnn]
            exact dv_top false e (by omega)
        · rw [if_neg c2] at hn
          rcases hn with hn | hn <;> cases hn
    · rw [if_pos rfl] at nx
      rw [nx] at hn ⊢
      unfold toV at hn ⊢
      rw [if_neg (by omega)] at hn ⊢
      by_cases c1 : 4503599627370496 < (n : Int) ∨ (e = -1074 ∧ 1 < (n : Int))
      · rw [if_pos c1] at hn ⊢
        refine ⟨true, n - 1, e, by omega, by omega, by omega, by omega, by unfold ulE; split <;> omega, ?_, ?_⟩
        · rw [if_pos rfl, show n - 1 + 1 = n by omega]; rfl
        · rw [if_pos rfl]
          have : ((n : Int) - 1).toNat = n - 1 := by omega
          show dv _ _ ((n : Int) - 1).toNat _ = _
          rw [this]; rfl
      · rw [if_neg c1] at hn ⊢
        by_cases c2 : -1074 < e
        · rw [if_pos c2] at hn ⊢
          have hnn : n = 4503599627370496 := by omega
          refine ⟨true, 9007199254740991, e - 1, by omega, by omega, by omega, by omega, by unfold ulE; split <;> omega, ?_, ?_⟩
          · rw [if_pos rfl, hnn]
            have := dv_top true (e - 1) (by omega)
            rw [show e - 1 + 1 = e by omega] at this
            exact this
          · rw [if_pos rfl]; rfl
        · rw [if_neg c2] at hn ⊢
          have hnn : n = 1 := by omega
          have he : e = -1074 := by omega
          refine ⟨true, 0, -1074, by omega, .inr rfl, by omega, by omega, by unfold ulE; split <;> omega, ?_, ?_⟩
          · rw [if_pos rfl, hnn, he]; rfl
          · rw [if_pos rfl]; show dv _ _ 0 _ = _; rw [dv_zero, dv_zero]

theorem nx_valid {k : Int} {s : Bool} {m e : Int} (h : flB k s m e = true) (hk : k ≠ 3) : flB (nxV k s m e).k (nxV k s m e).s (nxV k s m e).m (nxV k s m e).e = true ∧ (nxV k s m e).k ≠ 3 := by
  obtain ⟨a1, a2, a3, a4, a5, a6⟩ := flB_rng h
  unfold nxV
  by_cases c2 : k = 2
  · subst c2
    cases s
    · rw [if_pos (.inr ⟨rfl, rfl⟩)]; exact ⟨h, by simp⟩
    · rw [if_neg (by simp), if_neg (by omega), if_pos rfl]
      unfold toV; rw [if_pos rfl]; exact ⟨by decide, by simp⟩
  rw [if_neg (by omega)]
  by_cases c0 : k = 0
  · rw [if_pos c0]; exact ⟨by decide, by simp⟩
  have c1 : k = 1 := by omega
  subst c1
  have hv := flB_num.1 h
  rw [if_neg c0]
  cases s
  · rw [if_neg (by simp)]
    unfold awV
    by_cases d1 : m < 9007199254740991
    · rw [if_pos d1]; exact ⟨flB_num.2 (by dsimp only; omega), by simp⟩
    · rw [if_neg d1]
      by_cases d2 : e < 971
      · rw [if_pos d2]; exact ⟨flB_num.2 (by dsimp only; omega), by simp⟩
      · rw [if_neg d2]; exact ⟨flB_inf false, by simp⟩
  · rw [if_pos rfl]
    unfold toV
    rw [if_neg (by omega)]
    by_cases d1 : 4503599627370496 < m ∨ (e = -1074 ∧ 1 < m)
    · rw [if_pos d1]; exact ⟨flB_num.2 (by dsimp only; omega), by simp⟩
    · rw [if_neg d1]
      by_cases d2 : -1074 < e
      · rw [if_pos d2]; exact ⟨flB_num.2 (by dsimp only; omega), by simp⟩
      · rw [if_neg d2]; exact ⟨flB_zero true, by simp⟩

theorem nxV_pos (m e : Int) : nxV 1 false m e = awV false m e := by
  unfold nxV; rw [if_neg (by omega), if_neg (by omega), if_neg (by simp)]
theorem nxV_neg (m e : Int) : nxV 1 true m e = toV 1 true m e := by
  unfold nxV; rw [if_neg (by omega), if_neg (by omega), if_pos rfl]
theorem nxV_inf (m e : Int) : nxV 2 true m e = ⟨1, true, 9007199254740991, 971⟩ := by
  unfold nxV toV; rw [if_neg (by simp), if_neg (by omega), if_pos rfl, if_pos rfl]
theorem nxV_zero (s : Bool) (m e : Int) : nxV 0 s m e = ⟨1, false, 1, -1074⟩ := by
  unfold nxV; rw [if_neg (by omega), if_pos rfl]
theorem ng_f : ngS 1 false = true := rfl
theorem ng_t : ngS 1 true = false := rfl
theorem ng_i : ngS 2 false = true := rfl

/-- Back again. -/
theorem nx_back {k : Int} {s : Bool} {m e : Int} (h : flB k s m e = true) (hk : k = 0 ∨ k = 1) :
    ∃ b : FlV, nxV (nxV k s m e).k (ngS (nxV k s m e).k (nxV k s m e).s) (nxV k s m e).m (nxV k s m e).e = b ∧ (b.k = k ∧ (k = 1 → b.s = (!s) ∧ b.m = m ∧ b.e = e)) := by
  obtain ⟨a1, a2, a3, a4, a5, a6⟩ := flB_rng h
  rcases hk with rfl | rfl
  · rw [nxV_zero]
    refine ⟨⟨0, true, 0, 0⟩, ?_, rfl, fun h => by omega⟩
    show nxV 1 true 1 (-1074) = _
    rw [nxV_neg]; unfold toV
    rw [if_neg (by omega), if_neg (by omega), if_neg (by omega)]
  · have hv := flB_num.1 h
    cases s
    · refine ⟨⟨1, true, m, e⟩, ?_, rfl, fun _ => ⟨rfl, rfl, rfl⟩⟩
      rw [nxV_pos]
      unfold awV
      by_cases d1 : m < 9007199254740991
      · rw [if_pos d1]
        show nxV 1 true (m + 1) e = _
        rw [nxV_neg]; unfold toV
        rw [if_neg (by omega), if_pos (by omega), show m + 1 - 1 = m by omega]
      · rw [if_neg d1]
        by_cases d2 : e < 971
        · rw [if_pos d2]
          show nxV 1 true 4503599627370496 (e + 1) = _
          rw [nxV_neg]; unfold toV
          rw [if_neg (by omega), if_neg (by omega), if_pos (by omega), show e + 1 - 1 = e by omega, show m = 9007199254740991 by omega]
        · rw [if_neg d2]
          show nxV 2 true 0 0 = _
          rw [nxV_inf, show m = 9007199254740991 by omega, show e = 971 by omega]
    · rw [nxV_neg]
      unfold toV
      rw [if_neg (by omega)]
      by_cases d1 : 4503599627370496 < m ∨ (e = -1074 ∧ 1 < m)
      · refine ⟨⟨1, false, m, e⟩, ?_, rfl, fun _ => ⟨rfl, rfl, rfl⟩⟩
        rw [if_pos d1]
        show nxV 1 false (m - 1) e = _
        rw [nxV_pos]; unfold awV
        rw [if_pos (by omega), show m - 1 + 1 = m by omega]
      · rw [if_neg d1]
        by_cases d2 : -1074 < e
        · refine ⟨⟨1, false, m, e⟩, ?_, rfl, fun _ => ⟨rfl, rfl, rfl⟩⟩
          rw [if_pos d2]
          show nxV 1 false 9007199254740991 (e - 1) = _
          rw [nxV_pos]; unfold awV
          rw [if_neg (by omega), if_pos (by omega), show e - 1 + 1 = e by omega, show m = 4503599627370496 by omega]
        · refine ⟨⟨1, false, m, e⟩, ?_, rfl, fun _ => ⟨rfl, rfl, rfl⟩⟩
          rw [if_neg d2]
          show nxV 0 false 0 0 = _
          rw [nxV_zero, show m = 1 by omega, show e = -1074 by omega]
end Go.Ab
namespace Go.Ab
open Go Go.Proofs
set_option linter.unusedVariables false
set_option linter.unusedSimpArgs false

theorem con_l2norm (cl : Bool) (xs : List Int) (m : Nat) (hl : xs.length ≤ 2 ^ 39) (hx : gd xs) (hv : vl xs = (m : Int)) : Con Tryz.prog 124 cl [.sl xs.length (ints xs)] [] (natR m) := by
  refine Con.of_aw Tryz.func124 rfl Tryz.ntmps124 (by simp) (by simp) (by simp) (W.sound ?_)
  show @W Tryz.prog 24 ⟨_⟩ ⟨fun x σ => @retW _ _ _ ⟨_⟩ _ ⟨_⟩ x σ⟩ _ _
  simp (disch := omega) only [go_sem]
  have hcz : cutZ xs = lim m := by rw [cutZ_lim hx, hv, Int.toNat_natCast]
  refine loop_intro (fun k : Nat => [(0, .sl xs.length (ints xs)), (2, .pt 40000000 0), (3, .v (.int .i64 k))]) (fun _ => [(40000000, .own 0 [.v (.slice none 0 0)])]) (fun k => k ≤ xs.length ∧ cutZ (xs.take k) = cutZ xs) id xs.length ⟨Nat.le_refl _, by simp⟩
    (Le.lst [] _ _ rfl (by simp (disch := omega) only [go_sem]) (by simp (disch := omega) only [go_sem])) ?_
  intro k ⟨hk, hc⟩
  have hkx : ∀ j, j + 1 = k → xs.take k = xs.take j ++ [xs.getD j 0] := fun j hj => by rw [← hj]; exact take_succ' (by omega)
  simp (disch := omega) only [go_sem]
  refine ifW_dec (fun h1 => ?_) (fun h1 => ?_)
  · obtain ⟨j, rfl⟩ : ∃ j, k = j + 1 := ⟨k - 1, by omega⟩
    have e1 : ((j + 1 : Nat) : Int) - 1 = (j : Nat) := by omega
    rw [hkx j rfl] at hc
    simp (disch := omega) only [go_sem, h1, e1]
    refine ⟨by omega, by omega, ifW_dec (fun h2 => ?_) (fun h2 => ?_)⟩
    · simp (disch := omega) only [go_sem, h2, e1]
      rw [h2, cutZ_zero] at hc
      exact next_intro j [] ⟨by omega, hc⟩ (by show j < j + 1; omega) rfl (by simp (disch := omega) only [go_sem]; try omega) (by simp (disch := omega) only [go_sem])
    · rw [cutZ_ne _ h2, ← hkx j rfl, hcz] at hc
      have hlm : j + 1 = (lim m).length := by rw [← hc, List.length_take]; omega
      have e0 : (((j + 1 : Nat) : Int) - 0).toNat = (lim m).length := by omega
      rw [hlm] at hc
      simp (disch := omega) only [go_sem, h2, e0, hc]
      refine ⟨by omega, by omega, ?_⟩
      refine fin_intro [(0, 240000000)] [.own 1 (ints (lim m))] [] [.ag [.rf 0 0 (lim m).length]] rfl (by simp (disch := omega) only [go_sem]) (by simp (disch := omega) only [go_sem]) (by simp) (by intro _; simp [tupA, AV.pu, AV.pu.puL, Ob.pu, pu_ints]) (.inr ⟨[], rfl, by rw [List.append_nil]⟩)
  · have hlm : k = (lim m).length := by
      have : k = 0 := by omega
      rw [← hcz, ← hc, this]; rfl
    subst hlm
    have hc : xs.take (lim m).length = lim m := by
      have : lim m = [] := List.length_eq_zero_iff.1 (by omega)
      rw [this]; simp
    have e0 : (((lim m).length : Int) - 0).toNat = (lim m).length := by omega
    simp (disch := omega) only [go_sem, h1, e0, hc]
    refine ⟨by omega, by omega, ?_⟩
    refine fin_intro [(0, 240000000)] [.own 1 (ints (lim m))] [] [.ag [.rf 0 0 (lim m).length]] rfl (by simp (disch := omega) only [go_sem]) (by simp (disch := omega) only [go_sem]) (by simp) (by intro _; simp [tupA, AV.pu, AV.pu.puL, Ob.pu, pu_ints]) (.inr ⟨[], rfl, by rw [List.append_nil]⟩)

theorem con_l2of (cl : Bool) (n : Nat) (hn : n < 2 ^ 63) : Con Tryz.prog 91 cl [.v (.int .i64 n)] [] (natR n) := by
  refine Con.of_aw Tryz.func91 rfl Tryz.ntmps91 (by simp) (by simp) (by simp) (W.sound ?_)
  show @W Tryz.prog 15 ⟨_⟩ ⟨fun x σ => @retW _ _ _ ⟨_⟩ _ ⟨_⟩ x σ⟩ _ _
  simp (disch := omega) only [go_sem]
  refine loop_intro (fun x : Nat × List Int => [(0, .v (.int .i64 x.1)), (2, .pt 2 0), (3, .rf 1 0 x.2.length)]) (fun x => [(1, .own 1 (ints x.2)), (2, .own 0 [.v (.slice none 0 0)])]) (fun x => x.1 < 2 ^ 63 ∧ x.2 ++ lim x.1 = lim n) (fun x => x.1) (n, []) ⟨hn, rfl⟩
    ((Le.ghost 3 1 1 (by simp (disch := omega) only [go_sem]) (by simp (disch := omega) only [go_sem])).trans (Le.lst [(2, 40000000)] _ _ rfl (by simp (disch := omega) only [go_sem]) (by simp (disch := omega) only [go_sem]))) ?_
  rintro ⟨k, l⟩ ⟨hk, hl⟩
  dsimp only at hk hl ⊢
  have hlen : l.length ≤ 4 := by
    have h1 := congrArg List.length hl
    have h2 := lim_len (n := n) (k := 4) |>.2 (by omega)
    rw [List.length_append] at h1; omega
  simp (disch := omega) only [go_sem]
  refine ifW_dec (fun h1 => ?_) (fun h1 => ?_)
  · simp (disch := omega) only [go_sem, h1]
    have hk0 : k ≠ 0 := by omega
    refine ⟨by omega, next_intro (k / 65536, l ++ [(k : Int) % 65536]) [(1, 120000000)] ⟨by show k / 65536 < 2 ^ 63; omega, ?_⟩ (by show k / 65536 < k; omega) rfl (by simp (disch := omega) only [go_sem, List.length_append]; try omega) (by simp (disch := omega) only [go_sem])⟩
    rw [lim_pos hk0] at hl
    rw [← hl, List.append_assoc]; rfl
  · simp (disch := omega) only [go_sem, h1]
    have hk0 : k = 0 := by omega
    subst hk0
    rw [lim_zero, List.append_nil] at hl
    subst hl
    refine fin_intro [(0, 1)] [.own 1 (ints (lim n ++ []))] [] [.ag [.rf 0 0 (lim n).length]] rfl (by simp (disch := omega) only [go_sem]) (by simp (disch := omega) only [go_sem]) (by simp) (by intro _; simp [tupA, AV.pu, AV.pu.puL, Ob.pu, pu_ints]) (.inr ⟨[], rfl, rfl⟩)
end Go.Ab
namespace Go.Ab
open Go Go.Proofs
set_option linter.unusedVariables false
set_option linter.unusedSimpArgs false

set_option maxRecDepth 100000 in
theorem con_l2add (cl : Bool) (a b : Nat) (la : (lim a).length ≤ 2000000) (lb : (lim b).length ≤ 2000000) : Con Tryz.prog 90 cl [.ag [.sl (lim (a)).length (ints (lim (a)))], .ag [.sl (lim (b)).length (ints (lim (b)))]] [] (natR (a + b)) := by
  refine Con.of_aw Tryz.func90 rfl Tryz.ntmps90 (by simp) (by simp) (by simp) (W.sound ?_)
  show @W Tryz.prog 61 ⟨_⟩ ⟨fun x σ => @retW _ _ _ ⟨_⟩ _ ⟨_⟩ x σ⟩ _ _
  simp (disch := omega) only [go_sem]
  have hA := gd_lim a
  have hB := gd_lim b
  refine loop_intro (fun x : Nat × List Int × Int => [(2, .pt 3 0), (3, .pt 4 0), (4, .pt 2 0), (5, .rf 1 0 x.2.1.length), (6, .v (.int .i64 x.2.2)), (7, .v (.int .i64 x.1))])
    (fun x => [(1, .own 1 (ints x.2.1)), (2, .own 0 [.v (.slice none 0 0)]), (3, .own 0 [.sl (lim (a)).length (ints (lim (a)))]), (4, .own 0 [.sl (lim (b)).length (ints (lim (b)))])])
    (fun x => x.1 ≤ max (lim a).length (lim b).length + 1 ∧ x.2.1.length = x.1 ∧ gd x.2.1 ∧ (0 ≤ x.2.2 ∧ x.2.2 ≤ 1) ∧ vl x.2.1 + 65536 ^ x.1 * x.2.2 = vl ((lim a).take x.1) + vl ((lim b).take x.1) ∧ (max (lim a).length (lim b).length < x.1 → x.2.2 = 0))
    (fun x => 2 * (max (lim a).length (lim b).length - x.1) + x.2.2.toNat) (0, [], 0) ⟨by simp, rfl, gd_nil, by simp, by simp [vl], fun h => rfl⟩
    ((Le.ghost 5 1 1 (by simp (disch := omega) only [go_sem]) (by simp (disch := omega) only [go_sem])).trans (Le.lst [(2, 60000000), (3, 40000000), (4, 50000000)] _ _ rfl (by simp (disch := omega) only [go_sem]) (by simp (disch := omega) only [go_sem]))) ?_
  rintro ⟨i, out, cy⟩ ⟨hi, hol, hog, hcy, hov, hcz⟩
  dsimp only at hi hol hog hcy hov hcz ⊢
  have hx := gd_getD hA i
  have hy := gd_getD hB i
  have hxz : ¬ (i : Int) < (lim a).length → (lim a).getD i 0 = 0 := fun h => by rw [List.getD_eq_getElem?_getD, List.getElem?_eq_none (by omega)]; rfl
  have hyz : ¬ (i : Int) < (lim b).length → (lim b).getD i 0 = 0 := fun h => by rw [List.getD_eq_getElem?_getD, List.getElem?_eq_none (by omega)]; rfl
  have hstep : ∀ q : Int, q = cy + (lim a).getD i 0 + (lim b).getD i 0 → vl (out ++ [q % 65536]) + 65536 ^ (i + 1) * (q / 65536) = vl ((lim a).take (i + 1)) + vl ((lim b).take (i + 1)) := by
    intro q hq
    rw [vl_snoc, vl_take_any, vl_take_any, hol, Int.pow_succ]
    have e3 : q % 65536 + 65536 * (q / 65536) = q := Int.emod_add_mul_ediv q 65536
    generalize (65536 : Int) ^ i = Pi at *
    grind
  have key : ∀ q : Int, q = cy + (lim a).getD i 0 + (lim b).getD i 0 → (i : Int) < (lim a).length ∨ (i : Int) < (lim b).length ∨ 0 < cy →
      ((i + 1 ≤ max (lim a).length (lim b).length + 1 ∧ (out ++ [q % 65536]).length = i + 1 ∧ gd (out ++ [q % 65536]) ∧ (0 ≤ q / 65536 ∧ q / 65536 ≤ 1) ∧ vl (out ++ [q % 65536]) + 65536 ^ (i + 1) * (q / 65536) = vl ((lim a).take (i + 1)) + vl ((lim b).take (i + 1)) ∧ (max (lim a).length (lim b).length < i + 1 → q / 65536 = 0)) ∧
      2 * (max (lim a).length (lim b).length - (i + 1)) + (q / 65536).toNat < 2 * (max (lim a).length (lim b).length - i) + cy.toNat) := by
    intro q hq hc
    have hle : i ≤ max (lim a).length (lim b).length := by
      rcases Nat.lt_or_ge (max (lim a).length (lim b).length) i with h | h
      · have := hcz h; omega
      · exact h
    have hbig : max (lim a).length (lim b).length < i + 1 → q / 65536 = 0 := fun h => by
      have := hxz (by omega)
      have := hyz (by omega)
      omega
    refine ⟨⟨by omega, by simp [hol], gd_append.2 ⟨hog, gd_one.2 (by omega)⟩, by omega, hstep q hq, hbig⟩, ?_⟩
    by_cases hm : max (lim a).length (lim b).length < i + 1
    · have := hbig hm; omega
    · omega
  by_cases h1 : (i : Int) < (lim a).length <;> by_cases h2 : (i : Int) < (lim b).length
  · simp (disch := omega) only [go_sem, h1, h2]
    obtain ⟨k1, k2⟩ := key _ rfl (.inl h1)
    refine ⟨by omega, by omega, by omega, by omega, by omega, next_intro (i + 1, out ++ [(cy + (lim a).getD i 0 + (lim b).getD i 0) % 65536], (cy + (lim a).getD i 0 + (lim b).getD i 0) / 65536) [(1, 580000000)] k1 k2 rfl (by simp (disch := omega) only [go_sem, List.length_append]; try omega) (by simp (disch := omega) only [go_sem])⟩
  · simp (disch := omega) only [go_sem, h1, h2]
    have e0 : cy + (lim a).getD i 0 = cy + (lim a).getD i 0 + (lim b).getD i 0 := by rw [hyz h2]; omega
    obtain ⟨k1, k2⟩ := key (cy + (lim a).getD i 0) e0 (.inl h1)
    refine ⟨by omega, by omega, by omega, next_intro (i + 1, out ++ [(cy + (lim a).getD i 0) % 65536], (cy + (lim a).getD i 0) / 65536) [(1, 580000000)] k1 k2 rfl (by simp (disch := omega) only [go_sem, List.length_append]; try omega) (by simp (disch := omega) only [go_sem])⟩
  · simp (disch := omega) only [go_sem, h1, h2]
    have e0 : cy + (lim b).getD i 0 = cy + (lim a).getD i 0 + (lim b).getD i 0 := by rw [hxz h1]; omega
    obtain ⟨k1, k2⟩ := key (cy + (lim b).getD i 0) e0 (.inr (.inl h2))
    refine ⟨by omega, by omega, by omega, next_intro (i + 1, out ++ [(cy + (lim b).getD i 0) % 65536], (cy + (lim b).getD i 0) / 65536) [(1, 580000000)] k1 k2 rfl (by simp (disch := omega) only [go_sem, List.length_append]; try omega) (by simp (disch := omega) only [go_sem])⟩
  · by_cases h3 : 0 < cy
    · simp (disch := omega) only [go_sem, h1, h2, h3]
      have e0 : cy = cy + (lim a).getD i 0 + (lim b).getD i 0 := by rw [hxz h1, hyz h2]; omega
      obtain ⟨k1, k2⟩ := key cy e0 (.inr (.inr h3))
      refine ⟨by omega, next_intro (i + 1, out ++ [cy % 65536], cy / 65536) [(1, 580000000)] k1 k2 rfl (by simp (disch := omega) only [go_sem, List.length_append]; try omega) (by simp (disch := omega) only [go_sem])⟩
    · have hcy0 : cy = 0 := by omega
      have hov2 : vl out = ((a + b : Nat) : Int) := by
        rw [List.take_of_length_le (by omega), List.take_of_length_le (by omega), vl_lim, vl_lim, hcy0] at hov
        simp at hov; omega
      simp (disch := omega) only [go_sem, h1, h2, h3]
      refine call_closed (con_l2norm true out (a + b) (by omega) hog hov2) (by simp (disch := omega) only [go_sem]) ?_
      rintro r hs (⟨h0, rfl, rfl⟩ | ⟨zs, rfl, rfl⟩)
      · refine ⟨⟨by simp, by simp (disch := omega) only [go_sem]⟩, ?_⟩
        simp (disch := omega) only [go_sem]
        refine fin_intro [] [] [] [.ag [.v (.slice none 0 0)]] rfl (by simp (disch := omega) only [go_sem]) (by simp (disch := omega) only [go_sem]) (by simp) (by intro _; simp [tupA, AV.pu, AV.pu.puL, Ob.pu, pu_ints]) (.inl ⟨h0, rfl, rfl⟩)
      · refine ⟨⟨by simp, by simp (disch := omega) only [go_sem]⟩, ?_⟩
        simp (disch := omega) only [go_sem]
        refine fin_intro [(0, 620000000)] [.own 1 (ints (lim (a + b) ++ zs))] [] [.ag [.rf 0 0 (lim (a + b)).length]] rfl (by simp (disch := omega) only [go_sem]) (by simp (disch := omega) only [go_sem]) (by simp) (by intro _; simp [tupA, AV.pu, AV.pu.puL, Ob.pu, pu_ints]) (.inr ⟨zs, rfl, rfl⟩)
end Go.Ab
namespace Go.Ab
open Go Go.Proofs
set_option linter.unusedVariables false
set_option linter.unusedSimpArgs false

set_option maxRecDepth 100000 in
theorem con_l2mulL (cl : Bool) (A : List Int) (hA : gd A) (b : Nat) (lA : A.length ≤ 1000000) (lB : (lim b).length ≤ 1000000) (m : Nat) (hm : vl A * (b : Int) = (m : Int)) :
    Con Tryz.prog 153 cl [.ag [.sl A.length (ints A)], .ag [.sl (lim (b)).length (ints (lim (b)))]] [] (natR m) := by
  refine Con.of_aw Tryz.func153 rfl Tryz.ntmps153 (by simp) (by simp) (by simp) (W.sound ?_)
  show @W Tryz.prog 80 ⟨_⟩ ⟨fun x σ => @retW _ _ _ ⟨_⟩ _ ⟨_⟩ x σ⟩ _ _
  have hvb := vl_lim b
  have hB := gd_lim b
  generalize lim b = B at *
  simp (disch := omega) only [go_sem]
  refine ⟨by omega, ?_⟩
  refine loop_intro (fun x : Nat × List Int => [(2, .pt 0 0), (3, .pt 1 0), (4, .pt 2 0), (5, .rf 3 0 (A.length + B.length)), (6, .v (.int .i64 x.1))])
    (fun x => [(0, .own 0 [.sl A.length (ints A)]), (1, .own 0 [.sl B.length (ints B)]), (2, .own 0 [.v (.slice none 0 0)]), (3, .own 1 (ints x.2))])
    (fun x => x.1 ≤ A.length ∧ x.2.length = A.length + B.length ∧ gd x.2 ∧ vl x.2 = vl (A.take x.1) * vl B ∧ ∀ j, x.1 + B.length ≤ j → x.2.getD j 0 = 0)
    (fun x => A.length - x.1) (0, List.replicate (A.length + B.length) 0) ⟨by simp, by simp, gd_replicate _, by simp [vl_replicate, vl], fun j _ => by
      rw [List.getD_eq_getElem?_getD, List.getElem?_replicate]; split <;> rfl⟩
    (Le.lst [(0, 40000000), (1, 50000000), (2, 60000000), (3, 190000000)] _ _ rfl (by simp (disch := omega) only [go_sem]; try omega) (by simp (disch := omega) only [go_sem, show ((A.length : Int) + (B.length : Int)).toNat = A.length + B.length by omega])) ?_
  rintro ⟨i, out⟩ ⟨hi, hol, hog, hov, hoz⟩
  dsimp only at hi hol hog hov hoz ⊢
  simp (disch := omega) only [go_sem]
  refine ifW_dec (fun h1 => ?_) (fun h1 => ?_)
  · have hx := gd_getD hA i
    simp (disch := omega) only [go_sem, h1]
    refine loop_intro (fun x : Nat × List Int × Int => [(2, .pt 0 0), (3, .pt 1 0), (4, .pt 2 0), (5, .rf 3 0 (A.length + B.length)), (6, .v (.int .i64 i)), (7, .v (.int .i64 x.2.2)), (8, .v (.int .i64 x.1))])
      (fun x => [(0, .own 0 [.sl A.length (ints A)]), (1, .own 0 [.sl B.length (ints B)]), (2, .own 0 [.v (.slice none 0 0)]), (3, .own 1 (ints x.2.1))])
      (fun x => x.1 ≤ B.length ∧ x.2.1.length = A.length + B.length ∧ gd x.2.1 ∧ (0 ≤ x.2.2 ∧ x.2.2 < 65536) ∧ vl x.2.1 + 65536 ^ (i + x.1) * x.2.2 = vl out + 65536 ^ i * (A.getD i 0 * vl (B.take x.1)) ∧ ∀ j, i + B.length ≤ j → x.2.1.getD j 0 = 0)
      (fun x => B.length - x.1) (0, out, 0) ⟨by simp, hol, hog, by simp, by simp [vl], hoz⟩
      (Le.lst [] _ _ rfl (by simp (disch := omega) only [go_sem]; try omega) (by simp (disch := omega) only [go_sem])) ?_
    rintro ⟨j, o2, cy⟩ ⟨hj, hol2, hog2, hcy, hov2, hoz2⟩
    dsimp only at hj hol2 hog2 hcy hov2 hoz2 ⊢
    simp (disch := omega) only [go_sem]
    refine ifW_dec (fun h2 => ?_) (fun h2 => ?_)
    · have hy := gd_getD hB j
      have ho := gd_getD hog2 (i + j)
      have hxy := mul_lim hx hy
      have e1 : ((i : Int) + (j : Int)).toNat = i + j := by omega
      simp (disch := omega) only [go_sem, h2]
      refine draw_of rfl [⟨0, [], []⟩, ⟨1, [], []⟩, ⟨2, [], []⟩, ⟨3, [], []⟩, ⟨4, [], []⟩, ⟨5, [], []⟩, ⟨6, [5], []⟩, ⟨7, [5], []⟩, ⟨8, [5, 7], []⟩, ⟨9, [5], []⟩, ⟨10, [5], []⟩, ⟨11, [5, 7, 10], []⟩, ⟨12, [5, 7, 10], []⟩, ⟨13, [5, 7, 10, 12], []⟩, ⟨14, [5, 7, 10], []⟩, ⟨15, [5, 7, 10], []⟩, ⟨16, [5], []⟩, ⟨17, [], []⟩, ⟨18, [5, 7, 10, 12, 15], []⟩, ⟨19, [], []⟩, ⟨20, [], []⟩] (by kernel_rfl) ?_
      simp (disch := omega) only [go_sem, e1]
      generalize hq : o2.getD (i + j) 0 + A.getD i 0 * B.getD j 0 + cy = q
      refine ⟨by omega, by omega, by omega, by omega, by omega, by omega, by omega, by omega, next_intro (j + 1, o2.set (i + j) (q % 65536), q / 65536) [] ⟨by show j + 1 ≤ _; omega, by simp [hol2], gd_set hog2 (by omega), by show 0 ≤ q / 65536 ∧ q / 65536 < 65536; omega, ?_, fun k hk => ?_⟩
        (by show B.length - (j + 1) < B.length - j; omega) rfl (by simp (disch := omega) only [go_sem]; try omega) (by simp (disch := omega) only [go_sem])⟩
      · show vl (o2.set (i + j) (q % 65536)) + 65536 ^ (i + (j + 1)) * (q / 65536) = vl out + 65536 ^ i * (A.getD i 0 * vl (B.take (j + 1)))
        rw [vl_set (by omega), vl_take_succ (by omega), ← Nat.add_assoc, Int.pow_succ]
        have e2 : (65536 : Int) ^ (i + j) = 65536 ^ i * 65536 ^ j := Int.pow_add _ _ _
        have e3 : q % 65536 + 65536 * (q / 65536) = q := Int.emod_add_mul_ediv q 65536
        rw [e2] at hov2 ⊢
        generalize (65536 : Int) ^ i = Pi at *
        generalize (65536 : Int) ^ j = Pj at *
        grind
      · show (o2.set (i + j) (q % 65536)).getD k 0 = 0
        rw [List.getD_eq_getElem?_getD, List.getElem?_set_ne (by omega), ← List.getD_eq_getElem?_getD]
        exact hoz2 k hk
    · simp (disch := omega) only [go_sem, h2]
      have e1 : ((i : Int) + (B.length : Int)).toNat = i + B.length := by omega
      have hjB : j = B.length := by omega
      subst hjB
      rw [List.take_length] at hov2
      have hz := hoz2 (i + B.length) (Nat.le_refl _)
      refine draw_of rfl [⟨0, [], []⟩, ⟨1, [], []⟩, ⟨2, [], []⟩, ⟨3, [], []⟩, ⟨4, [], []⟩, ⟨5, [], []⟩, ⟨6, [3], []⟩, ⟨7, [3], []⟩, ⟨8, [3], []⟩, ⟨9, [3], []⟩, ⟨10, [3], []⟩, ⟨11, [3], []⟩, ⟨12, [3], []⟩, ⟨13, [3], []⟩, ⟨14, [3, 9, 13], []⟩, ⟨15, [3], []⟩, ⟨16, [], []⟩, ⟨17, [], []⟩] (by kernel_rfl) ?_
      simp (disch := omega) only [go_sem, e1, hz]
      have e0 : (0 : Int) + cy = cy := by omega
      refine ⟨by omega, by omega, by omega, by omega, next_intro (i + 1, o2.set (i + B.length) cy) [] ⟨by show i + 1 ≤ _; omega, by simp [hol2], gd_set hog2 hcy, ?_, fun k hk => ?_⟩ (by show A.length - (i + 1) < A.length - i; omega) rfl (by simp (disch := omega) only [go_sem]; try omega) (by simp (disch := omega) only [go_sem, e0])⟩
      · show vl (o2.set (i + B.length) cy) = vl (A.take (i + 1)) * vl B
        rw [vl_set (by omega), hz, vl_take_succ (by omega)]
        generalize (65536 : Int) ^ i = Pi at *
        grind
      · show (o2.set (i + B.length) cy).getD k 0 = 0
        rw [List.getD_eq_getElem?_getD, List.getElem?_set_ne (by show i + B.length ≠ k; omega), ← List.getD_eq_getElem?_getD]
        exact hoz2 k (by omega)
  · simp (disch := omega) only [go_sem, h1]
    have hiA : i = A.length := by omega
    subst hiA
    rw [List.take_length, hvb, hm] at hov
    rw [← hol]
    refine call_closed (con_l2norm true (out) (m) (by omega) (hog) (hov)) (by simp (disch := omega) only [go_sem]) ?_
    rintro r hs (⟨h0, rfl, rfl⟩ | ⟨zs, rfl, rfl⟩)
    · refine ⟨⟨by simp, by simp (disch := omega) only [go_sem]⟩, ?_⟩
      simp (disch := omega) only [go_sem]
      refine fin_intro [] [] [] [.ag [.v (.slice none 0 0)]] rfl (by simp (disch := omega) only [go_sem]) (by simp (disch := omega) only [go_sem]) (by simp) (by intro _; simp [tupA, AV.pu, AV.pu.puL, Ob.pu, pu_ints]) (.inl ⟨h0, rfl, rfl⟩)
    · refine ⟨⟨by simp, by simp (disch := omega) only [go_sem]⟩, ?_⟩
      simp (disch := omega) only [go_sem]
      refine fin_intro [(0, 810000000)] [.own 1 (ints (lim (m) ++ zs))] [] [.ag [.rf 0 0 (lim (m)).length]] rfl (by simp (disch := omega) only [go_sem]) (by simp (disch := omega) only [go_sem]) (by simp) (by intro _; simp [tupA, AV.pu, AV.pu.puL, Ob.pu, pu_ints]) (.inr ⟨zs, rfl, rfl⟩)

theorem con_l2mul (cl : Bool) (a b : Nat) (la : (lim a).length ≤ 1000000) (lb : (lim b).length ≤ 1000000) : Con Tryz.prog 153 cl [.ag [.sl (lim (a)).length (ints (lim (a)))], .ag [.sl (lim (b)).length (ints (lim (b)))]] [] (natR (a * b)) :=
  con_l2mulL cl (lim a) (gd_lim a) b la lb (a * b) (by rw [vl_lim, Int.natCast_mul])
end Go.Ab
namespace Go.Ab
open Go Go.Proofs
set_option linter.unusedVariables false
set_option linter.unusedSimpArgs false

/-- A quotient by a small number, and the rest. -/
def natR2 (m : Nat) (r0 : Int) : AV → List Ob → List Ob → Prop := fun r hs bs =>
  (m = 0 ∧ r = .tu [.ag [.v (.slice none 0 0)], .v (.int .i64 r0)] ∧ hs = []) ∨ ∃ zs, r = .tu [.ag [.rf 0 0 (lim m).length], .v (.int .i64 r0)] ∧ hs = [.own 1 (ints (lim m ++ zs))]

theorem Con.natF2 {P : Program} {f : FuncId} {args : List AV} {m : Nat} {r0 : Int} (h : Con P f false args [] (natR2 m r0)) : Con P f false args [] (isA (.tu [.ag [.sl (lim (m)).length (ints (lim (m)))], .v (.int .i64 r0)])) :=
  Con.frzA <| h.mono fun r hs bs h => by
    rcases h with ⟨rfl, rfl, rfl⟩ | ⟨zs, rfl, rfl⟩
    · show snap _ 6 _ = _
      rw [lim_zero]; rfl
    · show snap _ 6 _ = _
      rw [snap_tu, List.map_cons, List.map_cons, List.map_nil, snap_ag, List.map_cons, List.map_nil, snap_num (k := 2) (l := lim m) (zs := zs) rhp_zero rfl]
      rfl

theorem con_l2smallL (cl : Bool) (A : List Int) (d : Nat) (hA : gd A) (lA : A.length ≤ 1000000) (hd : 0 < d) (hd2 : d < 65536) (m : Nat) (hm : vl A / (d : Int) = (m : Int)) :
    Con Tryz.prog 128 cl [.ag [.sl A.length (ints A)], .v (.int .i64 d)] [] (natR2 m (vl A % d)) := by
  refine Con.of_aw Tryz.func128 rfl Tryz.ntmps128 (by simp) (by simp) (by simp) (W.sound ?_)
  show @W Tryz.prog 42 ⟨_⟩ ⟨fun x σ => @retW _ _ _ ⟨_⟩ _ ⟨_⟩ x σ⟩ _ _
  simp (disch := omega) only [go_sem]
  refine ⟨by omega, ?_⟩
  refine loop_intro (fun x : Nat × List Int × Int => [(1, .v (.int .i64 d)), (2, .pt 0 0), (4, .pt 1 0), (6, .rf 2 0 A.length), (7, .v (.int .i64 x.2.2)), (8, .v (.int .i64 ((x.1 : Int) - 1)))])
    (fun x => [(0, .own 0 [.sl A.length (ints A)]), (1, .own 0 [.v (.slice none 0 0)]), (2, .own 1 (ints x.2.1))])
    (fun x => x.1 ≤ A.length ∧ x.2.1.length = A.length ∧ gd x.2.1 ∧ x.2.2 = vl (A.drop x.1) % d ∧ vl (x.2.1.drop x.1) = vl (A.drop x.1) / d)
    (fun x => x.1) (A.length, List.replicate A.length 0, 0) ⟨Nat.le_refl _, by simp, gd_replicate _, by simp [vl], by simp [vl]⟩
    (Le.lst [(0, 40000000), (1, 60000000), (2, 150000000)] _ _ rfl (by simp (disch := omega) only [go_sem, List.length_replicate]; try omega) (by simp (disch := omega) only [go_sem])) ?_
  rintro ⟨k, out, rest⟩ ⟨hk, hol, hog, hr, hov⟩
  dsimp only at hk hol hog hr hov ⊢
  have hr0 : 0 ≤ rest ∧ rest < d := by rw [hr]; exact ⟨Int.emod_nonneg _ (by omega), Int.emod_lt_of_pos _ (by omega)⟩
  simp (disch := omega) only [go_sem]
  refine ifW_dec (fun h1 => ?_) (fun h1 => ?_)
  · obtain ⟨i, rfl⟩ : ∃ i, k = i + 1 := ⟨k - 1, by omega⟩
    have ei : ((i + 1 : Nat) : Int) - 1 = (i : Nat) := by omega
    have hx := gd_getD hA i
    have hq6 : 0 ≤ (rest * 65536 + A.getD i 0) / d ∧ (rest * 65536 + A.getD i 0) / d < 65536 := by
      refine ⟨Int.ediv_nonneg (by omega) (by omega), Int.ediv_lt_of_lt_mul (by omega) ?_⟩
      have : rest + 1 ≤ (d : Int) := by omega
      have := Int.mul_le_mul_of_nonneg_left this (show (0 : Int) ≤ 65536 by omega)
      omega
    simp (disch := omega) only [go_sem, h1, ei]
    generalize hq : rest * 65536 + A.getD i 0 = q at *
    refine ⟨by omega, by omega, by omega, by omega, by omega, by omega, next_intro (i, out.set i (q / d), q % d) [] ⟨by show i ≤ _; omega, by simp [hol], gd_set hog hq6, ?_, ?_⟩ (by show i < i + 1; omega) rfl (by simp (disch := omega) only [go_sem]; try omega) (by simp (disch := omega) only [go_sem])⟩
    · show q % d = vl (A.drop i) % d
      rw [vl_drop (l := A) (i := i) (by omega), ← hq, hr]
      have h3 := Int.emod_add_mul_ediv (vl (A.drop (i + 1))) d
      rw [show A.getD i 0 + 65536 * vl (A.drop (i + 1)) = vl (A.drop (i + 1)) % d * 65536 + A.getD i 0 + d * (65536 * (vl (A.drop (i + 1)) / d)) by grind, Int.add_mul_emod_self_left]
    · show vl ((out.set i (q / d)).drop i) = vl (A.drop i) / d
      rw [drop_set (by omega), vl, hov, vl_drop (l := A) (i := i) (by omega), ← hq, hr]
      have h3 := Int.emod_add_mul_ediv (vl (A.drop (i + 1))) d
      rw [show A.getD i 0 + 65536 * vl (A.drop (i + 1)) = vl (A.drop (i + 1)) % d * 65536 + A.getD i 0 + d * (65536 * (vl (A.drop (i + 1)) / d)) by grind, Int.add_mul_ediv_left _ _ (by omega)]
  · simp (disch := omega) only [go_sem, h1]
    have : k = 0 := by omega
    subst this
    rw [List.drop_zero, List.drop_zero, hm] at hov
    rw [List.drop_zero] at hr
    rw [← hol]
    refine call_closed (con_l2norm true out m (by omega) hog hov) (by simp (disch := omega) only [go_sem]) ?_
    rintro r hs (⟨h0, rfl, rfl⟩ | ⟨zs, rfl, rfl⟩)
    · refine ⟨⟨by simp, by simp (disch := omega) only [go_sem]⟩, ?_⟩
      simp (disch := omega) only [go_sem]
      rw [hr]
      refine fin_intro [] [] [] [.ag [.v (.slice none 0 0)], .v (.int .i64 (vl A % d))] rfl (by simp (disch := omega) only [go_sem]) (by simp (disch := omega) only [go_sem]) (by simp) (by intro _; simp [tupA, AV.pu, AV.pu.puL, Ob.pu, pu_ints]) (.inl ⟨h0, rfl, rfl⟩)
    · refine ⟨⟨by simp, by simp (disch := omega) only [go_sem]⟩, ?_⟩
      simp (disch := omega) only [go_sem]
      rw [hr]
      refine fin_intro [(0, 420000000)] [.own 1 (ints (lim m ++ zs))] [] [.ag [.rf 0 0 (lim m).length], .v (.int .i64 (vl A % d))] rfl (by simp (disch := omega) only [go_sem]) (by simp (disch := omega) only [go_sem]) (by simp) (by intro _; simp [tupA, AV.pu, AV.pu.puL, Ob.pu, pu_ints]) (.inr ⟨zs, rfl, rfl⟩)

/-! ### Shifts -/
theorem shl_one {k : Nat} (hk : k < 16) : IntKind.i64.wrap (1 * 2 ^ (min ((k : Int)).toNat 64)) = ((2 ^ k : Nat) : Int) := by
  have e : min ((k : Int)).toNat 64 = k := by omega
  rw [e, Int.one_mul]
  have h := pow_le_15 k hk
  rw [wrap_id (by omega) (by omega), Int.natCast_pow]; rfl

theorem con_l2shl (cl : Bool) (a k : Nat) (la : (lim a).length ≤ 400000) (hk : k ≤ 5000000) : Con Tryz.prog 134 cl [.ag [.sl (lim (a)).length (ints (lim (a)))], .v (.int .i64 k)] [] (natR (a * 2 ^ k)) := by
  refine Con.of_aw Tryz.func134 rfl Tryz.ntmps134 (by simp) (by simp) (by simp) (W.sound ?_)
  show @W Tryz.prog 22 ⟨_⟩ ⟨fun x σ => @retW _ _ _ ⟨_⟩ _ ⟨_⟩ x σ⟩ _ _
  have hz : ((lim a).length : Int) = 0 → a = 0 := fun h => lim_eq_nil.1 (List.length_eq_zero_iff.1 (by omega))
  have hvA := vl_lim a
  have gA := gd_lim a
  generalize hLA : lim a = A at *
  simp (disch := omega) only [go_sem]
  refine ifW_dec (fun h1 => ?_) (fun h1 => ?_)
  · simp (disch := omega) only [go_sem, h1]
    have h0 := hz h1
    subst h0
    refine fin_intro [] [] [] [.ag [.v (.slice none 0 0)]] rfl (by simp (disch := omega) only [go_sem]) (by simp (disch := omega) only [go_sem]) (by simp) (by intro _; simp [tupA, AV.pu, AV.pu.puL, Ob.pu, pu_ints]) (.inl ⟨by simp, rfl, rfl⟩)
  · simp (disch := omega) only [go_sem, h1]
    refine draw_of rfl [⟨0, [], []⟩, ⟨1, [], []⟩, ⟨3, [], []⟩, ⟨4, [], []⟩, ⟨7, [4], []⟩, ⟨8, [4], []⟩, ⟨9, [4], []⟩, ⟨2, [4], []⟩, ⟨5, [], []⟩, ⟨6, [], []⟩, ⟨10, [], []⟩, ⟨11, [], []⟩, ⟨12, [], []⟩] (by kernel_rfl) ?_
    have e16 : ((k : Int) / 16).toNat = k / 16 := by omega
    have e17 : (k : Int) % 16 = ((k % 16 : Nat) : Int) := by omega
    have es : IntKind.i64.wrap (1 * 2 ^ (min ((k : Int) % 16).toNat 64)) = ((2 ^ (k % 16) : Nat) : Int) := by rw [e17]; exact shl_one (by omega)
    have hp15 : 2 ^ (k % 16) ≤ 2 ^ 15 := Nat.pow_le_pow_right (by omega) (by omega)
    have ecut : (List.replicate (k / 16) (0 : Int)).take (k / 16) = List.replicate (k / 16) 0 := List.take_of_length_le (by simp)
    simp (disch := omega) only [go_sem, e16, ecut, es]
    refine ⟨by omega, by omega, by simp; omega, ?_⟩
    refine call_open ((con_l2of false (2 ^ (k % 16)) (by omega)).natF) (by simp (disch := omega) only [go_sem]) ?_
    rintro r hs ⟨rfl, rfl, _⟩
    refine ⟨by simp [freeN], ?_⟩
    simp (disch := omega) only [go_sem]
    have hvA2 : vl (List.replicate (k / 16) 0 ++ A) * ((2 ^ (k % 16) : Nat) : Int) = ((a * 2 ^ k : Nat) : Int) := by
      rw [vl_append, vl_replicate, hvA, List.length_replicate]
      have h2 : a * 2 ^ k = 65536 ^ (k / 16) * a * 2 ^ (k % 16) := by
        have : 2 ^ k = 65536 ^ (k / 16) * 2 ^ (k % 16) := by rw [pow16, ← Nat.pow_add, Nat.div_add_mod]
        rw [this]; grind
      rw [h2, Int.natCast_mul, Int.natCast_mul, Int.natCast_pow]
      simp
    have gA2 : gd (List.replicate (k / 16) 0 ++ A) := gd_append.2 ⟨gd_replicate _, gA⟩
    have lA2 : (List.replicate (k / 16) (0 : Int) ++ A).length = k / 16 + A.length := by simp
    have et : (List.replicate (k / 16) (0 : Int) ++ A).take (k / 16 + A.length) = List.replicate (k / 16) 0 ++ A := List.take_of_length_le (by simp)
    have l2s : (lim (2 ^ (k % 16))).length ≤ 1000000 := by
      have := len_bl (m := 2 ^ (k % 16)) (B := 16) (bl_le.2 (by omega)); omega
    refine call_closed (con_l2mulL true (List.replicate (k / 16) 0 ++ A) gA2 (2 ^ (k % 16)) (by omega) l2s (a * 2 ^ k) hvA2) (by simp (disch := omega) only [go_sem, lA2, et]) ?_
    rintro r hs (⟨h0, rfl, rfl⟩ | ⟨zs, rfl, rfl⟩)
    · refine ⟨⟨by simp, by simp (disch := omega) only [go_sem]⟩, ?_⟩
      simp (disch := omega) only [go_sem]
      refine fin_intro [] [] [] [.ag [.v (.slice none 0 0)]] rfl (by simp (disch := omega) only [go_sem]) (by simp (disch := omega) only [go_sem]) (by simp) (by intro _; simp [tupA, AV.pu, AV.pu.puL, Ob.pu, pu_ints]) (.inl ⟨h0, rfl, rfl⟩)
    · refine ⟨⟨by simp, by simp (disch := omega) only [go_sem]⟩, ?_⟩
      simp (disch := omega) only [go_sem]
      refine fin_intro [(0, 230000000)] [.own 1 (ints (lim (a * 2 ^ k) ++ zs))] [] [.ag [.rf 0 0 (lim (a * 2 ^ k)).length]] rfl (by simp (disch := omega) only [go_sem]) (by simp (disch := omega) only [go_sem]) (by simp) (by intro _; simp [tupA, AV.pu, AV.pu.puL, Ob.pu, pu_ints]) (.inr ⟨zs, rfl, rfl⟩)
end Go.Ab
namespace Go.Ab
open Go Go.Proofs
set_option linter.unusedVariables false
set_option linter.unusedSimpArgs false

theorem con_l2shr (a k : Nat) (la : (lim a).length ≤ 1000000) (hk : k ≤ 100000000) : Con Tryz.prog 97 false [.ag [.sl (lim (a)).length (ints (lim (a)))], .v (.int .i64 k)] [] (isA (.ag [.sl (lim (a / 2 ^ k)).length (ints (lim (a / 2 ^ k)))])) := by
  refine Con.frzA ?_
  refine Con.of_aw Tryz.func97 rfl Tryz.ntmps97 (by simp) (by simp) (by simp) (W.sound ?_)
  show @W Tryz.prog 28 ⟨_⟩ ⟨fun x σ => @retW _ _ _ ⟨_⟩ _ ⟨_⟩ x σ⟩ _ _
  simp (disch := omega) only [go_sem]
  refine ifW_dec (fun h1 => ?_) (fun h1 => ?_)
  · simp (disch := omega) only [go_sem, h1]
    have h0 : a / 2 ^ k = 0 := by
      refine Nat.div_eq_of_lt (Nat.lt_of_lt_of_le (lim_lt a) ?_)
      rw [pow16]; exact Nat.pow_le_pow_right (by omega) (by omega)
    rw [h0, lim_zero]
    refine fin_val (by simp (disch := omega) only [go_sem]) ?_
    show snap _ 6 _ = _
    simp (disch := omega) only [go_sem]
  · simp (disch := omega) only [go_sem, h1]
    refine draw_of rfl [⟨0, [], []⟩, ⟨1, [], []⟩, ⟨2, [1], []⟩, ⟨3, [1], []⟩, ⟨4, [], []⟩, ⟨5, [], []⟩, ⟨6, [1, 4], []⟩, ⟨7, [1, 4], []⟩, ⟨8, [1, 4], []⟩, ⟨13, [1, 4], []⟩, ⟨9, [], [70000000]⟩, ⟨10, [], [70000000]⟩, ⟨11, [], [70000000]⟩, ⟨12, [], [70000000]⟩, ⟨14, [], []⟩, ⟨15, [], []⟩] (by kernel_rfl) ?_
    have e16 : ((k : Int) / 16).toNat = k / 16 := by omega
    have e17 : (k : Int) % 16 = ((k % 16 : Nat) : Int) := by omega
    have e18 : (((lim a).length : Int) - (k : Int) / 16).toNat = ((lim a).drop (k / 16)).length := by simp; omega
    have es : IntKind.i64.wrap (1 * 2 ^ (min ((k : Int) % 16).toNat 64)) = ((2 ^ (k % 16) : Nat) : Int) := by rw [e17]; exact shl_one (by omega)
    have hp15 : 2 ^ (k % 16) ≤ 2 ^ 15 := Nat.pow_le_pow_right (by omega) (by omega)
    have hp0 : 0 < 2 ^ (k % 16) := Nat.pow_pos (by omega)
    have hvD := vl_div (gd_lim a) (i := k / 16) (by omega)
    have gD := gd_drop (gd_lim a) (k / 16)
    have hlD : ((lim a).drop (k / 16)).length ≤ 1000000 := by simp; omega
    have hm : vl ((lim a).drop (k / 16)) / ((2 ^ (k % 16) : Nat) : Int) = ((a / 2 ^ k : Nat) : Int) := by
      rw [← hvD, vl_lim]
      have : a / 2 ^ k = a / 65536 ^ (k / 16) / 2 ^ (k % 16) := by rw [Nat.div_div_eq_div_mul, pow16, ← Nat.pow_add, Nat.div_add_mod]
      rw [this, Int.natCast_ediv, Int.natCast_ediv, Int.natCast_pow 65536]; rfl
    have et : ((lim a).drop (k / 16)).take ((lim a).drop (k / 16)).length = (lim a).drop (k / 16) := List.take_length
    simp (disch := omega) only [go_sem, e16, e18, et, es]
    generalize (lim a).drop (k / 16) = D at *
    refine ⟨by omega, by omega, ?_⟩
    refine call_open ((con_l2smallL false D (2 ^ (k % 16)) gD hlD hp0 (by omega) (a / 2 ^ k) hm).natF2) (by simp (disch := omega) only [go_sem]) ?_
    rintro r hs ⟨rfl, rfl, _⟩
    refine ⟨by simp [freeN], ?_⟩
    simp (disch := omega) only [go_sem]
    refine fin_val (by simp (disch := omega) only [go_sem]) ?_
    show snap _ 6 _ = _
    simp (disch := omega) only [go_sem]

theorem con_l2bits (a : Nat) (la : (lim a).length ≤ 2 ^ 40) : Con Tryz.prog 156 true [.ag [.sl (lim (a)).length (ints (lim (a)))]] [] (isA (.v (.int .i64 (bl a)))) := by
  refine Con.of_aw Tryz.func156 rfl Tryz.ntmps156 (by simp) (by simp) (by simp) (W.sound ?_)
  show @W Tryz.prog 29 ⟨_⟩ ⟨fun x σ => @retW _ _ _ ⟨_⟩ _ ⟨_⟩ x σ⟩ _ _
  simp (disch := omega) only [go_sem]
  refine ifW_dec (fun h1 => ?_) (fun h1 => ?_)
  · simp (disch := omega) only [go_sem, h1]
    have : a = 0 := lim_eq_nil.1 (List.length_eq_zero_iff.1 (by omega))
    subst this
    rw [bl_zero]
    exact fin_valc (by simp (disch := omega) only [go_sem]) (by simp (disch := omega) only [go_sem]) isA_mk
  · have hm : a ≠ 0 := fun e => by rw [e, lim_zero] at h1; simp at h1
    have e2 : (((lim a).length : Int) - 1).toNat = (lim a).length - 1 := by omega
    have ht := len_top hm
    have hb := bl_lim hm
    have eq : (lim a).getD ((lim a).length - 1) 0 = ((a / 65536 ^ ((lim a).length - 1) : Nat) : Int) := by rw [lim_get, Nat.mod_eq_of_lt ht.2]
    generalize a / 65536 ^ ((lim a).length - 1) = q at *
    simp (disch := omega) only [go_sem, h1, e2, eq]
    refine ⟨by omega, by omega, ?_⟩
    refine loop_intro (fun x : Nat × Nat => [(3, .v (.int .i64 x.1)), (4, .v (.int .i64 x.2))]) (fun _ => []) (fun x => x.1 + bl x.2 = bl a ∧ x.2 < 65536 ∧ x.1 ≤ 2 ^ 45) (fun x => x.2) (16 * ((lim a).length - 1), q) ⟨hb.symm, ht.2, by show 16 * ((lim a).length - 1) ≤ 2 ^ 45; omega⟩ (Le.lst [] _ _ rfl (by simp (disch := omega) only [go_sem]; try omega) (by simp (disch := omega) only [go_sem])) ?_
    rintro ⟨n, x⟩ ⟨hn, hx, hn2⟩
    dsimp only at hn hx hn2 ⊢
    simp (disch := omega) only [go_sem]
    refine ifW_dec (fun h2 => ?_) (fun h2 => ?_)
    · simp (disch := omega) only [go_sem, h2]
      have hd := bl_dbl (x := x) (by omega)
      have hp := bl_le.2 (show x < 2 ^ 16 by omega)
      refine next_intro (n + 1, x / 2) [] ⟨by show n + 1 + bl (x / 2) = bl a; omega, by show x / 2 < 65536; omega, ?_⟩ (by show x / 2 < x; omega) rfl (by simp (disch := omega) only [go_sem]; try omega) (by simp (disch := omega) only [go_sem])
      show n + 1 ≤ 2 ^ 45
      have := bl_len (m := a)
      omega
    · simp (disch := omega) only [go_sem, h2]
      have : x = 0 := by omega
      subst this
      rw [bl_zero] at hn
      refine fin_valc (by simp (disch := omega) only [go_sem]) (by simp (disch := omega) only [go_sem]) ⟨?_, rfl, rfl⟩
      simp [tupA]; omega

theorem con_l2bit (m : Nat) (i : Int) (hl : (lim m).length ≤ 2 ^ 40) (hi : 0 ≤ i) (hi2 : i < 2 ^ 62) : Con Tryz.prog 105 true [.ag [.sl (lim (m)).length (ints (lim (m)))], .v (.int .i64 i)] [] (isA (.v (.int .i64 ((m / 2 ^ i.toNat % 2 : Nat) : Int)))) := by
  refine Con.of_aw Tryz.func105 rfl Tryz.ntmps105 (by simp) (by simp) (by simp) (W.sound ?_)
  show @W Tryz.prog 25 ⟨_⟩ ⟨fun x σ => @retW _ _ _ ⟨_⟩ _ ⟨_⟩ x σ⟩ _ _
  obtain ⟨k, rfl⟩ := Int.eq_ofNat_of_zero_le hi
  rw [Int.toNat_natCast]
  have h0 : ¬ ((k : Int) < 0) := by omega
  have e16 : ((k : Int) / 16).toNat = k / 16 := by omega
  have em : min ((k : Int) % 16).toNat 64 = k % 16 := by omega
  have hb := bit_div m k
  simp (disch := omega) only [go_sem, h0]
  refine ifW_dec (fun h1 => ?_) (fun h1 => ?_)
  · simp (disch := omega) only [go_sem, h1]
    have : m / 2 ^ k % 2 = 0 := by
      rw [← hb]
      have h2 := lim_get m (k / 16)
      rw [List.getD_eq_getElem?_getD, List.getElem?_eq_none (by omega)] at h2
      have h3 : m / 65536 ^ (k / 16) % 65536 = 0 := by simp only [Option.getD_none] at h2; omega
      rw [h3]; simp
    rw [this]
    exact fin_valc (by simp (disch := omega) only [go_sem]) (by simp (disch := omega) only [go_sem]) isA_mk
  · have hx := gd_getD (gd_lim m) (k / 16)
    have hp : (0 : Int) < 2 ^ (k % 16) := Int.pow_pos (by omega)
    have efd : ∀ x : Int, x.fdiv (2 ^ (k % 16)) = x / 2 ^ (k % 16) := fun x => Int.fdiv_eq_ediv_of_nonneg _ (Int.le_of_lt hp)
    have hq : 0 ≤ (lim m).getD (k / 16) 0 / 2 ^ (k % 16) ∧ (lim m).getD (k / 16) 0 / 2 ^ (k % 16) < 65536 := by
      refine ⟨Int.ediv_nonneg hx.1 (Int.le_of_lt hp), Int.lt_of_le_of_lt (Int.ediv_le_self _ hx.1) hx.2⟩
    have hr : (lim m).getD (k / 16) 0 / 2 ^ (k % 16) % 2 = ((m / 2 ^ k % 2 : Nat) : Int) := by
      rw [← hb, lim_get]
      generalize m / 65536 ^ (k / 16) % 65536 = x
      rw [Int.natCast_emod, Int.natCast_ediv, Int.natCast_pow]; rfl
    simp (disch := omega) only [go_sem, h1, e16, em, efd, hr]
    refine ⟨by omega, by omega, by omega, ?_⟩
    exact fin_valc (by simp (disch := omega) only [go_sem]) (by simp (disch := omega) only [go_sem]) isA_mk

theorem tz_first {m i : Nat} (hz : ∀ j, j < i → m / 2 ^ j % 2 = 0) (h1 : m / 2 ^ i % 2 = 1) : tz m = i := by
  have key : ∀ k, k ≤ i → 2 ^ k * (m / 2 ^ k) = m := by
    intro k
    induction k with
    | zero => intro _; simp
    | succ k ih =>
      intro hk
      have h2 := ih (by omega)
      have h3 := hz k (by omega)
      have h4 : m / 2 ^ (k + 1) = m / 2 ^ k / 2 := by rw [Nat.pow_succ, Nat.div_div_eq_div_mul]
      rw [h4, Nat.pow_succ, Nat.mul_assoc, show 2 * (m / 2 ^ k / 2) = m / 2 ^ k by omega]; exact h2
  refine tz_uniq (a := m / 2 ^ i / 2) ?_
  have := key i (Nat.le_refl _)
  rw [show 2 * (m / 2 ^ i / 2) + 1 = m / 2 ^ i by omega]; exact this.symm

theorem con_l2trail (m : Nat) (hl : (lim m).length ≤ 2 ^ 40) : Con Tryz.prog 96 true [.ag [.sl (lim (m)).length (ints (lim (m)))]] [] (isA (.v (.int .i64 (tz m)))) := by
  refine Con.of_aw Tryz.func96 rfl Tryz.ntmps96 (by simp) (by simp) (by simp) (W.sound ?_)
  show @W Tryz.prog 17 ⟨_⟩ ⟨fun x σ => @retW _ _ _ ⟨_⟩ _ ⟨_⟩ x σ⟩ _ _
  simp (disch := omega) only [go_sem]
  refine loop_intro (fun i : Nat => [(1, .pt 0 0), (3, .v (.int .i64 i))]) (fun _ => [(0, .own 0 [.sl (lim (m)).length (ints (lim (m)))])]) (fun i => i ≤ 16 * (lim m).length ∧ ∀ j, j < i → m / 2 ^ j % 2 = 0) (fun i => 16 * (lim m).length - i) 0 ⟨by omega, fun j hj => by omega⟩ (Le.lst [(0, 30000000)] _ _ rfl (by simp (disch := omega) only [go_sem]; try omega) (by simp (disch := omega) only [go_sem])) ?_
  rintro i ⟨hi, hz⟩
  simp (disch := omega) only [go_sem]
  refine ifW_dec (fun h1 => ?_) (fun h1 => ?_)
  · simp (disch := omega) only [go_sem, h1]
    refine call_closed (con_l2bit m i hl (by omega) (by omega)) (by simp (disch := omega) only [go_sem]) ?_
    rintro r hs ⟨rfl, rfl, _⟩
    refine ⟨by simp [freeN], ?_⟩
    simp (disch := omega) only [go_sem]
    refine ifW_dec (fun h2 => ?_) (fun h2 => ?_)
    · simp (disch := omega) only [go_sem, h2]
      have := tz_first hz (by omega)
      rw [this]
      exact fin_valc (by simp (disch := omega) only [go_sem]) (by simp (disch := omega) only [go_sem]) isA_mk
    · simp (disch := omega) only [go_sem, h2]
      refine next_intro (i + 1) [] ⟨by omega, fun j hj => ?_⟩ (by show 16 * (lim m).length - (i + 1) < 16 * (lim m).length - i; omega) rfl (by simp (disch := omega) only [go_sem]; try omega) (by simp (disch := omega) only [go_sem])
      rcases (by omega : j < i ∨ j = i) with h | h
      · exact hz j h
      · subst h; omega
  · simp (disch := omega) only [go_sem, h1]
    have hm : m = 0 := by
      have h3 := bl_len (m := m)
      rcases Nat.eq_zero_or_pos m with h | h
      · exact h
      · have h4 := tz_lt_bl (n := m) (by omega)
        have h5 := (odd_part (n := m) (by omega)).1
        have := hz (tz m) (by omega)
        omega
    subst hm
    rw [tz_zero]
    exact fin_valc (by simp (disch := omega) only [go_sem]) (by simp (disch := omega) only [go_sem]) isA_mk

theorem con_l2int (m : Nat) (hm : m < 2 ^ 63) : Con Tryz.prog 145 true [.ag [.sl (lim (m)).length (ints (lim (m)))]] [] (isA (.v (.int .i64 m))) := by
  refine Con.of_aw Tryz.func145 rfl Tryz.ntmps145 (by simp) (by simp) (by simp) (W.sound ?_)
  show @W Tryz.prog 22 ⟨_⟩ ⟨fun x σ => @retW _ _ _ ⟨_⟩ _ ⟨_⟩ x σ⟩ _ _
  simp (disch := omega) only [go_sem]
  have hl : (lim m).length ≤ 4 := lim_len.2 (by omega)
  have hb : ∀ i, i ≤ (lim m).length → 0 ≤ vl ((lim m).drop i) ∧ vl ((lim m).drop i) < 2 ^ 63 := fun i hi => by
    have h1 := vl_nonneg (gd_drop (gd_lim m) i)
    have h2 := vl_take_drop (lim m) i hi
    have h3 := vl_nonneg (gd_take (gd_lim m) i)
    have hp : (0 : Int) < 65536 ^ i := Int.pow_pos (by omega)
    rw [vl_lim] at h2
    have h4 := Int.mul_le_mul_of_nonneg_right (show (1 : Int) ≤ 65536 ^ i by omega) h1
    omega
  refine loop_intro (fun k : Nat => [(1, .pt 0 0), (3, .v (.int .i64 (vl ((lim m).drop k)))), (4, .v (.int .i64 ((k : Int) - 1)))]) (fun _ => [(0, .own 0 [.sl (lim (m)).length (ints (lim (m)))])]) (fun k => k ≤ (lim m).length) (fun k => k) (lim m).length (Nat.le_refl _) (Le.lst [(0, 30000000)] _ _ rfl (by simp (disch := omega) only [go_sem, List.drop_length, vl]; try omega) (by simp (disch := omega) only [go_sem])) ?_
  intro k hk
  have hbk := hb k hk
  simp (disch := omega) only [go_sem]
  refine ifW_dec (fun h1 => ?_) (fun h1 => ?_)
  · obtain ⟨i, rfl⟩ : ∃ i, k = i + 1 := ⟨k - 1, by omega⟩
    have ei : ((i + 1 : Nat) : Int) - 1 = (i : Nat) := by omega
    have hx := gd_getD (gd_lim m) i
    have hbi := hb i (by omega)
    have hd := vl_drop (l := lim m) (i := i) (by omega)
    have e2 : vl ((lim m).drop (i + 1)) * 65536 + (lim m).getD i 0 = vl ((lim m).drop i) := by omega
    simp (disch := omega) only [go_sem, h1, ei, e2]
    refine ⟨by omega, by omega, next_intro i [] (by show i ≤ _; omega) (by show i < i + 1; omega) rfl (by simp (disch := omega) only [go_sem]; try omega) (by simp (disch := omega) only [go_sem])⟩
  · have : k = 0 := by omega
    subst this
    have e2 : vl ((lim m).drop 0) = (m : Int) := by rw [List.drop_zero, vl_lim]
    simp (disch := omega) only [go_sem, h1, e2]
    exact fin_valc (by simp (disch := omega) only [go_sem]) (by simp (disch := omega) only [go_sem]) ⟨by simp [tupA, vl_lim], rfl, rfl⟩
end Go.Ab
namespace Go.Ab
open Go Go.Proofs
set_option linter.unusedVariables false
set_option linter.unusedSimpArgs false

theorem lenpos (m : Nat) : decide ((0 : Int) < ((lim m).length : Int)) = decide (m ≠ 0) := by
  rw [decide_eq_decide]
  exact ⟨fun h e => by rw [e, lim_zero] at h; simp at h, fun h => by have := lim_ne h; omega⟩
theorem con_l2normF (m : Nat) (hl : (lim m).length ≤ 2 ^ 39) : Con Tryz.prog 124 false [.sl (lim (m)).length (ints (lim (m)))] [] (isA (.ag [.sl (lim (m)).length (ints (lim (m)))])) := (con_l2norm false (lim m) m hl (gd_lim m) (vl_lim m)).natF
theorem con_l2ofF (n : Nat) (hn : n < 2 ^ 63) : Con Tryz.prog 91 false [.v (.int .i64 n)] [] (isA (.ag [.sl (lim (n)).length (ints (lim (n)))])) := (con_l2of false n hn).natF
theorem con_l2addF (a b : Nat) (la : (lim a).length ≤ 2000000) (lb : (lim b).length ≤ 2000000) : Con Tryz.prog 90 false [.ag [.sl (lim (a)).length (ints (lim (a)))], .ag [.sl (lim (b)).length (ints (lim (b)))]] [] (isA (.ag [.sl (lim (a + b)).length (ints (lim (a + b)))])) := (con_l2add false a b la lb).natF
theorem con_l2mulF (a b : Nat) (la : (lim a).length ≤ 1000000) (lb : (lim b).length ≤ 1000000) : Con Tryz.prog 153 false [.ag [.sl (lim (a)).length (ints (lim (a)))], .ag [.sl (lim (b)).length (ints (lim (b)))]] [] (isA (.ag [.sl (lim (a * b)).length (ints (lim (a * b)))])) := (con_l2mul false a b la lb).natF
theorem con_l2shlF (a k : Nat) (la : (lim a).length ≤ 400000) (hk : k ≤ 5000000) : Con Tryz.prog 134 false [.ag [.sl (lim (a)).length (ints (lim (a)))], .v (.int .i64 k)] [] (isA (.ag [.sl (lim (a * 2 ^ k)).length (ints (lim (a * 2 ^ k)))])) := (con_l2shl false a k la hk).natF

theorem con_l3make (s : Bool) (m : Nat) (hl : (lim m).length ≤ 2 ^ 39) : Con Tryz.prog 89 false [.v (.bool s), .ag [.sl (lim (m)).length (ints (lim (m)))]] [] (isA (.ag [.v (.bool (s && decide (m ≠ 0))), .sl (lim (m)).length (ints (lim (m)))])) := by
  refine Con.frzA ?_
  refine Con.of_aw Tryz.func89 rfl Tryz.ntmps89 (by simp) (by simp) (by simp) (W.sound ?_)
  show @W Tryz.prog 16 ⟨_⟩ ⟨fun x σ => @retW _ _ _ ⟨_⟩ _ ⟨_⟩ x σ⟩ _ _
  simp (disch := omega) only [go_sem]
  refine draw_of rfl [⟨0, [], []⟩, ⟨1, [], []⟩, ⟨2, [], []⟩, ⟨3, [], []⟩, ⟨4, [], []⟩, ⟨5, [], []⟩, ⟨6, [], []⟩, ⟨7, [3], []⟩, ⟨8, [3], []⟩, ⟨9, [3], []⟩, ⟨10, [], []⟩, ⟨11, [], []⟩] (by kernel_rfl) ?_
  simp (disch := omega) only [go_sem]
  refine ifW_b (fun h1 => ?_) (fun h1 => ?_)
  · simp (disch := omega) only [go_sem, h1, lenpos]
    refine call_open (con_l2normF m hl) (by simp (disch := omega) only [go_sem]) ?_
    rintro r hs ⟨rfl, rfl, _⟩
    refine ⟨by simp [freeN], ?_⟩
    simp (disch := omega) only [go_sem]
    refine fin_val (by simp (disch := omega) only [go_sem]) ?_
    show snap _ 6 _ = _
    simp (disch := omega) only [go_sem, h1, Bool.true_and]
  · simp (disch := omega) only [go_sem, h1]
    refine call_open (con_l2normF m hl) (by simp (disch := omega) only [go_sem]) ?_
    rintro r hs ⟨rfl, rfl, _⟩
    refine ⟨by simp [freeN], ?_⟩
    simp (disch := omega) only [go_sem]
    refine fin_val (by simp (disch := omega) only [go_sem]) ?_
    show snap _ 6 _ = _
    simp (disch := omega) only [go_sem, h1, Bool.false_and]

theorem con_l3of (n : Int) (h : -9223372036854775808 ≤ n ∧ n < 9223372036854775808) : Con Tryz.prog 48 false [.v (.int .i64 n)] [] (isA (.ag [.v (.bool (decide (n < 0))), .sl (lim (n.natAbs)).length (ints (lim (n.natAbs)))])) := by
  refine Con.frzA ?_
  refine Con.of_aw Tryz.func48 rfl Tryz.ntmps48 (by simp) (by simp) (by simp) (W.sound ?_)
  show @W Tryz.prog 15 ⟨_⟩ ⟨fun x σ => @retW _ _ _ ⟨_⟩ _ ⟨_⟩ x σ⟩ _ _
  simp (disch := omega) only [go_sem]
  refine ifW_dec (fun h1 => ?_) (fun h1 => ?_)
  · simp (disch := omega) only [go_sem, h1]
    have e1 : 0 - (n + 1) = (((0 - (n + 1)).toNat : Nat) : Int) := by omega
    refine call_open (con_l2ofF (0 - (n + 1)).toNat (by omega)) (by simp (disch := omega) only [go_sem, ← e1]) ?_
    rintro r hs ⟨rfl, rfl, _⟩
    refine ⟨by simp [freeN], ?_⟩
    simp (disch := omega) only [go_sem]
    refine call_open (con_l2ofF 1 (by omega)) (by simp (disch := omega) only [go_sem]) ?_
    rintro r hs ⟨rfl, rfl, _⟩
    refine ⟨by simp [freeN], ?_⟩
    simp (disch := omega) only [go_sem]
    have l1 := len_bl (m := (0 - (n + 1)).toNat) (B := 64) (bl_le.2 (by omega))
    have l2 := len_bl (m := 1) (B := 64) (by decide)
    refine call_open (con_l2addF (0 - (n + 1)).toNat 1 (by omega) (by omega)) (by simp (disch := omega) only [go_sem]) ?_
    rintro r hs ⟨rfl, rfl, _⟩
    refine ⟨by simp [freeN], ?_⟩
    simp (disch := omega) only [go_sem]
    have e2 : (0 - (n + 1)).toNat + 1 = n.natAbs := by omega
    have l3 := len_bl (m := (0 - (n + 1)).toNat + 1) (B := 64) (bl_le.2 (by omega))
    refine call_open (con_l3make true ((0 - (n + 1)).toNat + 1) (by omega)) (by simp (disch := omega) only [go_sem]) ?_
    rintro r hs ⟨rfl, rfl, _⟩
    refine ⟨by simp [freeN], ?_⟩
    simp (disch := omega) only [go_sem]
    refine fin_val (by simp (disch := omega) only [go_sem]) ?_
    show snap _ 6 _ = _
    have e3 : decide (n.natAbs ≠ 0) = true := by simp; omega
    rw [e2]
    simp (disch := omega) only [go_sem, e3, h1, Bool.true_and]
  · simp (disch := omega) only [go_sem, h1]
    have e1 : n = ((n.natAbs : Nat) : Int) := by omega
    refine call_open (con_l2ofF n.natAbs (by omega)) (by simp (disch := omega) only [go_sem, ← e1]) ?_
    rintro r hs ⟨rfl, rfl, _⟩
    refine ⟨by simp [freeN], ?_⟩
    simp (disch := omega) only [go_sem]
    have l3 := len_bl (m := n.natAbs) (B := 64) (bl_le.2 (by omega))
    refine call_open (con_l3make false n.natAbs (by omega)) (by simp (disch := omega) only [go_sem]) ?_
    rintro r hs ⟨rfl, rfl, _⟩
    refine ⟨by simp [freeN], ?_⟩
    simp (disch := omega) only [go_sem]
    refine fin_val (by simp (disch := omega) only [go_sem]) ?_
    show snap _ 6 _ = _
    simp (disch := omega) only [go_sem, h1, Bool.false_and]

theorem con_l3mul (s1 : Bool) (m1 : Nat) (s2 : Bool) (m2 : Nat) (h1 : bl m1 ≤ 4000000) (h2 : bl m2 ≤ 4000000) : Con Tryz.prog 132 false [.ag [.v (.bool (s1)), .sl (lim (m1)).length (ints (lim (m1)))], .ag [.v (.bool (s2)), .sl (lim (m2)).length (ints (lim (m2)))]] [] (isA (.ag [.v (.bool ((s1 != s2) && decide (m1 * m2 ≠ 0))), .sl (lim (m1 * m2)).length (ints (lim (m1 * m2)))])) := by
  refine Con.frzA ?_
  refine Con.of_aw Tryz.func132 rfl Tryz.ntmps132 (by simp) (by simp) (by simp) (W.sound ?_)
  show @W Tryz.prog 16 ⟨_⟩ ⟨fun x σ => @retW _ _ _ ⟨_⟩ _ ⟨_⟩ x σ⟩ _ _
  simp (disch := omega) only [go_sem]
  have l1 := len_bl h1
  have l2 := len_bl h2
  refine draw_of rfl [⟨0, [], []⟩, ⟨1, [], []⟩, ⟨2, [1], []⟩, ⟨3, [1], []⟩, ⟨4, [], []⟩, ⟨5, [1, 3], []⟩, ⟨6, [1, 3], []⟩, ⟨7, [1, 3, 6], []⟩, ⟨8, [1, 3, 6], []⟩, ⟨9, [1, 3], []⟩, ⟨10, [], []⟩, ⟨11, [], []⟩] (by kernel_rfl) ?_
  simp (disch := omega) only [go_sem]
  refine call_open (con_l2mulF m1 m2 (by omega) (by omega)) (by simp (disch := omega) only [go_sem]) ?_
  rintro r hs ⟨rfl, rfl, _⟩
  refine ⟨by simp [freeN], ?_⟩
  simp (disch := omega) only [go_sem]
  have l3 := len_bl (Nat.le_trans (bl_mulle m1 m2) (Nat.add_le_add h1 h2))
  refine call_open (con_l3make (s1 != s2) (m1 * m2) (by omega)) (by simp (disch := omega) only [go_sem]) ?_
  rintro r hs ⟨rfl, rfl, _⟩
  refine ⟨by simp [freeN], ?_⟩
  simp (disch := omega) only [go_sem]
  refine fin_val (by simp (disch := omega) only [go_sem]) ?_
  show snap _ 6 _ = _
  simp (disch := omega) only [go_sem]

theorem con_l4make (s : Bool) (m : Nat) (e : Int) (hm : bl m ≤ 8000000) (he : -2 ^ 40 ≤ e ∧ e ≤ 2 ^ 40) : Con Tryz.prog 57 false [.ag [.v (.bool (s)), .sl (lim (m)).length (ints (lim (m)))], .v (.int .i64 e)] [] (isA (.ag [.v (.bool (oS s m)), .sl (lim (oM m)).length (ints (lim (oM m))), .v (.int .i64 (oE m e))])) := by
  refine Con.frzA ?_
  refine Con.of_aw Tryz.func57 rfl Tryz.ntmps57 (by simp) (by simp) (by simp) (W.sound ?_)
  show @W Tryz.prog 26 ⟨_⟩ ⟨fun x σ => @retW _ _ _ ⟨_⟩ _ ⟨_⟩ x σ⟩ _ _
  simp (disch := omega) only [go_sem]
  have hl := len_bl hm
  refine ifW_dec (fun h1 => ?_) (fun h1 => ?_)
  · simp (disch := omega) only [go_sem, h1]
    have h0 : m = 0 := lim_eq_nil.1 (List.length_eq_zero_iff.1 (by omega))
    subst h0
    refine fin_val (by simp (disch := omega) only [go_sem]) ?_
    show snap _ 6 _ = _
    simp only [oS, oM_zero, oE, lim_zero, if_true]
    simp (disch := omega) only [go_sem]
  · have h0 : m ≠ 0 := fun e => h1 (by rw [e, lim_zero]; rfl)
    have ht := tz_lt_bl h0
    simp (disch := omega) only [go_sem, h1]
    refine call_closed (con_l2trail m (by omega)) (by simp (disch := omega) only [go_sem]) ?_
    rintro r hs ⟨rfl, rfl, _⟩
    refine ⟨by simp [freeN], ?_⟩
    simp (disch := omega) only [go_sem]
    refine draw_of rfl [⟨0, [], []⟩, ⟨1, [], []⟩, ⟨2, [1], []⟩, ⟨3, [1], []⟩, ⟨4, [1, 3], []⟩, ⟨7, [1, 3], []⟩, ⟨8, [1, 3], []⟩, ⟨9, [1, 3], []⟩, ⟨5, [1], []⟩, ⟨6, [], []⟩, ⟨10, [], []⟩, ⟨11, [], []⟩] (by kernel_rfl) ?_
    simp (disch := omega) only [go_sem]
    refine call_open (con_l2shr m (tz m) (by omega) (by omega)) (by simp (disch := omega) only [go_sem]) ?_
    rintro r hs ⟨rfl, rfl, _⟩
    refine ⟨by simp [freeN], ?_⟩
    simp (disch := omega) only [go_sem]
    have l3 := len_bl (Nat.le_trans (bl_divle m (2 ^ tz m)) hm)
    refine call_open (con_l3make s (m / 2 ^ tz m) (by omega)) (by simp (disch := omega) only [go_sem]) ?_
    rintro r hs ⟨rfl, rfl, _⟩
    refine ⟨by simp [freeN], ?_⟩
    simp (disch := omega) only [go_sem]
    refine fin_val (by simp (disch := omega) only [go_sem]) ?_
    show snap _ 6 _ = _
    have h3 : decide (m / 2 ^ tz m ≠ 0) = true := by
      have := (odd_part h0).1
      simp only [decide_eq_true_eq]; omega
    simp only [oS, oM, oE, if_neg h0]
    simp (disch := omega) only [go_sem, h3, Bool.and_true]

theorem con_l4mul (s1 : Bool) (m1 : Nat) (e1 : Int) (s2 : Bool) (m2 : Nat) (e2 : Int) (h1 : bl m1 ≤ 4000000) (h2 : bl m2 ≤ 4000000) (he1 : -2 ^ 39 ≤ e1 ∧ e1 ≤ 2 ^ 39) (he2 : -2 ^ 39 ≤ e2 ∧ e2 ≤ 2 ^ 39) :
    Con Tryz.prog 103 false [.ag [.v (.bool (s1)), .sl (lim (m1)).length (ints (lim (m1))), .v (.int .i64 (e1))], .ag [.v (.bool (s2)), .sl (lim (m2)).length (ints (lim (m2))), .v (.int .i64 (e2))]] [] (isA (.ag [.v (.bool (oS ((s1 != s2) && decide (m1 * m2 ≠ 0)) (m1 * m2))), .sl (lim (oM (m1 * m2))).length (ints (lim (oM (m1 * m2)))), .v (.int .i64 (oE (m1 * m2) (e1 + e2)))])) := by
  refine Con.frzA ?_
  refine Con.of_aw Tryz.func103 rfl Tryz.ntmps103 (by simp) (by simp) (by simp) (W.sound ?_)
  show @W Tryz.prog 16 ⟨_⟩ ⟨fun x σ => @retW _ _ _ ⟨_⟩ _ ⟨_⟩ x σ⟩ _ _
  simp (disch := omega) only [go_sem]
  refine draw_of rfl [⟨0, [], []⟩, ⟨1, [], []⟩, ⟨2, [1], []⟩, ⟨3, [1], []⟩, ⟨5, [1, 3], []⟩, ⟨6, [1, 3], []⟩, ⟨7, [1, 3, 6], []⟩, ⟨8, [1, 3, 6], []⟩, ⟨9, [1, 3], []⟩, ⟨4, [6, 8], []⟩, ⟨10, [], []⟩, ⟨11, [], []⟩] (by kernel_rfl) ?_
  simp (disch := omega) only [go_sem]
  refine call_open (con_l3mul s1 m1 s2 m2 h1 h2) (by simp (disch := omega) only [go_sem]) ?_
  rintro r hs ⟨rfl, rfl, _⟩
  refine ⟨by simp [freeN], ?_⟩
  simp (disch := omega) only [go_sem]
  have h3 := Nat.le_trans (bl_mulle m1 m2) (Nat.add_le_add h1 h2)
  refine call_open (con_l4make ((s1 != s2) && decide (m1 * m2 ≠ 0)) (m1 * m2) (e1 + e2) (by omega) (by omega)) (by simp (disch := omega) only [go_sem]) ?_
  rintro r hs ⟨rfl, rfl, _⟩
  refine ⟨by simp [freeN], ?_⟩
  simp (disch := omega) only [go_sem]
  refine fin_val (by simp (disch := omega) only [go_sem]) ?_
  show snap _ 6 _ = _
  simp (disch := omega) only [go_sem]

theorem con_l4top (s : Bool) (m : Nat) (e : Int) (hm : (lim m).length ≤ 2 ^ 40) (he : -2 ^ 40 ≤ e ∧ e ≤ 2 ^ 40) : Con Tryz.prog 143 true [.ag [.v (.bool (s)), .sl (lim (m)).length (ints (lim (m))), .v (.int .i64 (e))]] [] (isA (.v (.int .i64 (if m = 0 then 0 else e + (bl m : Int))))) := by
  refine Con.of_aw Tryz.func143 rfl Tryz.ntmps143 (by simp) (by simp) (by simp) (W.sound ?_)
  show @W Tryz.prog 16 ⟨_⟩ ⟨fun x σ => @retW _ _ _ ⟨_⟩ _ ⟨_⟩ x σ⟩ _ _
  simp (disch := omega) only [go_sem]
  refine ifW_dec (fun h1 => ?_) (fun h1 => ?_)
  · simp (disch := omega) only [go_sem, h1]
    have h0 : m = 0 := lim_eq_nil.1 (List.length_eq_zero_iff.1 (by omega))
    rw [if_pos h0]
    exact fin_valc (by simp (disch := omega) only [go_sem]) (by simp (disch := omega) only [go_sem]) isA_mk
  · have h0 : m ≠ 0 := fun e => h1 (by rw [e, lim_zero]; rfl)
    have := bl_len (m := m)
    simp (disch := omega) only [go_sem, h1]
    refine draw_of rfl [⟨0, [], []⟩, ⟨1, [], []⟩, ⟨2, [1], []⟩, ⟨3, [1], []⟩, ⟨4, [1], []⟩, ⟨5, [1], []⟩, ⟨6, [], []⟩, ⟨7, [], []⟩] (by kernel_rfl) ?_
    simp (disch := omega) only [go_sem]
    refine call_closed (con_l2bits m hm) (by simp (disch := omega) only [go_sem]) ?_
    rintro r hs ⟨rfl, rfl, _⟩
    refine ⟨by simp [freeN], ?_⟩
    simp (disch := omega) only [go_sem]
    rw [if_neg h0]
    exact fin_valc (by simp (disch := omega) only [go_sem]) (by simp (disch := omega) only [go_sem]) isA_mk
end Go.Ab
namespace Go.Ab
open Go Go.Proofs
set_option linter.unusedVariables false
set_option linter.unusedSimpArgs false

theorem con_l2cmp (a b : Nat) (la : (lim a).length ≤ 2 ^ 40) (lb : (lim b).length ≤ 2 ^ 40) :
    Con Tryz.prog 135 true [.ag [.sl (lim (a)).length (ints (lim (a)))], .ag [.sl (lim (b)).length (ints (lim (b)))]] [] (isA (.v (.int .i64 (cmpI a b)))) := by
  refine Con.of_aw Tryz.func135 rfl Tryz.ntmps135 (by simp) (by simp) (by simp) (W.sound ?_)
  show @W Tryz.prog 50 ⟨_⟩ ⟨fun x σ => @retW _ _ _ ⟨_⟩ _ ⟨_⟩ x σ⟩ _ _
  simp (disch := omega) only [go_sem]
  refine ifW_not (fun h1 => ?_) (fun h1 => ?_)
  · simp (disch := omega) only [go_sem, h1]
    refine ifW_dec (fun h2 => ?_) (fun h2 => ?_)
    · simp (disch := omega) only [go_sem, h2]
      have := lim_lt_of (a := a) (b := b) (by omega)
      rw [show cmpI (a : Int) (b : Int) = -1 by unfold cmpI; rw [if_pos (by omega)]]
      exact fin_valc (by simp (disch := omega) only [go_sem]) (by simp (disch := omega) only [go_sem]) isA_mk
    · simp (disch := omega) only [go_sem, h2]
      have := lim_lt_of (a := b) (b := a) (by omega)
      rw [show cmpI (a : Int) (b : Int) = 1 by unfold cmpI; rw [if_neg (by omega), if_pos (by omega)]]
      exact fin_valc (by simp (disch := omega) only [go_sem]) (by simp (disch := omega) only [go_sem]) isA_mk
  · simp (disch := omega) only [go_sem, h1]
    have hl : (lim a).length = (lim b).length := by omega
    refine loop_intro (fun k : Nat => [(2, .pt 40000000 0), (3, .pt 50000000 0), (5, .v (.int .i64 ((k : Int) - 1)))])
      (fun _ => [(40000000, .own 0 [.sl (lim (a)).length (ints (lim (a)))]), (50000000, .own 0 [.sl (lim (b)).length (ints (lim (b)))])]) (fun k => k ≤ (lim a).length ∧ (lim a).drop k = (lim b).drop k) (fun k => k) (lim a).length ⟨Nat.le_refl _, by rw [List.drop_length, hl, List.drop_length]⟩ (Le.lst [] _ _ rfl (by simp (disch := omega) only [go_sem]; try omega) (by simp (disch := omega) only [go_sem])) ?_
    rintro k ⟨hk, hd⟩
    simp (disch := omega) only [go_sem]
    refine ifW_dec (fun h2 => ?_) (fun h2 => ?_)
    · obtain ⟨i, rfl⟩ : ∃ i, k = i + 1 := ⟨k - 1, by omega⟩
      have ei : ((i + 1 : Nat) : Int) - 1 = (i : Nat) := by omega
      have hva := vl_lim a
      have hvb := vl_lim b
      simp (disch := omega) only [go_sem, h2, ei]
      refine draw_of rfl [⟨0, [], []⟩, ⟨1, [], []⟩, ⟨2, [1], []⟩, ⟨3, [], []⟩, ⟨4, [], []⟩, ⟨5, [1, 4], []⟩, ⟨6, [1, 4], []⟩, ⟨7, [1, 4, 6], []⟩, ⟨8, [1, 4], []⟩, ⟨9, [1, 4], []⟩, ⟨10, [], []⟩] (by kernel_rfl) ?_
      simp (disch := omega) only [go_sem, ei]
      refine ⟨by omega, by omega, by omega, by omega, ?_⟩
      refine ifW_dec (fun h3 => ?_) (fun h3 => ?_)
      · simp (disch := omega) only [go_sem, h3]
        have := vl_lt_of (gd_lim a) (gd_lim b) (by omega) hl hd h3
        rw [show cmpI (a : Int) (b : Int) = -1 by unfold cmpI; rw [if_pos (by omega)]]
        exact fin_valc (by simp (disch := omega) only [go_sem]) (by simp (disch := omega) only [go_sem]) isA_mk
      · simp (disch := omega) only [go_sem, h3]
        refine draw_of rfl [⟨0, [], []⟩, ⟨1, [], []⟩, ⟨2, [1], []⟩, ⟨3, [], []⟩, ⟨4, [], []⟩, ⟨5, [1, 4], []⟩, ⟨6, [1, 4], []⟩, ⟨7, [1, 4, 6], []⟩, ⟨8, [1, 4], []⟩, ⟨9, [1, 4], []⟩, ⟨10, [], []⟩] (by kernel_rfl) ?_
        simp (disch := omega) only [go_sem, ei]
        refine ⟨by omega, by omega, by omega, by omega, ?_⟩
        refine ifW_dec (fun h4 => ?_) (fun h4 => ?_)
        · simp (disch := omega) only [go_sem, h4]
          have := vl_lt_of (gd_lim b) (gd_lim a) (by omega) hl.symm hd.symm h4
          rw [show cmpI (a : Int) (b : Int) = 1 by unfold cmpI; rw [if_neg (by omega), if_pos (by omega)]]
          exact fin_valc (by simp (disch := omega) only [go_sem]) (by simp (disch := omega) only [go_sem]) isA_mk
        · simp (disch := omega) only [go_sem, h4]
          refine next_intro i [] ⟨by omega, ?_⟩ (by show i < i + 1; omega) rfl (by simp (disch := omega) only [go_sem]; try omega) (by simp (disch := omega) only [go_sem])
          have h5 : (lim a).getD i 0 = (lim b).getD i 0 := by omega
          rw [drop_getD (l := lim a) (by omega), drop_getD (l := lim b) (by omega), h5, hd]
    · simp (disch := omega) only [go_sem, h2]
      have : k = 0 := by omega
      subst this
      rw [List.drop_zero, List.drop_zero] at hd
      have := lim_inj hd
      subst this
      rw [show cmpI (a : Int) (a : Int) = 0 by simp [cmpI]]
      exact fin_valc (by simp (disch := omega) only [go_sem]) (by simp (disch := omega) only [go_sem]) isA_mk

theorem con_l2sub (cl : Bool) (a b : Nat) (hle : b ≤ a) (la : (lim a).length ≤ 1000000) : Con Tryz.prog 152 cl [.ag [.sl (lim (a)).length (ints (lim (a)))], .ag [.sl (lim (b)).length (ints (lim (b)))]] [] (natR (a - b)) := by
  have lB : (lim b).length ≤ (lim a).length := lim_mono hle
  have hA := gd_lim a
  have hB := gd_lim b
  refine Con.of_aw Tryz.func152 rfl Tryz.ntmps152 (by simp) (by simp) (by simp) (W.sound ?_)
  show @W Tryz.prog 45 ⟨_⟩ ⟨fun x σ => @retW _ _ _ ⟨_⟩ _ ⟨_⟩ x σ⟩ _ _
  simp (disch := omega) only [go_sem]
  refine loop_intro (fun x : Nat × List Int × Int => [(2, .pt 2 0), (3, .pt 3 0), (4, .pt 4 0), (5, .rf 1 0 x.2.1.length), (6, .v (.int .i64 x.2.2)), (7, .v (.int .i64 x.1))])
    (fun x => [(1, .own 1 (ints x.2.1)), (2, .own 0 [.sl (lim (a)).length (ints (lim (a)))]), (3, .own 0 [.sl (lim (b)).length (ints (lim (b)))]), (4, .own 0 [.v (.slice none 0 0)])])
    (fun x => x.1 ≤ (lim a).length ∧ x.2.1.length = x.1 ∧ gd x.2.1 ∧ (0 ≤ x.2.2 ∧ x.2.2 ≤ 1) ∧ vl x.2.1 - 65536 ^ x.1 * x.2.2 = vl ((lim a).take x.1) - vl ((lim b).take x.1))
    (fun x => (lim a).length - x.1) (0, [], 0) ⟨by simp, rfl, gd_nil, by simp, by simp [vl]⟩
    ((Le.ghost 5 1 1 (by simp (disch := omega) only [go_sem]) (by simp (disch := omega) only [go_sem])).trans (Le.lst [(2, 40000000), (3, 50000000), (4, 60000000)] _ _ rfl (by simp (disch := omega) only [go_sem]) (by simp (disch := omega) only [go_sem]))) ?_
  rintro ⟨i, out, bo⟩ ⟨hi, hol, hog, hbo, hov⟩
  dsimp only at hi hol hog hbo hov ⊢
  simp (disch := omega) only [go_sem]
  refine ifW_dec (fun h1 => ?_) (fun h1 => ?_)
  · have hx := gd_getD hA i
    have hy := gd_getD hB i
    have hstep : ∀ z b' : Int, (lim a).getD i 0 - bo - (lim b).getD i 0 = z - 65536 * b' → vl (out ++ [z]) - 65536 ^ (i + 1) * b' = vl ((lim a).take (i + 1)) - vl ((lim b).take (i + 1)) := by
      intro z b' hz
      rw [vl_snoc, vl_take_any, vl_take_any, hol, Int.pow_succ]
      generalize (65536 : Int) ^ i = Pi at *
      grind
    have hyz : ¬ i < (lim b).length → (lim b).getD i 0 = 0 := fun h => by rw [List.getD_eq_getElem?_getD, List.getElem?_eq_none (by omega)]; rfl
    simp (disch := omega) only [go_sem, h1]
    refine ⟨by omega, by omega, ifW_dec (fun h2 => ?_) (fun h2 => ?_)⟩
    · simp (disch := omega) only [go_sem, h2]
      refine ⟨by omega, by omega, ifW_dec (fun h3 => ?_) (fun h3 => ?_)⟩
      · simp (disch := omega) only [go_sem, h3]
        refine ⟨by omega, next_intro (i + 1, out ++ [(lim a).getD i 0 - bo - (lim b).getD i 0 + 65536], 1) [(1, 440000000)] ⟨by show i + 1 ≤ _; omega, by simp [hol], gd_append.2 ⟨hog, gd_one.2 (by omega)⟩, by simp, hstep ((lim a).getD i 0 - bo - (lim b).getD i 0 + 65536) 1 (by omega)⟩ (by show (lim a).length - (i + 1) < (lim a).length - i; omega) rfl (by simp (disch := omega) only [go_sem, List.length_append]; try omega) (by simp (disch := omega) only [go_sem])⟩
      · simp (disch := omega) only [go_sem, h3]
        refine ⟨by omega, next_intro (i + 1, out ++ [(lim a).getD i 0 - bo - (lim b).getD i 0], 0) [(1, 440000000)] ⟨by show i + 1 ≤ _; omega, by simp [hol], gd_append.2 ⟨hog, gd_one.2 (by omega)⟩, by simp, hstep ((lim a).getD i 0 - bo - (lim b).getD i 0) 0 (by omega)⟩ (by show (lim a).length - (i + 1) < (lim a).length - i; omega) rfl (by simp (disch := omega) only [go_sem, List.length_append]; try omega) (by simp (disch := omega) only [go_sem])⟩
    · simp (disch := omega) only [go_sem, h2]
      refine ifW_dec (fun h3 => ?_) (fun h3 => ?_)
      · simp (disch := omega) only [go_sem, h3]
        have hy0 := hyz (by omega)
        refine ⟨by omega, next_intro (i + 1, out ++ [(lim a).getD i 0 - bo + 65536], 1) [(1, 440000000)] ⟨by show i + 1 ≤ _; omega, by simp [hol], gd_append.2 ⟨hog, gd_one.2 (by omega)⟩, by simp, hstep ((lim a).getD i 0 - bo + 65536) 1 (by omega)⟩ (by show (lim a).length - (i + 1) < (lim a).length - i; omega) rfl (by simp (disch := omega) only [go_sem, List.length_append]; try omega) (by simp (disch := omega) only [go_sem])⟩
      · simp (disch := omega) only [go_sem, h3]
        have hy0 := hyz (by omega)
        refine ⟨by omega, next_intro (i + 1, out ++ [(lim a).getD i 0 - bo], 0) [(1, 440000000)] ⟨by show i + 1 ≤ _; omega, by simp [hol], gd_append.2 ⟨hog, gd_one.2 (by omega)⟩, by simp, hstep ((lim a).getD i 0 - bo) 0 (by omega)⟩ (by show (lim a).length - (i + 1) < (lim a).length - i; omega) rfl (by simp (disch := omega) only [go_sem, List.length_append]; try omega) (by simp (disch := omega) only [go_sem])⟩
  · simp (disch := omega) only [go_sem, h1]
    have hiA : i = (lim a).length := by omega
    subst hiA
    rw [List.take_length, List.take_of_length_le lB] at hov
    have hva := vl_lim a
    have hvb := vl_lim b
    have hb0 : bo = 0 := by
      have h2 := vl_lt hog
      rw [hol] at h2
      rcases (by omega : bo = 0 ∨ bo = 1) with h | h
      · exact h
      · subst h; omega
    subst hb0
    have hov2 : vl out = ((a - b : Nat) : Int) := by omega
    refine call_closed (con_l2norm true out (a - b) (by omega) hog hov2) (by simp (disch := omega) only [go_sem]) ?_
    rintro r hs (⟨h0, rfl, rfl⟩ | ⟨zs, rfl, rfl⟩)
    · refine ⟨⟨by simp, by simp (disch := omega) only [go_sem]⟩, ?_⟩
      simp (disch := omega) only [go_sem]
      refine fin_intro [] [] [] [.ag [.v (.slice none 0 0)]] rfl (by simp (disch := omega) only [go_sem]) (by simp (disch := omega) only [go_sem]) (by simp) (by intro _; simp [tupA, AV.pu, AV.pu.puL, Ob.pu, pu_ints]) (.inl ⟨h0, rfl, rfl⟩)
    · refine ⟨⟨by simp, by simp (disch := omega) only [go_sem]⟩, ?_⟩
      simp (disch := omega) only [go_sem]
      refine fin_intro [(0, 460000000)] [.own 1 (ints (lim (a - b) ++ zs))] [] [.ag [.rf 0 0 (lim (a - b)).length]] rfl (by simp (disch := omega) only [go_sem]) (by simp (disch := omega) only [go_sem]) (by simp) (by intro _; simp [tupA, AV.pu, AV.pu.puL, Ob.pu, pu_ints]) (.inr ⟨zs, rfl, rfl⟩)
end Go.Ab
namespace Go.Ab
open Go Go.Proofs
set_option linter.unusedVariables false
set_option linter.unusedSimpArgs false

theorem con_l2subF (a b : Nat) (hle : b ≤ a) (la : (lim a).length ≤ 1000000) : Con Tryz.prog 152 false [.ag [.sl (lim (a)).length (ints (lim (a)))], .ag [.sl (lim (b)).length (ints (lim (b)))]] [] (isA (.ag [.sl (lim (a - b)).length (ints (lim (a - b)))])) := (con_l2sub false a b hle la).natF

theorem con_l3add (s1 : Bool) (m1 : Nat) (s2 : Bool) (m2 : Nat) (h1 : bl m1 ≤ 6000000) (h2 : bl m2 ≤ 6000000) :
    Con Tryz.prog 131 false [.ag [.v (.bool (s1)), .sl (lim (m1)).length (ints (lim (m1)))], .ag [.v (.bool (s2)), .sl (lim (m2)).length (ints (lim (m2)))]] [] (isA (.ag [.v (.bool (suS s1 m1 s2 m2)), .sl (lim (suM s1 m1 s2 m2)).length (ints (lim (suM s1 m1 s2 m2)))])) := by
  refine Con.frzA ?_
  have l1 := len_bl h1
  have l2 := len_bl h2
  have hge : (0 ≤ cmpI (m1 : Int) (m2 : Int)) ↔ m2 ≤ m1 := by rw [cmp_pos.2.2]; omega
  have hb := bl_suM (s1 := s1) (s2 := s2) h1 h2
  have l3 := len_bl hb
  rw [← sgS_and]
  refine Con.of_aw Tryz.func131 rfl Tryz.ntmps131 (by simp) (by simp) (by simp) (W.sound ?_)
  show @W Tryz.prog 40 ⟨_⟩ ⟨fun x σ => @retW _ _ _ ⟨_⟩ _ ⟨_⟩ x σ⟩ _ _
  simp (disch := omega) only [go_sem]
  refine ifW_b (fun c1 => ?_) (fun c1 => ?_)
  · have c1' : s1 = s2 := by simpa using c1
    simp (disch := omega) only [go_sem, c1]
    subst c1'
    rw [sgS_same, suM_same] at *
    refine draw_of rfl [⟨0, [], []⟩, ⟨1, [], []⟩, ⟨2, [1], []⟩, ⟨3, [1], []⟩, ⟨4, [1, 3], []⟩, ⟨5, [1, 3], []⟩, ⟨6, [1], []⟩, ⟨7, [], []⟩, ⟨8, [], []⟩] (by kernel_rfl) ?_
    simp (disch := omega) only [go_sem]
    refine call_open (con_l2addF m1 m2 (by omega) (by omega)) (by simp (disch := omega) only [go_sem]) ?_
    rintro r hs ⟨rfl, rfl, _⟩
    refine ⟨by simp [freeN], ?_⟩
    simp (disch := omega) only [go_sem]
    refine call_open (con_l3make s1 (m1 + m2) (by omega)) (by simp (disch := omega) only [go_sem]) ?_
    rintro r hs ⟨rfl, rfl, _⟩
    refine ⟨by simp [freeN], ?_⟩
    simp (disch := omega) only [go_sem]
    refine fin_val (by simp (disch := omega) only [go_sem]) ?_
    show snap _ 6 _ = _
    simp (disch := omega) only [go_sem]
  · have c1' : s1 ≠ s2 := by simpa using c1
    simp (disch := omega) only [go_sem, c1]
    refine call_closed (con_l2cmp m1 m2 (by omega) (by omega)) (by simp (disch := omega) only [go_sem]) ?_
    rintro r hs ⟨rfl, rfl, _⟩
    refine ⟨by simp [freeN], ?_⟩
    simp (disch := omega) only [go_sem]
    refine ifW_dec (fun c2 => ?_) (fun c2 => ?_)
    · have c2' : m2 ≤ m1 := hge.1 (by omega)
      rw [sgS_ge c1' c2', suM_ge c1' c2'] at *
      simp (disch := omega) only [go_sem, c2]
      refine draw_of rfl [⟨0, [], []⟩, ⟨1, [], []⟩, ⟨2, [1], []⟩, ⟨3, [1], []⟩, ⟨4, [1, 3], []⟩, ⟨5, [1, 3], []⟩, ⟨6, [1], []⟩, ⟨7, [], []⟩, ⟨8, [], []⟩] (by kernel_rfl) ?_
      simp (disch := omega) only [go_sem]
      refine call_open (con_l2subF m1 m2 c2' (by omega)) (by simp (disch := omega) only [go_sem]) ?_
      rintro r hs ⟨rfl, rfl, _⟩
      refine ⟨by simp [freeN], ?_⟩
      simp (disch := omega) only [go_sem]
      refine call_open (con_l3make s1 (m1 - m2) (by omega)) (by simp (disch := omega) only [go_sem]) ?_
      rintro r hs ⟨rfl, rfl, _⟩
      refine ⟨by simp [freeN], ?_⟩
      simp (disch := omega) only [go_sem]
      refine fin_val (by simp (disch := omega) only [go_sem]) ?_
      show snap _ 6 _ = _
      simp (disch := omega) only [go_sem]
    · have c2' : ¬ m2 ≤ m1 := fun h => c2 (by have := hge.2 h; omega)
      rw [sgS_lt c1' c2', suM_lt c1' c2'] at *
      simp (disch := omega) only [go_sem, c2]
      refine draw_of rfl [⟨0, [], []⟩, ⟨1, [], []⟩, ⟨2, [1], []⟩, ⟨3, [1], []⟩, ⟨4, [1, 3], []⟩, ⟨5, [1, 3], []⟩, ⟨6, [1], []⟩, ⟨7, [], []⟩, ⟨8, [], []⟩] (by kernel_rfl) ?_
      simp (disch := omega) only [go_sem]
      refine call_open (con_l2subF m2 m1 (by omega) (by omega)) (by simp (disch := omega) only [go_sem]) ?_
      rintro r hs ⟨rfl, rfl, _⟩
      refine ⟨by simp [freeN], ?_⟩
      simp (disch := omega) only [go_sem]
      refine call_open (con_l3make s2 (m2 - m1) (by omega)) (by simp (disch := omega) only [go_sem]) ?_
      rintro r hs ⟨rfl, rfl, _⟩
      refine ⟨by simp [freeN], ?_⟩
      simp (disch := omega) only [go_sem]
      refine fin_val (by simp (disch := omega) only [go_sem]) ?_
      show snap _ 6 _ = _
      simp (disch := omega) only [go_sem]

theorem con_l3neg (s : Bool) (m : Nat) (hl : (lim m).length ≤ 2 ^ 39) : Con Tryz.prog 133 false [.ag [.v (.bool (s)), .sl (lim (m)).length (ints (lim (m)))]] [] (isA (.ag [.v (.bool ((!s) && decide (m ≠ 0))), .sl (lim (m)).length (ints (lim (m)))])) := by
  refine Con.frzA ?_
  refine Con.of_aw Tryz.func133 rfl Tryz.ntmps133 (by simp) (by simp) (by simp) (W.sound ?_)
  show @W Tryz.prog 9 ⟨_⟩ ⟨fun x σ => @retW _ _ _ ⟨_⟩ _ ⟨_⟩ x σ⟩ _ _
  simp (disch := omega) only [go_sem]
  refine call_open (con_l3make (!s) m hl) (by simp (disch := omega) only [go_sem]) ?_
  rintro r hs ⟨rfl, rfl, _⟩
  refine ⟨by simp [freeN], ?_⟩
  simp (disch := omega) only [go_sem]
  refine fin_val (by simp (disch := omega) only [go_sem]) ?_
  show snap _ 6 _ = _
  simp (disch := omega) only [go_sem]

theorem con_l4neg (s : Bool) (m : Nat) (e : Int) (hl : (lim m).length ≤ 2 ^ 39) : Con Tryz.prog 104 false [.ag [.v (.bool (s)), .sl (lim (m)).length (ints (lim (m))), .v (.int .i64 (e))]] [] (isA (.ag [.v (.bool ((!s) && decide (m ≠ 0))), .sl (lim (m)).length (ints (lim (m))), .v (.int .i64 (e))])) := by
  refine Con.frzA ?_
  refine Con.of_aw Tryz.func104 rfl Tryz.ntmps104 (by simp) (by simp) (by simp) (W.sound ?_)
  show @W Tryz.prog 9 ⟨_⟩ ⟨fun x σ => @retW _ _ _ ⟨_⟩ _ ⟨_⟩ x σ⟩ _ _
  simp (disch := omega) only [go_sem]
  refine draw_of rfl [⟨0, [], []⟩, ⟨1, [], []⟩, ⟨3, [1], []⟩, ⟨4, [1], []⟩, ⟨2, [4], []⟩, ⟨5, [], []⟩, ⟨6, [], []⟩] (by kernel_rfl) ?_
  simp (disch := omega) only [go_sem]
  refine call_open (con_l3neg s m hl) (by simp (disch := omega) only [go_sem]) ?_
  rintro r hs ⟨rfl, rfl, _⟩
  refine ⟨by simp [freeN], ?_⟩
  simp (disch := omega) only [go_sem]
  refine fin_val (by simp (disch := omega) only [go_sem]) ?_
  show snap _ 6 _ = _
  simp (disch := omega) only [go_sem]

/-- The power of two that the reference tells a sum in: that of two noughts is another one. -/
def alF (m1 : Nat) (e1 : Int) (m2 : Nat) (e2 : Int) : Int := if m1 = 0 then e2 else if m2 = 0 then e1 else if e1 ≤ e2 then e1 else e2
theorem alF_eq (m1 : Nat) (e1 : Int) (m2 : Nat) (e2 : Int) (h : ¬ (m1 = 0 ∧ m2 = 0)) : alF m1 e1 m2 e2 = alE m1 e1 m2 e2 := by
  unfold alF alE
  repeat' split
  all_goals omega

theorem con_l4align (s1 : Bool) (m1 : Nat) (e1 : Int) (s2 : Bool) (m2 : Nat) (e2 : Int) (h1 : bl m1 ≤ 4000000) (h2 : bl m2 ≤ 4000000) (he1 : -1000000 ≤ e1 ∧ e1 ≤ 1000000) (he2 : -1000000 ≤ e2 ∧ e2 ≤ 1000000) (z1 : m1 = 0 → s1 = false) (z2 : m2 = 0 → s2 = false) :
    Con Tryz.prog 106 false [.ag [.v (.bool (s1)), .sl (lim (m1)).length (ints (lim (m1))), .v (.int .i64 (e1))], .ag [.v (.bool (s2)), .sl (lim (m2)).length (ints (lim (m2))), .v (.int .i64 (e2))]] [] (isA (.tu [.ag [.v (.bool (s1)), .sl (lim (alA m1 e1 (alE m1 e1 m2 e2))).length (ints (lim (alA m1 e1 (alE m1 e1 m2 e2))))], .ag [.v (.bool (s2)), .sl (lim (alA m2 e2 (alE m1 e1 m2 e2))).length (ints (lim (alA m2 e2 (alE m1 e1 m2 e2))))], .v (.int .i64 (alF m1 e1 m2 e2))])) := by
  refine Con.frzA ?_
  have l1 := len_bl h1
  have l2 := len_bl h2
  refine Con.of_aw Tryz.func106 rfl Tryz.ntmps106 (by simp) (by simp) (by simp) (W.sound ?_)
  show @W Tryz.prog 70 ⟨_⟩ ⟨fun x σ => @retW _ _ _ ⟨_⟩ _ ⟨_⟩ x σ⟩ _ _
  simp (disch := omega) only [go_sem]
  refine ifW_dec (fun c1 => ?_) (fun c1 => ?_)
  · have y1 : m1 = 0 := lim_eq_nil.1 (List.length_eq_zero_iff.1 (by omega))
    have eF : alF m1 e1 m2 e2 = e2 := by unfold alF; rw [if_pos y1]
    have a1 : alA m1 e1 (alE m1 e1 m2 e2) = m1 := by rw [y1]; unfold alA; rw [Nat.zero_mul]
    have a2 : alA m2 e2 (alE m1 e1 m2 e2) = m2 := by
      by_cases y2 : m2 = 0
      · rw [y2]; unfold alA; rw [Nat.zero_mul]
      · unfold alA alE; rw [if_neg y2, if_pos y1, Int.sub_self]; simp
    simp (disch := omega) only [go_sem, c1]
    refine draw_of rfl [⟨0, [], []⟩, ⟨1, [], []⟩, ⟨2, [1], []⟩, ⟨3, [1], []⟩, ⟨4, [1, 3], []⟩, ⟨5, [1, 3], []⟩, ⟨6, [3, 5], []⟩, ⟨7, [5], []⟩, ⟨8, [], []⟩] (by kernel_rfl) ?_
    simp (disch := omega) only [go_sem]
    refine fin_val (by simp (disch := omega) only [go_sem]) ?_
    show snap _ 6 _ = _
    rw [eF, a1, a2]
    simp (disch := omega) only [go_sem]
  · have y1 : m1 ≠ 0 := fun e => c1 (by rw [e, lim_zero]; rfl)
    simp (disch := omega) only [go_sem, c1]
    refine ifW_dec (fun c2 => ?_) (fun c2 => ?_)
    · have y2 : m2 = 0 := lim_eq_nil.1 (List.length_eq_zero_iff.1 (by omega))
      have eF : alF m1 e1 m2 e2 = e1 := by unfold alF; rw [if_neg y1, if_pos y2]
      have a1 : alA m1 e1 (alE m1 e1 m2 e2) = m1 := by unfold alA alE; rw [if_pos y2, Int.sub_self]; simp
      have a2 : alA m2 e2 (alE m1 e1 m2 e2) = m2 := by rw [y2]; unfold alA; rw [Nat.zero_mul]
      simp (disch := omega) only [go_sem, c2]
      refine draw_of rfl [⟨0, [], []⟩, ⟨1, [], []⟩, ⟨2, [1], []⟩, ⟨3, [1], []⟩, ⟨4, [1, 3], []⟩, ⟨5, [1, 3], []⟩, ⟨6, [3, 5], []⟩, ⟨7, [5], []⟩, ⟨8, [], []⟩] (by kernel_rfl) ?_
      simp (disch := omega) only [go_sem]
      refine fin_val (by simp (disch := omega) only [go_sem]) ?_
      show snap _ 6 _ = _
      rw [eF, a1, a2]
      simp (disch := omega) only [go_sem]
    · have y2 : m2 ≠ 0 := fun e => c2 (by rw [e, lim_zero]; rfl)
      simp (disch := omega) only [go_sem, c2]
      refine ifW_dec (fun c3 => ?_) (fun c3 => ?_)
      · have eF : alF m1 e1 m2 e2 = e1 := by unfold alF; rw [if_neg y1, if_neg y2, if_pos c3]
        have eE : alE m1 e1 m2 e2 = e1 := by unfold alE; rw [if_neg y2, if_neg y1, if_neg (by omega)]
        have a1 : alA m1 e1 (alE m1 e1 m2 e2) = m1 := by rw [eE]; unfold alA; rw [Int.sub_self]; simp
        have ek : e2 - e1 = (((e2 - e1).toNat : Nat) : Int) := by omega
        have hb : bl (m2 * 2 ^ (e2 - e1).toNat) ≤ 6000000 := by have := bl_up m2 (e2 - e1).toNat; omega
        have l3 := len_bl hb
        have hn : m2 * 2 ^ (e2 - e1).toNat ≠ 0 := Nat.mul_ne_zero y2 (Nat.pos_iff_ne_zero.1 (Nat.pow_pos (by omega)))
        have hd : decide (m2 * 2 ^ (e2 - e1).toNat ≠ 0) = true := decide_eq_true hn
        simp (disch := omega) only [go_sem, c3]
        refine draw_of rfl [⟨0, [], []⟩, ⟨1, [], []⟩, ⟨2, [1], []⟩, ⟨3, [1], []⟩, ⟨4, [1], []⟩, ⟨5, [1, 4], []⟩, ⟨6, [1, 4], []⟩, ⟨7, [1, 4], []⟩, ⟨8, [1, 4, 7], []⟩, ⟨9, [1, 4, 7], []⟩, ⟨10, [1, 4, 7, 9], []⟩, ⟨11, [1, 4, 7, 9], []⟩, ⟨12, [1, 4, 7], []⟩, ⟨15, [1, 4, 7, 9, 11], []⟩, ⟨16, [1, 4, 7, 9, 11], []⟩, ⟨13, [1, 4, 16], []⟩, ⟨14, [1, 16], []⟩, ⟨17, [16], []⟩, ⟨18, [16], []⟩, ⟨19, [], []⟩] (by kernel_rfl) ?_
        simp (disch := omega) only [go_sem]
        refine call_open (con_l2shlF m2 (e2 - e1).toNat (by omega) (by omega)) (by simp (disch := omega) only [go_sem, ← ek]) ?_
        rintro r hs ⟨rfl, rfl, _⟩
        refine ⟨by simp [freeN], ?_⟩
        simp (disch := omega) only [go_sem]
        refine call_open (con_l3make s2 (m2 * 2 ^ (e2 - e1).toNat) (by omega)) (by simp (disch := omega) only [go_sem]) ?_
        rintro r hs ⟨rfl, rfl, _⟩
        refine ⟨by simp [freeN], ?_⟩
        simp (disch := omega) only [go_sem]
        refine fin_val (by simp (disch := omega) only [go_sem]) ?_
        show snap _ 6 _ = _
        rw [eF, a1, eE, hd]; unfold alA
        simp (disch := omega) only [go_sem, Bool.and_true]
      · have eF : alF m1 e1 m2 e2 = e2 := by unfold alF; rw [if_neg y1, if_neg y2, if_neg c3]
        have eE : alE m1 e1 m2 e2 = e2 := by unfold alE; rw [if_neg y2, if_neg y1, if_pos (by omega)]
        have a2 : alA m2 e2 (alE m1 e1 m2 e2) = m2 := by rw [eE]; unfold alA; rw [Int.sub_self]; simp
        have ek : e1 - e2 = (((e1 - e2).toNat : Nat) : Int) := by omega
        have hb : bl (m1 * 2 ^ (e1 - e2).toNat) ≤ 6000000 := by have := bl_up m1 (e1 - e2).toNat; omega
        have l3 := len_bl hb
        have hn : m1 * 2 ^ (e1 - e2).toNat ≠ 0 := Nat.mul_ne_zero y1 (Nat.pos_iff_ne_zero.1 (Nat.pow_pos (by omega)))
        have hd : decide (m1 * 2 ^ (e1 - e2).toNat ≠ 0) = true := decide_eq_true hn
        simp (disch := omega) only [go_sem, c3]
        refine draw_of rfl [⟨0, [], []⟩, ⟨1, [], []⟩, ⟨2, [], []⟩, ⟨3, [2], []⟩, ⟨4, [2], []⟩, ⟨5, [2], []⟩, ⟨6, [2, 5], []⟩, ⟨7, [2, 5], []⟩, ⟨8, [2, 5, 7], []⟩, ⟨9, [2, 5, 7], []⟩, ⟨10, [2, 5], []⟩, ⟨13, [2, 5, 7, 9], []⟩, ⟨14, [2, 5, 7, 9], []⟩, ⟨15, [2, 5, 7, 9, 14], []⟩, ⟨16, [2, 5, 7, 9, 14], []⟩, ⟨11, [2, 14, 16], []⟩, ⟨12, [14, 16], []⟩, ⟨17, [14, 16], []⟩, ⟨18, [16], []⟩, ⟨19, [], []⟩] (by kernel_rfl) ?_
        simp (disch := omega) only [go_sem]
        refine call_open (con_l2shlF m1 (e1 - e2).toNat (by omega) (by omega)) (by simp (disch := omega) only [go_sem, ← ek]) ?_
        rintro r hs ⟨rfl, rfl, _⟩
        refine ⟨by simp [freeN], ?_⟩
        simp (disch := omega) only [go_sem]
        refine call_open (con_l3make s1 (m1 * 2 ^ (e1 - e2).toNat) (by omega)) (by simp (disch := omega) only [go_sem]) ?_
        rintro r hs ⟨rfl, rfl, _⟩
        refine ⟨by simp [freeN], ?_⟩
        simp (disch := omega) only [go_sem]
        refine fin_val (by simp (disch := omega) only [go_sem]) ?_
        show snap _ 6 _ = _
        rw [eF, a2, eE, hd]; unfold alA
        simp (disch := omega) only [go_sem, Bool.and_true]

theorem con_l4add (s1 : Bool) (m1 : Nat) (e1 : Int) (s2 : Bool) (m2 : Nat) (e2 : Int) (h1 : bl m1 ≤ 4000000) (h2 : bl m2 ≤ 4000000) (he1 : -1000000 ≤ e1 ∧ e1 ≤ 1000000) (he2 : -1000000 ≤ e2 ∧ e2 ≤ 1000000) (z1 : m1 = 0 → s1 = false) (z2 : m2 = 0 → s2 = false) :
    Con Tryz.prog 102 false [.ag [.v (.bool (s1)), .sl (lim (m1)).length (ints (lim (m1))), .v (.int .i64 (e1))], .ag [.v (.bool (s2)), .sl (lim (m2)).length (ints (lim (m2))), .v (.int .i64 (e2))]] [] (isA (.ag [.v (.bool (oS (adS s1 m1 e1 s2 m2 e2) (adM s1 m1 e1 s2 m2 e2))), .sl (lim (oM (adM s1 m1 e1 s2 m2 e2))).length (ints (lim (oM (adM s1 m1 e1 s2 m2 e2)))), .v (.int .i64 (oE (adM s1 m1 e1 s2 m2 e2) (alE m1 e1 m2 e2)))])) := by
  refine Con.frzA ?_
  have hE := alE_ge (m1 := m1) (m2 := m2) he1.1 he2.1
  have b1 := bl_alA (e := e1) (E := alE m1 e1 m2 e2) (C := 2000000) h1 (by omega)
  have b2 := bl_alA (e := e2) (E := alE m1 e1 m2 e2) (C := 2000000) h2 (by omega)
  have hF : -1000000 ≤ alF m1 e1 m2 e2 ∧ alF m1 e1 m2 e2 ≤ 1000000 := by
    unfold alF
    repeat' split
    all_goals omega
  have hX : oE (adM s1 m1 e1 s2 m2 e2) (alE m1 e1 m2 e2) = oE (adM s1 m1 e1 s2 m2 e2) (alF m1 e1 m2 e2) := by
    by_cases h : m1 = 0 ∧ m2 = 0
    · have : adM s1 m1 e1 s2 m2 e2 = 0 := by rw [h.1, h.2]; unfold adM alA; rw [Nat.zero_mul, Nat.zero_mul]; unfold suM; rw [sv_zero, sv_zero]; rfl
      rw [this]; rfl
    · rw [alF_eq _ _ _ _ h]
  rw [hX]
  have l1 := len_bl h1
  have l2 := len_bl h2
  refine Con.of_aw Tryz.func102 rfl Tryz.ntmps102 (by simp) (by simp) (by simp) (W.sound ?_)
  show @W Tryz.prog 20 ⟨_⟩ ⟨fun x σ => @retW _ _ _ ⟨_⟩ _ ⟨_⟩ x σ⟩ _ _
  simp (disch := omega) only [go_sem]
  refine call_open (con_l4align s1 m1 e1 s2 m2 e2 h1 h2 he1 he2 z1 z2) (by simp (disch := omega) only [go_sem]) ?_
  rintro r hs ⟨rfl, rfl, _⟩
  refine ⟨by simp [freeN], ?_⟩
  simp (disch := omega) only [go_sem]
  unfold adS adM
  generalize alA m1 e1 (alE m1 e1 m2 e2) = A at *
  generalize alA m2 e2 (alE m1 e1 m2 e2) = B at *
  generalize alF m1 e1 m2 e2 = E at *
  refine call_open (con_l3add s1 A s2 B (by omega) (by omega)) (by simp (disch := omega) only [go_sem]) ?_
  rintro r hs ⟨rfl, rfl, _⟩
  refine ⟨by simp [freeN], ?_⟩
  simp (disch := omega) only [go_sem]
  have hb := bl_suM (s1 := s1) (s2 := s2) b1 b2
  refine call_open (con_l4make (suS s1 A s2 B) (suM s1 A s2 B) E (by omega) (by omega)) (by simp (disch := omega) only [go_sem]) ?_
  rintro r hs ⟨rfl, rfl, _⟩
  refine ⟨by simp [freeN], ?_⟩
  simp (disch := omega) only [go_sem]
  refine fin_val (by simp (disch := omega) only [go_sem]) ?_
  show snap _ 6 _ = _
  simp (disch := omega) only [go_sem]
end Go.Ab
namespace Go.Ab
open Go Go.Proofs
set_option linter.unusedVariables false
set_option linter.unusedSimpArgs false

theorem con_l4ups (neg : Bool) (m k : Nat) (mode : Int) (hl : (lim m).length ≤ 2 ^ 40) (hk : 1 ≤ k) (hk2 : k ≤ 2 ^ 40) : Con Tryz.prog 157 true [.v (.bool neg), .ag [.sl (lim (m)).length (ints (lim (m)))], .v (.int .i64 k), .v (.int .i64 mode)] [] (isA (.v (.bool (upsB neg m k mode)))) := by
  refine Con.of_aw Tryz.func157 rfl Tryz.ntmps157 (by simp) (by simp) (by simp) (W.sound ?_)
  show @W Tryz.prog 44 ⟨_⟩ ⟨fun x σ => @retW _ _ _ ⟨_⟩ _ ⟨_⟩ x σ⟩ _ _
  have ek : ((k : Int) - 1) = ((k - 1 : Nat) : Int) := by omega
  have e1 : decide (((m / 2 ^ (k - 1) % 2 : Nat) : Int) = 1) = decide (m / 2 ^ (k - 1) % 2 = 1) := by rw [decide_eq_decide]; omega
  have e2 : decide (((m / 2 ^ k % 2 : Nat) : Int) = 1) = decide (m / 2 ^ k % 2 = 1) := by rw [decide_eq_decide]; omega
  have e3 : decide ((tz m : Int) < ((k - 1 : Nat) : Int)) = decide (tz m < k - 1) := by rw [decide_eq_decide]; omega
  simp (disch := omega) only [go_sem, ek]
  refine call_closed (con_l2bit m ((k - 1 : Nat) : Int) hl (by omega) (by omega)) (by simp (disch := omega) only [go_sem, ek]) ?_
  rintro r hs ⟨rfl, rfl, _⟩
  refine ⟨by simp [freeN], ?_⟩
  simp (disch := omega) only [go_sem, ek, e1]
  refine call_closed (con_l2trail m hl) (by simp (disch := omega) only [go_sem]) ?_
  rintro r hs ⟨rfl, rfl, _⟩
  refine ⟨by simp [freeN], ?_⟩
  simp (disch := omega) only [go_sem]
  refine ifW_dec (fun h1 => ?_) (fun h1 => ?_)
  · simp (disch := omega) only [go_sem, h1]
    exact fin_valc (by simp (disch := omega) only [go_sem]) (by simp (disch := omega) only [go_sem]) ⟨by simp [tupA, upsB, h1], rfl, rfl⟩
  · simp (disch := omega) only [go_sem, h1]
    refine ifW_dec (fun h2 => ?_) (fun h2 => ?_)
    · simp (disch := omega) only [go_sem, h2]
      exact fin_valc (by simp (disch := omega) only [go_sem]) (by simp (disch := omega) only [go_sem]) ⟨by simp [tupA, upsB, h2], rfl, rfl⟩
    · simp (disch := omega) only [go_sem, h2]
      refine ifW_dec (fun h3 => ?_) (fun h3 => ?_)
      · simp (disch := omega) only [go_sem, h3]
        exact fin_valc (by simp (disch := omega) only [go_sem]) (by simp (disch := omega) only [go_sem]) ⟨by simp [tupA, upsB, h3], rfl, rfl⟩
      · simp (disch := omega) only [go_sem, h3]
        refine ifW_dec (fun h4 => ?_) (fun h4 => ?_)
        · simp (disch := omega) only [go_sem, h4]
          exact fin_valc (by simp (disch := omega) only [go_sem]) (by simp (disch := omega) only [go_sem]) ⟨by simp [tupA, upsB, h4], rfl, rfl⟩
        · simp (disch := omega) only [go_sem, h4]
          refine ifW_b (fun h5 => ?_) (fun h5 => ?_)
          · simp (disch := omega) only [go_sem, h5]
            refine ifW_nb (fun h6 => ?_) (fun h6 => ?_)
            · simp (disch := omega) only [go_sem, h6]
              refine call_closed (con_l2bit m (k : Int) hl (by omega) (by omega)) (by simp (disch := omega) only [go_sem]) ?_
              rintro r hs ⟨rfl, rfl, _⟩
              refine ⟨by simp [freeN], ?_⟩
              simp (disch := omega) only [go_sem]
              have h7 : decide (tz m < k - 1) = false := by rw [← e3, ← ek]; exact h6
              rw [e2]
              refine fin_valc (by simp (disch := omega) only [go_sem]) (by simp (disch := omega) only [go_sem]) ⟨?_, rfl, rfl⟩
              show AV.v (.bool _) = AV.v (.bool _)
              unfold upsB; rw [if_neg h1, if_neg h2, if_neg h3, if_neg h4, h5, h7]; rfl
            · simp (disch := omega) only [go_sem, h6]
              have h7 : decide (tz m < k - 1) = true := by rw [← e3, ← ek]; exact h6
              refine fin_valc (by simp (disch := omega) only [go_sem]) (by simp (disch := omega) only [go_sem]) ⟨?_, rfl, rfl⟩
              show AV.v (.bool _) = AV.v (.bool _)
              unfold upsB; rw [if_neg h1, if_neg h2, if_neg h3, if_neg h4, h5, h7]; rfl
          · simp (disch := omega) only [go_sem, h5]
            refine fin_valc (by simp (disch := omega) only [go_sem]) (by simp (disch := omega) only [go_sem]) ⟨?_, rfl, rfl⟩
            show AV.v (.bool _) = AV.v (.bool _)
            unfold upsB; rw [if_neg h1, if_neg h2, if_neg h3, if_neg h4, h5]; rfl

/-- A number in its one form, rounded: as the reference does it. -/
def srM (s : Bool) (m : Nat) (e low mode : Int) : Nat := oM (roM s m e low mode)
def srE (s : Bool) (m : Nat) (e low mode : Int) : Int := if low ≤ e ∨ m = 0 then e else oE (roM s m e low mode) low

theorem con_l4round (s : Bool) (m : Nat) (e low mode : Int) (hodd : m % 2 = 1 ∨ m = 0) (hs : m = 0 → s = false) (hmode : 0 ≤ mode ∧ mode ≤ 4) (hm : bl m ≤ 4000000) (he : -1000000 ≤ e ∧ e ≤ 1000000) (hlo : -1000000 ≤ low ∧ low ≤ 1000000) :
    Con Tryz.prog 144 false [.ag [.v (.bool (s)), .sl (lim (m)).length (ints (lim (m))), .v (.int .i64 (e))], .v (.int .i64 low), .v (.int .i64 mode)] []
      (isA (.tu [.ag [.v (.bool (oS (roS s m e low mode) (roM s m e low mode))), .sl (lim (srM s m e low mode)).length (ints (lim (srM s m e low mode))), .v (.int .i64 (srE s m e low mode))], .v (.bool (roX m e low))])) := by
  refine Con.frzA ?_
  have l1 := len_bl hm
  refine Con.of_aw Tryz.func144 rfl Tryz.ntmps144 (by simp) (by simp) (by simp) (W.sound ?_)
  show @W Tryz.prog 51 ⟨_⟩ ⟨fun x σ => @retW _ _ _ ⟨_⟩ _ ⟨_⟩ x σ⟩ _ _
  simp (disch := omega) only [go_sem]
  refine ifW_not (fun h1 => ?_) (fun h1 => ?_)
  · have h0 : m ≠ 0 := fun e => h1 (by rw [e, lim_zero]; rfl)
    have hod : m % 2 = 1 := hodd.resolve_right h0
    simp (disch := omega) only [go_sem, h1]
    refine ifW_dec (fun h2 => ?_) (fun h2 => ?_)
    · simp (disch := omega) only [go_sem, h2]
      refine fin_val (by simp (disch := omega) only [go_sem]) ?_
      show snap _ 6 _ = _
      have ht := tz_odd hod
      have e3 : oM m = m := by unfold oM; rw [ht]; simp
      simp only [srM, srE, roM, roS, roX, h2, true_or, if_true, oS, if_neg h0, e3]
      simp (disch := omega) only [go_sem]
    · simp (disch := omega) only [go_sem, h2]
      have ek : low - e = (((low - e).toNat : Nat) : Int) := by omega
      have hk1 : 1 ≤ (low - e).toNat := by omega
      refine call_open (con_l2shr m (low - e).toNat (by omega) (by omega)) (by simp (disch := omega) only [go_sem, ← ek]) ?_
      rintro r hs ⟨rfl, rfl, _⟩
      refine ⟨by simp [freeN], ?_⟩
      simp (disch := omega) only [go_sem]
      refine call_closed (con_l4ups s m (low - e).toNat mode (by omega) hk1 (by omega)) (by simp (disch := omega) only [go_sem, ← ek]) ?_
      rintro r hs ⟨rfl, rfl, _⟩
      refine ⟨by simp [freeN], ?_⟩
      simp (disch := omega) only [go_sem]
      have hc : ¬ (low ≤ e ∨ m = 0) := by omega
      have hne := odd_mod hod hk1
      have hups := ups_eq (neg := s) hod hk1 hmode
      have hq : roM s m e low mode = if upsB s m (low - e).toNat mode = true then m / 2 ^ (low - e).toNat + 1 else m / 2 ^ (low - e).toNat := by
        unfold roM rq
        rw [if_neg hc, if_neg hne, ← hups]
      have hro : roS s m e low mode = (s && decide (roM s m e low mode ≠ 0)) := by unfold roS roM; rw [if_neg hc, if_neg hc]
      have hblq : bl (m / 2 ^ (low - e).toNat + 1) ≤ 4000001 := by
        have h3 := bl_succ (m / 2 ^ (low - e).toNat)
        have h4 := bl_divle m (2 ^ (low - e).toNat)
        omega
      have hblq0 : bl (m / 2 ^ (low - e).toNat) ≤ 4000001 := Nat.le_trans (bl_mono (by omega)) hblq
      have lq := len_bl hblq
      have lq0 := len_bl hblq0
      have hrx : roX m e low = false := by unfold roX; rw [if_neg hc]; simp [hne]
      have hfin : ∀ q, roM s m e low mode = q → bl q ≤ 4000001 → AV.ag [.v (.bool (oS (s && decide (q ≠ 0)) q)), .sl (lim (oM q)).length (ints (lim (oM q))), .v (.int .i64 (oE q low))] = AV.ag [.v (.bool (oS (roS s m e low mode) (roM s m e low mode))), .sl (lim (srM s m e low mode)).length (ints (lim (srM s m e low mode))), .v (.int .i64 (srE s m e low mode))] := by
        intro q hq' _
        rw [hro, hq']
        unfold srM srE
        rw [if_neg hc, hq']
      refine ifW_b (fun h3 => ?_) (fun h3 => ?_)
      · rw [if_pos h3] at hq
        simp (disch := omega) only [go_sem, h3]
        refine draw_of rfl [⟨0, [], []⟩, ⟨1, [0], []⟩, ⟨2, [], []⟩, ⟨3, [], []⟩] (by kernel_rfl) ?_
        simp (disch := omega) only [go_sem]
        refine call_open (con_l2ofF 1 (by omega)) (by simp (disch := omega) only [go_sem]) ?_
        rintro r hs ⟨rfl, rfl, _⟩
        refine ⟨by simp [freeN], ?_⟩
        simp (disch := omega) only [go_sem]
        refine call_open (con_l2addF (m / 2 ^ (low - e).toNat) 1 (by omega) (by have := len_bl (m := 1) (B := 1) (by decide); omega)) (by simp (disch := omega) only [go_sem]) ?_
        rintro r hs ⟨rfl, rfl, _⟩
        refine ⟨by simp [freeN], ?_⟩
        simp (disch := omega) only [go_sem]
        refine call_open (con_l3make s (m / 2 ^ (low - e).toNat + 1) (by omega)) (by simp (disch := omega) only [go_sem]) ?_
        rintro r hs ⟨rfl, rfl, _⟩
        refine ⟨by simp [freeN], ?_⟩
        simp (disch := omega) only [go_sem]
        refine call_open (con_l4make (s && decide (m / 2 ^ (low - e).toNat + 1 ≠ 0)) (m / 2 ^ (low - e).toNat + 1) low (by omega) (by omega)) (by simp (disch := omega) only [go_sem]) ?_
        rintro r hs ⟨rfl, rfl, _⟩
        refine ⟨by simp [freeN], ?_⟩
        simp (disch := omega) only [go_sem]
        refine fin_val (by simp (disch := omega) only [go_sem]) ?_
        show snap _ 6 _ = _
        rw [← hfin _ hq hblq, hrx]
        simp (disch := omega) only [go_sem]
      · rw [if_neg (by rw [h3]; simp)] at hq
        simp (disch := omega) only [go_sem, h3]
        refine call_open (con_l3make s (m / 2 ^ (low - e).toNat) (by omega)) (by simp (disch := omega) only [go_sem]) ?_
        rintro r hs ⟨rfl, rfl, _⟩
        refine ⟨by simp [freeN], ?_⟩
        simp (disch := omega) only [go_sem]
        refine call_open (con_l4make (s && decide (m / 2 ^ (low - e).toNat ≠ 0)) (m / 2 ^ (low - e).toNat) low (by omega) (by omega)) (by simp (disch := omega) only [go_sem]) ?_
        rintro r hs ⟨rfl, rfl, _⟩
        refine ⟨by simp [freeN], ?_⟩
        simp (disch := omega) only [go_sem]
        refine fin_val (by simp (disch := omega) only [go_sem]) ?_
        show snap _ 6 _ = _
        rw [← hfin _ hq hblq0, hrx]
        simp (disch := omega) only [go_sem]
  · have h0 : m = 0 := lim_eq_nil.1 (List.length_eq_zero_iff.1 (by omega))
    simp (disch := omega) only [go_sem, h1]
    refine fin_val (by simp (disch := omega) only [go_sem]) ?_
    show snap _ 6 _ = _
    have hs0 := hs h0
    subst h0
    subst hs0
    simp only [srM, srE, roM, roS, roX, or_true, if_true, oS, oM_zero]
    simp (disch := omega) only [go_sem]
end Go.Ab
