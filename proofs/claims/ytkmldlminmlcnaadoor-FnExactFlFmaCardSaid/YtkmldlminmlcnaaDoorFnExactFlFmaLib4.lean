/- What the proof of this claim stands on: the walks of the functions and the plain laws, part 4. -/
import Derived.Test.YtkmldlminmlcnaaDoorFnExactFlFmaLib3
namespace Go.Ab
open Go Go.Proofs
set_option linter.unusedVariables false
set_option linter.unusedSimpArgs false

theorem con_isZero (s : Bool) (m : Nat) (e : Int) : Con Tryd.prog 78 true [.ag [.v (.bool (s)), .sl (lim (m)).length (ints (lim (m))), .v (.int .i64 (e))]] [] (isA (.v (.bool (decide (m = 0))))) := by
  refine Con.of_aw Tryd.func78 rfl Tryd.ntmps78 (by simp) (by simp) (by simp) (W.sound ?_)
  show @W Tryd.prog 7 ⟨_⟩ ⟨fun x σ => @retW _ _ _ ⟨_⟩ _ ⟨_⟩ x σ⟩ _ _
  simp (disch := omega) only [go_sem]
  refine fin_valc (by simp (disch := omega) only [go_sem]) (by simp (disch := omega) only [go_sem]) ⟨?_, rfl, rfl⟩
  have : decide (((lim m).length : Int) = 0) = decide (m = 0) := by
    rw [decide_eq_decide]
    exact ⟨fun h => lim_eq_nil.1 (List.length_eq_zero_iff.1 (by omega)), fun h => by rw [h, lim_zero]; rfl⟩
  rw [this]; rfl

theorem con_topX (s : Bool) (m : Nat) (e : Int) (hm : (lim m).length ≤ 2 ^ 40) (he : -2 ^ 40 ≤ e ∧ e ≤ 2 ^ 40) : Con Tryd.prog 81 true [.ag [.v (.bool (s)), .sl (lim (m)).length (ints (lim (m))), .v (.int .i64 (e))]] [] (isA (.v (.int .i64 (if m = 0 then 0 else (bl m : Int) + e)))) := by
  refine Con.of_aw Tryd.func81 rfl Tryd.ntmps81 (by simp) (by simp) (by simp) (W.sound ?_)
  show @W Tryd.prog 13 ⟨_⟩ ⟨fun x σ => @retW _ _ _ ⟨_⟩ _ ⟨_⟩ x σ⟩ _ _
  simp (disch := omega) only [go_sem]
  refine ifW_dec (fun h1 => ?_) (fun h1 => ?_)
  · simp (disch := omega) only [go_sem, h1]
    have h0 : m = 0 := lim_eq_nil.1 (List.length_eq_zero_iff.1 (by omega))
    rw [if_pos h0]
    exact fin_valc (by simp (disch := omega) only [go_sem]) (by simp (disch := omega) only [go_sem]) isA_mk
  · have h0 : m ≠ 0 := fun e => h1 (by rw [e, lim_zero]; rfl)
    have := bl_len (m := m)
    simp (disch := omega) only [go_sem, h1]
    refine draw_of rfl [⟨0, [], []⟩, ⟨1, [], []⟩, ⟨3, [1], []⟩, ⟨4, [1], []⟩, ⟨2, [4], []⟩, ⟨5, [], []⟩, ⟨6, [], []⟩] (by kernel_rfl) ?_
    simp (disch := omega) only [go_sem]
    refine call_closed (con_bitsOf m hm) (by simp (disch := omega) only [go_sem]) ?_
    rintro r hs ⟨rfl, rfl, _⟩
    refine ⟨by simp [freeN], ?_⟩
    simp (disch := omega) only [go_sem]
    rw [if_neg h0]
    exact fin_valc (by simp (disch := omega) only [go_sem]) (by simp (disch := omega) only [go_sem]) isA_mk

theorem con_odd (s : Bool) (m : Nat) (e : Int) (hm : bl m ≤ 10000000) (he : -2 ^ 40 ≤ e ∧ e ≤ 2 ^ 40) : Con Tryd.prog 118 false [.ag [.v (.bool (s)), .sl (lim (m)).length (ints (lim (m))), .v (.int .i64 (e))]] [] (isA (.ag [.v (.bool (oS s m)), .sl (lim (oM m)).length (ints (lim (oM m))), .v (.int .i64 (oE m e))])) := by
  refine Con.frzA ?_
  refine Con.of_aw Tryd.func118 rfl Tryd.ntmps118 (by simp) (by simp) (by simp) (W.sound ?_)
  show @W Tryd.prog 23 ⟨_⟩ ⟨fun x σ => @retW _ _ _ ⟨_⟩ _ ⟨_⟩ x σ⟩ _ _
  simp (disch := omega) only [go_sem]
  have hl := len_bl hm
  refine ifW_dec (fun h1 => ?_) (fun h1 => ?_)
  · simp (disch := omega) only [go_sem, h1]
    have h0 : m = 0 := lim_eq_nil.1 (List.length_eq_zero_iff.1 (by omega))
    subst h0
    refine fin_val (by simp (disch := omega) only [go_sem]) ?_
    show snap _ 6 _ = _
    simp only [oS, oM_zero, oE, lim_zero, if_true]
    simp (disch := omega) only [go_sem]
  · have h0 : m ≠ 0 := fun e => h1 (by rw [e, lim_zero]; rfl)
    have ht := tz_lt_bl h0
    simp (disch := omega) only [go_sem, h1]
    refine call_closed (con_trailOf m (by omega)) (by simp (disch := omega) only [go_sem]) ?_
    rintro r hs ⟨rfl, rfl, _⟩
    refine ⟨by simp [freeN], ?_⟩
    simp (disch := omega) only [go_sem]
    refine draw_of rfl [⟨0, [], []⟩, ⟨1, [], []⟩, ⟨2, [1], []⟩, ⟨3, [1], []⟩, ⟨4, [1, 3], []⟩, ⟨6, [1, 3], []⟩, ⟨7, [1, 3], []⟩, ⟨8, [1, 3, 7], []⟩, ⟨9, [1, 3], []⟩, ⟨5, [1, 7], []⟩, ⟨10, [], []⟩, ⟨11, [], []⟩] (by kernel_rfl) ?_
    simp (disch := omega) only [go_sem]
    refine call_open (con_downN m (tz m) (by omega) (by omega)) (by simp (disch := omega) only [go_sem]) ?_
    rintro r hs ⟨rfl, rfl, _⟩
    refine ⟨by simp [freeN], ?_⟩
    simp (disch := omega) only [go_sem]
    refine fin_val (by simp (disch := omega) only [go_sem]) ?_
    show snap _ 6 _ = _
    simp only [oS, oM, oE, if_neg h0]
    simp (disch := omega) only [go_sem]

/-- What a quotient of two numbers is, rounded to a multiple of a power of two: its magnitude, and whether it is exact. -/
def ovA (m1 : Nat) (k : Int) : Nat := m1 * 2 ^ k.toNat
def ovQ (s : Bool) (m1 : Nat) (e1 : Int) (m2 : Nat) (e2 low mode : Int) : Nat := rq s (ovA m1 (e1 - e2 - low)) (ovA m2 (-(e1 - e2 - low))) mode
def ovX (m1 : Nat) (e1 : Int) (m2 : Nat) (e2 low : Int) : Bool := decide (ovA m1 (e1 - e2 - low) % ovA m2 (-(e1 - e2 - low)) = 0)

theorem bl_ovA {m B : Nat} {k : Int} {C : Nat} (h : bl m ≤ B) (hk : k ≤ C) : bl (ovA m k) ≤ B + C := by
  have := bl_up m k.toNat
  unfold ovA; omega
theorem ovA_ne {m : Nat} {k : Int} (h : m ≠ 0) : ovA m k ≠ 0 := by
  unfold ovA
  have : 0 < 2 ^ k.toNat := Nat.pow_pos (by omega)
  have := Nat.mul_pos (show 0 < m by omega) this
  omega

theorem con_over (s1 : Bool) (m1 : Nat) (e1 : Int) (s2 : Bool) (m2 : Nat) (e2 low mode : Int) (h2 : m2 ≠ 0) (hm1 : bl m1 ≤ 4000000) (hm2 : bl m2 ≤ 4000000) (hk : -4000000 ≤ e1 - e2 - low ∧ e1 - e2 - low ≤ 4000000)
    (he1 : -2 ^ 40 ≤ e1 ∧ e1 ≤ 2 ^ 40) (he2 : -2 ^ 40 ≤ e2 ∧ e2 ≤ 2 ^ 40) (hlo : -2 ^ 40 ≤ low ∧ low ≤ 2 ^ 40) :
    Con Tryd.prog 121 false [.ag [.v (.bool (s1)), .sl (lim (m1)).length (ints (lim (m1))), .v (.int .i64 (e1))], .ag [.v (.bool (s2)), .sl (lim (m2)).length (ints (lim (m2))), .v (.int .i64 (e2))], .v (.int .i64 low), .v (.int .i64 mode)] []
      (isA (.tu [.ag [.v (.bool ((s1 != s2) && decide (ovQ (s1 != s2) m1 e1 m2 e2 low mode ≠ 0))), .sl (lim (ovQ (s1 != s2) m1 e1 m2 e2 low mode)).length (ints (lim (ovQ (s1 != s2) m1 e1 m2 e2 low mode))), .v (.int .i64 (low))], .v (.bool (ovX m1 e1 m2 e2 low))])) := by
  refine Con.frzA ?_
  refine Con.of_aw Tryd.func121 rfl Tryd.ntmps121 (by simp) (by simp) (by simp) (W.sound ?_)
  show @W Tryd.prog 53 ⟨_⟩ ⟨fun x σ => @retW _ _ _ ⟨_⟩ _ ⟨_⟩ x σ⟩ _ _
  have l1 := len_bl hm1
  have l2 := len_bl hm2
  generalize hsh : e1 - e2 - low = sh at *
  have eq1 : ovQ (s1 != s2) m1 e1 m2 e2 low mode = rq (s1 != s2) (ovA m1 sh) (ovA m2 (-sh)) mode := by unfold ovQ; rw [hsh]
  have eq2 : ovX m1 e1 m2 e2 low = decide (ovA m1 sh % ovA m2 (-sh) = 0) := by unfold ovX; rw [hsh]
  rw [eq1, eq2]
  simp (disch := omega) only [go_sem, hsh]
  refine draw_of rfl [⟨0, [], []⟩, ⟨1, [], []⟩, ⟨2, [], []⟩, ⟨3, [2], []⟩, ⟨4, [2], []⟩, ⟨6, [2], []⟩, ⟨7, [2], []⟩, ⟨8, [2, 7], []⟩, ⟨9, [2, 7], []⟩, ⟨10, [2, 7], []⟩, ⟨12, [2, 7], []⟩, ⟨5, [7], []⟩, ⟨11, [], []⟩, ⟨13, [], []⟩, ⟨14, [], []⟩, ⟨15, [], []⟩, ⟨16, [], []⟩, ⟨17, [], []⟩, ⟨18, [], []⟩] (by kernel_rfl) ?_
  have ex1 : (if 0 > sh then 0 else sh) = ((sh.toNat : Nat) : Int) := by split <;> omega
  have ex2 : (if 0 > 0 - sh then 0 else 0 - sh) = (((-sh).toNat : Nat) : Int) := by split <;> omega
  simp (disch := omega) only [go_sem, ex1, ex2]
  refine call_open (con_upN m1 sh.toNat (by omega) (by omega)) (by simp (disch := omega) only [go_sem]) ?_
  rintro r hs ⟨rfl, rfl, _⟩
  refine ⟨by simp [freeN], ?_⟩
  simp (disch := omega) only [go_sem]
  refine call_open (con_upN m2 (-sh).toNat (by omega) (by omega)) (by simp (disch := omega) only [go_sem]) ?_
  rintro r hs ⟨rfl, rfl, _⟩
  refine ⟨by simp [freeN], ?_⟩
  simp (disch := omega) only [go_sem]
  refine call_open (con_roundQuotient (s1 != s2) (ovA m1 sh) (ovA m2 (-sh)) mode (ovA_ne h2) (bl_ovA (C := 4000000) hm1 (by omega)) (bl_ovA (C := 4000000) hm2 (by omega))) (by simp (disch := omega) only [go_sem, ovA]) ?_
  rintro r hs ⟨rfl, rfl, _⟩
  refine ⟨by simp [freeN], ?_⟩
  simp (disch := omega) only [go_sem]
  generalize rq (s1 != s2) (ovA m1 sh) (ovA m2 (-sh)) mode = q
  generalize decide (ovA m1 sh % ovA m2 (-sh) = 0) = b
  have hq : decide ((0 : Int) < ((lim q).length : Int)) = decide (q ≠ 0) := by
    rw [decide_eq_decide]
    exact ⟨fun h e => by rw [e, lim_zero] at h; simp at h, fun h => by have := lim_ne h; omega⟩
  refine ifW_b (fun h3 => ?_) (fun h3 => ?_)
  · simp (disch := omega) only [go_sem, h3, hq]
    refine fin_val (by simp (disch := omega) only [go_sem]) ?_
    show snap _ 6 _ = _
    simp (disch := omega) only [go_sem, h3, Bool.true_and]
  · simp (disch := omega) only [go_sem, h3]
    refine fin_val (by simp (disch := omega) only [go_sem]) ?_
    show snap _ 6 _ = _
    simp (disch := omega) only [go_sem, h3, Bool.false_and]

/-- A number, rounded to a multiple of a power of two. -/
def roM (s : Bool) (m : Nat) (e low mode : Int) : Nat := if low ≤ e ∨ m = 0 then m else rq s m (2 ^ (low - e).toNat) mode
def roE (m : Nat) (e low : Int) : Int := if low ≤ e ∨ m = 0 then e else low
def roX (m : Nat) (e low : Int) : Bool := if low ≤ e ∨ m = 0 then true else decide (m % 2 ^ (low - e).toNat = 0)
def roS (s : Bool) (m : Nat) (e low mode : Int) : Bool := if low ≤ e ∨ m = 0 then s else s && decide (rq s m (2 ^ (low - e).toNat) mode ≠ 0)

theorem con_rounded (s : Bool) (m : Nat) (e low mode : Int) (hm : bl m ≤ 4000000) (he : -1000000 ≤ e ∧ e ≤ 1000000) (hlo : -1000000 ≤ low ∧ low ≤ 1000000) :
    Con Tryd.prog 83 false [.ag [.v (.bool (s)), .sl (lim (m)).length (ints (lim (m))), .v (.int .i64 (e))], .v (.int .i64 low), .v (.int .i64 mode)] []
      (isA (.tu [.ag [.v (.bool (roS s m e low mode)), .sl (lim (roM s m e low mode)).length (ints (lim (roM s m e low mode))), .v (.int .i64 (roE m e low))], .v (.bool (roX m e low))])) := by
  refine Con.frzA ?_
  refine Con.of_aw Tryd.func83 rfl Tryd.ntmps83 (by simp) (by simp) (by simp) (W.sound ?_)
  show @W Tryd.prog 25 ⟨_⟩ ⟨fun x σ => @retW _ _ _ ⟨_⟩ _ ⟨_⟩ x σ⟩ _ _
  simp (disch := omega) only [go_sem]
  refine ifW_not (fun h1 => ?_) (fun h1 => ?_)
  · simp (disch := omega) only [go_sem, h1]
    refine call_closed (con_isZero s m e) (by simp (disch := omega) only [go_sem]) ?_
    rintro r hs ⟨rfl, rfl, _⟩
    refine ⟨by simp [freeN], ?_⟩
    simp (disch := omega) only [go_sem]
    refine ifW_dec (fun h2 => ?_) (fun h2 => ?_)
    · simp (disch := omega) only [go_sem, h2]
      refine fin_val (by simp (disch := omega) only [go_sem]) ?_
      show snap _ 6 _ = _
      simp only [roS, roM, roE, roX, h2, or_true, if_true]
      simp (disch := omega) only [go_sem]
    · simp (disch := omega) only [go_sem, h2]
      refine draw_of rfl [⟨0, [], []⟩, ⟨3, [0], []⟩, ⟨4, [0], []⟩, ⟨1, [0], []⟩, ⟨2, [0], []⟩, ⟨5, [], []⟩, ⟨6, [], []⟩, ⟨7, [], []⟩, ⟨8, [], []⟩, ⟨9, [], []⟩] (by kernel_rfl) ?_
      simp (disch := omega) only [go_sem]
      refine call_open (con_smallN 1 (by omega)) (by simp (disch := omega) only [go_sem]) ?_
      rintro r hs ⟨rfl, rfl, _⟩
      refine ⟨by simp [freeN], ?_⟩
      simp (disch := omega) only [go_sem]
      refine call_open (con_over s m e false 1 0 low mode (by omega) hm (by decide) (by omega) (by omega) (by omega) (by omega)) (by simp (disch := omega) only [go_sem]) ?_
      rintro r hs ⟨rfl, rfl, _⟩
      refine ⟨by simp [freeN], ?_⟩
      simp (disch := omega) only [go_sem]
      refine fin_val (by simp (disch := omega) only [go_sem]) ?_
      show snap _ 6 _ = _
      have hc : ¬ (low ≤ e ∨ m = 0) := by omega
      have e1 : ovA m (e - 0 - low) = m := by unfold ovA; rw [show (e - 0 - low).toNat = 0 by omega]; simp
      have e2 : ovA 1 (-(e - 0 - low)) = 2 ^ (low - e).toNat := by unfold ovA; rw [show (-(e - 0 - low)).toNat = (low - e).toNat by omega]; simp
      have e3 : (s != false) = s := by cases s <;> rfl
      simp only [roS, roM, roE, roX, if_neg hc, ovQ, ovX, e1, e2, e3]
      simp (disch := omega) only [go_sem]
  · simp (disch := omega) only [go_sem, h1]
    refine fin_val (by simp (disch := omega) only [go_sem]) ?_
    show snap _ 6 _ = _
    simp only [roS, roM, roE, roX, h1, true_or, if_true]
    simp (disch := omega) only [go_sem]
end Go.Ab
namespace Go.Ab
open Go Go.Proofs
set_option linter.unusedVariables false
set_option linter.unusedSimpArgs false

/-- What a function tells of a number. -/
def boolR (b : Bool) : AV → List Ob → List Ob → Prop := fun r hs bs => r = .v (.bool b) ∧ hs = []

end Go.Ab
namespace Go.Ab
open Go Go.Proofs
set_option linter.unusedVariables false
set_option linter.unusedSimpArgs false

end Go.Ab
namespace Go.Ab
open Go Go.Proofs
set_option linter.unusedVariables false
set_option linter.unusedSimpArgs false

theorem Con.boolI {P : Program} {f : FuncId} {args : List AV} {b : Bool} (h : Con P f true args [] (boolR b)) : Con P f true args [] (isA (.v (.bool b))) :=
  (Con.len h).mono fun r hs bs ⟨⟨h1, h2⟩, h3⟩ => ⟨h1, h2, h3⟩

theorem con_withinI (n lo hi : Int) : Con Tryd.prog 91 true [.v (.int .i64 n), .v (.int .i64 lo), .v (.int .i64 hi)] [] (isA (.v (.bool (decide (lo ≤ n) && decide (n ≤ hi))))) :=
  Con.boolI (con_within n lo hi)

theorem con_hasKind (k ka ma ea kb mb eb : Int) (sa sb : Bool) : Con Tryd.prog 41 true [.v (.int .i64 k), .ag [.v (.int .i64 (ka)), .v (.bool (sa)), .v (.int .i64 (ma)), .v (.int .i64 (ea))], .ag [.v (.int .i64 (kb)), .v (.bool (sb)), .v (.int .i64 (mb)), .v (.int .i64 (eb))]] [] (isA (.v (.bool (decide (ka = k) || decide (kb = k))))) := by
  refine Con.of_aw Tryd.func41 rfl Tryd.ntmps41 (by simp) (by simp) (by simp) (W.sound ?_)
  show @W Tryd.prog 17 ⟨_⟩ ⟨fun x σ => @retW _ _ _ ⟨_⟩ _ ⟨_⟩ x σ⟩ _ _
  simp (disch := omega) only [go_sem]
  repeat' first
    | simp (disch := omega) only [go_sem, *]
    | (with_reducible refine ifW_dec (fun _ => ?_) (fun _ => ?_))
    | (with_reducible refine ifW_not (fun _ => ?_) (fun _ => ?_))
    | (with_reducible refine ifW_nb (fun _ => ?_) (fun _ => ?_))
    | (with_reducible refine ifW_b (fun _ => ?_) (fun _ => ?_))
  all_goals exact fin_valc (by simp (disch := omega) only [go_sem]) (by simp (disch := omega) only [go_sem]) ⟨by simp_all [tupA] <;> omega, rfl, rfl⟩

theorem con_nan : Con Tryd.prog 30 true [] [] (isA (.ag [.v (.int .i64 (3)), .v (.bool (false)), .v (.int .i64 (0)), .v (.int .i64 (0))])) := by
  refine Con.of_aw Tryd.func30 rfl Tryd.ntmps30 (by simp) (by simp) (by simp) (W.sound ?_)
  show @W Tryd.prog 2 ⟨_⟩ ⟨fun x σ => @retW _ _ _ ⟨_⟩ _ ⟨_⟩ x σ⟩ _ _
  simp (disch := omega) only [go_sem]
  exact fin_valc (by simp (disch := omega) only [go_sem]) (by simp (disch := omega) only [go_sem]) isA_mk

theorem con_zero (s : Bool) : Con Tryd.prog 79 true [.v (.bool s)] [] (isA (.ag [.v (.int .i64 (0)), .v (.bool (s)), .v (.int .i64 (0)), .v (.int .i64 (0))])) := by
  refine Con.of_aw Tryd.func79 rfl Tryd.ntmps79 (by simp) (by simp) (by simp) (W.sound ?_)
  show @W Tryd.prog 5 ⟨_⟩ ⟨fun x σ => @retW _ _ _ ⟨_⟩ _ ⟨_⟩ x σ⟩ _ _
  simp (disch := omega) only [go_sem]
  exact fin_valc (by simp (disch := omega) only [go_sem]) (by simp (disch := omega) only [go_sem]) isA_mk

theorem con_infinity (s : Bool) : Con Tryd.prog 73 true [.v (.bool s)] [] (isA (.ag [.v (.int .i64 (2)), .v (.bool (s)), .v (.int .i64 (0)), .v (.int .i64 (0))])) := by
  refine Con.of_aw Tryd.func73 rfl Tryd.ntmps73 (by simp) (by simp) (by simp) (W.sound ?_)
  show @W Tryd.prog 5 ⟨_⟩ ⟨fun x σ => @retW _ _ _ ⟨_⟩ _ ⟨_⟩ x σ⟩ _ _
  simp (disch := omega) only [go_sem]
  exact fin_valc (by simp (disch := omega) only [go_sem]) (by simp (disch := omega) only [go_sem]) isA_mk

/-- What is too great is the greatest number: else it has no end. -/
def ovB (s : Bool) (mode : Int) : Bool := decide (mode = 1) || ((decide (mode = 2) && s) || (decide (mode = 3) && !s))

theorem con_overflow (s : Bool) (mode : Int) : Con Tryd.prog 119 true [.v (.bool s), .v (.int .i64 mode)] [] (isA (.tu [.ag [.v (.int .i64 (if ovB s mode then 1 else 2)), .v (.bool s), .v (.int .i64 (if ovB s mode then 9007199254740991 else 0)), .v (.int .i64 (if ovB s mode then 971 else 0))], .v (.int .i64 3)])) := by
  refine Con.of_aw Tryd.func119 rfl Tryd.ntmps119 (by simp) (by simp) (by simp) (W.sound ?_)
  show @W Tryd.prog 29 ⟨_⟩ ⟨fun x σ => @retW _ _ _ ⟨_⟩ _ ⟨_⟩ x σ⟩ _ _
  simp (disch := omega) only [go_sem]
  refine call_closed (con_infinity s) (by simp (disch := omega) only [go_sem]) ?_
  rintro r hs ⟨rfl, rfl, _⟩
  refine ⟨by simp [freeN], ?_⟩
  simp (disch := omega) only [go_sem]
  repeat' first
    | simp (disch := omega) only [go_sem, *]
    | (with_reducible refine ifW_dec (fun _ => ?_) (fun _ => ?_))
    | (with_reducible refine ifW_not (fun _ => ?_) (fun _ => ?_))
    | (with_reducible refine ifW_nb (fun _ => ?_) (fun _ => ?_))
    | (with_reducible refine ifW_b (fun _ => ?_) (fun _ => ?_))
  all_goals exact fin_valc (by simp (disch := omega) only [go_sem]) (by simp (disch := omega) only [go_sem]) ⟨by simp_all [tupA, ovB] <;> omega, rfl, rfl⟩

def flB (k : Int) (s : Bool) (m e : Int) : Bool :=
  if k = 1 then (decide (-1074 ≤ e) && decide (e ≤ 971)) && ((decide (4503599627370496 ≤ m) && decide (m ≤ 9007199254740991)) || ((decide (1 ≤ m) && decide (m ≤ 4503599627370495)) && decide (e = -1074)))
  else if k = 0 ∨ k = 2 then decide (m = 0) && decide (e = 0) else ((decide (k = 3) && decide (m = 0)) && decide (e = 0)) && !s

theorem con_flok (k : Int) (s : Bool) (m e : Int) : Con Tryd.prog 59 true [.ag [.v (.int .i64 (k)), .v (.bool (s)), .v (.int .i64 (m)), .v (.int .i64 (e))]] [] (isA (.v (.bool (flB k s m e)))) := by
  refine Con.of_aw Tryd.func59 rfl Tryd.ntmps59 (by simp) (by simp) (by simp) (W.sound ?_)
  show @W Tryd.prog 54 ⟨_⟩ ⟨fun x σ => @retW _ _ _ ⟨_⟩ _ ⟨_⟩ x σ⟩ _ _
  simp (disch := omega) only [go_sem]
  refine ifW_dec (fun h1 => ?_) (fun h1 => ?_)
  · simp (disch := omega) only [go_sem, h1]
    refine call_closed (con_withinI e (-1074) 971) (by simp (disch := omega) only [go_sem]) ?_
    rintro r hs ⟨rfl, rfl, _⟩
    refine ⟨by simp [freeN], ?_⟩
    simp (disch := omega) only [go_sem]
    refine ifW_b (fun h2 => ?_) (fun h2 => ?_)
    · simp (disch := omega) only [go_sem, h2]
      refine call_closed (con_withinI m 4503599627370496 9007199254740991) (by simp (disch := omega) only [go_sem]) ?_
      rintro r hs ⟨rfl, rfl, _⟩
      refine ⟨by simp [freeN], ?_⟩
      simp (disch := omega) only [go_sem]
      refine ifW_nb (fun h3 => ?_) (fun h3 => ?_)
      · simp (disch := omega) only [go_sem, h3]
        refine call_closed (con_withinI m 1 4503599627370495) (by simp (disch := omega) only [go_sem]) ?_
        rintro r hs ⟨rfl, rfl, _⟩
        refine ⟨by simp [freeN], ?_⟩
        simp (disch := omega) only [go_sem]
        refine ifW_b (fun h4 => ?_) (fun h4 => ?_)
        · simp (disch := omega) only [go_sem, h4]
          refine fin_valc (by simp (disch := omega) only [go_sem]) (by simp (disch := omega) only [go_sem]) ⟨?_, rfl, rfl⟩
          show AV.v (.bool _) = AV.v (.bool _)
          unfold flB; rw [if_pos h1, h2, h3, h4]; rfl
        · simp (disch := omega) only [go_sem, h4]
          refine fin_valc (by simp (disch := omega) only [go_sem]) (by simp (disch := omega) only [go_sem]) ⟨?_, rfl, rfl⟩
          show AV.v (.bool _) = AV.v (.bool _)
          unfold flB; rw [if_pos h1, h2, h3, h4]; rfl
      · simp (disch := omega) only [go_sem, h3]
        refine fin_valc (by simp (disch := omega) only [go_sem]) (by simp (disch := omega) only [go_sem]) ⟨?_, rfl, rfl⟩
        show AV.v (.bool _) = AV.v (.bool _)
        unfold flB; rw [if_pos h1, h2, h3]; rfl
    · simp (disch := omega) only [go_sem, h2]
      refine fin_valc (by simp (disch := omega) only [go_sem]) (by simp (disch := omega) only [go_sem]) ⟨?_, rfl, rfl⟩
      show AV.v (.bool _) = AV.v (.bool _)
      unfold flB; rw [if_pos h1, h2]; rfl
  · repeat' first
      | simp (disch := omega) only [go_sem, *]
      | (with_reducible refine ifW_dec (fun _ => ?_) (fun _ => ?_))
      | (with_reducible refine ifW_not (fun _ => ?_) (fun _ => ?_))
      | (with_reducible refine ifW_nb (fun _ => ?_) (fun _ => ?_))
      | (with_reducible refine ifW_b (fun _ => ?_) (fun _ => ?_))
    all_goals exact fin_valc (by simp (disch := omega) only [go_sem]) (by simp (disch := omega) only [go_sem]) ⟨by simp_all [tupA, flB] <;> omega, rfl, rfl⟩
end Go.Ab
namespace Go.Ab
open Go Go.Proofs
set_option linter.unusedVariables false
set_option linter.unusedSimpArgs false

def flLow (top : Int) : Int := if -1074 > top - 53 then -1074 else top - 53
def flE (rm : Nat) (re : Int) : Int := flLow ((bl rm : Int) + re)
def flM (rm : Nat) (re : Int) : Nat := oM rm * 2 ^ (oE rm re - flE rm re).toNat
def flFlags (top : Int) (same : Bool) : Int := if same then 0 else if top ≤ -1022 then 5 else 1

/-- The float of what was rounded. -/
def flK (s : Bool) (mode : Int) (rm : Nat) (re : Int) : Int := if rm = 0 then 0 else if 1024 < (bl rm : Int) + re then (if ovB s mode then 1 else 2) else 1
def flMm (s : Bool) (mode : Int) (rm : Nat) (re : Int) : Int := if rm = 0 then 0 else if 1024 < (bl rm : Int) + re then (if ovB s mode then 9007199254740991 else 0) else (flM rm re : Int)
def flEe (s : Bool) (mode : Int) (rm : Nat) (re : Int) : Int := if rm = 0 then 0 else if 1024 < (bl rm : Int) + re then (if ovB s mode then 971 else 0) else flE rm re
def flFl (top : Int) (same : Bool) (rm : Nat) (re : Int) : Int := if rm ≠ 0 ∧ 1024 < (bl rm : Int) + re then 3 else flFlags top same

theorem or_add {a b k : Nat} (h : a < 2 ^ k) : a ||| b * 2 ^ k = a + b * 2 ^ k := by
  have := Nat.two_pow_add_eq_or_of_lt h b
  rw [Nat.or_comm, Nat.mul_comm b, ← this, Nat.add_comm]

theorem flM_lt {rm : Nat} {re : Int} (h0 : rm ≠ 0) (he : flE rm re ≤ oE rm re) : bl (flM rm re) ≤ 53 := by
  have h1 : oM rm ≠ 0 := fun e => h0 (oM_eq_zero.1 e)
  have h2 := bl_oM h0
  unfold flM
  rw [bl_mul_pow h1]
  unfold flE flLow oE at *
  rw [if_neg h0] at *
  split at he <;> split <;> omega

set_option maxRecDepth 100000 in
theorem con_floatOf (s : Bool) (top mode : Int) (f : Nat) (caps : List AV) (rs same : Bool) (rm : Nat) (re : Int) (ht : -1000000 ≤ top ∧ top ≤ 1000000) (hf : Con Tryd.prog f false (.v (.int .i64 (flLow top)) :: caps) [] (isA (.tu [.ag [.v (.bool (rs)), .sl (lim (rm)).length (ints (lim (rm))), .v (.int .i64 (re))], .v (.bool same)]))) (hg : fnOk Tryd.prog f = True)
    (hc : ∀ h : Nat → Ob, caps.map (snap h 6) = caps) (hm : bl rm ≤ 4000000) (hre : -1000000 ≤ re ∧ re ≤ 1000000) (he : rm ≠ 0 → (bl rm : Int) + re ≤ 1024 → flE rm re ≤ oE rm re) :
    Con Tryd.prog 80 true [.v (.bool s), .v (.int .i64 top), .v (.int .i64 mode), .fn f caps] []
      (isA (.tu [.ag [.v (.int .i64 (flK s mode rm re)), .v (.bool (s)), .v (.int .i64 (flMm s mode rm re)), .v (.int .i64 (flEe s mode rm re))], .v (.int .i64 (flFl top same rm re))])) := by
  refine Con.of_aw Tryd.func80 rfl Tryd.ntmps80 (by simp) (by simp) (by simp) (W.sound ?_)
  show @W Tryd.prog 77 ⟨_⟩ ⟨fun x σ => @retW _ _ _ ⟨_⟩ _ ⟨_⟩ x σ⟩ _ _
  have elow : (if -1074 > top - 53 then (-1074 : Int) else top - 53) = flLow top := rfl
  have elow2 : -2000000 ≤ flLow top ∧ flLow top ≤ 2000000 := by unfold flLow; split <;> omega
  simp (disch := omega) only [go_sem, elow, hg]
  refine call_open hf (by simp (disch := omega) only [go_sem, hc]) ?_
  rintro r hs ⟨rfl, rfl, _⟩
  refine ⟨by simp [freeN], ?_⟩
  simp (disch := omega) only [go_sem]
  refine ifW_nb (fun h1 => ?_) (fun h1 => ?_)
  · simp (disch := omega) only [go_sem, h1]
    refine ifW_dec (fun h2 => ?_) (fun h2 => ?_)
    · have hfl : flFlags top same = 5 := by unfold flFlags; rw [h1, if_pos h2]; rfl
      have e5 : ((1 ||| 4 : Nat) : Int) = 5 := rfl
      simp (disch := omega) only [go_sem, h2, e5]
      refine call_open (con_odd rs rm re (by omega) (by omega)) (by simp (disch := omega) only [go_sem]) ?_
      rintro r hs ⟨rfl, rfl, _⟩
      refine ⟨by simp [freeN], ?_⟩
      simp (disch := omega) only [go_sem]
      refine call_closed (con_isZero (oS rs rm) (oM rm) (oE rm re)) (by simp (disch := omega) only [go_sem]) ?_
      rintro r hs ⟨rfl, rfl, _⟩
      refine ⟨by simp [freeN], ?_⟩
      simp (disch := omega) only [go_sem]
      refine ifW_dec (fun h3 => ?_) (fun h3 => ?_)
      · have h0 : rm = 0 := oM_eq_zero.1 h3
        simp (disch := omega) only [go_sem, h3]
        refine call_closed (con_zero s) (by simp (disch := omega) only [go_sem]) ?_
        rintro r hs ⟨rfl, rfl, _⟩
        refine ⟨by simp [freeN], ?_⟩
        simp (disch := omega) only [go_sem]
        refine fin_valc (by simp (disch := omega) only [go_sem]) (by simp (disch := omega) only [go_sem]) ⟨?_, rfl, rfl⟩
        simp [tupA, flK, flMm, flEe, flFl, h0, hfl]
      · have h0 : rm ≠ 0 := fun e => h3 (by rw [e]; exact oM_zero)
        have hlo : (lim (oM rm)).length ≤ 2 ^ 40 := by have := len_bl (Nat.le_trans (bl_mono (oM_le rm)) hm); omega
        have hblo := bl_oM h0
        have hoE : oE rm re = re + tz rm := by unfold oE; rw [if_neg h0]
        have etop : (if oM rm = 0 then (0 : Int) else (bl (oM rm) : Int) + oE rm re) = (bl rm : Int) + re := by rw [if_neg h3, hoE]; omega
        simp (disch := omega) only [go_sem, h3]
        refine call_closed (con_topX (oS rs rm) (oM rm) (oE rm re) hlo (by omega)) (by simp (disch := omega) only [go_sem]) ?_
        rintro r hs ⟨rfl, rfl, _⟩
        refine ⟨by simp [freeN], ?_⟩
        simp (disch := omega) only [go_sem]
        refine ifW_dec (fun h4 => ?_) (fun h4 => ?_)
        · simp (disch := omega) only [go_sem, h4, etop]
          refine call_closed (con_overflow s mode) (by simp (disch := omega) only [go_sem]) ?_
          rintro r hs ⟨rfl, rfl, _⟩
          refine ⟨by simp [freeN], ?_⟩
          simp (disch := omega) only [go_sem]
          rw [etop] at h4
          refine fin_valc (by simp (disch := omega) only [go_sem]) (by simp (disch := omega) only [go_sem]) ⟨?_, rfl, rfl⟩
          simp [tupA, flK, flMm, flEe, flFl, h0, h4]
        · rw [etop] at h4
          have he' := he h0 (by omega)
          have hM := flM_lt h0 he'
          have eE : (if -1074 > (bl rm : Int) + re - 53 then (-1074 : Int) else (bl rm : Int) + re - 53) = flE rm re := rfl
          have eE2 : -2000000 ≤ flE rm re ∧ flE rm re ≤ 2000000 := by unfold flE flLow; split <;> omega
          have ek : oE rm re - flE rm re = (((oE rm re - flE rm re).toNat : Nat) : Int) := by omega
          have hML := len_bl hM
          simp (disch := omega) only [go_sem, h4, etop]
          refine call_closed (con_topX (oS rs rm) (oM rm) (oE rm re) hlo (by omega)) (by simp (disch := omega) only [go_sem]) ?_
          rintro r hs ⟨rfl, rfl, _⟩
          refine ⟨by simp [freeN], ?_⟩
          simp (disch := omega) only [go_sem]
          simp (disch := omega) only [go_sem, etop, eE]
          refine call_open (con_upN (oM rm) (oE rm re - flE rm re).toNat (by have := len_bl (Nat.le_trans (bl_mono (oM_le rm)) hm); omega) (by omega)) (by simp (disch := omega) only [go_sem, etop, eE, ← ek]) ?_
          rintro r hs ⟨rfl, rfl, _⟩
          refine ⟨by simp [freeN], ?_⟩
          simp (disch := omega) only [go_sem]
          generalize hLM : flM rm re = M at *
          have eM : oM rm * 2 ^ (oE rm re - flE rm re).toNat = M := hLM
          have hM6 : M < 2 ^ 53 := Nat.lt_of_lt_of_le (bl_lt M) (Nat.pow_le_pow_right (by omega) hM)
          have htk : ∀ i, i ≤ (lim M).length → 0 ≤ vl ((lim M).take i) ∧ vl ((lim M).take i) < 2 ^ 53 := fun i hi => by
            have h1 := vl_nonneg (gd_take (gd_lim M) i)
            have h2 := vl_take_drop (lim M) i hi
            have hp : (0 : Int) < 65536 ^ i := Int.pow_pos (by omega)
            have h3 := Int.mul_nonneg (Int.le_of_lt hp) (vl_nonneg (gd_drop (gd_lim M) i))
            rw [vl_lim] at h2
            omega
          refine loop_intro (fun i : Nat => [(0, .v (.bool s)), (8, .pt 100000000 0), (12, .v (.int .i64 5)), (13, .v (.int .i64 (flE rm re))), (14, .v (.int .i64 (vl ((lim M).take i)))), (58, .sl (lim M).length (ints (lim M))), (59, .v (.int .i64 (lim M).length)), (60, .v (.int .i64 i))])
            (fun _ => [(100000000, .own 0 [.v (.int .i64 0), .v (.bool false), .v (.int .i64 0), .v (.int .i64 0)])]) (fun i => i ≤ (lim M).length) (fun i => (lim M).length - i) 0 (by omega)
            (Le.lst [] _ _ rfl (by simp (disch := omega) only [go_sem, etop, eE, eM, vl, List.take_zero, e5]; try omega) (by simp (disch := omega) only [go_sem])) ?_
          intro i hi
          have hti := htk i hi
          simp (disch := omega) only [go_sem]
          refine ifW_dec (fun h5 => ?_) (fun h5 => ?_)
          · have hti2 := htk (i + 1) (by omega)
            have hx := gd_getD (gd_lim M) i
            have hts := vl_take_succ (l := lim M) (i := i) (by omega)
            have hi3 : i ≤ 3 := by omega
            have es : (min ((16 : Int) * (i : Int)).toNat 64) = 16 * i := by omega
            have ep : (2 : Int) ^ (16 * i) = 65536 ^ i := by rw [Int.pow_mul]; rfl
            have hp : (0 : Int) < 65536 ^ i := Int.pow_pos (by omega)
            have hnn := Int.mul_nonneg (Int.le_of_lt hp) hx.1
            have hcm : (lim M).getD i 0 * 65536 ^ i = 65536 ^ i * (lim M).getD i 0 := Int.mul_comm _ _
            have hmul : 0 ≤ (lim M).getD i 0 * 65536 ^ i ∧ (lim M).getD i 0 * 65536 ^ i < 2 ^ 53 := by omega
            have eor : (((vl ((lim M).take i)).toNat ||| ((lim M).getD i 0 * 65536 ^ i).toNat : Nat) : Int) = vl ((lim M).take (i + 1)) := by
              obtain ⟨a, ha⟩ := Int.eq_ofNat_of_zero_le hti.1
              obtain ⟨b, hb⟩ := Int.eq_ofNat_of_zero_le hx.1
              have hlt := vl_lt (gd_take (gd_lim M) i)
              rw [List.length_take, Nat.min_eq_left hi] at hlt
              rw [hts, ← hcm, ha, hb]
              have e1 : (b : Int) * 65536 ^ i = ((b * 2 ^ (16 * i) : Nat) : Int) := by rw [← pow16, Int.natCast_mul, Int.natCast_pow]; rfl
              rw [e1, Int.toNat_natCast, Int.toNat_natCast, or_add, Int.natCast_add]
              rw [ha, show ((65536 : Int) ^ i) = ((2 ^ (16 * i) : Nat) : Int) by rw [← pow16, Int.natCast_pow]; rfl] at hlt
              omega
            simp (disch := omega) only [go_sem, h5]
            simp (disch := omega) only [go_sem, es, ep, wrap_id]
            simp (disch := omega) only [go_sem, eor]
            refine ⟨by omega, by omega, by omega, next_intro (i + 1) [] (by show i + 1 ≤ _; omega) (by show (lim M).length - (i + 1) < (lim M).length - i; omega) rfl (by simp (disch := omega) only [go_sem]; try omega) (by simp (disch := omega) only [go_sem])⟩
          · have : i = (lim M).length := by omega
            subst this
            have evl : vl ((lim M).take (lim M).length) = (M : Int) := by rw [List.take_length, vl_lim]
            simp (disch := omega) only [go_sem, h5, evl]
            refine fin_valc (by simp (disch := omega) only [go_sem]) (by simp (disch := omega) only [go_sem]) ⟨?_, rfl, rfl⟩
            simp [tupA, flK, flMm, flEe, flFl, h0, h4, hfl, hLM, vl_lim]
    · have hfl : flFlags top same = 1 := by unfold flFlags; rw [h1, if_neg h2]; rfl
      have e5 := (rfl : (0 : Nat) = 0)
      simp (disch := omega) only [go_sem, h2]
      refine call_open (con_odd rs rm re (by omega) (by omega)) (by simp (disch := omega) only [go_sem]) ?_
      rintro r hs ⟨rfl, rfl, _⟩
      refine ⟨by simp [freeN], ?_⟩
      simp (disch := omega) only [go_sem]
      refine call_closed (con_isZero (oS rs rm) (oM rm) (oE rm re)) (by simp (disch := omega) only [go_sem]) ?_
      rintro r hs ⟨rfl, rfl, _⟩
      refine ⟨by simp [freeN], ?_⟩
      simp (disch := omega) only [go_sem]
      refine ifW_dec (fun h3 => ?_) (fun h3 => ?_)
      · have h0 : rm = 0 := oM_eq_zero.1 h3
        simp (disch := omega) only [go_sem, h3]
        refine call_closed (con_zero s) (by simp (disch := omega) only [go_sem]) ?_
        rintro r hs ⟨rfl, rfl, _⟩
        refine ⟨by simp [freeN], ?_⟩
        simp (disch := omega) only [go_sem]
        refine fin_valc (by simp (disch := omega) only [go_sem]) (by simp (disch := omega) only [go_sem]) ⟨?_, rfl, rfl⟩
        simp [tupA, flK, flMm, flEe, flFl, h0, hfl]
      · have h0 : rm ≠ 0 := fun e => h3 (by rw [e]; exact oM_zero)
        have hlo : (lim (oM rm)).length ≤ 2 ^ 40 := by have := len_bl (Nat.le_trans (bl_mono (oM_le rm)) hm); omega
        have hblo := bl_oM h0
        have hoE : oE rm re = re + tz rm := by unfold oE; rw [if_neg h0]
        have etop : (if oM rm = 0 then (0 : Int) else (bl (oM rm) : Int) + oE rm re) = (bl rm : Int) + re := by rw [if_neg h3, hoE]; omega
        simp (disch := omega) only [go_sem, h3]
        refine call_closed (con_topX (oS rs rm) (oM rm) (oE rm re) hlo (by omega)) (by simp (disch := omega) only [go_sem]) ?_
        rintro r hs ⟨rfl, rfl, _⟩
        refine ⟨by simp [freeN], ?_⟩
        simp (disch := omega) only [go_sem]
        refine ifW_dec (fun h4 => ?_) (fun h4 => ?_)
        · simp (disch := omega) only [go_sem, h4, etop]
          refine call_closed (con_overflow s mode) (by simp (disch := omega) only [go_sem]) ?_
          rintro r hs ⟨rfl, rfl, _⟩
          refine ⟨by simp [freeN], ?_⟩
          simp (disch := omega) only [go_sem]
          rw [etop] at h4
          refine fin_valc (by simp (disch := omega) only [go_sem]) (by simp (disch := omega) only [go_sem]) ⟨?_, rfl, rfl⟩
          simp [tupA, flK, flMm, flEe, flFl, h0, h4]
        · rw [etop] at h4
          have he' := he h0 (by omega)
          have hM := flM_lt h0 he'
          have eE : (if -1074 > (bl rm : Int) + re - 53 then (-1074 : Int) else (bl rm : Int) + re - 53) = flE rm re := rfl
          have eE2 : -2000000 ≤ flE rm re ∧ flE rm re ≤ 2000000 := by unfold flE flLow; split <;> omega
          have ek : oE rm re - flE rm re = (((oE rm re - flE rm re).toNat : Nat) : Int) := by omega
          have hML := len_bl hM
          simp (disch := omega) only [go_sem, h4, etop]
          refine call_closed (con_topX (oS rs rm) (oM rm) (oE rm re) hlo (by omega)) (by simp (disch := omega) only [go_sem]) ?_
          rintro r hs ⟨rfl, rfl, _⟩
          refine ⟨by simp [freeN], ?_⟩
          simp (disch := omega) only [go_sem]
          simp (disch := omega) only [go_sem, etop, eE]
          refine call_open (con_upN (oM rm) (oE rm re - flE rm re).toNat (by have := len_bl (Nat.le_trans (bl_mono (oM_le rm)) hm); omega) (by omega)) (by simp (disch := omega) only [go_sem, etop, eE, ← ek]) ?_
          rintro r hs ⟨rfl, rfl, _⟩
          refine ⟨by simp [freeN], ?_⟩
          simp (disch := omega) only [go_sem]
          generalize hLM : flM rm re = M at *
          have eM : oM rm * 2 ^ (oE rm re - flE rm re).toNat = M := hLM
          have hM6 : M < 2 ^ 53 := Nat.lt_of_lt_of_le (bl_lt M) (Nat.pow_le_pow_right (by omega) hM)
          have htk : ∀ i, i ≤ (lim M).length → 0 ≤ vl ((lim M).take i) ∧ vl ((lim M).take i) < 2 ^ 53 := fun i hi => by
            have h1 := vl_nonneg (gd_take (gd_lim M) i)
            have h2 := vl_take_drop (lim M) i hi
            have hp : (0 : Int) < 65536 ^ i := Int.pow_pos (by omega)
            have h3 := Int.mul_nonneg (Int.le_of_lt hp) (vl_nonneg (gd_drop (gd_lim M) i))
            rw [vl_lim] at h2
            omega
          refine loop_intro (fun i : Nat => [(0, .v (.bool s)), (8, .pt 100000000 0), (12, .v (.int .i64 1)), (13, .v (.int .i64 (flE rm re))), (14, .v (.int .i64 (vl ((lim M).take i)))), (58, .sl (lim M).length (ints (lim M))), (59, .v (.int .i64 (lim M).length)), (60, .v (.int .i64 i))])
            (fun _ => [(100000000, .own 0 [.v (.int .i64 0), .v (.bool false), .v (.int .i64 0), .v (.int .i64 0)])]) (fun i => i ≤ (lim M).length) (fun i => (lim M).length - i) 0 (by omega)
            (Le.lst [] _ _ rfl (by simp (disch := omega) only [go_sem, etop, eE, eM, vl, List.take_zero, e5]; try omega) (by simp (disch := omega) only [go_sem])) ?_
          intro i hi
          have hti := htk i hi
          simp (disch := omega) only [go_sem]
          refine ifW_dec (fun h5 => ?_) (fun h5 => ?_)
          · have hti2 := htk (i + 1) (by omega)
            have hx := gd_getD (gd_lim M) i
            have hts := vl_take_succ (l := lim M) (i := i) (by omega)
            have hi3 : i ≤ 3 := by omega
            have es : (min ((16 : Int) * (i : Int)).toNat 64) = 16 * i := by omega
            have ep : (2 : Int) ^ (16 * i) = 65536 ^ i := by rw [Int.pow_mul]; rfl
            have hp : (0 : Int) < 65536 ^ i := Int.pow_pos (by omega)
            have hnn := Int.mul_nonneg (Int.le_of_lt hp) hx.1
            have hcm : (lim M).getD i 0 * 65536 ^ i = 65536 ^ i * (lim M).getD i 0 := Int.mul_comm _ _
            have hmul : 0 ≤ (lim M).getD i 0 * 65536 ^ i ∧ (lim M).getD i 0 * 65536 ^ i < 2 ^ 53 := by omega
            have eor : (((vl ((lim M).take i)).toNat ||| ((lim M).getD i 0 * 65536 ^ i).toNat : Nat) : Int) = vl ((lim M).take (i + 1)) := by
              obtain ⟨a, ha⟩ := Int.eq_ofNat_of_zero_le hti.1
              obtain ⟨b, hb⟩ := Int.eq_ofNat_of_zero_le hx.1
              have hlt := vl_lt (gd_take (gd_lim M) i)
              rw [List.length_take, Nat.min_eq_left hi] at hlt
              rw [hts, ← hcm, ha, hb]
              have e1 : (b : Int) * 65536 ^ i = ((b * 2 ^ (16 * i) : Nat) : Int) := by rw [← pow16, Int.natCast_mul, Int.natCast_pow]; rfl
              rw [e1, Int.toNat_natCast, Int.toNat_natCast, or_add, Int.natCast_add]
              rw [ha, show ((65536 : Int) ^ i) = ((2 ^ (16 * i) : Nat) : Int) by rw [← pow16, Int.natCast_pow]; rfl] at hlt
              omega
            simp (disch := omega) only [go_sem, h5]
            simp (disch := omega) only [go_sem, es, ep, wrap_id]
            simp (disch := omega) only [go_sem, eor]
            refine ⟨by omega, by omega, by omega, next_intro (i + 1) [] (by show i + 1 ≤ _; omega) (by show (lim M).length - (i + 1) < (lim M).length - i; omega) rfl (by simp (disch := omega) only [go_sem]; try omega) (by simp (disch := omega) only [go_sem])⟩
          · have : i = (lim M).length := by omega
            subst this
            have evl : vl ((lim M).take (lim M).length) = (M : Int) := by rw [List.take_length, vl_lim]
            simp (disch := omega) only [go_sem, h5, evl]
            refine fin_valc (by simp (disch := omega) only [go_sem]) (by simp (disch := omega) only [go_sem]) ⟨?_, rfl, rfl⟩
            simp [tupA, flK, flMm, flEe, flFl, h0, h4, hfl, hLM, vl_lim]
  · have hfl : flFlags top same = 0 := by unfold flFlags; rw [h1, if_pos rfl]
    have e5 := (rfl : (0 : Nat) = 0)
    simp (disch := omega) only [go_sem, h1]
    refine call_open (con_odd rs rm re (by omega) (by omega)) (by simp (disch := omega) only [go_sem]) ?_
    rintro r hs ⟨rfl, rfl, _⟩
    refine ⟨by simp [freeN], ?_⟩
    simp (disch := omega) only [go_sem]
    refine call_closed (con_isZero (oS rs rm) (oM rm) (oE rm re)) (by simp (disch := omega) only [go_sem]) ?_
    rintro r hs ⟨rfl, rfl, _⟩
    refine ⟨by simp [freeN], ?_⟩
    simp (disch := omega) only [go_sem]
    refine ifW_dec (fun h3 => ?_) (fun h3 => ?_)
    · have h0 : rm = 0 := oM_eq_zero.1 h3
      simp (disch := omega) only [go_sem, h3]
      refine call_closed (con_zero s) (by simp (disch := omega) only [go_sem]) ?_
      rintro r hs ⟨rfl, rfl, _⟩
      refine ⟨by simp [freeN], ?_⟩
      simp (disch := omega) only [go_sem]
      refine fin_valc (by simp (disch := omega) only [go_sem]) (by simp (disch := omega) only [go_sem]) ⟨?_, rfl, rfl⟩
      simp [tupA, flK, flMm, flEe, flFl, h0, hfl]
    · have h0 : rm ≠ 0 := fun e => h3 (by rw [e]; exact oM_zero)
      have hlo : (lim (oM rm)).length ≤ 2 ^ 40 := by have := len_bl (Nat.le_trans (bl_mono (oM_le rm)) hm); omega
      have hblo := bl_oM h0
      have hoE : oE rm re = re + tz rm := by unfold oE; rw [if_neg h0]
      have etop : (if oM rm = 0 then (0 : Int) else (bl (oM rm) : Int) + oE rm re) = (bl rm : Int) + re := by rw [if_neg h3, hoE]; omega
      simp (disch := omega) only [go_sem, h3]
      refine call_closed (con_topX (oS rs rm) (oM rm) (oE rm re) hlo (by omega)) (by simp (disch := omega) only [go_sem]) ?_
      rintro r hs ⟨rfl, rfl, _⟩
      refine ⟨by simp [freeN], ?_⟩
      simp (disch := omega) only [go_sem]
      refine ifW_dec (fun h4 => ?_) (fun h4 => ?_)
      · simp (disch := omega) only [go_sem, h4, etop]
        refine call_closed (con_overflow s mode) (by simp (disch := omega) only [go_sem]) ?_
        rintro r hs ⟨rfl, rfl, _⟩
        refine ⟨by simp [freeN], ?_⟩
        simp (disch := omega) only [go_sem]
        rw [etop] at h4
        refine fin_valc (by simp (disch := omega) only [go_sem]) (by simp (disch := omega) only [go_sem]) ⟨?_, rfl, rfl⟩
        simp [tupA, flK, flMm, flEe, flFl, h0, h4]
      · rw [etop] at h4
        have he' := he h0 (by omega)
        have hM := flM_lt h0 he'
        have eE : (if -1074 > (bl rm : Int) + re - 53 then (-1074 : Int) else (bl rm : Int) + re - 53) = flE rm re := rfl
        have eE2 : -2000000 ≤ flE rm re ∧ flE rm re ≤ 2000000 := by unfold flE flLow; split <;> omega
        have ek : oE rm re - flE rm re = (((oE rm re - flE rm re).toNat : Nat) : Int) := by omega
        have hML := len_bl hM
        simp (disch := omega) only [go_sem, h4, etop]
        refine call_closed (con_topX (oS rs rm) (oM rm) (oE rm re) hlo (by omega)) (by simp (disch := omega) only [go_sem]) ?_
        rintro r hs ⟨rfl, rfl, _⟩
        refine ⟨by simp [freeN], ?_⟩
        simp (disch := omega) only [go_sem]
        simp (disch := omega) only [go_sem, etop, eE]
        refine call_open (con_upN (oM rm) (oE rm re - flE rm re).toNat (by have := len_bl (Nat.le_trans (bl_mono (oM_le rm)) hm); omega) (by omega)) (by simp (disch := omega) only [go_sem, etop, eE, ← ek]) ?_
        rintro r hs ⟨rfl, rfl, _⟩
        refine ⟨by simp [freeN], ?_⟩
        simp (disch := omega) only [go_sem]
        generalize hLM : flM rm re = M at *
        have eM : oM rm * 2 ^ (oE rm re - flE rm re).toNat = M := hLM
        have hM6 : M < 2 ^ 53 := Nat.lt_of_lt_of_le (bl_lt M) (Nat.pow_le_pow_right (by omega) hM)
        have htk : ∀ i, i ≤ (lim M).length → 0 ≤ vl ((lim M).take i) ∧ vl ((lim M).take i) < 2 ^ 53 := fun i hi => by
          have h1 := vl_nonneg (gd_take (gd_lim M) i)
          have h2 := vl_take_drop (lim M) i hi
          have hp : (0 : Int) < 65536 ^ i := Int.pow_pos (by omega)
          have h3 := Int.mul_nonneg (Int.le_of_lt hp) (vl_nonneg (gd_drop (gd_lim M) i))
          rw [vl_lim] at h2
          omega
        refine loop_intro (fun i : Nat => [(0, .v (.bool s)), (8, .pt 100000000 0), (12, .v (.int .i64 0)), (13, .v (.int .i64 (flE rm re))), (14, .v (.int .i64 (vl ((lim M).take i)))), (58, .sl (lim M).length (ints (lim M))), (59, .v (.int .i64 (lim M).length)), (60, .v (.int .i64 i))])
          (fun _ => [(100000000, .own 0 [.v (.int .i64 0), .v (.bool false), .v (.int .i64 0), .v (.int .i64 0)])]) (fun i => i ≤ (lim M).length) (fun i => (lim M).length - i) 0 (by omega)
          (Le.lst [] _ _ rfl (by simp (disch := omega) only [go_sem, etop, eE, eM, vl, List.take_zero, e5]; try omega) (by simp (disch := omega) only [go_sem])) ?_
        intro i hi
        have hti := htk i hi
        simp (disch := omega) only [go_sem]
        refine ifW_dec (fun h5 => ?_) (fun h5 => ?_)
        · have hti2 := htk (i + 1) (by omega)
          have hx := gd_getD (gd_lim M) i
          have hts := vl_take_succ (l := lim M) (i := i) (by omega)
          have hi3 : i ≤ 3 := by omega
          have es : (min ((16 : Int) * (i : Int)).toNat 64) = 16 * i := by omega
          have ep : (2 : Int) ^ (16 * i) = 65536 ^ i := by rw [Int.pow_mul]; rfl
          have hp : (0 : Int) < 65536 ^ i := Int.pow_pos (by omega)
          have hnn := Int.mul_nonneg (Int.le_of_lt hp) hx.1
          have hcm : (lim M).getD i 0 * 65536 ^ i = 65536 ^ i * (lim M).getD i 0 := Int.mul_comm _ _
          have hmul : 0 ≤ (lim M).getD i 0 * 65536 ^ i ∧ (lim M).getD i 0 * 65536 ^ i < 2 ^ 53 := by omega
          have eor : (((vl ((lim M).take i)).toNat ||| ((lim M).getD i 0 * 65536 ^ i).toNat : Nat) : Int) = vl ((lim M).take (i + 1)) := by
            obtain ⟨a, ha⟩ := Int.eq_ofNat_of_zero_le hti.1
            obtain ⟨b, hb⟩ := Int.eq_ofNat_of_zero_le hx.1
            have hlt := vl_lt (gd_take (gd_lim M) i)
            rw [List.length_take, Nat.min_eq_left hi] at hlt
            rw [hts, ← hcm, ha, hb]
            have e1 : (b : Int) * 65536 ^ i = ((b * 2 ^ (16 * i) : Nat) : Int) := by rw [← pow16, Int.natCast_mul, Int.natCast_pow]; rfl
            rw [e1, Int.toNat_natCast, Int.toNat_natCast, or_add, Int.natCast_add]
            rw [ha, show ((65536 : Int) ^ i) = ((2 ^ (16 * i) : Nat) : Int) by rw [← pow16, Int.natCast_pow]; rfl] at hlt
            omega
          simp (disch := omega) only [go_sem, h5]
          simp (disch := omega) only [go_sem, es, ep, wrap_id]
          simp (disch := omega) only [go_sem, eor]
          refine ⟨by omega, by omega, by omega, next_intro (i + 1) [] (by show i + 1 ≤ _; omega) (by show (lim M).length - (i + 1) < (lim M).length - i; omega) rfl (by simp (disch := omega) only [go_sem]; try omega) (by simp (disch := omega) only [go_sem])⟩
        · have : i = (lim M).length := by omega
          subst this
          have evl : vl ((lim M).take (lim M).length) = (M : Int) := by rw [List.take_length, vl_lim]
          simp (disch := omega) only [go_sem, h5, evl]
          refine fin_valc (by simp (disch := omega) only [go_sem]) (by simp (disch := omega) only [go_sem]) ⟨?_, rfl, rfl⟩
          simp [tupA, flK, flMm, flEe, flFl, h0, h4, hfl, hLM, vl_lim]
end Go.Ab
namespace Go.Ab
open Go Go.Proofs
set_option linter.unusedVariables false
set_option linter.unusedSimpArgs false

section
variable (g : Nat) (p : FlV → Bool)

theorem con_allFl1 (x : FlV) (hf : Con Tryd.prog g true [.ag x.cs] [] (isA (.v (.bool (p x))))) (hg : fnOk Tryd.prog g = True) :
    Con Tryd.prog 103 true [.ag x.cs, .fp [.fn g []] 0] [] (isA (.v (.bool (!p x)))) := by
  unfold FlV.cs at hf ⊢
  refine Con.of_aw Tryd.func103 rfl Tryd.ntmps103 (by simp) (by simp) (by simp) (W.sound ?_)
  show @W Tryd.prog 8 ⟨_⟩ ⟨fun x σ => @retW _ _ _ ⟨_⟩ _ ⟨_⟩ x σ⟩ _ _
  simp (disch := omega) only [go_sem, hg]
  refine call_closed hf (by simp (disch := omega) only [go_sem]) ?_
  rintro r hs ⟨rfl, rfl, _⟩
  refine ⟨by simp [freeN], ?_⟩
  simp (disch := omega) only [go_sem]
  exact fin_valc (by simp (disch := omega) only [go_sem]) (by simp (disch := omega) only [go_sem]) isA_mk

theorem con_indexFl (f : Nat) (caps : List AV) (xs : List FlV) (hl : xs.length ≤ 2 ^ 40) (hf : ∀ x : FlV, Con Tryd.prog f true (.ag x.cs :: caps) [] (isA (.v (.bool (p x))))) (hg : fnOk Tryd.prog f = True)
    (hc : ∀ h : Nat → Ob, caps.map (snap h 6) = caps) (hc5 : ∀ h : Nat → Ob, caps.map (snap h 5) = caps) (hn : ∀ ks, AllL (memK ks) caps) (hr : ∀ ρ, renL ρ caps = caps) :
    Con Tryd.prog 132 true [.sl xs.length (rowA FlV.cs xs), .fn f caps] [] (fun r hs bs => ∃ i : Int, r = .v (.int .i64 i) ∧ hs = [] ∧ (0 ≤ i ↔ ∃ x ∈ xs, p x = true)) := by
  refine Con.of_aw Tryd.func132 rfl Tryd.ntmps132 (by simp) (by simp) (by simp) (W.sound ?_)
  show @W Tryd.prog 19 ⟨_⟩ ⟨fun x σ => @retW _ _ _ ⟨_⟩ _ ⟨_⟩ x σ⟩ _ _
  simp (disch := omega) only [go_sem]
  refine loop_intro (fun i : Nat => [(0, .sl xs.length (rowA FlV.cs xs)), (1, .fn f caps), (6, .sl xs.length (rowA FlV.cs xs)), (7, .v (.int .i64 xs.length)), (8, .v (.int .i64 i))])
    (fun _ => []) (fun i => i ≤ xs.length ∧ ∀ j, j < i → p (xs.getD j ⟨0, false, 0, 0⟩) = false) (fun i => xs.length - i) 0 ⟨by omega, fun j hj => by omega⟩ (Le.lst [] _ _ rfl (by simp (disch := omega) only [go_sem, hr, hn]) (by simp (disch := omega) only [go_sem])) ?_
  rintro i ⟨hi, hp⟩
  simp (disch := omega) only [go_sem]
  refine ifW_dec (fun h1 => ?_) (fun h1 => ?_)
  · have hcut := row_get (l := xs) fl_cs4 (i := i) (by omega) ⟨0, false, 0, 0⟩
    simp (disch := omega) only [go_sem, h1, hcut, hg]
    refine ⟨by omega, by omega, call_closed (hf (xs.getD i ⟨0, false, 0, 0⟩)) (by simp (disch := omega) only [go_sem, hc, hc5]) ?_⟩
    rintro r hs ⟨rfl, rfl, _⟩
    refine ⟨by simp [freeN], ?_⟩
    simp (disch := omega) only [go_sem]
    refine ifW_b (fun h2 => ?_) (fun h2 => ?_)
    · simp (disch := omega) only [go_sem, h2]
      refine fin_valc (by simp (disch := omega) only [go_sem]) (by simp (disch := omega) only [go_sem]) ⟨i, rfl, rfl, ?_⟩
      refine ⟨fun _ => ⟨_, ?_, h2⟩, fun _ => by omega⟩
      rw [List.getD_eq_getElem?_getD, List.getElem?_eq_getElem (by omega)]; exact List.getElem_mem _
    · simp (disch := omega) only [go_sem, h2]
      refine next_intro (i + 1) [] ⟨by omega, fun j hj => ?_⟩ (by show xs.length - (i + 1) < xs.length - i; omega) rfl (by simp (disch := omega) only [go_sem, hr, hn]; try omega) (by simp (disch := omega) only [go_sem])
      rcases (by omega : j < i ∨ j = i) with h | h
      · exact hp j h
      · subst h; exact h2
  · simp (disch := omega) only [go_sem, h1]
    refine fin_valc (by simp (disch := omega) only [go_sem]) (by simp (disch := omega) only [go_sem]) ⟨-1, rfl, rfl, ?_⟩
    refine ⟨fun h => by omega, fun ⟨x, hx, hpx⟩ => ?_⟩
    obtain ⟨j, hj, rfl⟩ := List.getElem_of_mem hx
    have := hp j (by omega)
    rw [List.getD_eq_getElem?_getD, List.getElem?_eq_getElem hj] at this
    simp only [Option.getD_some] at this
    rw [this] at hpx; cases hpx

theorem con_containsFl (f : Nat) (caps : List AV) (xs : List FlV) (hl : xs.length ≤ 2 ^ 40) (hf : ∀ x : FlV, Con Tryd.prog f true (.ag x.cs :: caps) [] (isA (.v (.bool (p x))))) (hg : fnOk Tryd.prog f = True)
    (hc : ∀ h : Nat → Ob, caps.map (snap h 6) = caps) (hc5 : ∀ h : Nat → Ob, caps.map (snap h 5) = caps) (hn : ∀ ks, AllL (memK ks) caps) (hr : ∀ ρ, renL ρ caps = caps) :
    Con Tryd.prog 102 true [.sl xs.length (rowA FlV.cs xs), .fn f caps] [] (isA (.v (.bool (xs.any p)))) := by
  refine Con.of_aw Tryd.func102 rfl Tryd.ntmps102 (by simp) (by simp) (by simp) (W.sound ?_)
  show @W Tryd.prog 9 ⟨_⟩ ⟨fun x σ => @retW _ _ _ ⟨_⟩ _ ⟨_⟩ x σ⟩ _ _
  simp (disch := omega) only [go_sem]
  refine call_closed (con_indexFl p f caps xs hl hf hg hc hc5 hn hr) (by simp (disch := omega) only [go_sem, hc, hc5]) ?_
  rintro r hs ⟨i, rfl, rfl, hi⟩
  refine ⟨by simp [freeN], ?_⟩
  simp (disch := omega) only [go_sem]
  refine fin_valc (by simp (disch := omega) only [go_sem]) (by simp (disch := omega) only [go_sem]) ⟨?_, rfl, rfl⟩
  have : decide (0 ≤ i) = xs.any p := by rw [Bool.eq_iff_iff, decide_eq_true_eq, hi, List.any_eq_true]
  rw [this]; rfl

theorem con_allFl (xs : List FlV) (hl : xs.length ≤ 2 ^ 40) (hf : ∀ x : FlV, Con Tryd.prog g true [.ag x.cs] [] (isA (.v (.bool (p x))))) (hg : fnOk Tryd.prog g = True) :
    Con Tryd.prog 61 true [.sl xs.length (rowA FlV.cs xs), .fn g []] [] (isA (.v (.bool (xs.all p)))) := by
  refine Con.of_aw Tryd.func61 rfl Tryd.ntmps61 (by simp) (by simp) (by simp) (W.sound ?_)
  show @W Tryd.prog 9 ⟨_⟩ ⟨fun x σ => @retW _ _ _ ⟨_⟩ _ ⟨_⟩ x σ⟩ _ _
  simp (disch := omega) only [go_sem]
  refine call_closed (con_containsFl (fun x => !p x) 103 [.fp [.fn g []] 0] xs hl (fun x => con_allFl1 g p x (hf x) hg) (by simp (disch := omega) only [go_sem]) (fun h => rfl) (fun h => rfl) (fun ks => by simp (disch := omega) only [go_sem]) (fun ρ => rfl)) (by simp (disch := omega) only [go_sem]) ?_
  rintro r hs ⟨rfl, rfl, _⟩
  refine ⟨by simp [freeN], ?_⟩
  simp (disch := omega) only [go_sem]
  refine fin_valc (by simp (disch := omega) only [go_sem]) (by simp (disch := omega) only [go_sem]) ⟨?_, rfl, rfl⟩
  have : (!xs.any fun x => !p x) = xs.all p := by rw [List.all_eq_not_any_not]
  rw [this]; rfl
end

def flBV (x : FlV) : Bool := flB x.k x.s x.m x.e

theorem con_areFloats (mode : Int) (xs : List FlV) (hl : xs.length ≤ 2 ^ 40) :
    Con Tryd.prog 29 true [.v (.int .i64 mode), .sl xs.length (rowA FlV.cs xs)] [] (isA (.v (.bool ((decide (0 ≤ mode) && decide (mode ≤ 4)) && xs.all flBV)))) := by
  refine Con.of_aw Tryd.func29 rfl Tryd.ntmps29 (by simp) (by simp) (by simp) (W.sound ?_)
  show @W Tryd.prog 11 ⟨_⟩ ⟨fun x σ => @retW _ _ _ ⟨_⟩ _ ⟨_⟩ x σ⟩ _ _
  simp (disch := omega) only [go_sem]
  refine call_closed (con_isMode mode) (by simp (disch := omega) only [go_sem]) ?_
  rintro r hs ⟨rfl, rfl, _⟩
  refine ⟨by simp [freeN], ?_⟩
  simp (disch := omega) only [go_sem]
  refine ifW_b (fun h1 => ?_) (fun h1 => ?_)
  · simp (disch := omega) only [go_sem, h1]
    refine call_closed (con_allFl 59 flBV xs hl (fun x => con_flok x.k x.s x.m x.e) (by simp (disch := omega) only [go_sem])) (by simp (disch := omega) only [go_sem]) ?_
    rintro r hs ⟨rfl, rfl, _⟩
    refine ⟨by simp [freeN], ?_⟩
    simp (disch := omega) only [go_sem]
    refine fin_valc (by simp (disch := omega) only [go_sem]) (by simp (disch := omega) only [go_sem]) ⟨?_, rfl, rfl⟩
    show AV.v (.bool _) = AV.v (.bool _)
    rw [h1]; rfl
  · simp (disch := omega) only [go_sem, h1]
    refine fin_valc (by simp (disch := omega) only [go_sem]) (by simp (disch := omega) only [go_sem]) ⟨?_, rfl, rfl⟩
    show AV.v (.bool _) = AV.v (.bool _)
    rw [h1]; rfl
end Go.Ab
namespace Go.Ab
open Go Go.Proofs
set_option linter.unusedVariables false
set_option linter.unusedSimpArgs false

theorem con_float1 (s : Bool) (m : Nat) (e low mode : Int) (hm : bl m ≤ 4000000) (he : -1000000 ≤ e ∧ e ≤ 1000000) (hlo : -1000000 ≤ low ∧ low ≤ 1000000) :
    Con Tryd.prog 82 false [.v (.int .i64 low), .fp [.v (.bool s), .sl (lim (m)).length (ints (lim (m))), .v (.int .i64 e)] 0, .fp [.v (.int .i64 mode)] 0] []
      (isA (.tu [.ag [.v (.bool (roS s m e low mode)), .sl (lim (roM s m e low mode)).length (ints (lim (roM s m e low mode))), .v (.int .i64 (roE m e low))], .v (.bool (roX m e low))])) := by
  refine Con.frzA ?_
  refine Con.of_aw Tryd.func82 rfl Tryd.ntmps82 (by simp) (by simp) (by simp) (W.sound ?_)
  show @W Tryd.prog 12 ⟨_⟩ ⟨fun x σ => @retW _ _ _ ⟨_⟩ _ ⟨_⟩ x σ⟩ _ _
  simp (disch := omega) only [go_sem]
  refine call_open (con_rounded s m e low mode hm he hlo) (by simp (disch := omega) only [go_sem]) ?_
  rintro r hs ⟨rfl, rfl, _⟩
  refine ⟨by simp [freeN], ?_⟩
  simp (disch := omega) only [go_sem]
  refine fin_val (by simp (disch := omega) only [go_sem]) ?_
  show snap _ 6 _ = _
  simp (disch := omega) only [go_sem]

/-- The float of a number, and its flags; z is the sign of a zero. -/
def flV (s : Bool) (m : Nat) (e mode : Int) (z : Bool) : FlV :=
  if m = 0 then ⟨0, z, 0, 0⟩ else
    ⟨flK s mode (roM s m e (flLow (bl m + e)) mode) (roE m e (flLow (bl m + e))), s, flMm s mode (roM s m e (flLow (bl m + e)) mode) (roE m e (flLow (bl m + e))), flEe s mode (roM s m e (flLow (bl m + e)) mode) (roE m e (flLow (bl m + e)))⟩
def flG (s : Bool) (m : Nat) (e mode : Int) : Int :=
  if m = 0 then 0 else flFl (bl m + e) (roX m e (flLow (bl m + e))) (roM s m e (flLow (bl m + e)) mode) (roE m e (flLow (bl m + e)))

theorem ro_form {s : Bool} {m : Nat} {e mode : Int} (h0 : m ≠ 0) :
    roM s m e (flLow (bl m + e)) mode ≠ 0 → flE (roM s m e (flLow (bl m + e)) mode) (roE m e (flLow (bl m + e))) ≤ oE (roM s m e (flLow (bl m + e)) mode) (roE m e (flLow (bl m + e))) := by
  intro hr
  unfold oE
  rw [if_neg hr]
  unfold roM roE at *
  by_cases h : flLow (bl m + e) ≤ e ∨ m = 0
  · rw [if_pos h, if_pos h]
    have : flLow (bl m + e) ≤ e := h.resolve_right h0
    unfold flE; omega
  · rw [if_neg h, if_neg h]
    have hlt : e < flLow (bl m + e) := by omega
    have h1 : bl m ≤ 53 + (flLow (bl m + e) - e).toNat := by unfold flLow at *; split at hlt <;> split <;> omega
    have h2 := rnd_form (s := s) (mode := mode) h1
    generalize rq s m (2 ^ (flLow (bl m + e) - e).toNat) mode = q at *
    unfold flE flLow
    split
    · split <;> omega
    · split <;> omega

theorem ro_bl {s : Bool} {m : Nat} {e low mode : Int} {B : Nat} (h : bl m ≤ B) : bl (roM s m e low mode) ≤ B + 1 := by
  unfold roM
  split
  · omega
  · have h1 := bl_mono (rq_le s m (2 ^ (low - e).toNat) mode)
    have h2 := bl_succ (m / 2 ^ (low - e).toNat)
    have h3 := bl_divle m (2 ^ (low - e).toNat)
    omega

theorem con_float (s : Bool) (m : Nat) (e mode : Int) (z : Bool) (hm : bl m ≤ 100000) (he : -100000 ≤ e ∧ e ≤ 100000) :
    Con Tryd.prog 45 true [.ag [.v (.bool (s)), .sl (lim (m)).length (ints (lim (m))), .v (.int .i64 (e))], .v (.int .i64 mode), .v (.bool z)] []
      (isA (.tu [.ag [.v (.int .i64 ((flV s m e mode z).k)), .v (.bool ((flV s m e mode z).s)), .v (.int .i64 ((flV s m e mode z).m)), .v (.int .i64 ((flV s m e mode z).e))], .v (.int .i64 (flG s m e mode))])) := by
  refine Con.of_aw Tryd.func45 rfl Tryd.ntmps45 (by simp) (by simp) (by simp) (W.sound ?_)
  show @W Tryd.prog 21 ⟨_⟩ ⟨fun x σ => @retW _ _ _ ⟨_⟩ _ ⟨_⟩ x σ⟩ _ _
  simp (disch := omega) only [go_sem]
  refine call_closed (con_isZero s m e) (by simp (disch := omega) only [go_sem]) ?_
  rintro r hs ⟨rfl, rfl, _⟩
  refine ⟨by simp [freeN], ?_⟩
  simp (disch := omega) only [go_sem]
  refine ifW_dec (fun h1 => ?_) (fun h1 => ?_)
  · simp (disch := omega) only [go_sem, h1]
    refine call_closed (con_zero z) (by simp (disch := omega) only [go_sem]) ?_
    rintro r hs ⟨rfl, rfl, _⟩
    refine ⟨by simp [freeN], ?_⟩
    simp (disch := omega) only [go_sem]
    refine fin_valc (by simp (disch := omega) only [go_sem]) (by simp (disch := omega) only [go_sem]) ⟨?_, rfl, rfl⟩
    simp only [tupA, flV, flG, h1, if_true]
  · simp (disch := omega) only [go_sem, h1]
    have hl := len_bl hm
    refine draw_of rfl [⟨0, [], []⟩, ⟨1, [], []⟩, ⟨2, [1], []⟩, ⟨4, [1, 2], []⟩, ⟨5, [1, 2, 4], []⟩, ⟨3, [1, 4], []⟩, ⟨6, [], []⟩, ⟨7, [], []⟩, ⟨8, [], []⟩, ⟨9, [], []⟩, ⟨10, [], []⟩] (by kernel_rfl) ?_
    simp (disch := omega) only [go_sem]
    have etop : (if m = 0 then (0 : Int) else (bl m : Int) + e) = (bl m : Int) + e := if_neg h1
    refine call_closed (con_topX s m e (by omega) (by omega)) (by simp (disch := omega) only [go_sem]) ?_
    rintro r hs ⟨rfl, rfl, _⟩
    refine ⟨by simp [freeN], ?_⟩
    simp (disch := omega) only [go_sem]
    have hlow : -1000000 ≤ flLow (bl m + e) ∧ flLow (bl m + e) ≤ 1000000 := by unfold flLow; split <;> omega
    refine call_closed (con_floatOf s ((bl m : Int) + e) mode 82 [.fp [.v (.bool s), .sl (lim (m)).length (ints (lim (m))), .v (.int .i64 e)] 0, .fp [.v (.int .i64 mode)] 0] (roS s m e (flLow (bl m + e)) mode) (roX m e (flLow (bl m + e))) (roM s m e (flLow (bl m + e)) mode) (roE m e (flLow (bl m + e))) (by omega) (con_float1 s m e (flLow (bl m + e)) mode (by omega) (by omega) hlow) (by simp (disch := omega) only [go_sem]) (fun h => rfl) (by have := ro_bl (s := s) (e := e) (low := flLow (bl m + e)) (mode := mode) hm; omega) (by unfold roE; split <;> omega) (fun h _ => ro_form h1 h)) (by simp (disch := omega) only [go_sem, etop]) ?_
    rintro r hs ⟨rfl, rfl, _⟩
    refine ⟨by simp [freeN], ?_⟩
    simp (disch := omega) only [go_sem]
    refine fin_valc (by simp (disch := omega) only [go_sem]) (by simp (disch := omega) only [go_sem]) ⟨?_, rfl, rfl⟩
    simp only [tupA, flV, flG, h1, if_false]

theorem con_timesX (s1 : Bool) (m1 : Nat) (e1 : Int) (s2 : Bool) (m2 : Nat) (e2 : Int) (h1 : bl m1 ≤ 4000000) (h2 : bl m2 ≤ 4000000) (he1 : -2 ^ 40 ≤ e1 ∧ e1 ≤ 2 ^ 40) (he2 : -2 ^ 40 ≤ e2 ∧ e2 ≤ 2 ^ 40) :
    Con Tryd.prog 43 false [.ag [.v (.bool (s1)), .sl (lim (m1)).length (ints (lim (m1))), .v (.int .i64 (e1))], .ag [.v (.bool (s2)), .sl (lim (m2)).length (ints (lim (m2))), .v (.int .i64 (e2))]] [] (isA (.ag [.v (.bool ((s1 != s2) && decide (m1 * m2 ≠ 0))), .sl (lim (m1 * m2)).length (ints (lim (m1 * m2))), .v (.int .i64 (e1 + e2))])) := by
  refine Con.frzA ?_
  refine Con.of_aw Tryd.func43 rfl Tryd.ntmps43 (by simp) (by simp) (by simp) (W.sound ?_)
  show @W Tryd.prog 28 ⟨_⟩ ⟨fun x σ => @retW _ _ _ ⟨_⟩ _ ⟨_⟩ x σ⟩ _ _
  simp (disch := omega) only [go_sem]
  have l1 := len_bl h1
  have l2 := len_bl h2
  refine call_open (con_timesN m1 m2 (by omega) (by omega)) (by simp (disch := omega) only [go_sem]) ?_
  rintro r hs ⟨rfl, rfl, _⟩
  refine ⟨by simp [freeN], ?_⟩
  simp (disch := omega) only [go_sem]
  have hl : (lim (m1 * m2)).length ≤ 2000000 := by have := len_bl (Nat.le_trans (bl_mulle m1 m2) (Nat.add_le_add h1 h2)); omega
  have hq : decide ((0 : Int) < ((lim (m1 * m2)).length : Int)) = decide (m1 * m2 ≠ 0) := by
    rw [decide_eq_decide]
    exact ⟨fun h e => by rw [e, lim_zero] at h; simp at h, fun h => by have := lim_ne h; omega⟩
  refine ifW_b (fun h3 => ?_) (fun h3 => ?_)
  · simp (disch := omega) only [go_sem, h3, hq]
    refine fin_val (by simp (disch := omega) only [go_sem]) ?_
    show snap _ 6 _ = _
    simp (disch := omega) only [go_sem, h3, Bool.true_and]
  · simp (disch := omega) only [go_sem, h3]
    refine fin_val (by simp (disch := omega) only [go_sem]) ?_
    show snap _ 6 _ = _
    simp (disch := omega) only [go_sem, h3, Bool.false_and]

theorem con_flexact (k : Int) (s : Bool) (m : Nat) (e : Int) (hm : m < 2 ^ 63) : Con Tryd.prog 42 false [.ag [.v (.int .i64 (k)), .v (.bool (s)), .v (.int .i64 ((m : Int))), .v (.int .i64 (e))]] [] (isA (.ag [.v (.bool (s && decide (k = 1))), .sl (lim (m)).length (ints (lim (m))), .v (.int .i64 (e))])) := by
  refine Con.frzA ?_
  refine Con.of_aw Tryd.func42 rfl Tryd.ntmps42 (by simp) (by simp) (by simp) (W.sound ?_)
  show @W Tryd.prog 16 ⟨_⟩ ⟨fun x σ => @retW _ _ _ ⟨_⟩ _ ⟨_⟩ x σ⟩ _ _
  simp (disch := omega) only [go_sem]
  refine draw_of rfl [⟨0, [], []⟩, ⟨1, [], []⟩, ⟨2, [], []⟩, ⟨3, [], []⟩, ⟨4, [], []⟩, ⟨5, [], []⟩, ⟨6, [], []⟩, ⟨7, [1, 4], []⟩, ⟨8, [1, 4], []⟩, ⟨10, [1, 4, 8], []⟩, ⟨11, [1, 4, 8], []⟩, ⟨9, [4, 11], []⟩, ⟨12, [], []⟩, ⟨13, [], []⟩] (by kernel_rfl) ?_
  simp (disch := omega) only [go_sem]
  refine ifW_b (fun h3 => ?_) (fun h3 => ?_)
  · simp (disch := omega) only [go_sem, h3]
    refine call_open (con_smallN m hm) (by simp (disch := omega) only [go_sem]) ?_
    rintro r hs ⟨rfl, rfl, _⟩
    refine ⟨by simp [freeN], ?_⟩
    simp (disch := omega) only [go_sem]
    refine fin_val (by simp (disch := omega) only [go_sem]) ?_
    show snap _ 6 _ = _
    simp (disch := omega) only [go_sem, h3, Bool.true_and]
  · simp (disch := omega) only [go_sem, h3]
    refine call_open (con_smallN m hm) (by simp (disch := omega) only [go_sem]) ?_
    rintro r hs ⟨rfl, rfl, _⟩
    refine ⟨by simp [freeN], ?_⟩
    simp (disch := omega) only [go_sem]
    refine fin_val (by simp (disch := omega) only [go_sem]) ?_
    show snap _ 6 _ = _
    simp (disch := omega) only [go_sem, h3, Bool.false_and]
end Go.Ab
namespace Go.Ab
open Go Go.Proofs
set_option linter.unusedVariables false
set_option linter.unusedSimpArgs false

theorem lenpos (m : Nat) : decide ((0 : Int) < ((lim m).length : Int)) = decide (m ≠ 0) := by
  rw [decide_eq_decide]
  exact ⟨fun h e => by rw [e, lim_zero] at h; simp at h, fun h => by have := lim_ne h; omega⟩
theorem con_l2normF (m : Nat) (hl : (lim m).length ≤ 2 ^ 39) : Con Tryd.prog 112 false [.sl (lim (m)).length (ints (lim (m)))] [] (isA (.ag [.sl (lim (m)).length (ints (lim (m)))])) := (con_l2norm false (lim m) m hl (gd_lim m) (vl_lim m)).natF
theorem con_l2ofF (n : Nat) (hn : n < 2 ^ 63) : Con Tryd.prog 72 false [.v (.int .i64 n)] [] (isA (.ag [.sl (lim (n)).length (ints (lim (n)))])) := (con_l2of false n hn).natF
theorem con_l2addF (a b : Nat) (la : (lim a).length ≤ 2000000) (lb : (lim b).length ≤ 2000000) : Con Tryd.prog 107 false [.ag [.sl (lim (a)).length (ints (lim (a)))], .ag [.sl (lim (b)).length (ints (lim (b)))]] [] (isA (.ag [.sl (lim (a + b)).length (ints (lim (a + b)))])) := (con_l2add false a b la lb).natF
theorem con_l2mulF (a b : Nat) (la : (lim a).length ≤ 1000000) (lb : (lim b).length ≤ 1000000) : Con Tryd.prog 108 false [.ag [.sl (lim (a)).length (ints (lim (a)))], .ag [.sl (lim (b)).length (ints (lim (b)))]] [] (isA (.ag [.sl (lim (a * b)).length (ints (lim (a * b)))])) := (con_l2mul false a b la lb).natF
theorem con_l2shlF (a k : Nat) (la : (lim a).length ≤ 400000) (hk : k ≤ 5000000) : Con Tryd.prog 66 false [.ag [.sl (lim (a)).length (ints (lim (a)))], .v (.int .i64 k)] [] (isA (.ag [.sl (lim (a * 2 ^ k)).length (ints (lim (a * 2 ^ k)))])) := (con_l2shl false a k la hk).natF

theorem con_l3make (s : Bool) (m : Nat) (hl : (lim m).length ≤ 2 ^ 39) : Con Tryd.prog 71 false [.v (.bool s), .ag [.sl (lim (m)).length (ints (lim (m)))]] [] (isA (.ag [.v (.bool (s && decide (m ≠ 0))), .sl (lim (m)).length (ints (lim (m)))])) := by
  refine Con.frzA ?_
  refine Con.of_aw Tryd.func71 rfl Tryd.ntmps71 (by simp) (by simp) (by simp) (W.sound ?_)
  show @W Tryd.prog 16 ⟨_⟩ ⟨fun x σ => @retW _ _ _ ⟨_⟩ _ ⟨_⟩ x σ⟩ _ _
  simp (disch := omega) only [go_sem]
  refine draw_of rfl [⟨0, [], []⟩, ⟨1, [], []⟩, ⟨2, [], []⟩, ⟨3, [], []⟩, ⟨4, [], []⟩, ⟨5, [], []⟩, ⟨6, [], []⟩, ⟨7, [3], []⟩, ⟨8, [3], []⟩, ⟨9, [3], []⟩, ⟨10, [], []⟩, ⟨11, [], []⟩] (by kernel_rfl) ?_
  simp (disch := omega) only [go_sem]
  refine ifW_b (fun h1 => ?_) (fun h1 => ?_)
  · simp (disch := omega) only [go_sem, h1, lenpos]
    refine call_open (con_l2normF m hl) (by simp (disch := omega) only [go_sem]) ?_
    rintro r hs ⟨rfl, rfl, _⟩
    refine ⟨by simp [freeN], ?_⟩
    simp (disch := omega) only [go_sem]
    refine fin_val (by simp (disch := omega) only [go_sem]) ?_
    show snap _ 6 _ = _
    simp (disch := omega) only [go_sem, h1, Bool.true_and]
  · simp (disch := omega) only [go_sem, h1]
    refine call_open (con_l2normF m hl) (by simp (disch := omega) only [go_sem]) ?_
    rintro r hs ⟨rfl, rfl, _⟩
    refine ⟨by simp [freeN], ?_⟩
    simp (disch := omega) only [go_sem]
    refine fin_val (by simp (disch := omega) only [go_sem]) ?_
    show snap _ 6 _ = _
    simp (disch := omega) only [go_sem, h1, Bool.false_and]

theorem con_l3mul (s1 : Bool) (m1 : Nat) (s2 : Bool) (m2 : Nat) (h1 : bl m1 ≤ 4000000) (h2 : bl m2 ≤ 4000000) : Con Tryd.prog 70 false [.ag [.v (.bool (s1)), .sl (lim (m1)).length (ints (lim (m1)))], .ag [.v (.bool (s2)), .sl (lim (m2)).length (ints (lim (m2)))]] [] (isA (.ag [.v (.bool ((s1 != s2) && decide (m1 * m2 ≠ 0))), .sl (lim (m1 * m2)).length (ints (lim (m1 * m2)))])) := by
  refine Con.frzA ?_
  refine Con.of_aw Tryd.func70 rfl Tryd.ntmps70 (by simp) (by simp) (by simp) (W.sound ?_)
  show @W Tryd.prog 16 ⟨_⟩ ⟨fun x σ => @retW _ _ _ ⟨_⟩ _ ⟨_⟩ x σ⟩ _ _
  simp (disch := omega) only [go_sem]
  have l1 := len_bl h1
  have l2 := len_bl h2
  refine draw_of rfl [⟨0, [], []⟩, ⟨1, [], []⟩, ⟨2, [1], []⟩, ⟨3, [1], []⟩, ⟨4, [], []⟩, ⟨5, [1, 3], []⟩, ⟨6, [1, 3], []⟩, ⟨7, [1, 3, 6], []⟩, ⟨8, [1, 3, 6], []⟩, ⟨9, [1, 3], []⟩, ⟨10, [], []⟩, ⟨11, [], []⟩] (by kernel_rfl) ?_
  simp (disch := omega) only [go_sem]
  refine call_open (con_l2mulF m1 m2 (by omega) (by omega)) (by simp (disch := omega) only [go_sem]) ?_
  rintro r hs ⟨rfl, rfl, _⟩
  refine ⟨by simp [freeN], ?_⟩
  simp (disch := omega) only [go_sem]
  have l3 := len_bl (Nat.le_trans (bl_mulle m1 m2) (Nat.add_le_add h1 h2))
  refine call_open (con_l3make (s1 != s2) (m1 * m2) (by omega)) (by simp (disch := omega) only [go_sem]) ?_
  rintro r hs ⟨rfl, rfl, _⟩
  refine ⟨by simp [freeN], ?_⟩
  simp (disch := omega) only [go_sem]
  refine fin_val (by simp (disch := omega) only [go_sem]) ?_
  show snap _ 6 _ = _
  simp (disch := omega) only [go_sem]

theorem con_l4make (s : Bool) (m : Nat) (e : Int) (hm : bl m ≤ 8000000) (he : -2 ^ 40 ≤ e ∧ e ≤ 2 ^ 40) : Con Tryd.prog 68 false [.ag [.v (.bool (s)), .sl (lim (m)).length (ints (lim (m)))], .v (.int .i64 e)] [] (isA (.ag [.v (.bool (oS s m)), .sl (lim (oM m)).length (ints (lim (oM m))), .v (.int .i64 (oE m e))])) := by
  refine Con.frzA ?_
  refine Con.of_aw Tryd.func68 rfl Tryd.ntmps68 (by simp) (by simp) (by simp) (W.sound ?_)
  show @W Tryd.prog 26 ⟨_⟩ ⟨fun x σ => @retW _ _ _ ⟨_⟩ _ ⟨_⟩ x σ⟩ _ _
  simp (disch := omega) only [go_sem]
  have hl := len_bl hm
  refine ifW_dec (fun h1 => ?_) (fun h1 => ?_)
  · simp (disch := omega) only [go_sem, h1]
    have h0 : m = 0 := lim_eq_nil.1 (List.length_eq_zero_iff.1 (by omega))
    subst h0
    refine fin_val (by simp (disch := omega) only [go_sem]) ?_
    show snap _ 6 _ = _
    simp only [oS, oM_zero, oE, lim_zero, if_true]
    simp (disch := omega) only [go_sem]
  · have h0 : m ≠ 0 := fun e => h1 (by rw [e, lim_zero]; rfl)
    have ht := tz_lt_bl h0
    simp (disch := omega) only [go_sem, h1]
    refine call_closed (con_l2trail m (by omega)) (by simp (disch := omega) only [go_sem]) ?_
    rintro r hs ⟨rfl, rfl, _⟩
    refine ⟨by simp [freeN], ?_⟩
    simp (disch := omega) only [go_sem]
    refine draw_of rfl [⟨0, [], []⟩, ⟨1, [], []⟩, ⟨2, [1], []⟩, ⟨3, [1], []⟩, ⟨4, [1, 3], []⟩, ⟨7, [1, 3], []⟩, ⟨8, [1, 3], []⟩, ⟨9, [1, 3], []⟩, ⟨5, [1], []⟩, ⟨6, [], []⟩, ⟨10, [], []⟩, ⟨11, [], []⟩] (by kernel_rfl) ?_
    simp (disch := omega) only [go_sem]
    refine call_open (con_l2shr m (tz m) (by omega) (by omega)) (by simp (disch := omega) only [go_sem]) ?_
    rintro r hs ⟨rfl, rfl, _⟩
    refine ⟨by simp [freeN], ?_⟩
    simp (disch := omega) only [go_sem]
    have l3 := len_bl (Nat.le_trans (bl_divle m (2 ^ tz m)) hm)
    refine call_open (con_l3make s (m / 2 ^ tz m) (by omega)) (by simp (disch := omega) only [go_sem]) ?_
    rintro r hs ⟨rfl, rfl, _⟩
    refine ⟨by simp [freeN], ?_⟩
    simp (disch := omega) only [go_sem]
    refine fin_val (by simp (disch := omega) only [go_sem]) ?_
    show snap _ 6 _ = _
    have h3 : decide (m / 2 ^ tz m ≠ 0) = true := by
      have := (odd_part h0).1
      simp only [decide_eq_true_eq]; omega
    simp only [oS, oM, oE, if_neg h0]
    simp (disch := omega) only [go_sem, h3, Bool.and_true]

theorem con_l4mul (s1 : Bool) (m1 : Nat) (e1 : Int) (s2 : Bool) (m2 : Nat) (e2 : Int) (h1 : bl m1 ≤ 4000000) (h2 : bl m2 ≤ 4000000) (he1 : -2 ^ 39 ≤ e1 ∧ e1 ≤ 2 ^ 39) (he2 : -2 ^ 39 ≤ e2 ∧ e2 ≤ 2 ^ 39) :
    Con Tryd.prog 37 false [.ag [.v (.bool (s1)), .sl (lim (m1)).length (ints (lim (m1))), .v (.int .i64 (e1))], .ag [.v (.bool (s2)), .sl (lim (m2)).length (ints (lim (m2))), .v (.int .i64 (e2))]] [] (isA (.ag [.v (.bool (oS ((s1 != s2) && decide (m1 * m2 ≠ 0)) (m1 * m2))), .sl (lim (oM (m1 * m2))).length (ints (lim (oM (m1 * m2)))), .v (.int .i64 (oE (m1 * m2) (e1 + e2)))])) := by
  refine Con.frzA ?_
  refine Con.of_aw Tryd.func37 rfl Tryd.ntmps37 (by simp) (by simp) (by simp) (W.sound ?_)
  show @W Tryd.prog 16 ⟨_⟩ ⟨fun x σ => @retW _ _ _ ⟨_⟩ _ ⟨_⟩ x σ⟩ _ _
  simp (disch := omega) only [go_sem]
  refine draw_of rfl [⟨0, [], []⟩, ⟨1, [], []⟩, ⟨2, [1], []⟩, ⟨3, [1], []⟩, ⟨5, [1, 3], []⟩, ⟨6, [1, 3], []⟩, ⟨7, [1, 3, 6], []⟩, ⟨8, [1, 3, 6], []⟩, ⟨9, [1, 3], []⟩, ⟨4, [6, 8], []⟩, ⟨10, [], []⟩, ⟨11, [], []⟩] (by kernel_rfl) ?_
  simp (disch := omega) only [go_sem]
  refine call_open (con_l3mul s1 m1 s2 m2 h1 h2) (by simp (disch := omega) only [go_sem]) ?_
  rintro r hs ⟨rfl, rfl, _⟩
  refine ⟨by simp [freeN], ?_⟩
  simp (disch := omega) only [go_sem]
  have h3 := Nat.le_trans (bl_mulle m1 m2) (Nat.add_le_add h1 h2)
  refine call_open (con_l4make ((s1 != s2) && decide (m1 * m2 ≠ 0)) (m1 * m2) (e1 + e2) (by omega) (by omega)) (by simp (disch := omega) only [go_sem]) ?_
  rintro r hs ⟨rfl, rfl, _⟩
  refine ⟨by simp [freeN], ?_⟩
  simp (disch := omega) only [go_sem]
  refine fin_val (by simp (disch := omega) only [go_sem]) ?_
  show snap _ 6 _ = _
  simp (disch := omega) only [go_sem]

theorem con_l4top (s : Bool) (m : Nat) (e : Int) (hm : (lim m).length ≤ 2 ^ 40) (he : -2 ^ 40 ≤ e ∧ e ≤ 2 ^ 40) : Con Tryd.prog 62 true [.ag [.v (.bool (s)), .sl (lim (m)).length (ints (lim (m))), .v (.int .i64 (e))]] [] (isA (.v (.int .i64 (if m = 0 then 0 else e + (bl m : Int))))) := by
  refine Con.of_aw Tryd.func62 rfl Tryd.ntmps62 (by simp) (by simp) (by simp) (W.sound ?_)
  show @W Tryd.prog 16 ⟨_⟩ ⟨fun x σ => @retW _ _ _ ⟨_⟩ _ ⟨_⟩ x σ⟩ _ _
  simp (disch := omega) only [go_sem]
  refine ifW_dec (fun h1 => ?_) (fun h1 => ?_)
  · simp (disch := omega) only [go_sem, h1]
    have h0 : m = 0 := lim_eq_nil.1 (List.length_eq_zero_iff.1 (by omega))
    rw [if_pos h0]
    exact fin_valc (by simp (disch := omega) only [go_sem]) (by simp (disch := omega) only [go_sem]) isA_mk
  · have h0 : m ≠ 0 := fun e => h1 (by rw [e, lim_zero]; rfl)
    have := bl_len (m := m)
    simp (disch := omega) only [go_sem, h1]
    refine draw_of rfl [⟨0, [], []⟩, ⟨1, [], []⟩, ⟨2, [1], []⟩, ⟨3, [1], []⟩, ⟨4, [1], []⟩, ⟨5, [1], []⟩, ⟨6, [], []⟩, ⟨7, [], []⟩] (by kernel_rfl) ?_
    simp (disch := omega) only [go_sem]
    refine call_closed (con_l2bits m hm) (by simp (disch := omega) only [go_sem]) ?_
    rintro r hs ⟨rfl, rfl, _⟩
    refine ⟨by simp [freeN], ?_⟩
    simp (disch := omega) only [go_sem]
    rw [if_neg h0]
    exact fin_valc (by simp (disch := omega) only [go_sem]) (by simp (disch := omega) only [go_sem]) isA_mk
end Go.Ab
namespace Go.Ab
set_option linter.unusedVariables false

/-- As the reference tells whether to go up. -/
def upsB (neg : Bool) (m k : Nat) (mode : Int) : Bool :=
  if mode = 1 then false else if mode = 2 then !neg else if mode = 3 then neg else if mode = 4 then decide (m / 2 ^ (k - 1) % 2 = 1)
  else decide (m / 2 ^ (k - 1) % 2 = 1) && (decide (tz m < k - 1) || decide (m / 2 ^ k % 2 = 1))

theorem half_bit {m k : Nat} (hk : 1 ≤ k) : m / 2 ^ (k - 1) % 2 = 1 ↔ 2 ^ k ≤ m % 2 ^ k * 2 := by
  obtain ⟨j, rfl⟩ : ∃ j, k = j + 1 := ⟨k - 1, by omega⟩
  rw [Nat.add_sub_cancel]
  have hp : 0 < 2 ^ j := Nat.pow_pos (by omega)
  have h1 : m % 2 ^ (j + 1) / 2 ^ j = m / 2 ^ j % 2 := by rw [Nat.pow_succ, Nat.mod_mul_right_div_self]
  have h2 : m % 2 ^ (j + 1) < 2 ^ (j + 1) := Nat.mod_lt _ (Nat.pow_pos (by omega))
  rw [← h1]
  generalize m % 2 ^ (j + 1) = r at *
  rw [Nat.pow_succ] at *
  constructor
  · intro h
    have h3 := (Nat.le_div_iff_mul_le hp).1 (show 1 ≤ r / 2 ^ j by
      rcases Nat.eq_zero_or_pos (r / 2 ^ j) with e | e
      · rw [e] at h; simp at h
      · exact e)
    omega
  · intro h
    have h3 : 1 ≤ r / 2 ^ j := (Nat.le_div_iff_mul_le hp).2 (by omega)
    have h4 : r / 2 ^ j < 2 := (Nat.div_lt_iff_lt_mul hp).2 (by omega)
    omega

theorem cmp_pos {a b : Int} : (0 < cmpI a b ↔ b < a) ∧ (cmpI a b = 0 ↔ a = b) ∧ (0 ≤ cmpI a b ↔ b ≤ a) := by
  unfold cmpI
  split
  · omega
  · split <;> omega

theorem tz_odd {m : Nat} (h : m % 2 = 1) : tz m = 0 := tz_uniq (a := m / 2) (by simp; omega)

theorem ups_eq {neg : Bool} {m k : Nat} {mode : Int} (hm : m % 2 = 1) (hk : 1 ≤ k) (h0 : 0 ≤ mode ∧ mode ≤ 4) :
    upsB neg m k mode = rup neg (decide (m / 2 ^ k % 2 = 1)) (cmpI ((m % 2 ^ k * 2 : Nat) : Int) ((2 ^ k : Nat) : Int)) mode := by
  have hb := half_bit (m := m) hk
  obtain ⟨c1, c2, c3⟩ := cmp_pos (a := ((m % 2 ^ k * 2 : Nat) : Int)) (b := ((2 ^ k : Nat) : Int))
  generalize cmpI ((m % 2 ^ k * 2 : Nat) : Int) ((2 ^ k : Nat) : Int) = c at *
  have ht := tz_odd hm
  unfold upsB rup
  rcases (by omega : mode = 0 ∨ mode = 1 ∨ mode = 2 ∨ mode = 3 ∨ mode = 4) with rfl | rfl | rfl | rfl | rfl
  · rw [if_neg (by omega), if_neg (by omega), if_neg (by omega), if_neg (by omega), if_neg (by omega), if_neg (by omega), if_pos rfl, ht]
    rw [Bool.eq_iff_iff]
    simp only [Bool.and_eq_true, Bool.or_eq_true, decide_eq_true_eq, c1, c2]
    rw [hb]
    rcases (by omega : k = 1 ∨ 1 < k) with rfl | h
    · have : m % 2 ^ 1 = 1 := by rw [Nat.pow_one]; exact hm
      rw [this]; simp
    · have hodd : m % 2 ^ k % 2 = 1 := by
        obtain ⟨j, rfl⟩ : ∃ j, k = j + 1 := ⟨k - 1, by omega⟩
        rw [Nat.pow_succ, Nat.mul_comm, Nat.mod_mul_right_mod]; exact hm
      have h4 : 2 ^ k % 4 = 0 := by
        obtain ⟨j, rfl⟩ : ∃ j, k = j + 2 := ⟨k - 2, by omega⟩
        rw [Nat.pow_add]; omega
      omega
  · simp
  · simp
  · simp
  · rw [if_neg (by omega), if_neg (by omega), if_neg (by omega), if_pos rfl, if_neg (by omega), if_neg (by omega), if_neg (by omega), if_pos rfl]
    rw [decide_eq_decide, hb, c3]; omega

theorem odd_mod {m k : Nat} (hm : m % 2 = 1) (hk : 1 ≤ k) : m % 2 ^ k ≠ 0 := by
  obtain ⟨j, rfl⟩ : ∃ j, k = j + 1 := ⟨k - 1, by omega⟩
  intro h
  have : m % 2 ^ (j + 1) % 2 = 1 := by rw [Nat.pow_succ, Nat.mul_comm, Nat.mod_mul_right_mod]; exact hm
  omega

/-! ### The normal form and rounding -/
theorem oM_oM (m : Nat) : oM (oM m) = oM m := by
  by_cases h : m = 0
  · subst h; rw [oM_zero, oM_zero]
  · have := (odd_part h).1
    have ht : tz (oM m) = 0 := tz_odd this
    show oM m / 2 ^ tz (oM m) = oM m
    rw [ht]; simp
theorem oE_oM (m : Nat) (e : Int) : oE (oM m) (oE m e) = oE m e := by
  by_cases h : m = 0
  · subst h; rw [oM_zero]; simp [oE]
  · have := (odd_part h).1
    have ht : tz (oM m) = 0 := tz_odd this
    have h2 : oM m ≠ 0 := fun e => h (oM_eq_zero.1 e)
    unfold oE
    rw [if_neg h2, if_neg h, ht]; simp

theorem oM_pow {m k : Nat} : oM (m * 2 ^ k) = oM m := by
  by_cases h : m = 0
  · subst h; simp
  · unfold oM
    rw [tz_mul_pow h, Nat.pow_add, Nat.mul_comm (2 ^ tz m), ← Nat.div_div_eq_div_mul, Nat.mul_div_cancel _ (Nat.pow_pos (by omega))]

theorem rq_scale {s : Bool} {a b k : Nat} {mode : Int} : rq s (a * 2 ^ k) (b * 2 ^ k) mode = rq s a b mode := by
  have hp : 0 < 2 ^ k := Nat.pow_pos (by omega)
  have h1 : a * 2 ^ k / (b * 2 ^ k) = a / b := Nat.mul_div_mul_right _ _ hp
  have h2 : a * 2 ^ k % (b * 2 ^ k) = a % b * 2 ^ k := Nat.mul_mod_mul_right _ _ _
  have h3 : cmpI ((a % b * 2 ^ k * 2 : Nat) : Int) ((b * 2 ^ k : Nat) : Int) = cmpI ((a % b * 2 : Nat) : Int) (b : Int) := by
    have e1 : a % b * 2 ^ k * 2 = a % b * 2 * 2 ^ k := by grind
    rw [e1]
    have h4 : ∀ x y : Nat, x * 2 ^ k < y * 2 ^ k ↔ x < y := fun x y => Nat.mul_lt_mul_right hp
    have key : ∀ x y X Y : Nat, (X < Y ↔ x < y) → (Y < X ↔ y < x) → cmpI (X : Int) (Y : Int) = cmpI (x : Int) (y : Int) := by
      intro x y X Y p q
      unfold cmpI
      rcases Nat.lt_trichotomy x y with h | h | h
      · have := p.2 h
        rw [if_pos (by omega), if_pos (by omega)]
      · have g1 : ¬ X < Y := fun g => by have := p.1 g; omega
        have g2 : ¬ Y < X := fun g => by have := q.1 g; omega
        rw [if_neg (by omega), if_neg (by omega), if_neg (by omega), if_neg (by omega)]
      · have := q.2 h
        rw [if_neg (by omega), if_pos (by omega), if_neg (by omega), if_pos (by omega)]
    exact key _ _ _ _ (h4 _ _) (h4 _ _)
  unfold rq
  rw [h1, h2, h3]
  by_cases h : a % b = 0
  · rw [if_pos h, if_pos (by rw [h]; simp)]
  · rw [if_neg h, if_neg (by have := Nat.mul_pos (show 0 < a % b by omega) hp; omega)]

theorem rq_one {s : Bool} {a : Nat} {mode : Int} : rq s a 1 mode = a := by unfold rq; simp [Nat.mod_one]
end Go.Ab
namespace Go.Ab
set_option linter.unusedVariables false
set_option linter.unusedSimpArgs false

theorem fl_inv {rm rm' : Nat} {re re' : Int} (hM : oM rm = oM rm') (hE : oE rm re = oE rm' re') : (rm = 0 ↔ rm' = 0) ∧ (rm ≠ 0 → (bl rm : Int) + re = (bl rm' : Int) + re') := by
  have h0 : rm = 0 ↔ rm' = 0 := by rw [← oM_eq_zero, ← @oM_eq_zero rm', hM]
  refine ⟨h0, fun h => ?_⟩
  have h' : rm' ≠ 0 := fun e => h (h0.2 e)
  have e1 := bl_oM h
  have e2 := bl_oM h'
  unfold oE at hE
  rw [if_neg h, if_neg h'] at hE
  rw [hM] at e1
  omega

theorem fl_eqs {s : Bool} {mode : Int} {rm rm' : Nat} {re re' : Int} (hM : oM rm = oM rm') (hE : oE rm re = oE rm' re') :
    flK s mode rm re = flK s mode rm' re' ∧ flMm s mode rm re = flMm s mode rm' re' ∧ flEe s mode rm re = flEe s mode rm' re' ∧ ∀ top same, flFl top same rm re = flFl top same rm' re' := by
  obtain ⟨h0, ht⟩ := fl_inv hM hE
  by_cases h : rm = 0
  · have h' := h0.1 h
    simp [flK, flMm, flEe, flFl, h, h']
  · have h' : rm' ≠ 0 := fun e => h (h0.2 e)
    have h1 := ht h
    simp [flK, flMm, flEe, flFl, flM, flE, h, h', h1, hM, hE]

theorem ro_norm {s : Bool} {m : Nat} {e low mode : Int} (h0 : m ≠ 0) :
    oM (roM s m e low mode) = oM (roM s (oM m) (oE m e) low mode) ∧ oE (roM s m e low mode) (roE m e low) = oE (roM s (oM m) (oE m e) low mode) (roE (oM m) (oE m e) low) ∧ roX m e low = roX (oM m) (oE m e) low := by
  have ha0 : oM m ≠ 0 := fun e => h0 (oM_eq_zero.1 e)
  have hoE : oE m e = e + tz m := by unfold oE; rw [if_neg h0]
  have hao := (odd_part h0).1
  have hmm : oM m * 2 ^ tz m = m := oM_mul
  by_cases h1 : low ≤ e
  · have c1 : low ≤ e ∨ m = 0 := .inl h1
    have c2 : low ≤ oE m e ∨ oM m = 0 := .inl (by omega)
    unfold roM roE roX
    rw [if_pos c1, if_pos c1, if_pos c1, if_pos c2, if_pos c2, if_pos c2]
    exact ⟨(oM_oM m).symm, (oE_oM m e).symm, rfl⟩
  · have c1 : ¬ (low ≤ e ∨ m = 0) := by omega
    by_cases h2 : low ≤ oE m e
    · have c2 : low ≤ oE m e ∨ oM m = 0 := .inl h2
      unfold roM roE roX
      rw [if_neg c1, if_neg c1, if_neg c1, if_pos c2, if_pos c2, if_pos c2, oM_oM, oE_oM]
      obtain ⟨i, hi⟩ : ∃ i, tz m = i + (low - e).toNat := ⟨tz m - (low - e).toNat, by omega⟩
      have e1 : m = oM m * 2 ^ i * 2 ^ (low - e).toNat := by rw [Nat.mul_assoc, ← Nat.pow_add, ← hi, hmm]
      have e2 : rq s m (2 ^ (low - e).toNat) mode = oM m * 2 ^ i := by
        have := rq_scale (s := s) (a := oM m * 2 ^ i) (b := 1) (k := (low - e).toNat) (mode := mode)
        rw [← e1, Nat.one_mul] at this
        rw [this, rq_one]
      rw [e2]
      refine ⟨by rw [oM_pow, oM_oM], ?_, ?_⟩
      · have h3 : oM m * 2 ^ i ≠ 0 := Nat.mul_ne_zero ha0 (Nat.pos_iff_ne_zero.1 (Nat.pow_pos (by omega)))
        have h4 : tz (oM m * 2 ^ i) = i := tz_uniq (a := oM m / 2) (by rw [show 2 * (oM m / 2) + 1 = oM m by unfold oM at *; omega, Nat.mul_comm])
        rw [hoE]; unfold oE; rw [if_neg h3, h4]; omega
      · rw [decide_eq_true_eq]
        have : m % 2 ^ (low - e).toNat = 0 := by
          conv => lhs; lhs; rw [e1]
          exact Nat.mul_mod_left _ _
        exact this
    · have c2 : ¬ (low ≤ oE m e ∨ oM m = 0) := by omega
      unfold roM roE roX
      rw [if_neg c1, if_neg c1, if_neg c1, if_neg c2, if_neg c2, if_neg c2]
      have hj : (low - e).toNat = (low - oE m e).toNat + tz m := by omega
      have e1 : rq s m (2 ^ (low - e).toNat) mode = rq s (oM m) (2 ^ (low - oE m e).toNat) mode := by
        have := rq_scale (s := s) (a := oM m) (b := 2 ^ (low - oE m e).toNat) (k := tz m) (mode := mode)
        rw [hmm, ← Nat.pow_add, ← hj] at this
        exact this
      rw [e1]
      refine ⟨rfl, rfl, ?_⟩
      rw [decide_eq_decide]
      have e2 : m % 2 ^ (low - e).toNat = oM m % 2 ^ (low - oE m e).toNat * 2 ^ tz m := by
        rw [hj, Nat.pow_add, ← Nat.mul_mod_mul_right, hmm]
      have hp : 2 ^ tz m ≠ 0 := Nat.pos_iff_ne_zero.1 (Nat.pow_pos (by omega))
      rw [e2, Nat.mul_eq_zero]
      exact ⟨fun h => h.resolve_right hp, .inl⟩

theorem flV_norm (s : Bool) (m : Nat) (e mode : Int) (z : Bool) : flV s (oM m) (oE m e) mode z = flV s m e mode z ∧ flG s (oM m) (oE m e) mode = flG s m e mode := by
  unfold flV flG
  by_cases h0 : m = 0
  · rw [if_pos h0, if_pos h0, if_pos (oM_eq_zero.2 h0), if_pos (oM_eq_zero.2 h0)]; exact ⟨rfl, rfl⟩
  · have h1 : ¬ oM m = 0 := fun e => h0 (oM_eq_zero.1 e)
    have ht : (bl (oM m) : Int) + oE m e = (bl m : Int) + e := by
      have := bl_oM h0
      unfold oE; rw [if_neg h0]; omega
    rw [if_neg h0, if_neg h0, if_neg h1, if_neg h1, ht]
    obtain ⟨a, b, c⟩ := ro_norm (s := s) (e := e) (low := flLow (bl m + e)) (mode := mode) h0
    obtain ⟨q1, q2, q3, q4⟩ := fl_eqs (s := s) (mode := mode) a b
    rw [q1, q2, q3, q4, c]
    exact ⟨rfl, rfl⟩

theorem oS_flV (s : Bool) (m : Nat) (e mode : Int) (z : Bool) : flV (oS s m) m e mode z = flV s m e mode z ∧ flG (oS s m) m e mode = flG s m e mode := by
  by_cases h : m = 0
  · unfold flV flG oS; rw [if_pos h, if_pos h, if_pos h]; simp [h]
  · unfold oS; rw [if_neg h]; exact ⟨rfl, rfl⟩
theorem flV_canon (s : Bool) (m : Nat) (e mode : Int) (z : Bool) : flV (oS s m) (oM m) (oE m e) mode z = flV s m e mode z ∧ flG (oS s m) (oM m) (oE m e) mode = flG s m e mode := by
  rw [(flV_norm (oS s m) m e mode z).1, (flV_norm (oS s m) m e mode z).2]
  exact oS_flV s m e mode z
end Go.Ab
namespace Go.Ab
open Go Go.Proofs
set_option linter.unusedVariables false
set_option linter.unusedSimpArgs false

end Go.Ab
namespace Go.Ab
open Go Go.Proofs
set_option linter.unusedVariables false
set_option linter.unusedSimpArgs false

def modeB (mode : Int) : Bool := decide (0 ≤ mode) && decide (mode ≤ 4)

def dyV : AV → AV := id

end Go.Ab
namespace Go.Ab
open Go Go.Proofs
set_option linter.unusedVariables false
set_option linter.unusedSimpArgs false

theorem flB_rng {k : Int} {s : Bool} {m e : Int} (h : flB k s m e = true) : (0 ≤ m ∧ m ≤ 9007199254740991) ∧ (-1074 ≤ e ∧ e ≤ 971) ∧ (0 ≤ k ∧ k ≤ 3) ∧ (k ≠ 1 → m = 0 ∧ e = 0) ∧ (k = 1 → 1 ≤ m) ∧ (k = 3 → s = false) := by
  unfold flB at h
  split at h
  · simp only [Bool.and_eq_true, Bool.or_eq_true, decide_eq_true_eq] at h
    omega
  · split at h
    · simp only [Bool.and_eq_true, decide_eq_true_eq] at h
      omega
    · simp only [Bool.and_eq_true, decide_eq_true_eq, Bool.not_eq_true'] at h
      refine ⟨by omega, by omega, by omega, by omega, by omega, fun _ => h.2⟩

/-- A product of floats. -/
def muS (k1 : Int) (s1 : Bool) (m1 : Int) (k2 : Int) (s2 : Bool) (m2 : Int) : Bool := ((s1 && decide (k1 = 1)) != (s2 && decide (k2 = 1))) && decide (m1.toNat * m2.toNat ≠ 0)
def mulV (k1 : Int) (s1 : Bool) (m1 e1 k2 : Int) (s2 : Bool) (m2 e2 mode : Int) : FlV :=
  if (decide (k1 = 3) || decide (k2 = 3)) = true then ⟨3, false, 0, 0⟩
  else if (decide (k1 = 2) || decide (k2 = 2)) = true then (if (decide (k1 = 0) || decide (k2 = 0)) = true then ⟨3, false, 0, 0⟩ else ⟨2, s1 != s2, 0, 0⟩)
  else flV (muS k1 s1 m1 k2 s2 m2) (m1.toNat * m2.toNat) (e1 + e2) mode (s1 != s2)
def mulG (k1 : Int) (s1 : Bool) (m1 e1 k2 : Int) (s2 : Bool) (m2 e2 mode : Int) : Int :=
  if (decide (k1 = 3) || decide (k2 = 3)) = true then 0
  else if (decide (k1 = 2) || decide (k2 = 2)) = true then (if (decide (k1 = 0) || decide (k2 = 0)) = true then 16 else 0)
  else flG (muS k1 s1 m1 k2 s2 m2) (m1.toNat * m2.toNat) (e1 + e2) mode

theorem con_mul (k1 : Int) (s1 : Bool) (m1 e1 k2 : Int) (s2 : Bool) (m2 e2 mode : Int) (h1 : flB k1 s1 m1 e1 = true) (h2 : flB k2 s2 m2 e2 = true) :
    Con Tryd.prog 40 true [.ag [.v (.int .i64 (k1)), .v (.bool (s1)), .v (.int .i64 (m1)), .v (.int .i64 (e1))], .ag [.v (.int .i64 (k2)), .v (.bool (s2)), .v (.int .i64 (m2)), .v (.int .i64 (e2))], .v (.int .i64 mode)] []
      (isA (.tu [.ag [.v (.int .i64 ((mulV k1 s1 m1 e1 k2 s2 m2 e2 mode).k)), .v (.bool ((mulV k1 s1 m1 e1 k2 s2 m2 e2 mode).s)), .v (.int .i64 ((mulV k1 s1 m1 e1 k2 s2 m2 e2 mode).m)), .v (.int .i64 ((mulV k1 s1 m1 e1 k2 s2 m2 e2 mode).e))], .v (.int .i64 (mulG k1 s1 m1 e1 k2 s2 m2 e2 mode))])) := by
  obtain ⟨a1, a2, a3, a4⟩ := flB_rng h1
  obtain ⟨b1, b2, b3, b4⟩ := flB_rng h2
  obtain ⟨n1, rfl⟩ := Int.eq_ofNat_of_zero_le a1.1
  obtain ⟨n2, rfl⟩ := Int.eq_ofNat_of_zero_le b1.1
  have q1 : bl n1 ≤ 53 := bl_le.2 (by omega)
  have q2 : bl n2 ≤ 53 := bl_le.2 (by omega)
  have q3 := bl_mulle n1 n2
  refine Con.of_aw Tryd.func40 rfl Tryd.ntmps40 (by simp) (by simp) (by simp) (W.sound ?_)
  show @W Tryd.prog 45 ⟨_⟩ ⟨fun x σ => @retW _ _ _ ⟨_⟩ _ ⟨_⟩ x σ⟩ _ _
  simp (disch := omega) only [go_sem]
  refine call_closed (con_hasKind 3 k1 (n1 : Int) e1 k2 (n2 : Int) e2 s1 s2) (by simp (disch := omega) only [go_sem]) ?_
  rintro r hs ⟨rfl, rfl, _⟩
  refine ⟨by simp [freeN], ?_⟩
  simp (disch := omega) only [go_sem]
  refine ifW_b (fun c1 => ?_) (fun c1 => ?_)
  · simp (disch := omega) only [go_sem, c1]
    refine call_closed (con_nan) (by simp (disch := omega) only [go_sem]) ?_
    rintro r hs ⟨rfl, rfl, _⟩
    refine ⟨by simp [freeN], ?_⟩
    simp (disch := omega) only [go_sem]
    unfold mulV mulG
    rw [if_pos c1, if_pos c1]
    exact fin_valc (by simp (disch := omega) only [go_sem]) (by simp (disch := omega) only [go_sem]) isA_mk
  · simp (disch := omega) only [go_sem, c1]
    have c1' : ¬ (decide (k1 = 3) || decide (k2 = 3)) = true := by rw [c1]; simp
    refine call_closed (con_hasKind 2 k1 (n1 : Int) e1 k2 (n2 : Int) e2 s1 s2) (by simp (disch := omega) only [go_sem]) ?_
    rintro r hs ⟨rfl, rfl, _⟩
    refine ⟨by simp [freeN], ?_⟩
    simp (disch := omega) only [go_sem]
    refine ifW_b (fun c2 => ?_) (fun c2 => ?_)
    · simp (disch := omega) only [go_sem, c2]
      refine call_closed (con_hasKind 0 k1 (n1 : Int) e1 k2 (n2 : Int) e2 s1 s2) (by simp (disch := omega) only [go_sem]) ?_
      rintro r hs ⟨rfl, rfl, _⟩
      refine ⟨by simp [freeN], ?_⟩
      simp (disch := omega) only [go_sem]
      refine ifW_b (fun c3 => ?_) (fun c3 => ?_)
      · simp (disch := omega) only [go_sem, c3]
        refine call_closed (con_nan) (by simp (disch := omega) only [go_sem]) ?_
        rintro r hs ⟨rfl, rfl, _⟩
        refine ⟨by simp [freeN], ?_⟩
        simp (disch := omega) only [go_sem]
        unfold mulV mulG
        rw [if_neg c1', if_neg c1', if_pos c2, if_pos c2, if_pos c3, if_pos c3]
        exact fin_valc (by simp (disch := omega) only [go_sem]) (by simp (disch := omega) only [go_sem]) isA_mk
      · simp (disch := omega) only [go_sem, c3]
        have c3' : ¬ (decide (k1 = 0) || decide (k2 = 0)) = true := by rw [c3]; simp
        refine call_closed (con_hasKind 2 k1 (n1 : Int) e1 k2 (n2 : Int) e2 s1 s2) (by simp (disch := omega) only [go_sem]) ?_
        rintro r hs ⟨rfl, rfl, _⟩
        refine ⟨by simp [freeN], ?_⟩
        simp (disch := omega) only [go_sem]
        simp (disch := omega) only [go_sem, c2]
        refine call_closed (con_infinity (s1 != s2)) (by simp (disch := omega) only [go_sem]) ?_
        rintro r hs ⟨rfl, rfl, _⟩
        refine ⟨by simp [freeN], ?_⟩
        simp (disch := omega) only [go_sem]
        unfold mulV mulG
        rw [if_neg c1', if_neg c1', if_pos c2, if_pos c2, if_neg c3', if_neg c3']
        exact fin_valc (by simp (disch := omega) only [go_sem]) (by simp (disch := omega) only [go_sem]) isA_mk
    · have c2' : ¬ (decide (k1 = 2) || decide (k2 = 2)) = true := by rw [c2]; simp
      simp (disch := omega) only [go_sem, c2]
      refine call_closed (con_hasKind 2 k1 (n1 : Int) e1 k2 (n2 : Int) e2 s1 s2) (by simp (disch := omega) only [go_sem]) ?_
      rintro r hs ⟨rfl, rfl, _⟩
      refine ⟨by simp [freeN], ?_⟩
      simp (disch := omega) only [go_sem]
      simp (disch := omega) only [go_sem, c2]
      refine draw_of rfl [⟨0, [], []⟩, ⟨2, [0], []⟩, ⟨5, [0, 2], []⟩, ⟨6, [0, 2], []⟩, ⟨1, [2], []⟩, ⟨3, [], []⟩, ⟨4, [], []⟩, ⟨7, [], []⟩, ⟨8, [], []⟩, ⟨9, [], []⟩, ⟨10, [], []⟩, ⟨11, [], []⟩] (by kernel_rfl) ?_
      simp (disch := omega) only [go_sem]
      refine call_open (con_flexact k1 s1 n1 e1 (by omega)) (by simp (disch := omega) only [go_sem]) ?_
      rintro r hs ⟨rfl, rfl, _⟩
      refine ⟨by simp [freeN], ?_⟩
      simp (disch := omega) only [go_sem]
      refine call_open (con_flexact k2 s2 n2 e2 (by omega)) (by simp (disch := omega) only [go_sem]) ?_
      rintro r hs ⟨rfl, rfl, _⟩
      refine ⟨by simp [freeN], ?_⟩
      simp (disch := omega) only [go_sem]
      refine call_open (con_timesX (s1 && decide (k1 = 1)) n1 e1 (s2 && decide (k2 = 1)) n2 e2 (by omega) (by omega) (by omega) (by omega)) (by simp (disch := omega) only [go_sem]) ?_
      rintro r hs ⟨rfl, rfl, _⟩
      refine ⟨by simp [freeN], ?_⟩
      simp (disch := omega) only [go_sem]
      refine call_closed (con_float (((s1 && decide (k1 = 1)) != (s2 && decide (k2 = 1))) && decide (n1 * n2 ≠ 0)) (n1 * n2) (e1 + e2) mode (s1 != s2) (by omega) (by omega)) (by simp (disch := omega) only [go_sem]) ?_
      rintro r hs ⟨rfl, rfl, _⟩
      refine ⟨by simp [freeN], ?_⟩
      simp (disch := omega) only [go_sem]
      unfold mulV mulG muS
      rw [if_neg c1', if_neg c1', if_neg c2', if_neg c2', Int.toNat_natCast, Int.toNat_natCast]
      exact fin_valc (by simp (disch := omega) only [go_sem]) (by simp (disch := omega) only [go_sem]) isA_mk
end Go.Ab
namespace Go.Ab
set_option linter.unusedVariables false

/-! ### Numbers with a sign -/
/-- A magnitude with its sign. -/
def sv (s : Bool) (m : Nat) : Int := if s = true then -(m : Int) else (m : Int)

theorem sv_abs (s : Bool) (m : Nat) : (sv s m).natAbs = m := by unfold sv; split <;> omega
theorem sv_zero (s : Bool) : sv s 0 = 0 := by unfold sv; split <;> rfl
theorem sv_mk (z : Int) : sv (decide (z < 0)) z.natAbs = z := by
  unfold sv; split
  · rename_i h; simp only [decide_eq_true_eq] at h; omega
  · rename_i h; simp only [decide_eq_true_eq] at h; omega
theorem sv_mul (s : Bool) (m k : Nat) : sv s (m * k) = sv s m * (k : Int) := by
  unfold sv; split
  · rw [Int.natCast_mul, Int.neg_mul]
  · rw [Int.natCast_mul]
theorem sv_and (s : Bool) (m : Nat) : sv (s && decide (m ≠ 0)) m = sv s m := by
  by_cases h : m = 0
  · subst h; rw [sv_zero, sv_zero]
  · rw [decide_eq_true h, Bool.and_true]
theorem sv_oS (s : Bool) (m : Nat) : sv (oS s m) m = sv s m := by
  unfold oS
  by_cases h : m = 0
  · subst h; rw [sv_zero, sv_zero]
  · rw [if_neg h]
theorem sv_ne (s1 : Bool) (m1 : Nat) (s2 : Bool) (m2 : Nat) : sv (s1 != s2) (m1 * m2) = sv s1 m1 * sv s2 m2 := by
  cases s1 <;> cases s2 <;> simp [sv, Int.natCast_mul, Int.neg_mul, Int.mul_neg]
theorem sv_lt {s : Bool} {m : Nat} (h : m ≠ 0) : decide (sv s m < 0) = s := by
  cases s <;> simp [sv] <;> omega
/-- The number times 2^K. -/
def dv (K : Nat) (s : Bool) (m : Nat) (e : Int) : Int := sv s m * 2 ^ (e + K).toNat

theorem dv_inj {K : Nat} {s : Bool} {m : Nat} {e : Int} {s' : Bool} {m' : Nat} {e' : Int} (h0 : m ≠ 0) (he : -(K : Int) ≤ e) (he' : -(K : Int) ≤ e') (h : dv K s m e = dv K s' m' e') :
    s = s' ∧ oM m = oM m' ∧ oE m e = oE m' e' ∧ m' ≠ 0 := by
  unfold dv at h
  obtain ⟨a, ha⟩ : ∃ a, a = (e + K).toNat := ⟨_, rfl⟩
  obtain ⟨a', ha'⟩ : ∃ a, a = (e' + K).toNat := ⟨_, rfl⟩
  rw [← ha, ← ha'] at h
  have habs : m * 2 ^ a = m' * 2 ^ a' := by
    have := congrArg Int.natAbs h
    rw [Int.natAbs_mul, Int.natAbs_mul, sv_abs, sv_abs, Int.natAbs_pow, Int.natAbs_pow] at this
    exact this
  have hp : 0 < 2 ^ a := Nat.pow_pos (by omega)
  have h1 : 0 < m * 2 ^ a := Nat.mul_pos (by omega) hp
  have h0' : m' ≠ 0 := fun e => by rw [habs, e, Nat.zero_mul] at h1; omega
  have hM : oM m = oM m' := by rw [← @oM_pow m a, habs, oM_pow]
  have hT : tz m + a = tz m' + a' := by rw [← tz_mul_pow h0, habs, tz_mul_pow h0']
  refine ⟨?_, hM, ?_, h0'⟩
  · have e1 : sv s m * 2 ^ a = sv s (m * 2 ^ a) := by rw [sv_mul, Int.natCast_pow]; rfl
    have e2 : sv s' m' * 2 ^ a' = sv s' (m' * 2 ^ a') := by rw [sv_mul, Int.natCast_pow]; rfl
    rw [e1, e2, ← habs] at h
    rw [← sv_lt (s := s) (m := m * 2 ^ a) (by omega), h, sv_lt (by omega)]
  · unfold oE; rw [if_neg h0, if_neg h0']; omega

theorem dv_zero {K : Nat} {s : Bool} {e : Int} : dv K s 0 e = 0 := by unfold dv; rw [sv_zero, Int.zero_mul]
theorem dv_eq_zero {K : Nat} {s : Bool} {m : Nat} {e : Int} : dv K s m e = 0 ↔ m = 0 := by
  refine ⟨fun h => ?_, fun h => by rw [h, dv_zero]⟩
  unfold dv at h
  rcases Int.mul_eq_zero.1 h with h | h
  · rw [← sv_abs s m, h]; rfl
  · have : (0 : Int) < 2 ^ (e + K).toNat := Int.pow_pos (by omega)
    omega

theorem dv_oS (K : Nat) (s : Bool) (m : Nat) (e : Int) : dv K (oS s m) m e = dv K s m e := by unfold dv; rw [sv_oS]
theorem dv_and (K : Nat) (s : Bool) (m : Nat) (e : Int) : dv K (s && decide (m ≠ 0)) m e = dv K s m e := by unfold dv; rw [sv_and]

theorem dv_norm {K : Nat} {s : Bool} {m : Nat} {e : Int} (he : -(K : Int) ≤ e) : dv K s (oM m) (oE m e) = dv K s m e := by
  by_cases h : m = 0
  · subst h; rw [oM_zero, dv_zero, dv_zero]
  · unfold dv oE
    rw [if_neg h]
    have e1 : (e + (tz m : Int) + K).toNat = tz m + (e + K).toNat := by omega
    conv => rhs; rw [← @oM_mul m]
    rw [e1, Int.pow_add, sv_mul, Int.natCast_pow, Int.mul_assoc]; rfl

theorem dv_mul {K K' : Nat} {s s' : Bool} {m m' : Nat} {e e' : Int} (he : -(K : Int) ≤ e) (he' : -(K' : Int) ≤ e') : dv (K + K') (s != s') (m * m') (e + e') = dv K s m e * dv K' s' m' e' := by
  unfold dv
  have e1 : (e + e' + ((K + K' : Nat) : Int)).toNat = (e + K).toNat + (e' + K').toNat := by omega
  rw [e1, Int.pow_add, sv_ne]
  simp only [Int.mul_assoc, Int.mul_left_comm]

/-! ### Sums -/
def suM (s1 : Bool) (m1 : Nat) (s2 : Bool) (m2 : Nat) : Nat := (sv s1 m1 + sv s2 m2).natAbs
def suS (s1 : Bool) (m1 : Nat) (s2 : Bool) (m2 : Nat) : Bool := decide (sv s1 m1 + sv s2 m2 < 0)
/-- The sign that a sum is given, whatever its magnitude. -/
def sgS (s1 : Bool) (m1 : Nat) (s2 : Bool) (m2 : Nat) : Bool := if s1 = s2 then s1 else if m2 ≤ m1 then s1 else s2

theorem suM_same (s : Bool) (m1 m2 : Nat) : suM s m1 s m2 = m1 + m2 := by unfold suM sv; split <;> omega
theorem suM_ge {s1 s2 : Bool} {m1 m2 : Nat} (h : s1 ≠ s2) (hm : m2 ≤ m1) : suM s1 m1 s2 m2 = m1 - m2 := by
  cases s1 <;> cases s2 <;> simp [suM, sv] at * <;> omega
theorem suM_lt {s1 s2 : Bool} {m1 m2 : Nat} (h : s1 ≠ s2) (hm : ¬ m2 ≤ m1) : suM s1 m1 s2 m2 = m2 - m1 := by
  cases s1 <;> cases s2 <;> simp [suM, sv] at * <;> omega
theorem sgS_same (s : Bool) (m1 m2 : Nat) : sgS s m1 s m2 = s := by unfold sgS; rw [if_pos rfl]
theorem sgS_ge {s1 s2 : Bool} {m1 m2 : Nat} (h : s1 ≠ s2) (hm : m2 ≤ m1) : sgS s1 m1 s2 m2 = s1 := by unfold sgS; rw [if_neg h, if_pos hm]
theorem sgS_lt {s1 s2 : Bool} {m1 m2 : Nat} (h : s1 ≠ s2) (hm : ¬ m2 ≤ m1) : sgS s1 m1 s2 m2 = s2 := by unfold sgS; rw [if_neg h, if_neg hm]
theorem sgS_and (s1 : Bool) (m1 : Nat) (s2 : Bool) (m2 : Nat) : (sgS s1 m1 s2 m2 && decide (suM s1 m1 s2 m2 ≠ 0)) = suS s1 m1 s2 m2 := by
  rw [Bool.eq_iff_iff]
  simp only [Bool.and_eq_true, decide_eq_true_eq, suS]
  unfold sgS suM
  cases s1 <;> cases s2 <;> simp [sv]
  all_goals omega
theorem suM_le (s1 : Bool) (m1 : Nat) (s2 : Bool) (m2 : Nat) : suM s1 m1 s2 m2 ≤ m1 + m2 := by unfold suM sv; split <;> split <;> omega
theorem bl_add {a b B : Nat} (ha : bl a ≤ B) (hb : bl b ≤ B) : bl (a + b) ≤ B + 1 := by
  have h1 := bl_le.1 ha
  have h2 := bl_le.1 hb
  refine bl_le.2 ?_
  rw [Nat.pow_succ]; omega
theorem bl_suM {s1 : Bool} {m1 : Nat} {s2 : Bool} {m2 B : Nat} (h1 : bl m1 ≤ B) (h2 : bl m2 ≤ B) : bl (suM s1 m1 s2 m2) ≤ B + 1 :=
  Nat.le_trans (bl_mono (suM_le _ _ _ _)) (bl_add h1 h2)

/-- The power of two that a sum is told in. -/
def alE (m1 : Nat) (e1 : Int) (m2 : Nat) (e2 : Int) : Int := if m2 = 0 then e1 else if m1 = 0 then e2 else if e2 < e1 then e2 else e1
def alA (m : Nat) (e E : Int) : Nat := m * 2 ^ (e - E).toNat
def adM (s1 : Bool) (m1 : Nat) (e1 : Int) (s2 : Bool) (m2 : Nat) (e2 : Int) : Nat := suM s1 (alA m1 e1 (alE m1 e1 m2 e2)) s2 (alA m2 e2 (alE m1 e1 m2 e2))
def adS (s1 : Bool) (m1 : Nat) (e1 : Int) (s2 : Bool) (m2 : Nat) (e2 : Int) : Bool := suS s1 (alA m1 e1 (alE m1 e1 m2 e2)) s2 (alA m2 e2 (alE m1 e1 m2 e2))

theorem alE_ge {K : Int} {m1 : Nat} {e1 : Int} {m2 : Nat} {e2 : Int} (h1 : K ≤ e1) (h2 : K ≤ e2) : K ≤ alE m1 e1 m2 e2 := by
  unfold alE
  repeat' split
  all_goals omega
theorem alE_le {K : Int} {m1 : Nat} {e1 : Int} {m2 : Nat} {e2 : Int} (h1 : e1 ≤ K) (h2 : e2 ≤ K) : alE m1 e1 m2 e2 ≤ K := by
  unfold alE
  repeat' split
  all_goals omega
theorem alA_dv {K : Nat} {s : Bool} {m : Nat} {e E : Int} (hE : -(K : Int) ≤ E) (h : m ≠ 0 → E ≤ e) : sv s (alA m e E) * 2 ^ (E + K).toNat = dv K s m e := by
  by_cases h0 : m = 0
  · subst h0; unfold alA; rw [Nat.zero_mul, sv_zero, dv_zero, Int.zero_mul]
  · have := h h0
    unfold alA dv
    have e1 : (e + K).toNat = (e - E).toNat + (E + K).toNat := by omega
    rw [e1, Int.pow_add, sv_mul, Int.natCast_pow, Int.mul_assoc]; rfl
theorem bl_alA {m B : Nat} {e E : Int} {C : Nat} (h : bl m ≤ B) (hk : e - E ≤ C) : bl (alA m e E) ≤ B + C := by
  have := bl_up m (e - E).toNat
  unfold alA; omega
theorem ad_dv {K : Nat} {s1 : Bool} {m1 : Nat} {e1 : Int} {s2 : Bool} {m2 : Nat} {e2 : Int} (h1 : -(K : Int) ≤ e1) (h2 : -(K : Int) ≤ e2) :
    dv K (adS s1 m1 e1 s2 m2 e2) (adM s1 m1 e1 s2 m2 e2) (alE m1 e1 m2 e2) = dv K s1 m1 e1 + dv K s2 m2 e2 := by
  have hE : -(K : Int) ≤ alE m1 e1 m2 e2 := alE_ge h1 h2
  have g1 : m1 ≠ 0 → alE m1 e1 m2 e2 ≤ e1 := fun h => by
    unfold alE
    repeat' split
    all_goals omega
  have g2 : m2 ≠ 0 → alE m1 e1 m2 e2 ≤ e2 := fun h => by
    unfold alE
    repeat' split
    all_goals omega
  rw [← alA_dv hE g1, ← alA_dv hE g2, ← Int.add_mul]
  show sv (adS s1 m1 e1 s2 m2 e2) (adM s1 m1 e1 s2 m2 e2) * _ = _
  unfold adS adM suS suM
  rw [sv_mk]
end Go.Ab
namespace Go.Ab
set_option linter.unusedVariables false

/-- The same number is rounded to the same float. -/
theorem flV_same {K : Nat} {s : Bool} {m : Nat} {e : Int} {s' : Bool} {m' : Nat} {e' : Int} (mode : Int) (z : Bool) (he : -(K : Int) ≤ e) (he' : -(K : Int) ≤ e') (h : dv K s m e = dv K s' m' e') :
    flV s m e mode z = flV s' m' e' mode z ∧ flG s m e mode = flG s' m' e' mode := by
  by_cases h0 : m = 0
  · have h0' : m' = 0 := by rw [h0, dv_zero] at h; exact dv_eq_zero.1 h.symm
    unfold flV flG; rw [if_pos h0, if_pos h0, if_pos h0', if_pos h0']; exact ⟨rfl, rfl⟩
  · obtain ⟨rfl, hM, hE, _⟩ := dv_inj h0 he he' h
    rw [← (flV_norm s m e mode z).1, ← (flV_norm s m e mode z).2, hM, hE, (flV_norm s m' e' mode z).1, (flV_norm s m' e' mode z).2]
    exact ⟨rfl, rfl⟩

/-! ### Sums of floats -/
def ngS (k : Int) (s : Bool) : Bool := if k = 3 then s else !s
def xS (k : Int) (s : Bool) : Bool := s && decide (k = 1)
def adZ (k1 : Int) (s1 : Bool) (k2 : Int) (s2 : Bool) (mode : Int) : Bool := if k1 = 0 ∧ k2 = 0 ∧ s1 = s2 then s1 else decide (mode = 3)
def addV (k1 : Int) (s1 : Bool) (m1 e1 k2 : Int) (s2 : Bool) (m2 e2 mode : Int) : FlV :=
  if k1 = 3 ∨ k2 = 3 then ⟨3, false, 0, 0⟩
  else if k1 = 2 ∧ k2 = 2 ∧ s1 ≠ s2 then ⟨3, false, 0, 0⟩
  else if k1 = 2 then ⟨k1, s1, m1, e1⟩
  else if k2 = 2 then ⟨k2, s2, m2, e2⟩
  else flV (adS (xS k1 s1) m1.toNat e1 (xS k2 s2) m2.toNat e2) (adM (xS k1 s1) m1.toNat e1 (xS k2 s2) m2.toNat e2) (alE m1.toNat e1 m2.toNat e2) mode (adZ k1 s1 k2 s2 mode)
def addG (k1 : Int) (s1 : Bool) (m1 e1 k2 : Int) (s2 : Bool) (m2 e2 mode : Int) : Int :=
  if k1 = 3 ∨ k2 = 3 then 0
  else if k1 = 2 ∧ k2 = 2 ∧ s1 ≠ s2 then 16
  else if k1 = 2 then 0
  else if k2 = 2 then 0
  else flG (adS (xS k1 s1) m1.toNat e1 (xS k2 s2) m2.toNat e2) (adM (xS k1 s1) m1.toNat e1 (xS k2 s2) m2.toNat e2) (alE m1.toNat e1 m2.toNat e2) mode

section
variable {k1 : Int} {s1 : Bool} {m1 e1 k2 : Int} {s2 : Bool} {m2 e2 mode : Int}
theorem addV_nan (h : k1 = 3 ∨ k2 = 3) : addV k1 s1 m1 e1 k2 s2 m2 e2 mode = ⟨3, false, 0, 0⟩ ∧ addG k1 s1 m1 e1 k2 s2 m2 e2 mode = 0 := by
  unfold addV addG; rw [if_pos h, if_pos h]; exact ⟨rfl, rfl⟩
theorem addV_bad (h1 : k1 = 2) (h2 : k2 = 2) (hs : s1 ≠ s2) : addV k1 s1 m1 e1 k2 s2 m2 e2 mode = ⟨3, false, 0, 0⟩ ∧ addG k1 s1 m1 e1 k2 s2 m2 e2 mode = 16 := by
  have h0 : ¬ (k1 = 3 ∨ k2 = 3) := by omega
  unfold addV addG; rw [if_neg h0, if_neg h0, if_pos ⟨h1, h2, hs⟩, if_pos ⟨h1, h2, hs⟩]; exact ⟨rfl, rfl⟩
theorem addV_inf1 (h1 : k1 = 2) (h2 : k2 ≠ 3) (hs : k2 = 2 → s1 = s2) : addV k1 s1 m1 e1 k2 s2 m2 e2 mode = ⟨k1, s1, m1, e1⟩ ∧ addG k1 s1 m1 e1 k2 s2 m2 e2 mode = 0 := by
  have h : ¬ (k1 = 2 ∧ k2 = 2 ∧ s1 ≠ s2) := fun ⟨_, a, b⟩ => b (hs a)
  have h0 : ¬ (k1 = 3 ∨ k2 = 3) := by omega
  unfold addV addG; rw [if_neg h0, if_neg h0, if_neg h, if_neg h, if_pos h1, if_pos h1]; exact ⟨rfl, rfl⟩
theorem addV_inf2 (h1 : k1 ≠ 3) (h1' : k1 ≠ 2) (h2 : k2 = 2) : addV k1 s1 m1 e1 k2 s2 m2 e2 mode = ⟨k2, s2, m2, e2⟩ ∧ addG k1 s1 m1 e1 k2 s2 m2 e2 mode = 0 := by
  have h : ¬ (k1 = 2 ∧ k2 = 2 ∧ s1 ≠ s2) := fun ⟨a, _⟩ => h1' a
  have h0 : ¬ (k1 = 3 ∨ k2 = 3) := by omega
  unfold addV addG; rw [if_neg h0, if_neg h0, if_neg h, if_neg h, if_neg h1', if_neg h1', if_pos h2, if_pos h2]; exact ⟨rfl, rfl⟩
theorem addV_fin (h1 : k1 ≠ 3) (h1' : k1 ≠ 2) (h2 : k2 ≠ 3) (h2' : k2 ≠ 2) :
    addV k1 s1 m1 e1 k2 s2 m2 e2 mode = flV (adS (xS k1 s1) m1.toNat e1 (xS k2 s2) m2.toNat e2) (adM (xS k1 s1) m1.toNat e1 (xS k2 s2) m2.toNat e2) (alE m1.toNat e1 m2.toNat e2) mode (adZ k1 s1 k2 s2 mode) ∧
    addG k1 s1 m1 e1 k2 s2 m2 e2 mode = flG (adS (xS k1 s1) m1.toNat e1 (xS k2 s2) m2.toNat e2) (adM (xS k1 s1) m1.toNat e1 (xS k2 s2) m2.toNat e2) (alE m1.toNat e1 m2.toNat e2) mode := by
  have h : ¬ (k1 = 2 ∧ k2 = 2 ∧ s1 ≠ s2) := fun ⟨a, _⟩ => h1' a
  have h0 : ¬ (k1 = 3 ∨ k2 = 3) := by omega
  unfold addV addG; rw [if_neg h0, if_neg h0, if_neg h, if_neg h, if_neg h1', if_neg h1', if_neg h2', if_neg h2']; exact ⟨rfl, rfl⟩
end

theorem flFl_in (top : Int) (same : Bool) (rm : Nat) (re : Int) : flFl top same rm re = 0 ∨ flFl top same rm re = 1 ∨ flFl top same rm re = 3 ∨ flFl top same rm re = 5 := by
  unfold flFl flFlags
  repeat' split
  all_goals simp
theorem flG_in (s : Bool) (m : Nat) (e mode : Int) : flG s m e mode = 0 ∨ flG s m e mode = 1 ∨ flG s m e mode = 3 ∨ flG s m e mode = 5 := by
  unfold flG
  split
  · simp
  · exact flFl_in _ _ _ _
theorem flV_k (s : Bool) (m : Nat) (e mode : Int) (z : Bool) : (flV s m e mode z).k = 0 ∨ (flV s m e mode z).k = 1 ∨ ((flV s m e mode z).k = 2 ∧ flG s m e mode = 3) := by
  unfold flV flG
  by_cases h : m = 0
  · rw [if_pos h]; simp
  · rw [if_neg h, if_neg h]
    show flK _ _ _ _ = 0 ∨ flK _ _ _ _ = 1 ∨ (flK _ _ _ _ = 2 ∧ _)
    generalize roM s m e (flLow (bl m + e)) mode = rm
    generalize roE m e (flLow (bl m + e)) = re
    unfold flK flFl
    by_cases h1 : rm = 0
    · rw [if_pos h1]; simp
    · rw [if_neg h1]
      by_cases h2 : 1024 < (bl rm : Int) + re
      · rw [if_pos h2, if_pos (show rm ≠ 0 ∧ 1024 < (bl rm : Int) + re from ⟨h1, h2⟩)]
        split <;> simp
      · rw [if_neg h2]; simp

/-! ### A product and a sum -/
def fmZ (k1 : Int) (s1 : Bool) (k2 : Int) (s2 : Bool) (k3 : Int) (s3 : Bool) (mode : Int) : Bool := if (k1 = 0 ∨ k2 = 0) ∧ k3 = 0 ∧ s3 = (s1 != s2) then s3 else decide (mode = 3)
def fmaV (k1 : Int) (s1 : Bool) (m1 e1 k2 : Int) (s2 : Bool) (m2 e2 k3 : Int) (s3 : Bool) (m3 e3 mode : Int) : FlV :=
  if k1 = 3 ∨ k2 = 3 then ⟨3, false, 0, 0⟩
  else if k1 = 2 ∨ k2 = 2 then (if k1 = 0 ∨ k2 = 0 then ⟨3, false, 0, 0⟩ else addV 2 (s1 != s2) 0 0 k3 s3 m3 e3 mode)
  else if k3 = 2 ∨ k3 = 3 then ⟨k3, s3, m3, e3⟩
  else flV (adS (muS k1 s1 m1 k2 s2 m2) (m1.toNat * m2.toNat) (e1 + e2) (xS k3 s3) m3.toNat e3) (adM (muS k1 s1 m1 k2 s2 m2) (m1.toNat * m2.toNat) (e1 + e2) (xS k3 s3) m3.toNat e3) (alE (m1.toNat * m2.toNat) (e1 + e2) m3.toNat e3) mode (fmZ k1 s1 k2 s2 k3 s3 mode)
def fmaG (k1 : Int) (s1 : Bool) (m1 e1 k2 : Int) (s2 : Bool) (m2 e2 k3 : Int) (s3 : Bool) (m3 e3 mode : Int) : Int :=
  if k1 = 3 ∨ k2 = 3 then 0
  else if k1 = 2 ∨ k2 = 2 then (if k1 = 0 ∨ k2 = 0 then 16 else addG 2 (s1 != s2) 0 0 k3 s3 m3 e3 mode)
  else if k3 = 2 ∨ k3 = 3 then 0
  else flG (adS (muS k1 s1 m1 k2 s2 m2) (m1.toNat * m2.toNat) (e1 + e2) (xS k3 s3) m3.toNat e3) (adM (muS k1 s1 m1 k2 s2 m2) (m1.toNat * m2.toNat) (e1 + e2) (xS k3 s3) m3.toNat e3) (alE (m1.toNat * m2.toNat) (e1 + e2) m3.toNat e3) mode

section
variable {k1 : Int} {s1 : Bool} {m1 e1 k2 : Int} {s2 : Bool} {m2 e2 k3 : Int} {s3 : Bool} {m3 e3 mode : Int}
theorem fmaV_nan (h : k1 = 3 ∨ k2 = 3) : fmaV k1 s1 m1 e1 k2 s2 m2 e2 k3 s3 m3 e3 mode = ⟨3, false, 0, 0⟩ ∧ fmaG k1 s1 m1 e1 k2 s2 m2 e2 k3 s3 m3 e3 mode = 0 := by
  unfold fmaV fmaG; rw [if_pos h, if_pos h]; exact ⟨rfl, rfl⟩
theorem fmaV_bad (h0 : ¬ (k1 = 3 ∨ k2 = 3)) (h1 : k1 = 2 ∨ k2 = 2) (h2 : k1 = 0 ∨ k2 = 0) : fmaV k1 s1 m1 e1 k2 s2 m2 e2 k3 s3 m3 e3 mode = ⟨3, false, 0, 0⟩ ∧ fmaG k1 s1 m1 e1 k2 s2 m2 e2 k3 s3 m3 e3 mode = 16 := by
  unfold fmaV fmaG; rw [if_neg h0, if_neg h0, if_pos h1, if_pos h1, if_pos h2, if_pos h2]; exact ⟨rfl, rfl⟩
theorem fmaV_inf (h0 : ¬ (k1 = 3 ∨ k2 = 3)) (h1 : k1 = 2 ∨ k2 = 2) (h2 : ¬ (k1 = 0 ∨ k2 = 0)) : fmaV k1 s1 m1 e1 k2 s2 m2 e2 k3 s3 m3 e3 mode = addV 2 (s1 != s2) 0 0 k3 s3 m3 e3 mode ∧ fmaG k1 s1 m1 e1 k2 s2 m2 e2 k3 s3 m3 e3 mode = addG 2 (s1 != s2) 0 0 k3 s3 m3 e3 mode := by
  unfold fmaV fmaG; rw [if_neg h0, if_neg h0, if_pos h1, if_pos h1, if_neg h2, if_neg h2]; exact ⟨rfl, rfl⟩
theorem fmaV_c (h0 : ¬ (k1 = 3 ∨ k2 = 3)) (h1 : ¬ (k1 = 2 ∨ k2 = 2)) (h2 : k3 = 2 ∨ k3 = 3) : fmaV k1 s1 m1 e1 k2 s2 m2 e2 k3 s3 m3 e3 mode = ⟨k3, s3, m3, e3⟩ ∧ fmaG k1 s1 m1 e1 k2 s2 m2 e2 k3 s3 m3 e3 mode = 0 := by
  unfold fmaV fmaG; rw [if_neg h0, if_neg h0, if_neg h1, if_neg h1, if_pos h2, if_pos h2]; exact ⟨rfl, rfl⟩
theorem fmaV_fin (h0 : ¬ (k1 = 3 ∨ k2 = 3)) (h1 : ¬ (k1 = 2 ∨ k2 = 2)) (h2 : ¬ (k3 = 2 ∨ k3 = 3)) : fmaV k1 s1 m1 e1 k2 s2 m2 e2 k3 s3 m3 e3 mode = flV (adS (muS k1 s1 m1 k2 s2 m2) (m1.toNat * m2.toNat) (e1 + e2) (xS k3 s3) m3.toNat e3) (adM (muS k1 s1 m1 k2 s2 m2) (m1.toNat * m2.toNat) (e1 + e2) (xS k3 s3) m3.toNat e3) (alE (m1.toNat * m2.toNat) (e1 + e2) m3.toNat e3) mode (fmZ k1 s1 k2 s2 k3 s3 mode) ∧ fmaG k1 s1 m1 e1 k2 s2 m2 e2 k3 s3 m3 e3 mode = flG (adS (muS k1 s1 m1 k2 s2 m2) (m1.toNat * m2.toNat) (e1 + e2) (xS k3 s3) m3.toNat e3) (adM (muS k1 s1 m1 k2 s2 m2) (m1.toNat * m2.toNat) (e1 + e2) (xS k3 s3) m3.toNat e3) (alE (m1.toNat * m2.toNat) (e1 + e2) m3.toNat e3) mode := by
  unfold fmaV fmaG; rw [if_neg h0, if_neg h0, if_neg h1, if_neg h1, if_neg h2, if_neg h2]; exact ⟨rfl, rfl⟩
end
end Go.Ab
namespace Go.Ab
open Go
set_option linter.unusedVariables false

/-- A dyadic number, as it stands in memory. -/
structure DyV where
  s : Bool
  xs : List Int
  e : Int

def DyV.cs (x : DyV) : List AV := [.v (.bool x.s), .sl x.xs.length (ints x.xs), .v (.int .i64 x.e)]
theorem dy_cs3 (x : DyV) : x.cs.length = 3 := rfl
theorem dy_ren {ρ : Nat → Nat} (x : DyV) : renL ρ x.cs = x.cs := rfl
theorem dy_snap {hp : Nat → Ob} {k : Nat} (x : DyV) : x.cs.map (snap hp (k + 1)) = x.cs := rfl
attribute [go_sem] dy_ren dy_snap
end Go.Ab
namespace Go.Ab
open Go

/-! ### The simplifier's words for truth values -/
theorem o_t (b : Bool) : (true || b) = true := _root_.id rfl
theorem o_f (b : Bool) : (false || b) = b := _root_.id rfl
theorem o_t' (b : Bool) : (b || true) = true := by cases b <;> rfl
theorem o_f' (b : Bool) : (b || false) = b := by cases b <;> rfl
attribute [go_sem] o_t o_f
attribute [go_sem] o_t' o_f'
theorem repA_four {R : Nat → Prop} {ι : Nat → Option Blk} {w : World} {x y z t : Value} {a b c d : AV} (h1 : Rep R ι w x a) (h2 : Rep R ι w y b) (h3 : Rep R ι w z c) (h4 : Rep R ι w t d) : RepA R ι w #[x, y, z, t] [a, b, c, d] :=
  ⟨rfl, fun i h => match i, h with
    | 0, _ => h1
    | 1, _ => h2
    | 2, _ => h3
    | 3, _ => h4⟩
end Go.Ab
namespace Go.Ab
open Go Go.Proofs
set_option linter.unusedVariables false
set_option linter.unusedSimpArgs false

theorem con_l2cmp (a b : Nat) (la : (lim a).length ≤ 2 ^ 40) (lb : (lim b).length ≤ 2 ^ 40) :
    Con Tryd.prog 110 true [.ag [.sl (lim (a)).length (ints (lim (a)))], .ag [.sl (lim (b)).length (ints (lim (b)))]] [] (isA (.v (.int .i64 (cmpI a b)))) := by
  refine Con.of_aw Tryd.func110 rfl Tryd.ntmps110 (by simp) (by simp) (by simp) (W.sound ?_)
  show @W Tryd.prog 50 ⟨_⟩ ⟨fun x σ => @retW _ _ _ ⟨_⟩ _ ⟨_⟩ x σ⟩ _ _
  simp (disch := omega) only [go_sem]
  refine ifW_not (fun h1 => ?_) (fun h1 => ?_)
  · simp (disch := omega) only [go_sem, h1]
    refine ifW_dec (fun h2 => ?_) (fun h2 => ?_)
    · simp (disch := omega) only [go_sem, h2]
      have := lim_lt_of (a := a) (b := b) (by omega)
      rw [show cmpI (a : Int) (b : Int) = -1 by unfold cmpI; rw [if_pos (by omega)]]
      exact fin_valc (by simp (disch := omega) only [go_sem]) (by simp (disch := omega) only [go_sem]) isA_mk
    · simp (disch := omega) only [go_sem, h2]
      have := lim_lt_of (a := b) (b := a) (by omega)
      rw [show cmpI (a : Int) (b : Int) = 1 by unfold cmpI; rw [if_neg (by omega), if_pos (by omega)]]
      exact fin_valc (by simp (disch := omega) only [go_sem]) (by simp (disch := omega) only [go_sem]) isA_mk
  · simp (disch := omega) only [go_sem, h1]
    have hl : (lim a).length = (lim b).length := by omega
    refine loop_intro (fun k : Nat => [(2, .pt 40000000 0), (3, .pt 50000000 0), (5, .v (.int .i64 ((k : Int) - 1)))])
      (fun _ => [(40000000, .own 0 [.sl (lim (a)).length (ints (lim (a)))]), (50000000, .own 0 [.sl (lim (b)).length (ints (lim (b)))])]) (fun k => k ≤ (lim a).length ∧ (lim a).drop k = (lim b).drop k) (fun k => k) (lim a).length ⟨Nat.le_refl _, by rw [List.drop_length, hl, List.drop_length]⟩ (Le.lst [] _ _ rfl (by simp (disch := omega) only [go_sem]; try omega) (by simp (disch := omega) only [go_sem])) ?_
    rintro k ⟨hk, hd⟩
    simp (disch := omega) only [go_sem]
    refine ifW_dec (fun h2 => ?_) (fun h2 => ?_)
    · obtain ⟨i, rfl⟩ : ∃ i, k = i + 1 := ⟨k - 1, by omega⟩
      have ei : ((i + 1 : Nat) : Int) - 1 = (i : Nat) := by omega
      have hva := vl_lim a
      have hvb := vl_lim b
      simp (disch := omega) only [go_sem, h2, ei]
      refine draw_of rfl [⟨0, [], []⟩, ⟨1, [], []⟩, ⟨2, [1], []⟩, ⟨3, [], []⟩, ⟨4, [], []⟩, ⟨5, [1, 4], []⟩, ⟨6, [1, 4], []⟩, ⟨7, [1, 4, 6], []⟩, ⟨8, [1, 4], []⟩, ⟨9, [1, 4], []⟩, ⟨10, [], []⟩] (by kernel_rfl) ?_
      simp (disch := omega) only [go_sem, ei]
      refine ⟨by omega, by omega, by omega, by omega, ?_⟩
      refine ifW_dec (fun h3 => ?_) (fun h3 => ?_)
      · simp (disch := omega) only [go_sem, h3]
        have := vl_lt_of (gd_lim a) (gd_lim b) (by omega) hl hd h3
        rw [show cmpI (a : Int) (b : Int) = -1 by unfold cmpI; rw [if_pos (by omega)]]
        exact fin_valc (by simp (disch := omega) only [go_sem]) (by simp (disch := omega) only [go_sem]) isA_mk
      · simp (disch := omega) only [go_sem, h3]
        refine draw_of rfl [⟨0, [], []⟩, ⟨1, [], []⟩, ⟨2, [1], []⟩, ⟨3, [], []⟩, ⟨4, [], []⟩, ⟨5, [1, 4], []⟩, ⟨6, [1, 4], []⟩, ⟨7, [1, 4, 6], []⟩, ⟨8, [1, 4], []⟩, ⟨9, [1, 4], []⟩, ⟨10, [], []⟩] (by kernel_rfl) ?_
        simp (disch := omega) only [go_sem, ei]
        refine ⟨by omega, by omega, by omega, by omega, ?_⟩
        refine ifW_dec (fun h4 => ?_) (fun h4 => ?_)
        · simp (disch := omega) only [go_sem, h4]
          have := vl_lt_of (gd_lim b) (gd_lim a) (by omega) hl.symm hd.symm h4
          rw [show cmpI (a : Int) (b : Int) = 1 by unfold cmpI; rw [if_neg (by omega), if_pos (by omega)]]
          exact fin_valc (by simp (disch := omega) only [go_sem]) (by simp (disch := omega) only [go_sem]) isA_mk
        · simp (disch := omega) only [go_sem, h4]
          refine next_intro i [] ⟨by omega, ?_⟩ (by show i < i + 1; omega) rfl (by simp (disch := omega) only [go_sem]; try omega) (by simp (disch := omega) only [go_sem])
          have h5 : (lim a).getD i 0 = (lim b).getD i 0 := by omega
          rw [drop_getD (l := lim a) (by omega), drop_getD (l := lim b) (by omega), h5, hd]
    · simp (disch := omega) only [go_sem, h2]
      have : k = 0 := by omega
      subst this
      rw [List.drop_zero, List.drop_zero] at hd
      have := lim_inj hd
      subst this
      rw [show cmpI (a : Int) (a : Int) = 0 by simp [cmpI]]
      exact fin_valc (by simp (disch := omega) only [go_sem]) (by simp (disch := omega) only [go_sem]) isA_mk

theorem con_l2sub (cl : Bool) (a b : Nat) (hle : b ≤ a) (la : (lim a).length ≤ 1000000) : Con Tryd.prog 111 cl [.ag [.sl (lim (a)).length (ints (lim (a)))], .ag [.sl (lim (b)).length (ints (lim (b)))]] [] (natR (a - b)) := by
  have lB : (lim b).length ≤ (lim a).length := lim_mono hle
  have hA := gd_lim a
  have hB := gd_lim b
  refine Con.of_aw Tryd.func111 rfl Tryd.ntmps111 (by simp) (by simp) (by simp) (W.sound ?_)
  show @W Tryd.prog 45 ⟨_⟩ ⟨fun x σ => @retW _ _ _ ⟨_⟩ _ ⟨_⟩ x σ⟩ _ _
  simp (disch := omega) only [go_sem]
  refine loop_intro (fun x : Nat × List Int × Int => [(2, .pt 2 0), (3, .pt 3 0), (4, .pt 4 0), (5, .rf 1 0 x.2.1.length), (6, .v (.int .i64 x.2.2)), (7, .v (.int .i64 x.1))])
    (fun x => [(1, .own 1 (ints x.2.1)), (2, .own 0 [.sl (lim (a)).length (ints (lim (a)))]), (3, .own 0 [.sl (lim (b)).length (ints (lim (b)))]), (4, .own 0 [.v (.slice none 0 0)])])
    (fun x => x.1 ≤ (lim a).length ∧ x.2.1.length = x.1 ∧ gd x.2.1 ∧ (0 ≤ x.2.2 ∧ x.2.2 ≤ 1) ∧ vl x.2.1 - 65536 ^ x.1 * x.2.2 = vl ((lim a).take x.1) - vl ((lim b).take x.1))
    (fun x => (lim a).length - x.1) (0, [], 0) ⟨by simp, rfl, gd_nil, by simp, by simp [vl]⟩
    ((Le.ghost 5 1 1 (by simp (disch := omega) only [go_sem]) (by simp (disch := omega) only [go_sem])).trans (Le.lst [(2, 40000000), (3, 50000000), (4, 60000000)] _ _ rfl (by simp (disch := omega) only [go_sem]) (by simp (disch := omega) only [go_sem]))) ?_
  rintro ⟨i, out, bo⟩ ⟨hi, hol, hog, hbo, hov⟩
  dsimp only at hi hol hog hbo hov ⊢
  simp (disch := omega) only [go_sem]
  refine ifW_dec (fun h1 => ?_) (fun h1 => ?_)
  · have hx := gd_getD hA i
    have hy := gd_getD hB i
    have hstep : ∀ z b' : Int, (lim a).getD i 0 - bo - (lim b).getD i 0 = z - 65536 * b' → vl (out ++ [z]) - 65536 ^ (i + 1) * b' = vl ((lim a).take (i + 1)) - vl ((lim b).take (i + 1)) := by
      intro z b' hz
      rw [vl_snoc, vl_take_any, vl_take_any, hol, Int.pow_succ]
      generalize (65536 : Int) ^ i = Pi at *
      grind
    have hyz : ¬ i < (lim b).length → (lim b).getD i 0 = 0 := fun h => by rw [List.getD_eq_getElem?_getD, List.getElem?_eq_none (by omega)]; rfl
    simp (disch := omega) only [go_sem, h1]
    refine ⟨by omega, by omega, ifW_dec (fun h2 => ?_) (fun h2 => ?_)⟩
    · simp (disch := omega) only [go_sem, h2]
      refine ⟨by omega, by omega, ifW_dec (fun h3 => ?_) (fun h3 => ?_)⟩
      · simp (disch := omega) only [go_sem, h3]
        refine ⟨by omega, next_intro (i + 1, out ++ [(lim a).getD i 0 - bo - (lim b).getD i 0 + 65536], 1) [(1, 440000000)] ⟨by show i + 1 ≤ _; omega, by simp [hol], gd_append.2 ⟨hog, gd_one.2 (by omega)⟩, by simp, hstep ((lim a).getD i 0 - bo - (lim b).getD i 0 + 65536) 1 (by omega)⟩ (by show (lim a).length - (i + 1) < (lim a).length - i; omega) rfl (by simp (disch := omega) only [go_sem, List.length_append]; try omega) (by simp (disch := omega) only [go_sem])⟩
      · simp (disch := omega) only [go_sem, h3]
        refine ⟨by omega, next_intro (i + 1, out ++ [(lim a).getD i 0 - bo - (lim b).getD i 0], 0) [(1, 440000000)] ⟨by show i + 1 ≤ _; omega, by simp [hol], gd_append.2 ⟨hog, gd_one.2 (by omega)⟩, by simp, hstep ((lim a).getD i 0 - bo - (lim b).getD i 0) 0 (by omega)⟩ (by show (lim a).length - (i + 1) < (lim a).length - i; omega) rfl (by simp (disch := omega) only [go_sem, List.length_append]; try omega) (by simp (disch := omega) only [go_sem])⟩
    · simp (disch := omega) only [go_sem, h2]
      refine ifW_dec (fun h3 => ?_) (fun h3 => ?_)
      · simp (disch := omega) only [go_sem, h3]
        have hy0 := hyz (by omega)
        refine ⟨by omega, next_intro (i + 1, out ++ [(lim a).getD i 0 - bo + 65536], 1) [(1, 440000000)] ⟨by show i + 1 ≤ _; omega, by simp [hol], gd_append.2 ⟨hog, gd_one.2 (by omega)⟩, by simp, hstep ((lim a).getD i 0 - bo + 65536) 1 (by omega)⟩ (by show (lim a).length - (i + 1) < (lim a).length - i; omega) rfl (by simp (disch := omega) only [go_sem, List.length_append]; try omega) (by simp (disch := omega) only [go_sem])⟩
      · simp (disch := omega) only [go_sem, h3]
        have hy0 := hyz (by omega)
        refine ⟨by omega, next_intro (i + 1, out ++ [(lim a).getD i 0 - bo], 0) [(1, 440000000)] ⟨by show i + 1 ≤ _; omega, by simp [hol], gd_append.2 ⟨hog, gd_one.2 (by omega)⟩, by simp, hstep ((lim a).getD i 0 - bo) 0 (by omega)⟩ (by show (lim a).length - (i + 1) < (lim a).length - i; omega) rfl (by simp (disch := omega) only [go_sem, List.length_append]; try omega) (by simp (disch := omega) only [go_sem])⟩
  · simp (disch := omega) only [go_sem, h1]
    have hiA : i = (lim a).length := by omega
    subst hiA
    rw [List.take_length, List.take_of_length_le lB] at hov
    have hva := vl_lim a
    have hvb := vl_lim b
    have hb0 : bo = 0 := by
      have h2 := vl_lt hog
      rw [hol] at h2
      rcases (by omega : bo = 0 ∨ bo = 1) with h | h
      · exact h
      · subst h; omega
    subst hb0
    have hov2 : vl out = ((a - b : Nat) : Int) := by omega
    refine call_closed (con_l2norm true out (a - b) (by omega) hog hov2) (by simp (disch := omega) only [go_sem]) ?_
    rintro r hs (⟨h0, rfl, rfl⟩ | ⟨zs, rfl, rfl⟩)
    · refine ⟨⟨by simp, by simp (disch := omega) only [go_sem]⟩, ?_⟩
      simp (disch := omega) only [go_sem]
      refine fin_intro [] [] [] [.ag [.v (.slice none 0 0)]] rfl (by simp (disch := omega) only [go_sem]) (by simp (disch := omega) only [go_sem]) (by simp) (by intro _; simp [tupA, AV.pu, AV.pu.puL, Ob.pu, pu_ints]) (.inl ⟨h0, rfl, rfl⟩)
    · refine ⟨⟨by simp, by simp (disch := omega) only [go_sem]⟩, ?_⟩
      simp (disch := omega) only [go_sem]
      refine fin_intro [(0, 460000000)] [.own 1 (ints (lim (a - b) ++ zs))] [] [.ag [.rf 0 0 (lim (a - b)).length]] rfl (by simp (disch := omega) only [go_sem]) (by simp (disch := omega) only [go_sem]) (by simp) (by intro _; simp [tupA, AV.pu, AV.pu.puL, Ob.pu, pu_ints]) (.inr ⟨zs, rfl, rfl⟩)
end Go.Ab
namespace Go.Ab
open Go Go.Proofs
set_option linter.unusedVariables false
set_option linter.unusedSimpArgs false

theorem con_l2subF (a b : Nat) (hle : b ≤ a) (la : (lim a).length ≤ 1000000) : Con Tryd.prog 111 false [.ag [.sl (lim (a)).length (ints (lim (a)))], .ag [.sl (lim (b)).length (ints (lim (b)))]] [] (isA (.ag [.sl (lim (a - b)).length (ints (lim (a - b)))])) := (con_l2sub false a b hle la).natF

theorem con_l3add (s1 : Bool) (m1 : Nat) (s2 : Bool) (m2 : Nat) (h1 : bl m1 ≤ 6000000) (h2 : bl m2 ≤ 6000000) :
    Con Tryd.prog 69 false [.ag [.v (.bool (s1)), .sl (lim (m1)).length (ints (lim (m1)))], .ag [.v (.bool (s2)), .sl (lim (m2)).length (ints (lim (m2)))]] [] (isA (.ag [.v (.bool (suS s1 m1 s2 m2)), .sl (lim (suM s1 m1 s2 m2)).length (ints (lim (suM s1 m1 s2 m2)))])) := by
  refine Con.frzA ?_
  have l1 := len_bl h1
  have l2 := len_bl h2
  have hge : (0 ≤ cmpI (m1 : Int) (m2 : Int)) ↔ m2 ≤ m1 := by rw [cmp_pos.2.2]; omega
  have hb := bl_suM (s1 := s1) (s2 := s2) h1 h2
  have l3 := len_bl hb
  rw [← sgS_and]
  refine Con.of_aw Tryd.func69 rfl Tryd.ntmps69 (by simp) (by simp) (by simp) (W.sound ?_)
  show @W Tryd.prog 40 ⟨_⟩ ⟨fun x σ => @retW _ _ _ ⟨_⟩ _ ⟨_⟩ x σ⟩ _ _
  simp (disch := omega) only [go_sem]
  refine ifW_b (fun c1 => ?_) (fun c1 => ?_)
  · have c1' : s1 = s2 := by simpa using c1
    simp (disch := omega) only [go_sem, c1]
    subst c1'
    rw [sgS_same, suM_same] at *
    refine draw_of rfl [⟨0, [], []⟩, ⟨1, [], []⟩, ⟨2, [1], []⟩, ⟨3, [1], []⟩, ⟨4, [1, 3], []⟩, ⟨5, [1, 3], []⟩, ⟨6, [1], []⟩, ⟨7, [], []⟩, ⟨8, [], []⟩] (by kernel_rfl) ?_
    simp (disch := omega) only [go_sem]
    refine call_open (con_l2addF m1 m2 (by omega) (by omega)) (by simp (disch := omega) only [go_sem]) ?_
    rintro r hs ⟨rfl, rfl, _⟩
    refine ⟨by simp [freeN], ?_⟩
    simp (disch := omega) only [go_sem]
    refine call_open (con_l3make s1 (m1 + m2) (by omega)) (by simp (disch := omega) only [go_sem]) ?_
    rintro r hs ⟨rfl, rfl, _⟩
    refine ⟨by simp [freeN], ?_⟩
    simp (disch := omega) only [go_sem]
    refine fin_val (by simp (disch := omega) only [go_sem]) ?_
    show snap _ 6 _ = _
    simp (disch := omega) only [go_sem]
  · have c1' : s1 ≠ s2 := by simpa using c1
    simp (disch := omega) only [go_sem, c1]
    refine call_closed (con_l2cmp m1 m2 (by omega) (by omega)) (by simp (disch := omega) only [go_sem]) ?_
    rintro r hs ⟨rfl, rfl, _⟩
    refine ⟨by simp [freeN], ?_⟩
    simp (disch := omega) only [go_sem]
    refine ifW_dec (fun c2 => ?_) (fun c2 => ?_)
    · have c2' : m2 ≤ m1 := hge.1 (by omega)
      rw [sgS_ge c1' c2', suM_ge c1' c2'] at *
      simp (disch := omega) only [go_sem, c2]
      refine draw_of rfl [⟨0, [], []⟩, ⟨1, [], []⟩, ⟨2, [1], []⟩, ⟨3, [1], []⟩, ⟨4, [1, 3], []⟩, ⟨5, [1, 3], []⟩, ⟨6, [1], []⟩, ⟨7, [], []⟩, ⟨8, [], []⟩] (by kernel_rfl) ?_
      simp (disch := omega) only [go_sem]
      refine call_open (con_l2subF m1 m2 c2' (by omega)) (by simp (disch := omega) only [go_sem]) ?_
      rintro r hs ⟨rfl, rfl, _⟩
      refine ⟨by simp [freeN], ?_⟩
      simp (disch := omega) only [go_sem]
      refine call_open (con_l3make s1 (m1 - m2) (by omega)) (by simp (disch := omega) only [go_sem]) ?_
      rintro r hs ⟨rfl, rfl, _⟩
      refine ⟨by simp [freeN], ?_⟩
      simp (disch := omega) only [go_sem]
      refine fin_val (by simp (disch := omega) only [go_sem]) ?_
      show snap _ 6 _ = _
      simp (disch := omega) only [go_sem]
    · have c2' : ¬ m2 ≤ m1 := fun h => c2 (by have := hge.2 h; omega)
      rw [sgS_lt c1' c2', suM_lt c1' c2'] at *
      simp (disch := omega) only [go_sem, c2]
      refine draw_of rfl [⟨0, [], []⟩, ⟨1, [], []⟩, ⟨2, [1], []⟩, ⟨3, [1], []⟩, ⟨4, [1, 3], []⟩, ⟨5, [1, 3], []⟩, ⟨6, [1], []⟩, ⟨7, [], []⟩, ⟨8, [], []⟩] (by kernel_rfl) ?_
      simp (disch := omega) only [go_sem]
      refine call_open (con_l2subF m2 m1 (by omega) (by omega)) (by simp (disch := omega) only [go_sem]) ?_
      rintro r hs ⟨rfl, rfl, _⟩
      refine ⟨by simp [freeN], ?_⟩
      simp (disch := omega) only [go_sem]
      refine call_open (con_l3make s2 (m2 - m1) (by omega)) (by simp (disch := omega) only [go_sem]) ?_
      rintro r hs ⟨rfl, rfl, _⟩
      refine ⟨by simp [freeN], ?_⟩
      simp (disch := omega) only [go_sem]
      refine fin_val (by simp (disch := omega) only [go_sem]) ?_
      show snap _ 6 _ = _
      simp (disch := omega) only [go_sem]

/-- The power of two that the reference tells a sum in: that of two noughts is another one. -/
def alF (m1 : Nat) (e1 : Int) (m2 : Nat) (e2 : Int) : Int := if m1 = 0 then e2 else if m2 = 0 then e1 else if e1 ≤ e2 then e1 else e2
theorem alF_eq (m1 : Nat) (e1 : Int) (m2 : Nat) (e2 : Int) (h : ¬ (m1 = 0 ∧ m2 = 0)) : alF m1 e1 m2 e2 = alE m1 e1 m2 e2 := by
  unfold alF alE
  repeat' split
  all_goals omega

theorem con_l4align (s1 : Bool) (m1 : Nat) (e1 : Int) (s2 : Bool) (m2 : Nat) (e2 : Int) (h1 : bl m1 ≤ 4000000) (h2 : bl m2 ≤ 4000000) (he1 : -1000000 ≤ e1 ∧ e1 ≤ 1000000) (he2 : -1000000 ≤ e2 ∧ e2 ≤ 1000000) (z1 : m1 = 0 → s1 = false) (z2 : m2 = 0 → s2 = false) :
    Con Tryd.prog 67 false [.ag [.v (.bool (s1)), .sl (lim (m1)).length (ints (lim (m1))), .v (.int .i64 (e1))], .ag [.v (.bool (s2)), .sl (lim (m2)).length (ints (lim (m2))), .v (.int .i64 (e2))]] [] (isA (.tu [.ag [.v (.bool (s1)), .sl (lim (alA m1 e1 (alE m1 e1 m2 e2))).length (ints (lim (alA m1 e1 (alE m1 e1 m2 e2))))], .ag [.v (.bool (s2)), .sl (lim (alA m2 e2 (alE m1 e1 m2 e2))).length (ints (lim (alA m2 e2 (alE m1 e1 m2 e2))))], .v (.int .i64 (alF m1 e1 m2 e2))])) := by
  refine Con.frzA ?_
  have l1 := len_bl h1
  have l2 := len_bl h2
  refine Con.of_aw Tryd.func67 rfl Tryd.ntmps67 (by simp) (by simp) (by simp) (W.sound ?_)
  show @W Tryd.prog 70 ⟨_⟩ ⟨fun x σ => @retW _ _ _ ⟨_⟩ _ ⟨_⟩ x σ⟩ _ _
  simp (disch := omega) only [go_sem]
  refine ifW_dec (fun c1 => ?_) (fun c1 => ?_)
  · have y1 : m1 = 0 := lim_eq_nil.1 (List.length_eq_zero_iff.1 (by omega))
    have eF : alF m1 e1 m2 e2 = e2 := by unfold alF; rw [if_pos y1]
    have a1 : alA m1 e1 (alE m1 e1 m2 e2) = m1 := by rw [y1]; unfold alA; rw [Nat.zero_mul]
    have a2 : alA m2 e2 (alE m1 e1 m2 e2) = m2 := by
      by_cases y2 : m2 = 0
      · rw [y2]; unfold alA; rw [Nat.zero_mul]
      · unfold alA alE; rw [if_neg y2, if_pos y1, Int.sub_self]; simp
    simp (disch := omega) only [go_sem, c1]
    refine draw_of rfl [⟨0, [], []⟩, ⟨1, [], []⟩, ⟨2, [1], []⟩, ⟨3, [1], []⟩, ⟨4, [1, 3], []⟩, ⟨5, [1, 3], []⟩, ⟨6, [3, 5], []⟩, ⟨7, [5], []⟩, ⟨8, [], []⟩] (by kernel_rfl) ?_
    simp (disch := omega) only [go_sem]
    refine fin_val (by simp (disch := omega) only [go_sem]) ?_
    show snap _ 6 _ = _
    rw [eF, a1, a2]
    simp (disch := omega) only [go_sem]
  · have y1 : m1 ≠ 0 := fun e => c1 (by rw [e, lim_zero]; rfl)
    simp (disch := omega) only [go_sem, c1]
    refine ifW_dec (fun c2 => ?_) (fun c2 => ?_)
    · have y2 : m2 = 0 := lim_eq_nil.1 (List.length_eq_zero_iff.1 (by omega))
      have eF : alF m1 e1 m2 e2 = e1 := by unfold alF; rw [if_neg y1, if_pos y2]
      have a1 : alA m1 e1 (alE m1 e1 m2 e2) = m1 := by unfold alA alE; rw [if_pos y2, Int.sub_self]; simp
      have a2 : alA m2 e2 (alE m1 e1 m2 e2) = m2 := by rw [y2]; unfold alA; rw [Nat.zero_mul]
      simp (disch := omega) only [go_sem, c2]
      refine draw_of rfl [⟨0, [], []⟩, ⟨1, [], []⟩, ⟨2, [1], []⟩, ⟨3, [1], []⟩, ⟨4, [1, 3], []⟩, ⟨5, [1, 3], []⟩, ⟨6, [3, 5], []⟩, ⟨7, [5], []⟩, ⟨8, [], []⟩] (by kernel_rfl) ?_
      simp (disch := omega) only [go_sem]
      refine fin_val (by simp (disch := omega) only [go_sem]) ?_
      show snap _ 6 _ = _
      rw [eF, a1, a2]
      simp (disch := omega) only [go_sem]
    · have y2 : m2 ≠ 0 := fun e => c2 (by rw [e, lim_zero]; rfl)
      simp (disch := omega) only [go_sem, c2]
      refine ifW_dec (fun c3 => ?_) (fun c3 => ?_)
      · have eF : alF m1 e1 m2 e2 = e1 := by unfold alF; rw [if_neg y1, if_neg y2, if_pos c3]
        have eE : alE m1 e1 m2 e2 = e1 := by unfold alE; rw [if_neg y2, if_neg y1, if_neg (by omega)]
        have a1 : alA m1 e1 (alE m1 e1 m2 e2) = m1 := by rw [eE]; unfold alA; rw [Int.sub_self]; simp
        have ek : e2 - e1 = (((e2 - e1).toNat : Nat) : Int) := by omega
        have hb : bl (m2 * 2 ^ (e2 - e1).toNat) ≤ 6000000 := by have := bl_up m2 (e2 - e1).toNat; omega
        have l3 := len_bl hb
        have hn : m2 * 2 ^ (e2 - e1).toNat ≠ 0 := Nat.mul_ne_zero y2 (Nat.pos_iff_ne_zero.1 (Nat.pow_pos (by omega)))
        have hd : decide (m2 * 2 ^ (e2 - e1).toNat ≠ 0) = true := decide_eq_true hn
        simp (disch := omega) only [go_sem, c3]
        refine draw_of rfl [⟨0, [], []⟩, ⟨1, [], []⟩, ⟨2, [1], []⟩, ⟨3, [1], []⟩, ⟨4, [1], []⟩, ⟨5, [1, 4], []⟩, ⟨6, [1, 4], []⟩, ⟨7, [1, 4], []⟩, ⟨8, [1, 4, 7], []⟩, ⟨9, [1, 4, 7], []⟩, ⟨10, [1, 4, 7, 9], []⟩, ⟨11, [1, 4, 7, 9], []⟩, ⟨12, [1, 4, 7], []⟩, ⟨15, [1, 4, 7, 9, 11], []⟩, ⟨16, [1, 4, 7, 9, 11], []⟩, ⟨13, [1, 4, 16], []⟩, ⟨14, [1, 16], []⟩, ⟨17, [16], []⟩, ⟨18, [16], []⟩, ⟨19, [], []⟩] (by kernel_rfl) ?_
        simp (disch := omega) only [go_sem]
        refine call_open (con_l2shlF m2 (e2 - e1).toNat (by omega) (by omega)) (by simp (disch := omega) only [go_sem, ← ek]) ?_
        rintro r hs ⟨rfl, rfl, _⟩
        refine ⟨by simp [freeN], ?_⟩
        simp (disch := omega) only [go_sem]
        refine call_open (con_l3make s2 (m2 * 2 ^ (e2 - e1).toNat) (by omega)) (by simp (disch := omega) only [go_sem]) ?_
        rintro r hs ⟨rfl, rfl, _⟩
        refine ⟨by simp [freeN], ?_⟩
        simp (disch := omega) only [go_sem]
        refine fin_val (by simp (disch := omega) only [go_sem]) ?_
        show snap _ 6 _ = _
        rw [eF, a1, eE, hd]; unfold alA
        simp (disch := omega) only [go_sem, Bool.and_true]
      · have eF : alF m1 e1 m2 e2 = e2 := by unfold alF; rw [if_neg y1, if_neg y2, if_neg c3]
        have eE : alE m1 e1 m2 e2 = e2 := by unfold alE; rw [if_neg y2, if_neg y1, if_pos (by omega)]
        have a2 : alA m2 e2 (alE m1 e1 m2 e2) = m2 := by rw [eE]; unfold alA; rw [Int.sub_self]; simp
        have ek : e1 - e2 = (((e1 - e2).toNat : Nat) : Int) := by omega
        have hb : bl (m1 * 2 ^ (e1 - e2).toNat) ≤ 6000000 := by have := bl_up m1 (e1 - e2).toNat; omega
        have l3 := len_bl hb
        have hn : m1 * 2 ^ (e1 - e2).toNat ≠ 0 := Nat.mul_ne_zero y1 (Nat.pos_iff_ne_zero.1 (Nat.pow_pos (by omega)))
        have hd : decide (m1 * 2 ^ (e1 - e2).toNat ≠ 0) = true := decide_eq_true hn
        simp (disch := omega) only [go_sem, c3]
        refine draw_of rfl [⟨0, [], []⟩, ⟨1, [], []⟩, ⟨2, [], []⟩, ⟨3, [2], []⟩, ⟨4, [2], []⟩, ⟨5, [2], []⟩, ⟨6, [2, 5], []⟩, ⟨7, [2, 5], []⟩, ⟨8, [2, 5, 7], []⟩, ⟨9, [2, 5, 7], []⟩, ⟨10, [2, 5], []⟩, ⟨13, [2, 5, 7, 9], []⟩, ⟨14, [2, 5, 7, 9], []⟩, ⟨15, [2, 5, 7, 9, 14], []⟩, ⟨16, [2, 5, 7, 9, 14], []⟩, ⟨11, [2, 14, 16], []⟩, ⟨12, [14, 16], []⟩, ⟨17, [14, 16], []⟩, ⟨18, [16], []⟩, ⟨19, [], []⟩] (by kernel_rfl) ?_
        simp (disch := omega) only [go_sem]
        refine call_open (con_l2shlF m1 (e1 - e2).toNat (by omega) (by omega)) (by simp (disch := omega) only [go_sem, ← ek]) ?_
        rintro r hs ⟨rfl, rfl, _⟩
        refine ⟨by simp [freeN], ?_⟩
        simp (disch := omega) only [go_sem]
        refine call_open (con_l3make s1 (m1 * 2 ^ (e1 - e2).toNat) (by omega)) (by simp (disch := omega) only [go_sem]) ?_
        rintro r hs ⟨rfl, rfl, _⟩
        refine ⟨by simp [freeN], ?_⟩
        simp (disch := omega) only [go_sem]
        refine fin_val (by simp (disch := omega) only [go_sem]) ?_
        show snap _ 6 _ = _
        rw [eF, a2, eE, hd]; unfold alA
        simp (disch := omega) only [go_sem, Bool.and_true]

theorem con_l4add (s1 : Bool) (m1 : Nat) (e1 : Int) (s2 : Bool) (m2 : Nat) (e2 : Int) (h1 : bl m1 ≤ 4000000) (h2 : bl m2 ≤ 4000000) (he1 : -1000000 ≤ e1 ∧ e1 ≤ 1000000) (he2 : -1000000 ≤ e2 ∧ e2 ≤ 1000000) (z1 : m1 = 0 → s1 = false) (z2 : m2 = 0 → s2 = false) :
    Con Tryd.prog 36 false [.ag [.v (.bool (s1)), .sl (lim (m1)).length (ints (lim (m1))), .v (.int .i64 (e1))], .ag [.v (.bool (s2)), .sl (lim (m2)).length (ints (lim (m2))), .v (.int .i64 (e2))]] [] (isA (.ag [.v (.bool (oS (adS s1 m1 e1 s2 m2 e2) (adM s1 m1 e1 s2 m2 e2))), .sl (lim (oM (adM s1 m1 e1 s2 m2 e2))).length (ints (lim (oM (adM s1 m1 e1 s2 m2 e2)))), .v (.int .i64 (oE (adM s1 m1 e1 s2 m2 e2) (alE m1 e1 m2 e2)))])) := by
  refine Con.frzA ?_
  have hE := alE_ge (m1 := m1) (m2 := m2) he1.1 he2.1
  have b1 := bl_alA (e := e1) (E := alE m1 e1 m2 e2) (C := 2000000) h1 (by omega)
  have b2 := bl_alA (e := e2) (E := alE m1 e1 m2 e2) (C := 2000000) h2 (by omega)
  have hF : -1000000 ≤ alF m1 e1 m2 e2 ∧ alF m1 e1 m2 e2 ≤ 1000000 := by
    unfold alF
    repeat' split
    all_goals omega
  have hX : oE (adM s1 m1 e1 s2 m2 e2) (alE m1 e1 m2 e2) = oE (adM s1 m1 e1 s2 m2 e2) (alF m1 e1 m2 e2) := by
    by_cases h : m1 = 0 ∧ m2 = 0
    · have : adM s1 m1 e1 s2 m2 e2 = 0 := by rw [h.1, h.2]; unfold adM alA; rw [Nat.zero_mul, Nat.zero_mul]; unfold suM; rw [sv_zero, sv_zero]; rfl
      rw [this]; rfl
    · rw [alF_eq _ _ _ _ h]
  rw [hX]
  have l1 := len_bl h1
  have l2 := len_bl h2
  refine Con.of_aw Tryd.func36 rfl Tryd.ntmps36 (by simp) (by simp) (by simp) (W.sound ?_)
  show @W Tryd.prog 20 ⟨_⟩ ⟨fun x σ => @retW _ _ _ ⟨_⟩ _ ⟨_⟩ x σ⟩ _ _
  simp (disch := omega) only [go_sem]
  refine call_open (con_l4align s1 m1 e1 s2 m2 e2 h1 h2 he1 he2 z1 z2) (by simp (disch := omega) only [go_sem]) ?_
  rintro r hs ⟨rfl, rfl, _⟩
  refine ⟨by simp [freeN], ?_⟩
  simp (disch := omega) only [go_sem]
  unfold adS adM
  generalize alA m1 e1 (alE m1 e1 m2 e2) = A at *
  generalize alA m2 e2 (alE m1 e1 m2 e2) = B at *
  generalize alF m1 e1 m2 e2 = E at *
  refine call_open (con_l3add s1 A s2 B (by omega) (by omega)) (by simp (disch := omega) only [go_sem]) ?_
  rintro r hs ⟨rfl, rfl, _⟩
  refine ⟨by simp [freeN], ?_⟩
  simp (disch := omega) only [go_sem]
  have hb := bl_suM (s1 := s1) (s2 := s2) b1 b2
  refine call_open (con_l4make (suS s1 A s2 B) (suM s1 A s2 B) E (by omega) (by omega)) (by simp (disch := omega) only [go_sem]) ?_
  rintro r hs ⟨rfl, rfl, _⟩
  refine ⟨by simp [freeN], ?_⟩
  simp (disch := omega) only [go_sem]
  refine fin_val (by simp (disch := omega) only [go_sem]) ?_
  show snap _ 6 _ = _
  simp (disch := omega) only [go_sem]
end Go.Ab
namespace Go.Ab
open Go Go.Proofs
set_option linter.unusedVariables false
set_option linter.unusedSimpArgs false

theorem con_l4mode (mode : Int) : Con Tryd.prog 48 true [.v (.int .i64 mode)] [] (isA (.v (.bool (decide (0 ≤ mode) && decide (mode ≤ 4))))) := by
  refine Con.of_aw Tryd.func48 rfl Tryd.ntmps48 (by simp) (by simp) (by simp) (W.sound ?_)
  show @W Tryd.prog 9 ⟨_⟩ ⟨fun x σ => @retW _ _ _ ⟨_⟩ _ ⟨_⟩ x σ⟩ _ _
  simp (disch := omega) only [go_sem]
  repeat' first
    | simp (disch := omega) only [go_sem, *]
    | (with_reducible refine ifW_dec (fun _ => ?_) (fun _ => ?_))
    | (with_reducible refine ifW_not (fun _ => ?_) (fun _ => ?_))
    | (with_reducible refine ifW_nb (fun _ => ?_) (fun _ => ?_))
    | (with_reducible refine ifW_b (fun _ => ?_) (fun _ => ?_))
  all_goals exact fin_valc (by simp (disch := omega) only [go_sem]) (by simp (disch := omega) only [go_sem]) ⟨by simp_all [tupA] <;> omega, rfl, rfl⟩

theorem con_l4ups (neg : Bool) (m k : Nat) (mode : Int) (hl : (lim m).length ≤ 2 ^ 40) (hk : 1 ≤ k) (hk2 : k ≤ 2 ^ 40) : Con Tryd.prog 106 true [.v (.bool neg), .ag [.sl (lim (m)).length (ints (lim (m)))], .v (.int .i64 k), .v (.int .i64 mode)] [] (isA (.v (.bool (upsB neg m k mode)))) := by
  refine Con.of_aw Tryd.func106 rfl Tryd.ntmps106 (by simp) (by simp) (by simp) (W.sound ?_)
  show @W Tryd.prog 44 ⟨_⟩ ⟨fun x σ => @retW _ _ _ ⟨_⟩ _ ⟨_⟩ x σ⟩ _ _
  have ek : ((k : Int) - 1) = ((k - 1 : Nat) : Int) := by omega
  have e1 : decide (((m / 2 ^ (k - 1) % 2 : Nat) : Int) = 1) = decide (m / 2 ^ (k - 1) % 2 = 1) := by rw [decide_eq_decide]; omega
  have e2 : decide (((m / 2 ^ k % 2 : Nat) : Int) = 1) = decide (m / 2 ^ k % 2 = 1) := by rw [decide_eq_decide]; omega
  have e3 : decide ((tz m : Int) < ((k - 1 : Nat) : Int)) = decide (tz m < k - 1) := by rw [decide_eq_decide]; omega
  simp (disch := omega) only [go_sem, ek]
  refine call_closed (con_l2bit m ((k - 1 : Nat) : Int) hl (by omega) (by omega)) (by simp (disch := omega) only [go_sem, ek]) ?_
  rintro r hs ⟨rfl, rfl, _⟩
  refine ⟨by simp [freeN], ?_⟩
  simp (disch := omega) only [go_sem, ek, e1]
  refine call_closed (con_l2trail m hl) (by simp (disch := omega) only [go_sem]) ?_
  rintro r hs ⟨rfl, rfl, _⟩
  refine ⟨by simp [freeN], ?_⟩
  simp (disch := omega) only [go_sem]
  refine ifW_dec (fun h1 => ?_) (fun h1 => ?_)
  · simp (disch := omega) only [go_sem, h1]
    exact fin_valc (by simp (disch := omega) only [go_sem]) (by simp (disch := omega) only [go_sem]) ⟨by simp [tupA, upsB, h1], rfl, rfl⟩
  · simp (disch := omega) only [go_sem, h1]
    refine ifW_dec (fun h2 => ?_) (fun h2 => ?_)
    · simp (disch := omega) only [go_sem, h2]
      exact fin_valc (by simp (disch := omega) only [go_sem]) (by simp (disch := omega) only [go_sem]) ⟨by simp [tupA, upsB, h2], rfl, rfl⟩
    · simp (disch := omega) only [go_sem, h2]
      refine ifW_dec (fun h3 => ?_) (fun h3 => ?_)
      · simp (disch := omega) only [go_sem, h3]
        exact fin_valc (by simp (disch := omega) only [go_sem]) (by simp (disch := omega) only [go_sem]) ⟨by simp [tupA, upsB, h3], rfl, rfl⟩
      · simp (disch := omega) only [go_sem, h3]
        refine ifW_dec (fun h4 => ?_) (fun h4 => ?_)
        · simp (disch := omega) only [go_sem, h4]
          exact fin_valc (by simp (disch := omega) only [go_sem]) (by simp (disch := omega) only [go_sem]) ⟨by simp [tupA, upsB, h4], rfl, rfl⟩
        · simp (disch := omega) only [go_sem, h4]
          refine ifW_b (fun h5 => ?_) (fun h5 => ?_)
          · simp (disch := omega) only [go_sem, h5]
            refine ifW_nb (fun h6 => ?_) (fun h6 => ?_)
            · simp (disch := omega) only [go_sem, h6]
              refine call_closed (con_l2bit m (k : Int) hl (by omega) (by omega)) (by simp (disch := omega) only [go_sem]) ?_
              rintro r hs ⟨rfl, rfl, _⟩
              refine ⟨by simp [freeN], ?_⟩
              simp (disch := omega) only [go_sem]
              have h7 : decide (tz m < k - 1) = false := by rw [← e3, ← ek]; exact h6
              rw [e2]
              refine fin_valc (by simp (disch := omega) only [go_sem]) (by simp (disch := omega) only [go_sem]) ⟨?_, rfl, rfl⟩
              show AV.v (.bool _) = AV.v (.bool _)
              unfold upsB; rw [if_neg h1, if_neg h2, if_neg h3, if_neg h4, h5, h7]; rfl
            · simp (disch := omega) only [go_sem, h6]
              have h7 : decide (tz m < k - 1) = true := by rw [← e3, ← ek]; exact h6
              refine fin_valc (by simp (disch := omega) only [go_sem]) (by simp (disch := omega) only [go_sem]) ⟨?_, rfl, rfl⟩
              show AV.v (.bool _) = AV.v (.bool _)
              unfold upsB; rw [if_neg h1, if_neg h2, if_neg h3, if_neg h4, h5, h7]; rfl
          · simp (disch := omega) only [go_sem, h5]
            refine fin_valc (by simp (disch := omega) only [go_sem]) (by simp (disch := omega) only [go_sem]) ⟨?_, rfl, rfl⟩
            show AV.v (.bool _) = AV.v (.bool _)
            unfold upsB; rw [if_neg h1, if_neg h2, if_neg h3, if_neg h4, h5]; rfl

/-- A number in its one form, rounded: as the reference does it. -/
def srM (s : Bool) (m : Nat) (e low mode : Int) : Nat := oM (roM s m e low mode)
def srE (s : Bool) (m : Nat) (e low mode : Int) : Int := if low ≤ e ∨ m = 0 then e else oE (roM s m e low mode) low

theorem con_l4round (s : Bool) (m : Nat) (e low mode : Int) (hodd : m % 2 = 1 ∨ m = 0) (hs : m = 0 → s = false) (hmode : 0 ≤ mode ∧ mode ≤ 4) (hm : bl m ≤ 4000000) (he : -1000000 ≤ e ∧ e ≤ 1000000) (hlo : -1000000 ≤ low ∧ low ≤ 1000000) :
    Con Tryd.prog 63 false [.ag [.v (.bool (s)), .sl (lim (m)).length (ints (lim (m))), .v (.int .i64 (e))], .v (.int .i64 low), .v (.int .i64 mode)] []
      (isA (.tu [.ag [.v (.bool (oS (roS s m e low mode) (roM s m e low mode))), .sl (lim (srM s m e low mode)).length (ints (lim (srM s m e low mode))), .v (.int .i64 (srE s m e low mode))], .v (.bool (roX m e low))])) := by
  refine Con.frzA ?_
  have l1 := len_bl hm
  refine Con.of_aw Tryd.func63 rfl Tryd.ntmps63 (by simp) (by simp) (by simp) (W.sound ?_)
  show @W Tryd.prog 51 ⟨_⟩ ⟨fun x σ => @retW _ _ _ ⟨_⟩ _ ⟨_⟩ x σ⟩ _ _
  simp (disch := omega) only [go_sem]
  refine ifW_not (fun h1 => ?_) (fun h1 => ?_)
  · have h0 : m ≠ 0 := fun e => h1 (by rw [e, lim_zero]; rfl)
    have hod : m % 2 = 1 := hodd.resolve_right h0
    simp (disch := omega) only [go_sem, h1]
    refine ifW_dec (fun h2 => ?_) (fun h2 => ?_)
    · simp (disch := omega) only [go_sem, h2]
      refine fin_val (by simp (disch := omega) only [go_sem]) ?_
      show snap _ 6 _ = _
      have ht := tz_odd hod
      have e3 : oM m = m := by unfold oM; rw [ht]; simp
      simp only [srM, srE, roM, roS, roX, h2, true_or, if_true, oS, if_neg h0, e3]
      simp (disch := omega) only [go_sem]
    · simp (disch := omega) only [go_sem, h2]
      have ek : low - e = (((low - e).toNat : Nat) : Int) := by omega
      have hk1 : 1 ≤ (low - e).toNat := by omega
      refine call_open (con_l2shr m (low - e).toNat (by omega) (by omega)) (by simp (disch := omega) only [go_sem, ← ek]) ?_
      rintro r hs ⟨rfl, rfl, _⟩
      refine ⟨by simp [freeN], ?_⟩
      simp (disch := omega) only [go_sem]
      refine call_closed (con_l4ups s m (low - e).toNat mode (by omega) hk1 (by omega)) (by simp (disch := omega) only [go_sem, ← ek]) ?_
      rintro r hs ⟨rfl, rfl, _⟩
      refine ⟨by simp [freeN], ?_⟩
      simp (disch := omega) only [go_sem]
      have hc : ¬ (low ≤ e ∨ m = 0) := by omega
      have hne := odd_mod hod hk1
      have hups := ups_eq (neg := s) hod hk1 hmode
      have hq : roM s m e low mode = if upsB s m (low - e).toNat mode = true then m / 2 ^ (low - e).toNat + 1 else m / 2 ^ (low - e).toNat := by
        unfold roM rq
        rw [if_neg hc, if_neg hne, ← hups]
      have hro : roS s m e low mode = (s && decide (roM s m e low mode ≠ 0)) := by unfold roS roM; rw [if_neg hc, if_neg hc]
      have hblq : bl (m / 2 ^ (low - e).toNat + 1) ≤ 4000001 := by
        have h3 := bl_succ (m / 2 ^ (low - e).toNat)
        have h4 := bl_divle m (2 ^ (low - e).toNat)
        omega
      have hblq0 : bl (m / 2 ^ (low - e).toNat) ≤ 4000001 := Nat.le_trans (bl_mono (by omega)) hblq
      have lq := len_bl hblq
      have lq0 := len_bl hblq0
      have hrx : roX m e low = false := by unfold roX; rw [if_neg hc]; simp [hne]
      have hfin : ∀ q, roM s m e low mode = q → bl q ≤ 4000001 → AV.ag [.v (.bool (oS (s && decide (q ≠ 0)) q)), .sl (lim (oM q)).length (ints (lim (oM q))), .v (.int .i64 (oE q low))] = AV.ag [.v (.bool (oS (roS s m e low mode) (roM s m e low mode))), .sl (lim (srM s m e low mode)).length (ints (lim (srM s m e low mode))), .v (.int .i64 (srE s m e low mode))] := by
        intro q hq' _
        rw [hro, hq']
        unfold srM srE
        rw [if_neg hc, hq']
      refine ifW_b (fun h3 => ?_) (fun h3 => ?_)
      · rw [if_pos h3] at hq
        simp (disch := omega) only [go_sem, h3]
        refine draw_of rfl [⟨0, [], []⟩, ⟨1, [0], []⟩, ⟨2, [], []⟩, ⟨3, [], []⟩] (by kernel_rfl) ?_
        simp (disch := omega) only [go_sem]
        refine call_open (con_l2ofF 1 (by omega)) (by simp (disch := omega) only [go_sem]) ?_
        rintro r hs ⟨rfl, rfl, _⟩
        refine ⟨by simp [freeN], ?_⟩
        simp (disch := omega) only [go_sem]
        refine call_open (con_l2addF (m / 2 ^ (low - e).toNat) 1 (by omega) (by have := len_bl (m := 1) (B := 1) (by decide); omega)) (by simp (disch := omega) only [go_sem]) ?_
        rintro r hs ⟨rfl, rfl, _⟩
        refine ⟨by simp [freeN], ?_⟩
        simp (disch := omega) only [go_sem]
        refine call_open (con_l3make s (m / 2 ^ (low - e).toNat + 1) (by omega)) (by simp (disch := omega) only [go_sem]) ?_
        rintro r hs ⟨rfl, rfl, _⟩
        refine ⟨by simp [freeN], ?_⟩
        simp (disch := omega) only [go_sem]
        refine call_open (con_l4make (s && decide (m / 2 ^ (low - e).toNat + 1 ≠ 0)) (m / 2 ^ (low - e).toNat + 1) low (by omega) (by omega)) (by simp (disch := omega) only [go_sem]) ?_
        rintro r hs ⟨rfl, rfl, _⟩
        refine ⟨by simp [freeN], ?_⟩
        simp (disch := omega) only [go_sem]
        refine fin_val (by simp (disch := omega) only [go_sem]) ?_
        show snap _ 6 _ = _
        rw [← hfin _ hq hblq, hrx]
        simp (disch := omega) only [go_sem]
      · rw [if_neg (by rw [h3]; simp)] at hq
        simp (disch := omega) only [go_sem, h3]
        refine call_open (con_l3make s (m / 2 ^ (low - e).toNat) (by omega)) (by simp (disch := omega) only [go_sem]) ?_
        rintro r hs ⟨rfl, rfl, _⟩
        refine ⟨by simp [freeN], ?_⟩
        simp (disch := omega) only [go_sem]
        refine call_open (con_l4make (s && decide (m / 2 ^ (low - e).toNat ≠ 0)) (m / 2 ^ (low - e).toNat) low (by omega) (by omega)) (by simp (disch := omega) only [go_sem]) ?_
        rintro r hs ⟨rfl, rfl, _⟩
        refine ⟨by simp [freeN], ?_⟩
        simp (disch := omega) only [go_sem]
        refine fin_val (by simp (disch := omega) only [go_sem]) ?_
        show snap _ 6 _ = _
        rw [← hfin _ hq hblq0, hrx]
        simp (disch := omega) only [go_sem]
  · have h0 : m = 0 := lim_eq_nil.1 (List.length_eq_zero_iff.1 (by omega))
    simp (disch := omega) only [go_sem, h1]
    refine fin_val (by simp (disch := omega) only [go_sem]) ?_
    show snap _ 6 _ = _
    have hs0 := hs h0
    subst h0
    subst hs0
    simp only [srM, srE, roM, roS, roX, or_true, if_true, oS, oM_zero]
    simp (disch := omega) only [go_sem]
end Go.Ab
namespace Go.Ab
open Go Go.Proofs
set_option linter.unusedVariables false
set_option linter.unusedSimpArgs false

theorem con_l5nan : Con Tryd.prog 60 true [] [] (isA (.ag [.v (.int .i64 (3)), .v (.bool (false)), .v (.int .i64 (0)), .v (.int .i64 (0))])) := by
  refine Con.of_aw Tryd.func60 rfl Tryd.ntmps60 (by simp) (by simp) (by simp) (W.sound ?_)
  show @W Tryd.prog 2 ⟨_⟩ ⟨fun x σ => @retW _ _ _ ⟨_⟩ _ ⟨_⟩ x σ⟩ _ _
  simp (disch := omega) only [go_sem]
  exact fin_valc (by simp (disch := omega) only [go_sem]) (by simp (disch := omega) only [go_sem]) isA_mk

theorem con_l5bad : Con Tryd.prog 27 true [] [] (isA (.tu [.ag [.v (.int .i64 (3)), .v (.bool (false)), .v (.int .i64 (0)), .v (.int .i64 (0))], .v (.int .i64 16)])) := by
  refine Con.of_aw Tryd.func27 rfl Tryd.ntmps27 (by simp) (by simp) (by simp) (W.sound ?_)
  show @W Tryd.prog 3 ⟨_⟩ ⟨fun x σ => @retW _ _ _ ⟨_⟩ _ ⟨_⟩ x σ⟩ _ _
  simp (disch := omega) only [go_sem]
  refine call_closed (con_l5nan) (by simp (disch := omega) only [go_sem]) ?_
  rintro r hs ⟨rfl, rfl, _⟩
  refine ⟨by simp [freeN], ?_⟩
  simp (disch := omega) only [go_sem]
  exact fin_valc (by simp (disch := omega) only [go_sem]) (by simp (disch := omega) only [go_sem]) isA_mk

theorem con_l5most (s : Bool) : Con Tryd.prog 64 true [.v (.bool s)] [] (isA (.ag [.v (.int .i64 (1)), .v (.bool (s)), .v (.int .i64 (9007199254740991)), .v (.int .i64 (971))])) := by
  refine Con.of_aw Tryd.func64 rfl Tryd.ntmps64 (by simp) (by simp) (by simp) (W.sound ?_)
  show @W Tryd.prog 5 ⟨_⟩ ⟨fun x σ => @retW _ _ _ ⟨_⟩ _ ⟨_⟩ x σ⟩ _ _
  simp (disch := omega) only [go_sem]
  exact fin_valc (by simp (disch := omega) only [go_sem]) (by simp (disch := omega) only [go_sem]) isA_mk

theorem sr_eq {s : Bool} {m : Nat} {e low mode : Int} (hodd : m % 2 = 1) : srM s m e low mode = oM (roM s m e low mode) ∧ srE s m e low mode = oE (roM s m e low mode) (roE m e low) := by
  refine ⟨rfl, ?_⟩
  unfold srE
  by_cases h : low ≤ e ∨ m = 0
  · have h0 : m ≠ 0 := fun e => by omega
    rw [if_pos h]
    unfold roM roE oE
    rw [if_pos h, if_pos h, if_neg h0, tz_odd hodd]; simp
  · rw [if_neg h]
    unfold roE
    rw [if_neg h]

theorem roS_eq {s : Bool} {m : Nat} {e low mode : Int} (h : roM s m e low mode ≠ 0) : oS (roS s m e low mode) (roM s m e low mode) = s := by
  unfold oS; rw [if_neg h]
  unfold roS roM at *
  by_cases hc : low ≤ e ∨ m = 0
  · rw [if_pos hc]
  · rw [if_neg hc] at h ⊢
    simp [h]

theorem oE_bnd {m : Nat} {e : Int} {B : Nat} (h : bl m ≤ B) (he : -1000000 ≤ e ∧ e ≤ 1000000) : -1000000 ≤ oE m e ∧ oE m e ≤ 1000000 + B := by
  unfold oE
  by_cases h0 : m = 0
  · rw [if_pos h0]; omega
  · rw [if_neg h0]; have := tz_lt_bl h0; omega

set_option maxRecDepth 100000 in
set_option maxHeartbeats 1000000 in
theorem con_l5round (s : Bool) (m : Nat) (e mode : Int) (z : Bool) (hodd : m % 2 = 1 ∨ m = 0) (hs : m = 0 → s = false) (hmode : 0 ≤ mode ∧ mode ≤ 4) (hm : bl m ≤ 100000) (he : -100000 ≤ e ∧ e ≤ 100000) :
    Con Tryd.prog 35 true [.ag [.v (.bool (s)), .sl (lim (m)).length (ints (lim (m))), .v (.int .i64 (e))], .v (.int .i64 mode), .v (.bool z)] []
      (isA (.tu [.ag [.v (.int .i64 ((flV s m e mode z).k)), .v (.bool ((flV s m e mode z).s)), .v (.int .i64 ((flV s m e mode z).m)), .v (.int .i64 ((flV s m e mode z).e))], .v (.int .i64 (flG s m e mode))])) := by
  have hl := len_bl hm
  refine Con.of_aw Tryd.func35 rfl Tryd.ntmps35 (by simp) (by simp) (by simp) (W.sound ?_)
  show @W Tryd.prog 105 ⟨_⟩ ⟨fun x σ => @retW _ _ _ ⟨_⟩ _ ⟨_⟩ x σ⟩ _ _
  simp (disch := omega) only [go_sem]
  refine ifW_dec (fun h1 => ?_) (fun h1 => ?_)
  · have h0 : m = 0 := lim_eq_nil.1 (List.length_eq_zero_iff.1 (by omega))
    simp (disch := omega) only [go_sem, h1]
    refine fin_valc (by simp (disch := omega) only [go_sem]) (by simp (disch := omega) only [go_sem]) ⟨?_, rfl, rfl⟩
    simp only [tupA, flV, flG, h0, if_true]
  · have h0 : m ≠ 0 := fun e => h1 (by rw [e, lim_zero]; rfl)
    have hod : m % 2 = 1 := hodd.resolve_right h0
    simp (disch := omega) only [go_sem, h1]
    have etop : (if m = 0 then (0 : Int) else e + (bl m : Int)) = (bl m : Int) + e := by rw [if_neg h0]; omega
    refine call_closed (con_l4top s m e (by omega) (by omega)) (by simp (disch := omega) only [go_sem, etop]) ?_
    rintro r hs ⟨rfl, rfl, _⟩
    refine ⟨by simp [freeN], ?_⟩
    simp (disch := omega) only [go_sem]
    simp (disch := omega) only [go_sem, etop]
    have hL0 : flLow ((bl m : Int) + e) = (if -1074 > (bl m : Int) + e - 53 then -1074 else (bl m : Int) + e - 53) := rfl
    have hVG : ∀ (k mm ee fg : Int), flK s mode (roM s m e (flLow (bl m + e)) mode) (roE m e (flLow (bl m + e))) = k → flMm s mode (roM s m e (flLow (bl m + e)) mode) (roE m e (flLow (bl m + e))) = mm → flEe s mode (roM s m e (flLow (bl m + e)) mode) (roE m e (flLow (bl m + e))) = ee →
        flFl (bl m + e) (roX m e (flLow (bl m + e))) (roM s m e (flLow (bl m + e)) mode) (roE m e (flLow (bl m + e))) = fg →
        AV.tu [.ag [.v (.int .i64 k), .v (.bool s), .v (.int .i64 mm), .v (.int .i64 ee)], .v (.int .i64 fg)] = .tu [.ag [.v (.int .i64 ((flV s m e mode z).k)), .v (.bool ((flV s m e mode z).s)), .v (.int .i64 ((flV s m e mode z).m)), .v (.int .i64 ((flV s m e mode z).e))], .v (.int .i64 (flG s m e mode))] := by
      intro k mm ee fg g1 g2 g3 g4
      unfold flV flG
      rw [if_neg h0, if_neg h0, g1, g2, g3, g4]
    have hform := ro_form (s := s) (m := m) (e := e) (mode := mode) h0
    refine ifW_dec (fun h2 => ?_) (fun h2 => ?_)
    · have hL : flLow ((bl m : Int) + e) = -1074 := by unfold flLow; rw [if_pos (by omega)]
      simp (disch := omega) only [go_sem, h2]
      have hbl := ro_bl (s := s) (e := e) (low := -1074) (mode := mode) hm
      have hroE : -1000000 ≤ roE m e (-1074) ∧ roE m e (-1074) ≤ 1000000 := by unfold roE; split <;> omega
      obtain ⟨q1, q2⟩ := sr_eq (s := s) (e := e) (low := -1074) (mode := mode) hod
      have q3 := roS_eq (s := s) (m := m) (e := e) (low := -1074) (mode := mode)
      refine call_open (con_l4round s m e (-1074) mode hodd hs hmode (by omega) (by omega) (by omega)) (by simp (disch := omega) only [go_sem, etop]) ?_
      rintro r hs ⟨rfl, rfl, _⟩
      refine ⟨by simp [freeN], ?_⟩
      simp (disch := omega) only [go_sem]
      rw [hL] at hVG hform
      generalize srM s m e (-1074) mode = xm at *
      generalize srE s m e (-1074) mode = xe at *
      generalize oS (roS s m e (-1074) mode) (roM s m e (-1074) mode) = xs at *
      generalize hrm : roM s m e (-1074) mode = rm at *
      generalize hre : roE m e (-1074) = re at *
      generalize hrx : roX m e (-1074) = same at *
      have hxm0 : ((lim xm).length : Int) = 0 ↔ rm = 0 := by rw [q1, ← oM_eq_zero]; exact ⟨fun h => lim_eq_nil.1 (List.length_eq_zero_iff.1 (by omega)), fun h => by rw [h, lim_zero]; rfl⟩
      have hxmb : bl xm ≤ 100001 := by rw [q1]; exact Nat.le_trans (bl_mono (oM_le rm)) hbl
      have lxm := len_bl hxmb
      have hxeb : -2000000 ≤ xe ∧ xe ≤ 2000000 := by have := oE_bnd hbl hroE; omega
      have etop2 : rm ≠ 0 → (if xm = 0 then (0 : Int) else xe + (bl xm : Int)) = (bl rm : Int) + re := fun h => by
        have h2 := bl_oM h
        have h3 : xm ≠ 0 := by rw [q1]; exact fun e => h (oM_eq_zero.1 e)
        rw [if_neg h3, q2, q1]; unfold oE; rw [if_neg h]; omega
      refine ifW_nb (fun h3 => ?_) (fun h3 => ?_)
      · simp (disch := omega) only [go_sem, h3]
        refine call_closed (con_l4top s m e (by omega) (by omega)) (by simp (disch := omega) only [go_sem, etop]) ?_
        rintro r hs ⟨rfl, rfl, _⟩
        refine ⟨by simp [freeN], ?_⟩
        simp (disch := omega) only [go_sem]
        simp (disch := omega) only [go_sem, etop]
        refine ifW_dec (fun h4 => ?_) (fun h4 => ?_)
        · have hfl : flFlags (bl m + e) same = 5 := by unfold flFlags; rw [h3, if_neg (by simp), if_pos (by omega)]
          have e5 : ((1 ||| 4 : Nat) : Int) = 5 := rfl
          simp (disch := omega) only [go_sem, h4, e5]
          refine ifW_dec (fun h5 => ?_) (fun h5 => ?_)
          · have hr0 : rm = 0 := hxm0.1 h5
            simp (disch := omega) only [go_sem, h5]
            refine fin_valc (by simp (disch := omega) only [go_sem]) (by simp (disch := omega) only [go_sem]) ⟨?_, rfl, rfl⟩
            refine hVG 0 0 0 5 (by simp [flK, hr0]) (by simp [flMm, hr0]) (by simp [flEe, hr0]) (by simp [flFl, hr0, hfl])
          · have hr0 : rm ≠ 0 := fun e => h5 (hxm0.2 e)
            have et2 := etop2 hr0
            have hxs : xs = s := q3 hr0
            have hff := hform hr0
            have hM := flM_lt hr0 hff
            simp (disch := omega) only [go_sem, h5]
            refine call_closed (con_l4top xs xm xe (by omega) (by omega)) (by simp (disch := omega) only [go_sem, et2]) ?_
            rintro r hs ⟨rfl, rfl, _⟩
            refine ⟨by simp [freeN], ?_⟩
            simp (disch := omega) only [go_sem]
            simp (disch := omega) only [go_sem, et2]
            refine ifW_dec (fun h6 => ?_) (fun h6 => ?_)
            · have hov : ∀ (k mm ee : Int), k = (if ovB s mode then 1 else 2) → mm = (if ovB s mode then 9007199254740991 else 0) → ee = (if ovB s mode then 971 else 0) → AV.tu [.ag [.v (.int .i64 k), .v (.bool s), .v (.int .i64 mm), .v (.int .i64 ee)], .v (.int .i64 3)] = .tu [.ag [.v (.int .i64 ((flV s m e mode z).k)), .v (.bool ((flV s m e mode z).s)), .v (.int .i64 ((flV s m e mode z).m)), .v (.int .i64 ((flV s m e mode z).e))], .v (.int .i64 (flG s m e mode))] := by
                rintro k mm ee rfl rfl rfl
                exact hVG _ _ _ 3 (by unfold flK; rw [if_neg hr0, if_pos h6]) (by unfold flMm; rw [if_neg hr0, if_pos h6]) (by unfold flEe; rw [if_neg hr0, if_pos h6]) (by unfold flFl; rw [if_pos ⟨hr0, h6⟩])
              clear hVG hform hrm hrx q3 hxs et2 hfl
              obtain rfl | rfl | rfl | rfl | rfl : mode = 0 ∨ mode = 1 ∨ mode = 2 ∨ mode = 3 ∨ mode = 4 := by omega
              · cases s
                · simp (disch := omega) only [go_sem, h6]
                  refine fin_valc (by simp (disch := omega) only [go_sem]) (by simp (disch := omega) only [go_sem]) ⟨?_, rfl, rfl⟩
                  exact hov _ _ _ rfl rfl rfl
                · simp (disch := omega) only [go_sem, h6]
                  refine fin_valc (by simp (disch := omega) only [go_sem]) (by simp (disch := omega) only [go_sem]) ⟨?_, rfl, rfl⟩
                  exact hov _ _ _ rfl rfl rfl
              · cases s
                · simp (disch := omega) only [go_sem, h6]
                  refine call_closed (con_l5most false) (by simp (disch := omega) only [go_sem]) ?_
                  rintro r hs ⟨rfl, rfl, _⟩
                  refine ⟨by simp [freeN], ?_⟩
                  simp (disch := omega) only [go_sem]
                  refine fin_valc (by simp (disch := omega) only [go_sem]) (by simp (disch := omega) only [go_sem]) ⟨?_, rfl, rfl⟩
                  exact hov _ _ _ rfl rfl rfl
                · simp (disch := omega) only [go_sem, h6]
                  refine call_closed (con_l5most true) (by simp (disch := omega) only [go_sem]) ?_
                  rintro r hs ⟨rfl, rfl, _⟩
                  refine ⟨by simp [freeN], ?_⟩
                  simp (disch := omega) only [go_sem]
                  refine fin_valc (by simp (disch := omega) only [go_sem]) (by simp (disch := omega) only [go_sem]) ⟨?_, rfl, rfl⟩
                  exact hov _ _ _ rfl rfl rfl
              · cases s
                · simp (disch := omega) only [go_sem, h6]
                  refine fin_valc (by simp (disch := omega) only [go_sem]) (by simp (disch := omega) only [go_sem]) ⟨?_, rfl, rfl⟩
                  exact hov _ _ _ rfl rfl rfl
                · simp (disch := omega) only [go_sem, h6]
                  refine call_closed (con_l5most true) (by simp (disch := omega) only [go_sem]) ?_
                  rintro r hs ⟨rfl, rfl, _⟩
                  refine ⟨by simp [freeN], ?_⟩
                  simp (disch := omega) only [go_sem]
                  refine fin_valc (by simp (disch := omega) only [go_sem]) (by simp (disch := omega) only [go_sem]) ⟨?_, rfl, rfl⟩
                  exact hov _ _ _ rfl rfl rfl
              · cases s
                · simp (disch := omega) only [go_sem, h6]
                  refine call_closed (con_l5most false) (by simp (disch := omega) only [go_sem]) ?_
                  rintro r hs ⟨rfl, rfl, _⟩
                  refine ⟨by simp [freeN], ?_⟩
                  simp (disch := omega) only [go_sem]
                  refine fin_valc (by simp (disch := omega) only [go_sem]) (by simp (disch := omega) only [go_sem]) ⟨?_, rfl, rfl⟩
                  exact hov _ _ _ rfl rfl rfl
                · simp (disch := omega) only [go_sem, h6]
                  refine fin_valc (by simp (disch := omega) only [go_sem]) (by simp (disch := omega) only [go_sem]) ⟨?_, rfl, rfl⟩
                  exact hov _ _ _ rfl rfl rfl
              · cases s
                · simp (disch := omega) only [go_sem, h6]
                  refine fin_valc (by simp (disch := omega) only [go_sem]) (by simp (disch := omega) only [go_sem]) ⟨?_, rfl, rfl⟩
                  exact hov _ _ _ rfl rfl rfl
                · simp (disch := omega) only [go_sem, h6]
                  refine fin_valc (by simp (disch := omega) only [go_sem]) (by simp (disch := omega) only [go_sem]) ⟨?_, rfl, rfl⟩
                  exact hov _ _ _ rfl rfl rfl
            · simp (disch := omega) only [go_sem, h6]
              refine call_closed (con_l4top xs xm xe (by omega) (by omega)) (by simp (disch := omega) only [go_sem, et2]) ?_
              rintro r hs ⟨rfl, rfl, _⟩
              refine ⟨by simp [freeN], ?_⟩
              simp (disch := omega) only [go_sem]
              simp (disch := omega) only [go_sem, et2]
              have hfin : ∀ mm : Int, mm = (flM rm re : Int) → AV.tu [.ag [.v (.int .i64 1), .v (.bool xs), .v (.int .i64 mm), .v (.int .i64 (flE rm re))], .v (.int .i64 5)] = .tu [.ag [.v (.int .i64 ((flV s m e mode z).k)), .v (.bool ((flV s m e mode z).s)), .v (.int .i64 ((flV s m e mode z).m)), .v (.int .i64 ((flV s m e mode z).e))], .v (.int .i64 (flG s m e mode))] := by
                rintro mm rfl
                rw [hxs]
                exact hVG 1 _ _ 5 (by unfold flK; rw [if_neg hr0, if_neg (by omega)]) (by unfold flMm; rw [if_neg hr0, if_neg (by omega)]) (by unfold flEe; rw [if_neg hr0, if_neg (by omega)]) (by unfold flFl; rw [if_neg (by omega), hfl])
              have ek : xe - flE rm re = (((oE rm re - flE rm re).toNat : Nat) : Int) := by omega
              have hk9 : (oE rm re - flE rm re).toNat ≤ 53 := by have h9 := hM; unfold flM at h9; rw [bl_mul_pow (fun e => hr0 (oM_eq_zero.1 e))] at h9; omega
              have hM6 : flM rm re < 2 ^ 53 := Nat.lt_of_lt_of_le (bl_lt _) (Nat.pow_le_pow_right (by omega) hM)
              have eM : xm * 2 ^ (oE rm re - flE rm re).toNat = flM rm re := by rw [q1]; rfl
              generalize hkk : (oE rm re - flE rm re).toNat = kk at *
              refine ifW_dec (fun h7 => ?_) (fun h7 => ?_)
              · have eE : flE rm re = -1074 := by unfold flE flLow; rw [if_pos (by omega)]
                simp (disch := omega) only [go_sem, h7]
                rw [eE] at ek hfin
                try rw [← et2] at hfin
                refine draw_of rfl [⟨0, [], []⟩, ⟨1, [], []⟩, ⟨2, [], []⟩, ⟨3, [2], []⟩, ⟨4, [2], []⟩, ⟨5, [2], []⟩, ⟨6, [2, 5], []⟩, ⟨7, [2, 5], []⟩, ⟨8, [2, 5, 7], []⟩, ⟨9, [2, 5], []⟩, ⟨12, [2, 5, 7], []⟩, ⟨14, [2, 5, 7], []⟩, ⟨10, [2], []⟩, ⟨11, [2], []⟩, ⟨13, [], []⟩, ⟨15, [], []⟩, ⟨16, [], []⟩] (by kernel_rfl) ?_
                simp (disch := omega) only [go_sem]
                refine call_open (con_l2shlF xm kk (by omega) (by omega)) (by simp (disch := omega) only [go_sem, ek, et2]) ?_
                rintro r hs ⟨rfl, rfl, _⟩
                refine ⟨by simp [freeN], ?_⟩
                simp (disch := omega) only [go_sem]
                refine call_closed (con_l2int (xm * 2 ^ kk) (by rw [eM]; omega)) (by simp (disch := omega) only [go_sem]) ?_
                rintro r hs ⟨rfl, rfl, _⟩
                refine ⟨by simp [freeN], ?_⟩
                simp (disch := omega) only [go_sem]
                refine fin_valc (by simp (disch := omega) only [go_sem]) (by simp (disch := omega) only [go_sem]) ⟨?_, rfl, rfl⟩
                exact hfin ((xm * 2 ^ kk : Nat) : Int) (by rw [eM])
              · have eE : flE rm re = (bl rm : Int) + re - 53 := by unfold flE flLow; rw [if_neg (by omega)]
                simp (disch := omega) only [go_sem, h7]
                rw [eE] at ek hfin
                try rw [← et2] at hfin
                refine draw_of rfl [⟨0, [], []⟩, ⟨1, [], []⟩, ⟨2, [], []⟩, ⟨3, [2], []⟩, ⟨4, [2], []⟩, ⟨5, [2], []⟩, ⟨6, [2, 5], []⟩, ⟨7, [2, 5], []⟩, ⟨8, [2, 5, 7], []⟩, ⟨9, [2, 5], []⟩, ⟨12, [2, 5, 7], []⟩, ⟨14, [2, 5, 7], []⟩, ⟨10, [2], []⟩, ⟨11, [2], []⟩, ⟨13, [], []⟩, ⟨15, [], []⟩, ⟨16, [], []⟩] (by kernel_rfl) ?_
                simp (disch := omega) only [go_sem]
                refine call_open (con_l2shlF xm kk (by omega) (by omega)) (by simp (disch := omega) only [go_sem, ek, et2]) ?_
                rintro r hs ⟨rfl, rfl, _⟩
                refine ⟨by simp [freeN], ?_⟩
                simp (disch := omega) only [go_sem]
                refine call_closed (con_l2int (xm * 2 ^ kk) (by rw [eM]; omega)) (by simp (disch := omega) only [go_sem]) ?_
                rintro r hs ⟨rfl, rfl, _⟩
                refine ⟨by simp [freeN], ?_⟩
                simp (disch := omega) only [go_sem]
                refine fin_valc (by simp (disch := omega) only [go_sem]) (by simp (disch := omega) only [go_sem]) ⟨?_, rfl, rfl⟩
                exact hfin ((xm * 2 ^ kk : Nat) : Int) (by rw [eM])
        · have hfl : flFlags (bl m + e) same = 1 := by unfold flFlags; rw [h3, if_neg (by simp), if_neg (by omega)]
          have e5 := (rfl : (0 : Nat) = 0)
          simp (disch := omega) only [go_sem, h4]
          refine ifW_dec (fun h5 => ?_) (fun h5 => ?_)
          · have hr0 : rm = 0 := hxm0.1 h5
            simp (disch := omega) only [go_sem, h5]
            refine fin_valc (by simp (disch := omega) only [go_sem]) (by simp (disch := omega) only [go_sem]) ⟨?_, rfl, rfl⟩
            refine hVG 0 0 0 1 (by simp [flK, hr0]) (by simp [flMm, hr0]) (by simp [flEe, hr0]) (by simp [flFl, hr0, hfl])
          · have hr0 : rm ≠ 0 := fun e => h5 (hxm0.2 e)
            have et2 := etop2 hr0
            have hxs : xs = s := q3 hr0
            have hff := hform hr0
            have hM := flM_lt hr0 hff
            simp (disch := omega) only [go_sem, h5]
            refine call_closed (con_l4top xs xm xe (by omega) (by omega)) (by simp (disch := omega) only [go_sem, et2]) ?_
            rintro r hs ⟨rfl, rfl, _⟩
            refine ⟨by simp [freeN], ?_⟩
            simp (disch := omega) only [go_sem]
            simp (disch := omega) only [go_sem, et2]
            refine ifW_dec (fun h6 => ?_) (fun h6 => ?_)
            · have hov : ∀ (k mm ee : Int), k = (if ovB s mode then 1 else 2) → mm = (if ovB s mode then 9007199254740991 else 0) → ee = (if ovB s mode then 971 else 0) → AV.tu [.ag [.v (.int .i64 k), .v (.bool s), .v (.int .i64 mm), .v (.int .i64 ee)], .v (.int .i64 3)] = .tu [.ag [.v (.int .i64 ((flV s m e mode z).k)), .v (.bool ((flV s m e mode z).s)), .v (.int .i64 ((flV s m e mode z).m)), .v (.int .i64 ((flV s m e mode z).e))], .v (.int .i64 (flG s m e mode))] := by
                rintro k mm ee rfl rfl rfl
                exact hVG _ _ _ 3 (by unfold flK; rw [if_neg hr0, if_pos h6]) (by unfold flMm; rw [if_neg hr0, if_pos h6]) (by unfold flEe; rw [if_neg hr0, if_pos h6]) (by unfold flFl; rw [if_pos ⟨hr0, h6⟩])
              clear hVG hform hrm hrx q3 hxs et2 hfl
              obtain rfl | rfl | rfl | rfl | rfl : mode = 0 ∨ mode = 1 ∨ mode = 2 ∨ mode = 3 ∨ mode = 4 := by omega
              · cases s
                · simp (disch := omega) only [go_sem, h6]
                  refine fin_valc (by simp (disch := omega) only [go_sem]) (by simp (disch := omega) only [go_sem]) ⟨?_, rfl, rfl⟩
                  exact hov _ _ _ rfl rfl rfl
                · simp (disch := omega) only [go_sem, h6]
                  refine fin_valc (by simp (disch := omega) only [go_sem]) (by simp (disch := omega) only [go_sem]) ⟨?_, rfl, rfl⟩
                  exact hov _ _ _ rfl rfl rfl
              · cases s
                · simp (disch := omega) only [go_sem, h6]
                  refine call_closed (con_l5most false) (by simp (disch := omega) only [go_sem]) ?_
                  rintro r hs ⟨rfl, rfl, _⟩
                  refine ⟨by simp [freeN], ?_⟩
                  simp (disch := omega) only [go_sem]
                  refine fin_valc (by simp (disch := omega) only [go_sem]) (by simp (disch := omega) only [go_sem]) ⟨?_, rfl, rfl⟩
                  exact hov _ _ _ rfl rfl rfl
                · simp (disch := omega) only [go_sem, h6]
                  refine call_closed (con_l5most true) (by simp (disch := omega) only [go_sem]) ?_
                  rintro r hs ⟨rfl, rfl, _⟩
                  refine ⟨by simp [freeN], ?_⟩
                  simp (disch := omega) only [go_sem]
                  refine fin_valc (by simp (disch := omega) only [go_sem]) (by simp (disch := omega) only [go_sem]) ⟨?_, rfl, rfl⟩
                  exact hov _ _ _ rfl rfl rfl
              · cases s
                · simp (disch := omega) only [go_sem, h6]
                  refine fin_valc (by simp (disch := omega) only [go_sem]) (by simp (disch := omega) only [go_sem]) ⟨?_, rfl, rfl⟩
                  exact hov _ _ _ rfl rfl rfl
                · simp (disch := omega) only [go_sem, h6]
                  refine call_closed (con_l5most true) (by simp (disch := omega) only [go_sem]) ?_
                  rintro r hs ⟨rfl, rfl, _⟩
                  refine ⟨by simp [freeN], ?_⟩
                  simp (disch := omega) only [go_sem]
                  refine fin_valc (by simp (disch := omega) only [go_sem]) (by simp (disch := omega) only [go_sem]) ⟨?_, rfl, rfl⟩
                  exact hov _ _ _ rfl rfl rfl
              · cases s
                · simp (disch := omega) only [go_sem, h6]
                  refine call_closed (con_l5most false) (by simp (disch := omega) only [go_sem]) ?_
                  rintro r hs ⟨rfl, rfl, _⟩
                  refine ⟨by simp [freeN], ?_⟩
                  simp (disch := omega) only [go_sem]
                  refine fin_valc (by simp (disch := omega) only [go_sem]) (by simp (disch := omega) only [go_sem]) ⟨?_, rfl, rfl⟩
                  exact hov _ _ _ rfl rfl rfl
                · simp (disch := omega) only [go_sem, h6]
                  refine fin_valc (by simp (disch := omega) only [go_sem]) (by simp (disch := omega) only [go_sem]) ⟨?_, rfl, rfl⟩
                  exact hov _ _ _ rfl rfl rfl
              · cases s
                · simp (disch := omega) only [go_sem, h6]
                  refine fin_valc (by simp (disch := omega) only [go_sem]) (by simp (disch := omega) only [go_sem]) ⟨?_, rfl, rfl⟩
                  exact hov _ _ _ rfl rfl rfl
                · simp (disch := omega) only [go_sem, h6]
                  refine fin_valc (by simp (disch := omega) only [go_sem]) (by simp (disch := omega) only [go_sem]) ⟨?_, rfl, rfl⟩
                  exact hov _ _ _ rfl rfl rfl
            · simp (disch := omega) only [go_sem, h6]
              refine call_closed (con_l4top xs xm xe (by omega) (by omega)) (by simp (disch := omega) only [go_sem, et2]) ?_
              rintro r hs ⟨rfl, rfl, _⟩
              refine ⟨by simp [freeN], ?_⟩
              simp (disch := omega) only [go_sem]
              simp (disch := omega) only [go_sem, et2]
              have hfin : ∀ mm : Int, mm = (flM rm re : Int) → AV.tu [.ag [.v (.int .i64 1), .v (.bool xs), .v (.int .i64 mm), .v (.int .i64 (flE rm re))], .v (.int .i64 1)] = .tu [.ag [.v (.int .i64 ((flV s m e mode z).k)), .v (.bool ((flV s m e mode z).s)), .v (.int .i64 ((flV s m e mode z).m)), .v (.int .i64 ((flV s m e mode z).e))], .v (.int .i64 (flG s m e mode))] := by
                rintro mm rfl
                rw [hxs]
                exact hVG 1 _ _ 1 (by unfold flK; rw [if_neg hr0, if_neg (by omega)]) (by unfold flMm; rw [if_neg hr0, if_neg (by omega)]) (by unfold flEe; rw [if_neg hr0, if_neg (by omega)]) (by unfold flFl; rw [if_neg (by omega), hfl])
              have ek : xe - flE rm re = (((oE rm re - flE rm re).toNat : Nat) : Int) := by omega
              have hk9 : (oE rm re - flE rm re).toNat ≤ 53 := by have h9 := hM; unfold flM at h9; rw [bl_mul_pow (fun e => hr0 (oM_eq_zero.1 e))] at h9; omega
              have hM6 : flM rm re < 2 ^ 53 := Nat.lt_of_lt_of_le (bl_lt _) (Nat.pow_le_pow_right (by omega) hM)
              have eM : xm * 2 ^ (oE rm re - flE rm re).toNat = flM rm re := by rw [q1]; rfl
              generalize hkk : (oE rm re - flE rm re).toNat = kk at *
              refine ifW_dec (fun h7 => ?_) (fun h7 => ?_)
              · have eE : flE rm re = -1074 := by unfold flE flLow; rw [if_pos (by omega)]
                simp (disch := omega) only [go_sem, h7]
                rw [eE] at ek hfin
                try rw [← et2] at hfin
                refine draw_of rfl [⟨0, [], []⟩, ⟨1, [], []⟩, ⟨2, [], []⟩, ⟨3, [2], []⟩, ⟨4, [2], []⟩, ⟨5, [2], []⟩, ⟨6, [2, 5], []⟩, ⟨7, [2, 5], []⟩, ⟨8, [2, 5, 7], []⟩, ⟨9, [2, 5], []⟩, ⟨12, [2, 5, 7], []⟩, ⟨14, [2, 5, 7], []⟩, ⟨10, [2], []⟩, ⟨11, [2], []⟩, ⟨13, [], []⟩, ⟨15, [], []⟩, ⟨16, [], []⟩] (by kernel_rfl) ?_
                simp (disch := omega) only [go_sem]
                refine call_open (con_l2shlF xm kk (by omega) (by omega)) (by simp (disch := omega) only [go_sem, ek, et2]) ?_
                rintro r hs ⟨rfl, rfl, _⟩
                refine ⟨by simp [freeN], ?_⟩
                simp (disch := omega) only [go_sem]
                refine call_closed (con_l2int (xm * 2 ^ kk) (by rw [eM]; omega)) (by simp (disch := omega) only [go_sem]) ?_
                rintro r hs ⟨rfl, rfl, _⟩
                refine ⟨by simp [freeN], ?_⟩
                simp (disch := omega) only [go_sem]
                refine fin_valc (by simp (disch := omega) only [go_sem]) (by simp (disch := omega) only [go_sem]) ⟨?_, rfl, rfl⟩
                exact hfin ((xm * 2 ^ kk : Nat) : Int) (by rw [eM])
              · have eE : flE rm re = (bl rm : Int) + re - 53 := by unfold flE flLow; rw [if_neg (by omega)]
                simp (disch := omega) only [go_sem, h7]
                rw [eE] at ek hfin
                try rw [← et2] at hfin
                refine draw_of rfl [⟨0, [], []⟩, ⟨1, [], []⟩, ⟨2, [], []⟩, ⟨3, [2], []⟩, ⟨4, [2], []⟩, ⟨5, [2], []⟩, ⟨6, [2, 5], []⟩, ⟨7, [2, 5], []⟩, ⟨8, [2, 5, 7], []⟩, ⟨9, [2, 5], []⟩, ⟨12, [2, 5, 7], []⟩, ⟨14, [2, 5, 7], []⟩, ⟨10, [2], []⟩, ⟨11, [2], []⟩, ⟨13, [], []⟩, ⟨15, [], []⟩, ⟨16, [], []⟩] (by kernel_rfl) ?_
                simp (disch := omega) only [go_sem]
                refine call_open (con_l2shlF xm kk (by omega) (by omega)) (by simp (disch := omega) only [go_sem, ek, et2]) ?_
                rintro r hs ⟨rfl, rfl, _⟩
                refine ⟨by simp [freeN], ?_⟩
                simp (disch := omega) only [go_sem]
                refine call_closed (con_l2int (xm * 2 ^ kk) (by rw [eM]; omega)) (by simp (disch := omega) only [go_sem]) ?_
                rintro r hs ⟨rfl, rfl, _⟩
                refine ⟨by simp [freeN], ?_⟩
                simp (disch := omega) only [go_sem]
                refine fin_valc (by simp (disch := omega) only [go_sem]) (by simp (disch := omega) only [go_sem]) ⟨?_, rfl, rfl⟩
                exact hfin ((xm * 2 ^ kk : Nat) : Int) (by rw [eM])
      · have hfl : flFlags (bl m + e) same = 0 := by unfold flFlags; rw [h3, if_pos rfl]
        have e5 := (rfl : (0 : Nat) = 0)
        simp (disch := omega) only [go_sem, h3]
        refine ifW_dec (fun h5 => ?_) (fun h5 => ?_)
        · have hr0 : rm = 0 := hxm0.1 h5
          simp (disch := omega) only [go_sem, h5]
          refine fin_valc (by simp (disch := omega) only [go_sem]) (by simp (disch := omega) only [go_sem]) ⟨?_, rfl, rfl⟩
          refine hVG 0 0 0 0 (by simp [flK, hr0]) (by simp [flMm, hr0]) (by simp [flEe, hr0]) (by simp [flFl, hr0, hfl])
        · have hr0 : rm ≠ 0 := fun e => h5 (hxm0.2 e)
          have et2 := etop2 hr0
          have hxs : xs = s := q3 hr0
          have hff := hform hr0
          have hM := flM_lt hr0 hff
          simp (disch := omega) only [go_sem, h5]
          refine call_closed (con_l4top xs xm xe (by omega) (by omega)) (by simp (disch := omega) only [go_sem, et2]) ?_
          rintro r hs ⟨rfl, rfl, _⟩
          refine ⟨by simp [freeN], ?_⟩
          simp (disch := omega) only [go_sem]
          simp (disch := omega) only [go_sem, et2]
          refine ifW_dec (fun h6 => ?_) (fun h6 => ?_)
          · have hov : ∀ (k mm ee : Int), k = (if ovB s mode then 1 else 2) → mm = (if ovB s mode then 9007199254740991 else 0) → ee = (if ovB s mode then 971 else 0) → AV.tu [.ag [.v (.int .i64 k), .v (.bool s), .v (.int .i64 mm), .v (.int .i64 ee)], .v (.int .i64 3)] = .tu [.ag [.v (.int .i64 ((flV s m e mode z).k)), .v (.bool ((flV s m e mode z).s)), .v (.int .i64 ((flV s m e mode z).m)), .v (.int .i64 ((flV s m e mode z).e))], .v (.int .i64 (flG s m e mode))] := by
              rintro k mm ee rfl rfl rfl
              exact hVG _ _ _ 3 (by unfold flK; rw [if_neg hr0, if_pos h6]) (by unfold flMm; rw [if_neg hr0, if_pos h6]) (by unfold flEe; rw [if_neg hr0, if_pos h6]) (by unfold flFl; rw [if_pos ⟨hr0, h6⟩])
            clear hVG hform hrm hrx q3 hxs et2 hfl
            obtain rfl | rfl | rfl | rfl | rfl : mode = 0 ∨ mode = 1 ∨ mode = 2 ∨ mode = 3 ∨ mode = 4 := by omega
            · cases s
              · simp (disch := omega) only [go_sem, h6]
                refine fin_valc (by simp (disch := omega) only [go_sem]) (by simp (disch := omega) only [go_sem]) ⟨?_, rfl, rfl⟩
                exact hov _ _ _ rfl rfl rfl
              · simp (disch := omega) only [go_sem, h6]
                refine fin_valc (by simp (disch := omega) only [go_sem]) (by simp (disch := omega) only [go_sem]) ⟨?_, rfl, rfl⟩
                exact hov _ _ _ rfl rfl rfl
            · cases s
              · simp (disch := omega) only [go_sem, h6]
                refine call_closed (con_l5most false) (by simp (disch := omega) only [go_sem]) ?_
                rintro r hs ⟨rfl, rfl, _⟩
                refine ⟨by simp [freeN], ?_⟩
                simp (disch := omega) only [go_sem]
                refine fin_valc (by simp (disch := omega) only [go_sem]) (by simp (disch := omega) only [go_sem]) ⟨?_, rfl, rfl⟩
                exact hov _ _ _ rfl rfl rfl
              · simp (disch := omega) only [go_sem, h6]
                refine call_closed (con_l5most true) (by simp (disch := omega) only [go_sem]) ?_
                rintro r hs ⟨rfl, rfl, _⟩
                refine ⟨by simp [freeN], ?_⟩
                simp (disch := omega) only [go_sem]
                refine fin_valc (by simp (disch := omega) only [go_sem]) (by simp (disch := omega) only [go_sem]) ⟨?_, rfl, rfl⟩
                exact hov _ _ _ rfl rfl rfl
            · cases s
              · simp (disch := omega) only [go_sem, h6]
                refine fin_valc (by simp (disch := omega) only [go_sem]) (by simp (disch := omega) only [go_sem]) ⟨?_, rfl, rfl⟩
                exact hov _ _ _ rfl rfl rfl
              · simp (disch := omega) only [go_sem, h6]
                refine call_closed (con_l5most true) (by simp (disch := omega) only [go_sem]) ?_
                rintro r hs ⟨rfl, rfl, _⟩
                refine ⟨by simp [freeN], ?_⟩
                simp (disch := omega) only [go_sem]
                refine fin_valc (by simp (disch := omega) only [go_sem]) (by simp (disch := omega) only [go_sem]) ⟨?_, rfl, rfl⟩
                exact hov _ _ _ rfl rfl rfl
            · cases s
              · simp (disch := omega) only [go_sem, h6]
                refine call_closed (con_l5most false) (by simp (disch := omega) only [go_sem]) ?_
                rintro r hs ⟨rfl, rfl, _⟩
                refine ⟨by simp [freeN], ?_⟩
                simp (disch := omega) only [go_sem]
                refine fin_valc (by simp (disch := omega) only [go_sem]) (by simp (disch := omega) only [go_sem]) ⟨?_, rfl, rfl⟩
                exact hov _ _ _ rfl rfl rfl
              · simp (disch := omega) only [go_sem, h6]
                refine fin_valc (by simp (disch := omega) only [go_sem]) (by simp (disch := omega) only [go_sem]) ⟨?_, rfl, rfl⟩
                exact hov _ _ _ rfl rfl rfl
            · cases s
              · simp (disch := omega) only [go_sem, h6]
                refine fin_valc (by simp (disch := omega) only [go_sem]) (by simp (disch := omega) only [go_sem]) ⟨?_, rfl, rfl⟩
                exact hov _ _ _ rfl rfl rfl
              · simp (disch := omega) only [go_sem, h6]
                refine fin_valc (by simp (disch := omega) only [go_sem]) (by simp (disch := omega) only [go_sem]) ⟨?_, rfl, rfl⟩
                exact hov _ _ _ rfl rfl rfl
          · simp (disch := omega) only [go_sem, h6]
            refine call_closed (con_l4top xs xm xe (by omega) (by omega)) (by simp (disch := omega) only [go_sem, et2]) ?_
            rintro r hs ⟨rfl, rfl, _⟩
            refine ⟨by simp [freeN], ?_⟩
            simp (disch := omega) only [go_sem]
            simp (disch := omega) only [go_sem, et2]
            have hfin : ∀ mm : Int, mm = (flM rm re : Int) → AV.tu [.ag [.v (.int .i64 1), .v (.bool xs), .v (.int .i64 mm), .v (.int .i64 (flE rm re))], .v (.int .i64 0)] = .tu [.ag [.v (.int .i64 ((flV s m e mode z).k)), .v (.bool ((flV s m e mode z).s)), .v (.int .i64 ((flV s m e mode z).m)), .v (.int .i64 ((flV s m e mode z).e))], .v (.int .i64 (flG s m e mode))] := by
              rintro mm rfl
              rw [hxs]
              exact hVG 1 _ _ 0 (by unfold flK; rw [if_neg hr0, if_neg (by omega)]) (by unfold flMm; rw [if_neg hr0, if_neg (by omega)]) (by unfold flEe; rw [if_neg hr0, if_neg (by omega)]) (by unfold flFl; rw [if_neg (by omega), hfl])
            have ek : xe - flE rm re = (((oE rm re - flE rm re).toNat : Nat) : Int) := by omega
            have hk9 : (oE rm re - flE rm re).toNat ≤ 53 := by have h9 := hM; unfold flM at h9; rw [bl_mul_pow (fun e => hr0 (oM_eq_zero.1 e))] at h9; omega
            have hM6 : flM rm re < 2 ^ 53 := Nat.lt_of_lt_of_le (bl_lt _) (Nat.pow_le_pow_right (by omega) hM)
            have eM : xm * 2 ^ (oE rm re - flE rm re).toNat = flM rm re := by rw [q1]; rfl
            generalize hkk : (oE rm re - flE rm re).toNat = kk at *
            refine ifW_dec (fun h7 => ?_) (fun h7 => ?_)
            · have eE : flE rm re = -1074 := by unfold flE flLow; rw [if_pos (by omega)]
              simp (disch := omega) only [go_sem, h7]
              rw [eE] at ek hfin
              try rw [← et2] at hfin
              refine draw_of rfl [⟨0, [], []⟩, ⟨1, [], []⟩, ⟨2, [], []⟩, ⟨3, [2], []⟩, ⟨4, [2], []⟩, ⟨5, [2], []⟩, ⟨6, [2, 5], []⟩, ⟨7, [2, 5], []⟩, ⟨8, [2, 5, 7], []⟩, ⟨9, [2, 5], []⟩, ⟨12, [2, 5, 7], []⟩, ⟨14, [2, 5, 7], []⟩, ⟨10, [2], []⟩, ⟨11, [2], []⟩, ⟨13, [], []⟩, ⟨15, [], []⟩, ⟨16, [], []⟩] (by kernel_rfl) ?_
              simp (disch := omega) only [go_sem]
              refine call_open (con_l2shlF xm kk (by omega) (by omega)) (by simp (disch := omega) only [go_sem, ek, et2]) ?_
              rintro r hs ⟨rfl, rfl, _⟩
              refine ⟨by simp [freeN], ?_⟩
              simp (disch := omega) only [go_sem]
              refine call_closed (con_l2int (xm * 2 ^ kk) (by rw [eM]; omega)) (by simp (disch := omega) only [go_sem]) ?_
              rintro r hs ⟨rfl, rfl, _⟩
              refine ⟨by simp [freeN], ?_⟩
              simp (disch := omega) only [go_sem]
              refine fin_valc (by simp (disch := omega) only [go_sem]) (by simp (disch := omega) only [go_sem]) ⟨?_, rfl, rfl⟩
              exact hfin ((xm * 2 ^ kk : Nat) : Int) (by rw [eM])
            · have eE : flE rm re = (bl rm : Int) + re - 53 := by unfold flE flLow; rw [if_neg (by omega)]
              simp (disch := omega) only [go_sem, h7]
              rw [eE] at ek hfin
              try rw [← et2] at hfin
              refine draw_of rfl [⟨0, [], []⟩, ⟨1, [], []⟩, ⟨2, [], []⟩, ⟨3, [2], []⟩, ⟨4, [2], []⟩, ⟨5, [2], []⟩, ⟨6, [2, 5], []⟩, ⟨7, [2, 5], []⟩, ⟨8, [2, 5, 7], []⟩, ⟨9, [2, 5], []⟩, ⟨12, [2, 5, 7], []⟩, ⟨14, [2, 5, 7], []⟩, ⟨10, [2], []⟩, ⟨11, [2], []⟩, ⟨13, [], []⟩, ⟨15, [], []⟩, ⟨16, [], []⟩] (by kernel_rfl) ?_
              simp (disch := omega) only [go_sem]
              refine call_open (con_l2shlF xm kk (by omega) (by omega)) (by simp (disch := omega) only [go_sem, ek, et2]) ?_
              rintro r hs ⟨rfl, rfl, _⟩
              refine ⟨by simp [freeN], ?_⟩
              simp (disch := omega) only [go_sem]
              refine call_closed (con_l2int (xm * 2 ^ kk) (by rw [eM]; omega)) (by simp (disch := omega) only [go_sem]) ?_
              rintro r hs ⟨rfl, rfl, _⟩
              refine ⟨by simp [freeN], ?_⟩
              simp (disch := omega) only [go_sem]
              refine fin_valc (by simp (disch := omega) only [go_sem]) (by simp (disch := omega) only [go_sem]) ⟨?_, rfl, rfl⟩
              exact hfin ((xm * 2 ^ kk : Nat) : Int) (by rw [eM])
    · have hL : flLow ((bl m : Int) + e) = (bl m : Int) + e - 53 := by unfold flLow; rw [if_neg (by omega)]
      simp (disch := omega) only [go_sem, h2]
      have hbl := ro_bl (s := s) (e := e) (low := (bl m : Int) + e - 53) (mode := mode) hm
      have hroE : -1000000 ≤ roE m e ((bl m : Int) + e - 53) ∧ roE m e ((bl m : Int) + e - 53) ≤ 1000000 := by unfold roE; split <;> omega
      obtain ⟨q1, q2⟩ := sr_eq (s := s) (e := e) (low := (bl m : Int) + e - 53) (mode := mode) hod
      have q3 := roS_eq (s := s) (m := m) (e := e) (low := (bl m : Int) + e - 53) (mode := mode)
      refine call_open (con_l4round s m e ((bl m : Int) + e - 53) mode hodd hs hmode (by omega) (by omega) (by omega)) (by simp (disch := omega) only [go_sem, etop]) ?_
      rintro r hs ⟨rfl, rfl, _⟩
      refine ⟨by simp [freeN], ?_⟩
      simp (disch := omega) only [go_sem]
      rw [hL] at hVG hform
      generalize srM s m e ((bl m : Int) + e - 53) mode = xm at *
      generalize srE s m e ((bl m : Int) + e - 53) mode = xe at *
      generalize oS (roS s m e ((bl m : Int) + e - 53) mode) (roM s m e ((bl m : Int) + e - 53) mode) = xs at *
      generalize hrm : roM s m e ((bl m : Int) + e - 53) mode = rm at *
      generalize hre : roE m e ((bl m : Int) + e - 53) = re at *
      generalize hrx : roX m e ((bl m : Int) + e - 53) = same at *
      have hxm0 : ((lim xm).length : Int) = 0 ↔ rm = 0 := by rw [q1, ← oM_eq_zero]; exact ⟨fun h => lim_eq_nil.1 (List.length_eq_zero_iff.1 (by omega)), fun h => by rw [h, lim_zero]; rfl⟩
      have hxmb : bl xm ≤ 100001 := by rw [q1]; exact Nat.le_trans (bl_mono (oM_le rm)) hbl
      have lxm := len_bl hxmb
      have hxeb : -2000000 ≤ xe ∧ xe ≤ 2000000 := by have := oE_bnd hbl hroE; omega
      have etop2 : rm ≠ 0 → (if xm = 0 then (0 : Int) else xe + (bl xm : Int)) = (bl rm : Int) + re := fun h => by
        have h2 := bl_oM h
        have h3 : xm ≠ 0 := by rw [q1]; exact fun e => h (oM_eq_zero.1 e)
        rw [if_neg h3, q2, q1]; unfold oE; rw [if_neg h]; omega
      refine ifW_nb (fun h3 => ?_) (fun h3 => ?_)
      · simp (disch := omega) only [go_sem, h3]
        refine call_closed (con_l4top s m e (by omega) (by omega)) (by simp (disch := omega) only [go_sem, etop]) ?_
        rintro r hs ⟨rfl, rfl, _⟩
        refine ⟨by simp [freeN], ?_⟩
        simp (disch := omega) only [go_sem]
        simp (disch := omega) only [go_sem, etop]
        refine ifW_dec (fun h4 => ?_) (fun h4 => ?_)
        · have hfl : flFlags (bl m + e) same = 5 := by unfold flFlags; rw [h3, if_neg (by simp), if_pos (by omega)]
          have e5 : ((1 ||| 4 : Nat) : Int) = 5 := rfl
          simp (disch := omega) only [go_sem, h4, e5]
          refine ifW_dec (fun h5 => ?_) (fun h5 => ?_)
          · have hr0 : rm = 0 := hxm0.1 h5
            simp (disch := omega) only [go_sem, h5]
            refine fin_valc (by simp (disch := omega) only [go_sem]) (by simp (disch := omega) only [go_sem]) ⟨?_, rfl, rfl⟩
            refine hVG 0 0 0 5 (by simp [flK, hr0]) (by simp [flMm, hr0]) (by simp [flEe, hr0]) (by simp [flFl, hr0, hfl])
          · have hr0 : rm ≠ 0 := fun e => h5 (hxm0.2 e)
            have et2 := etop2 hr0
            have hxs : xs = s := q3 hr0
            have hff := hform hr0
            have hM := flM_lt hr0 hff
            simp (disch := omega) only [go_sem, h5]
            refine call_closed (con_l4top xs xm xe (by omega) (by omega)) (by simp (disch := omega) only [go_sem, et2]) ?_
            rintro r hs ⟨rfl, rfl, _⟩
            refine ⟨by simp [freeN], ?_⟩
            simp (disch := omega) only [go_sem]
            simp (disch := omega) only [go_sem, et2]
            refine ifW_dec (fun h6 => ?_) (fun h6 => ?_)
            · have hov : ∀ (k mm ee : Int), k = (if ovB s mode then 1 else 2) → mm = (if ovB s mode then 9007199254740991 else 0) → ee = (if ovB s mode then 971 else 0) → AV.tu [.ag [.v (.int .i64 k), .v (.bool s), .v (.int .i64 mm), .v (.int .i64 ee)], .v (.int .i64 3)] = .tu [.ag [.v (.int .i64 ((flV s m e mode z).k)), .v (.bool ((flV s m e mode z).s)), .v (.int .i64 ((flV s m e mode z).m)), .v (.int .i64 ((flV s m e mode z).e))], .v (.int .i64 (flG s m e mode))] := by
                rintro k mm ee rfl rfl rfl
                exact hVG _ _ _ 3 (by unfold flK; rw [if_neg hr0, if_pos h6]) (by unfold flMm; rw [if_neg hr0, if_pos h6]) (by unfold flEe; rw [if_neg hr0, if_pos h6]) (by unfold flFl; rw [if_pos ⟨hr0, h6⟩])
              clear hVG hform hrm hrx q3 hxs et2 hfl
              obtain rfl | rfl | rfl | rfl | rfl : mode = 0 ∨ mode = 1 ∨ mode = 2 ∨ mode = 3 ∨ mode = 4 := by omega
              · cases s
                · simp (disch := omega) only [go_sem, h6]
                  refine fin_valc (by simp (disch := omega) only [go_sem]) (by simp (disch := omega) only [go_sem]) ⟨?_, rfl, rfl⟩
                  exact hov _ _ _ rfl rfl rfl
                · simp (disch := omega) only [go_sem, h6]
                  refine fin_valc (by simp (disch := omega) only [go_sem]) (by simp (disch := omega) only [go_sem]) ⟨?_, rfl, rfl⟩
                  exact hov _ _ _ rfl rfl rfl
              · cases s
                · simp (disch := omega) only [go_sem, h6]
                  refine call_closed (con_l5most false) (by simp (disch := omega) only [go_sem]) ?_
                  rintro r hs ⟨rfl, rfl, _⟩
                  refine ⟨by simp [freeN], ?_⟩
                  simp (disch := omega) only [go_sem]
                  refine fin_valc (by simp (disch := omega) only [go_sem]) (by simp (disch := omega) only [go_sem]) ⟨?_, rfl, rfl⟩
                  exact hov _ _ _ rfl rfl rfl
                · simp (disch := omega) only [go_sem, h6]
                  refine call_closed (con_l5most true) (by simp (disch := omega) only [go_sem]) ?_
                  rintro r hs ⟨rfl, rfl, _⟩
                  refine ⟨by simp [freeN], ?_⟩
                  simp (disch := omega) only [go_sem]
                  refine fin_valc (by simp (disch := omega) only [go_sem]) (by simp (disch := omega) only [go_sem]) ⟨?_, rfl, rfl⟩
                  exact hov _ _ _ rfl rfl rfl
              · cases s
                · simp (disch := omega) only [go_sem, h6]
                  refine fin_valc (by simp (disch := omega) only [go_sem]) (by simp (disch := omega) only [go_sem]) ⟨?_, rfl, rfl⟩
                  exact hov _ _ _ rfl rfl rfl
                · simp (disch := omega) only [go_sem, h6]
                  refine call_closed (con_l5most true) (by simp (disch := omega) only [go_sem]) ?_
                  rintro r hs ⟨rfl, rfl, _⟩
                  refine ⟨by simp [freeN], ?_⟩
                  simp (disch := omega) only [go_sem]
                  refine fin_valc (by simp (disch := omega) only [go_sem]) (by simp (disch := omega) only [go_sem]) ⟨?_, rfl, rfl⟩
                  exact hov _ _ _ rfl rfl rfl
              · cases s
                · simp (disch := omega) only [go_sem, h6]
                  refine call_closed (con_l5most false) (by simp (disch := omega) only [go_sem]) ?_
                  rintro r hs ⟨rfl, rfl, _⟩
                  refine ⟨by simp [freeN], ?_⟩
                  simp (disch := omega) only [go_sem]
                  refine fin_valc (by simp (disch := omega) only [go_sem]) (by simp (disch := omega) only [go_sem]) ⟨?_, rfl, rfl⟩
                  exact hov _ _ _ rfl rfl rfl
                · simp (disch := omega) only [go_sem, h6]
                  refine fin_valc (by simp (disch := omega) only [go_sem]) (by simp (disch := omega) only [go_sem]) ⟨?_, rfl, rfl⟩
                  exact hov _ _ _ rfl rfl rfl
              · cases s
                · simp (disch := omega) only [go_sem, h6]
                  refine fin_valc (by simp (disch := omega) only [go_sem]) (by simp (disch := omega) only [go_sem]) ⟨?_, rfl, rfl⟩
                  exact hov _ _ _ rfl rfl rfl
                · simp (disch := omega) only [go_sem, h6]
                  refine fin_valc (by simp (disch := omega) only [go_sem]) (by simp (disch := omega) only [go_sem]) ⟨?_, rfl, rfl⟩
                  exact hov _ _ _ rfl rfl rfl
            · simp (disch := omega) only [go_sem, h6]
              refine call_closed (con_l4top xs xm xe (by omega) (by omega)) (by simp (disch := omega) only [go_sem, et2]) ?_
              rintro r hs ⟨rfl, rfl, _⟩
              refine ⟨by simp [freeN], ?_⟩
              simp (disch := omega) only [go_sem]
              simp (disch := omega) only [go_sem, et2]
              have hfin : ∀ mm : Int, mm = (flM rm re : Int) → AV.tu [.ag [.v (.int .i64 1), .v (.bool xs), .v (.int .i64 mm), .v (.int .i64 (flE rm re))], .v (.int .i64 5)] = .tu [.ag [.v (.int .i64 ((flV s m e mode z).k)), .v (.bool ((flV s m e mode z).s)), .v (.int .i64 ((flV s m e mode z).m)), .v (.int .i64 ((flV s m e mode z).e))], .v (.int .i64 (flG s m e mode))] := by
                rintro mm rfl
                rw [hxs]
                exact hVG 1 _ _ 5 (by unfold flK; rw [if_neg hr0, if_neg (by omega)]) (by unfold flMm; rw [if_neg hr0, if_neg (by omega)]) (by unfold flEe; rw [if_neg hr0, if_neg (by omega)]) (by unfold flFl; rw [if_neg (by omega), hfl])
              have ek : xe - flE rm re = (((oE rm re - flE rm re).toNat : Nat) : Int) := by omega
              have hk9 : (oE rm re - flE rm re).toNat ≤ 53 := by have h9 := hM; unfold flM at h9; rw [bl_mul_pow (fun e => hr0 (oM_eq_zero.1 e))] at h9; omega
              have hM6 : flM rm re < 2 ^ 53 := Nat.lt_of_lt_of_le (bl_lt _) (Nat.pow_le_pow_right (by omega) hM)
              have eM : xm * 2 ^ (oE rm re - flE rm re).toNat = flM rm re := by rw [q1]; rfl
              generalize hkk : (oE rm re - flE rm re).toNat = kk at *
              refine ifW_dec (fun h7 => ?_) (fun h7 => ?_)
              · have eE : flE rm re = -1074 := by unfold flE flLow; rw [if_pos (by omega)]
                simp (disch := omega) only [go_sem, h7]
                rw [eE] at ek hfin
                try rw [← et2] at hfin
                refine draw_of rfl [⟨0, [], []⟩, ⟨1, [], []⟩, ⟨2, [], []⟩, ⟨3, [2], []⟩, ⟨4, [2], []⟩, ⟨5, [2], []⟩, ⟨6, [2, 5], []⟩, ⟨7, [2, 5], []⟩, ⟨8, [2, 5, 7], []⟩, ⟨9, [2, 5], []⟩, ⟨12, [2, 5, 7], []⟩, ⟨14, [2, 5, 7], []⟩, ⟨10, [2], []⟩, ⟨11, [2], []⟩, ⟨13, [], []⟩, ⟨15, [], []⟩, ⟨16, [], []⟩] (by kernel_rfl) ?_
                simp (disch := omega) only [go_sem]
                refine call_open (con_l2shlF xm kk (by omega) (by omega)) (by simp (disch := omega) only [go_sem, ek, et2]) ?_
                rintro r hs ⟨rfl, rfl, _⟩
                refine ⟨by simp [freeN], ?_⟩
                simp (disch := omega) only [go_sem]
                refine call_closed (con_l2int (xm * 2 ^ kk) (by rw [eM]; omega)) (by simp (disch := omega) only [go_sem]) ?_
                rintro r hs ⟨rfl, rfl, _⟩
                refine ⟨by simp [freeN], ?_⟩
                simp (disch := omega) only [go_sem]
                refine fin_valc (by simp (disch := omega) only [go_sem]) (by simp (disch := omega) only [go_sem]) ⟨?_, rfl, rfl⟩
                exact hfin ((xm * 2 ^ kk : Nat) : Int) (by rw [eM])
              · have eE : flE rm re = (bl rm : Int) + re - 53 := by unfold flE flLow; rw [if_neg (by omega)]
                simp (disch := omega) only [go_sem, h7]
                rw [eE] at ek hfin
                try rw [← et2] at hfin
                refine draw_of rfl [⟨0, [], []⟩, ⟨1, [], []⟩, ⟨2, [], []⟩, ⟨3, [2], []⟩, ⟨4, [2], []⟩, ⟨5, [2], []⟩, ⟨6, [2, 5], []⟩, ⟨7, [2, 5], []⟩, ⟨8, [2, 5, 7], []⟩, ⟨9, [2, 5], []⟩, ⟨12, [2, 5, 7], []⟩, ⟨14, [2, 5, 7], []⟩, ⟨10, [2], []⟩, ⟨11, [2], []⟩, ⟨13, [], []⟩, ⟨15, [], []⟩, ⟨16, [], []⟩] (by kernel_rfl) ?_
                simp (disch := omega) only [go_sem]
                refine call_open (con_l2shlF xm kk (by omega) (by omega)) (by simp (disch := omega) only [go_sem, ek, et2]) ?_
                rintro r hs ⟨rfl, rfl, _⟩
                refine ⟨by simp [freeN], ?_⟩
                simp (disch := omega) only [go_sem]
                refine call_closed (con_l2int (xm * 2 ^ kk) (by rw [eM]; omega)) (by simp (disch := omega) only [go_sem]) ?_
                rintro r hs ⟨rfl, rfl, _⟩
                refine ⟨by simp [freeN], ?_⟩
                simp (disch := omega) only [go_sem]
                refine fin_valc (by simp (disch := omega) only [go_sem]) (by simp (disch := omega) only [go_sem]) ⟨?_, rfl, rfl⟩
                exact hfin ((xm * 2 ^ kk : Nat) : Int) (by rw [eM])
        · have hfl : flFlags (bl m + e) same = 1 := by unfold flFlags; rw [h3, if_neg (by simp), if_neg (by omega)]
          have e5 := (rfl : (0 : Nat) = 0)
          simp (disch := omega) only [go_sem, h4]
          refine ifW_dec (fun h5 => ?_) (fun h5 => ?_)
          · have hr0 : rm = 0 := hxm0.1 h5
            simp (disch := omega) only [go_sem, h5]
            refine fin_valc (by simp (disch := omega) only [go_sem]) (by simp (disch := omega) only [go_sem]) ⟨?_, rfl, rfl⟩
            refine hVG 0 0 0 1 (by simp [flK, hr0]) (by simp [flMm, hr0]) (by simp [flEe, hr0]) (by simp [flFl, hr0, hfl])
          · have hr0 : rm ≠ 0 := fun e => h5 (hxm0.2 e)
            have et2 := etop2 hr0
            have hxs : xs = s := q3 hr0
            have hff := hform hr0
            have hM := flM_lt hr0 hff
            simp (disch := omega) only [go_sem, h5]
            refine call_closed (con_l4top xs xm xe (by omega) (by omega)) (by simp (disch := omega) only [go_sem, et2]) ?_
            rintro r hs ⟨rfl, rfl, _⟩
            refine ⟨by simp [freeN], ?_⟩
            simp (disch := omega) only [go_sem]
            simp (disch := omega) only [go_sem, et2]
            refine ifW_dec (fun h6 => ?_) (fun h6 => ?_)
            · have hov : ∀ (k mm ee : Int), k = (if ovB s mode then 1 else 2) → mm = (if ovB s mode then 9007199254740991 else 0) → ee = (if ovB s mode then 971 else 0) → AV.tu [.ag [.v (.int .i64 k), .v (.bool s), .v (.int .i64 mm), .v (.int .i64 ee)], .v (.int .i64 3)] = .tu [.ag [.v (.int .i64 ((flV s m e mode z).k)), .v (.bool ((flV s m e mode z).s)), .v (.int .i64 ((flV s m e mode z).m)), .v (.int .i64 ((flV s m e mode z).e))], .v (.int .i64 (flG s m e mode))] := by
                rintro k mm ee rfl rfl rfl
                exact hVG _ _ _ 3 (by unfold flK; rw [if_neg hr0, if_pos h6]) (by unfold flMm; rw [if_neg hr0, if_pos h6]) (by unfold flEe; rw [if_neg hr0, if_pos h6]) (by unfold flFl; rw [if_pos ⟨hr0, h6⟩])
              clear hVG hform hrm hrx q3 hxs et2 hfl
              obtain rfl | rfl | rfl | rfl | rfl : mode = 0 ∨ mode = 1 ∨ mode = 2 ∨ mode = 3 ∨ mode = 4 := by omega
              · cases s
                · simp (disch := omega) only [go_sem, h6]
                  refine fin_valc (by simp (disch := omega) only [go_sem]) (by simp (disch := omega) only [go_sem]) ⟨?_, rfl, rfl⟩
                  exact hov _ _ _ rfl rfl rfl
                · simp (disch := omega) only [go_sem, h6]
                  refine fin_valc (by simp (disch := omega) only [go_sem]) (by simp (disch := omega) only [go_sem]) ⟨?_, rfl, rfl⟩
                  exact hov _ _ _ rfl rfl rfl
              · cases s
                · simp (disch := omega) only [go_sem, h6]
                  refine call_closed (con_l5most false) (by simp (disch := omega) only [go_sem]) ?_
                  rintro r hs ⟨rfl, rfl, _⟩
                  refine ⟨by simp [freeN], ?_⟩
                  simp (disch := omega) only [go_sem]
                  refine fin_valc (by simp (disch := omega) only [go_sem]) (by simp (disch := omega) only [go_sem]) ⟨?_, rfl, rfl⟩
                  exact hov _ _ _ rfl rfl rfl
                · simp (disch := omega) only [go_sem, h6]
                  refine call_closed (con_l5most true) (by simp (disch := omega) only [go_sem]) ?_
                  rintro r hs ⟨rfl, rfl, _⟩
                  refine ⟨by simp [freeN], ?_⟩
                  simp (disch := omega) only [go_sem]
                  refine fin_valc (by simp (disch := omega) only [go_sem]) (by simp (disch := omega) only [go_sem]) ⟨?_, rfl, rfl⟩
                  exact hov _ _ _ rfl rfl rfl
              · cases s
                · simp (disch := omega) only [go_sem, h6]
                  refine fin_valc (by simp (disch := omega) only [go_sem]) (by simp (disch := omega) only [go_sem]) ⟨?_, rfl, rfl⟩
                  exact hov _ _ _ rfl rfl rfl
                · simp (disch := omega) only [go_sem, h6]
                  refine call_closed (con_l5most true) (by simp (disch := omega) only [go_sem]) ?_
                  rintro r hs ⟨rfl, rfl, _⟩
                  refine ⟨by simp [freeN], ?_⟩
                  simp (disch := omega) only [go_sem]
                  refine fin_valc (by simp (disch := omega) only [go_sem]) (by simp (disch := omega) only [go_sem]) ⟨?_, rfl, rfl⟩
                  exact hov _ _ _ rfl rfl rfl
              · cases s
                · simp (disch := omega) only [go_sem, h6]
                  refine call_closed (con_l5most false) (by simp (disch := omega) only [go_sem]) ?_
                  rintro r hs ⟨rfl, rfl, _⟩
                  refine ⟨by simp [freeN], ?_⟩
                  simp (disch := omega) only [go_sem]
                  refine fin_valc (by simp (disch := omega) only [go_sem]) (by simp (disch := omega) only [go_sem]) ⟨?_, rfl, rfl⟩
                  exact hov _ _ _ rfl rfl rfl
                · simp (disch := omega) only [go_sem, h6]
                  refine fin_valc (by simp (disch := omega) only [go_sem]) (by simp (disch := omega) only [go_sem]) ⟨?_, rfl, rfl⟩
                  exact hov _ _ _ rfl rfl rfl
              · cases s
                · simp (disch := omega) only [go_sem, h6]
                  refine fin_valc (by simp (disch := omega) only [go_sem]) (by simp (disch := omega) only [go_sem]) ⟨?_, rfl, rfl⟩
                  exact hov _ _ _ rfl rfl rfl
                · simp (disch := omega) only [go_sem, h6]
                  refine fin_valc (by simp (disch := omega) only [go_sem]) (by simp (disch := omega) only [go_sem]) ⟨?_, rfl, rfl⟩
                  exact hov _ _ _ rfl rfl rfl
            · simp (disch := omega) only [go_sem, h6]
              refine call_closed (con_l4top xs xm xe (by omega) (by omega)) (by simp (disch := omega) only [go_sem, et2]) ?_
              rintro r hs ⟨rfl, rfl, _⟩
              refine ⟨by simp [freeN], ?_⟩
              simp (disch := omega) only [go_sem]
              simp (disch := omega) only [go_sem, et2]
              have hfin : ∀ mm : Int, mm = (flM rm re : Int) → AV.tu [.ag [.v (.int .i64 1), .v (.bool xs), .v (.int .i64 mm), .v (.int .i64 (flE rm re))], .v (.int .i64 1)] = .tu [.ag [.v (.int .i64 ((flV s m e mode z).k)), .v (.bool ((flV s m e mode z).s)), .v (.int .i64 ((flV s m e mode z).m)), .v (.int .i64 ((flV s m e mode z).e))], .v (.int .i64 (flG s m e mode))] := by
                rintro mm rfl
                rw [hxs]
                exact hVG 1 _ _ 1 (by unfold flK; rw [if_neg hr0, if_neg (by omega)]) (by unfold flMm; rw [if_neg hr0, if_neg (by omega)]) (by unfold flEe; rw [if_neg hr0, if_neg (by omega)]) (by unfold flFl; rw [if_neg (by omega), hfl])
              have ek : xe - flE rm re = (((oE rm re - flE rm re).toNat : Nat) : Int) := by omega
              have hk9 : (oE rm re - flE rm re).toNat ≤ 53 := by have h9 := hM; unfold flM at h9; rw [bl_mul_pow (fun e => hr0 (oM_eq_zero.1 e))] at h9; omega
              have hM6 : flM rm re < 2 ^ 53 := Nat.lt_of_lt_of_le (bl_lt _) (Nat.pow_le_pow_right (by omega) hM)
              have eM : xm * 2 ^ (oE rm re - flE rm re).toNat = flM rm re := by rw [q1]; rfl
              generalize hkk : (oE rm re - flE rm re).toNat = kk at *
              refine ifW_dec (fun h7 => ?_) (fun h7 => ?_)
              · have eE : flE rm re = -1074 := by unfold flE flLow; rw [if_pos (by omega)]
                simp (disch := omega) only [go_sem, h7]
                rw [eE] at ek hfin
                try rw [← et2] at hfin
                refine draw_of rfl [⟨0, [], []⟩, ⟨1, [], []⟩, ⟨2, [], []⟩, ⟨3, [2], []⟩, ⟨4, [2], []⟩, ⟨5, [2], []⟩, ⟨6, [2, 5], []⟩, ⟨7, [2, 5], []⟩, ⟨8, [2, 5, 7], []⟩, ⟨9, [2, 5], []⟩, ⟨12, [2, 5, 7], []⟩, ⟨14, [2, 5, 7], []⟩, ⟨10, [2], []⟩, ⟨11, [2], []⟩, ⟨13, [], []⟩, ⟨15, [], []⟩, ⟨16, [], []⟩] (by kernel_rfl) ?_
                simp (disch := omega) only [go_sem]
                refine call_open (con_l2shlF xm kk (by omega) (by omega)) (by simp (disch := omega) only [go_sem, ek, et2]) ?_
                rintro r hs ⟨rfl, rfl, _⟩
                refine ⟨by simp [freeN], ?_⟩
                simp (disch := omega) only [go_sem]
                refine call_closed (con_l2int (xm * 2 ^ kk) (by rw [eM]; omega)) (by simp (disch := omega) only [go_sem]) ?_
                rintro r hs ⟨rfl, rfl, _⟩
                refine ⟨by simp [freeN], ?_⟩
                simp (disch := omega) only [go_sem]
                refine fin_valc (by simp (disch := omega) only [go_sem]) (by simp (disch := omega) only [go_sem]) ⟨?_, rfl, rfl⟩
                exact hfin ((xm * 2 ^ kk : Nat) : Int) (by rw [eM])
              · have eE : flE rm re = (bl rm : Int) + re - 53 := by unfold flE flLow; rw [if_neg (by omega)]
                simp (disch := omega) only [go_sem, h7]
                rw [eE] at ek hfin
                try rw [← et2] at hfin
                refine draw_of rfl [⟨0, [], []⟩, ⟨1, [], []⟩, ⟨2, [], []⟩, ⟨3, [2], []⟩, ⟨4, [2], []⟩, ⟨5, [2], []⟩, ⟨6, [2, 5], []⟩, ⟨7, [2, 5], []⟩, ⟨8, [2, 5, 7], []⟩, ⟨9, [2, 5], []⟩, ⟨12, [2, 5, 7], []⟩, ⟨14, [2, 5, 7], []⟩, ⟨10, [2], []⟩, ⟨11, [2], []⟩, ⟨13, [], []⟩, ⟨15, [], []⟩, ⟨16, [], []⟩] (by kernel_rfl) ?_
                simp (disch := omega) only [go_sem]
                refine call_open (con_l2shlF xm kk (by omega) (by omega)) (by simp (disch := omega) only [go_sem, ek, et2]) ?_
                rintro r hs ⟨rfl, rfl, _⟩
                refine ⟨by simp [freeN], ?_⟩
                simp (disch := omega) only [go_sem]
                refine call_closed (con_l2int (xm * 2 ^ kk) (by rw [eM]; omega)) (by simp (disch := omega) only [go_sem]) ?_
                rintro r hs ⟨rfl, rfl, _⟩
                refine ⟨by simp [freeN], ?_⟩
                simp (disch := omega) only [go_sem]
                refine fin_valc (by simp (disch := omega) only [go_sem]) (by simp (disch := omega) only [go_sem]) ⟨?_, rfl, rfl⟩
                exact hfin ((xm * 2 ^ kk : Nat) : Int) (by rw [eM])
      · have hfl : flFlags (bl m + e) same = 0 := by unfold flFlags; rw [h3, if_pos rfl]
        have e5 := (rfl : (0 : Nat) = 0)
        simp (disch := omega) only [go_sem, h3]
        refine ifW_dec (fun h5 => ?_) (fun h5 => ?_)
        · have hr0 : rm = 0 := hxm0.1 h5
          simp (disch := omega) only [go_sem, h5]
          refine fin_valc (by simp (disch := omega) only [go_sem]) (by simp (disch := omega) only [go_sem]) ⟨?_, rfl, rfl⟩
          refine hVG 0 0 0 0 (by simp [flK, hr0]) (by simp [flMm, hr0]) (by simp [flEe, hr0]) (by simp [flFl, hr0, hfl])
        · have hr0 : rm ≠ 0 := fun e => h5 (hxm0.2 e)
          have et2 := etop2 hr0
          have hxs : xs = s := q3 hr0
          have hff := hform hr0
          have hM := flM_lt hr0 hff
          simp (disch := omega) only [go_sem, h5]
          refine call_closed (con_l4top xs xm xe (by omega) (by omega)) (by simp (disch := omega) only [go_sem, et2]) ?_
          rintro r hs ⟨rfl, rfl, _⟩
          refine ⟨by simp [freeN], ?_⟩
          simp (disch := omega) only [go_sem]
          simp (disch := omega) only [go_sem, et2]
          refine ifW_dec (fun h6 => ?_) (fun h6 => ?_)
          · have hov : ∀ (k mm ee : Int), k = (if ovB s mode then 1 else 2) → mm = (if ovB s mode then 9007199254740991 else 0) → ee = (if ovB s mode then 971 else 0) → AV.tu [.ag [.v (.int .i64 k), .v (.bool s), .v (.int .i64 mm), .v (.int .i64 ee)], .v (.int .i64 3)] = .tu [.ag [.v (.int .i64 ((flV s m e mode z).k)), .v (.bool ((flV s m e mode z).s)), .v (.int .i64 ((flV s m e mode z).m)), .v (.int .i64 ((flV s m e mode z).e))], .v (.int .i64 (flG s m e mode))] := by
              rintro k mm ee rfl rfl rfl
              exact hVG _ _ _ 3 (by unfold flK; rw [if_neg hr0, if_pos h6]) (by unfold flMm; rw [if_neg hr0, if_pos h6]) (by unfold flEe; rw [if_neg hr0, if_pos h6]) (by unfold flFl; rw [if_pos ⟨hr0, h6⟩])
            clear hVG hform hrm hrx q3 hxs et2 hfl
            obtain rfl | rfl | rfl | rfl | rfl : mode = 0 ∨ mode = 1 ∨ mode = 2 ∨ mode = 3 ∨ mode = 4 := by omega
            · cases s
              · simp (disch := omega) only [go_sem, h6]
                refine fin_valc (by simp (disch := omega) only [go_sem]) (by simp (disch := omega) only [go_sem]) ⟨?_, rfl, rfl⟩
                exact hov _ _ _ rfl rfl rfl
              · simp (disch := omega) only [go_sem, h6]
                refine fin_valc (by simp (disch := omega) only [go_sem]) (by simp (disch := omega) only [go_sem]) ⟨?_, rfl, rfl⟩
                exact hov _ _ _ rfl rfl rfl
            · cases s
              · simp (disch := omega) only [go_sem, h6]
                refine call_closed (con_l5most false) (by simp (disch := omega) only [go_sem]) ?_
                rintro r hs ⟨rfl, rfl, _⟩
                refine ⟨by simp [freeN], ?_⟩
                simp (disch := omega) only [go_sem]
                refine fin_valc (by simp (disch := omega) only [go_sem]) (by simp (disch := omega) only [go_sem]) ⟨?_, rfl, rfl⟩
                exact hov _ _ _ rfl rfl rfl
              · simp (disch := omega) only [go_sem, h6]
                refine call_closed (con_l5most true) (by simp (disch := omega) only [go_sem]) ?_
                rintro r hs ⟨rfl, rfl, _⟩
                refine ⟨by simp [freeN], ?_⟩
                simp (disch := omega) only [go_sem]
                refine fin_valc (by simp (disch := omega) only [go_sem]) (by simp (disch := omega) only [go_sem]) ⟨?_, rfl, rfl⟩
                exact hov _ _ _ rfl rfl rfl
            · cases s
              · simp (disch := omega) only [go_sem, h6]
                refine fin_valc (by simp (disch := omega) only [go_sem]) (by simp (disch := omega) only [go_sem]) ⟨?_, rfl, rfl⟩
                exact hov _ _ _ rfl rfl rfl
              · simp (disch := omega) only [go_sem, h6]
                refine call_closed (con_l5most true) (by simp (disch := omega) only [go_sem]) ?_
                rintro r hs ⟨rfl, rfl, _⟩
                refine ⟨by simp [freeN], ?_⟩
                simp (disch := omega) only [go_sem]
                refine fin_valc (by simp (disch := omega) only [go_sem]) (by simp (disch := omega) only [go_sem]) ⟨?_, rfl, rfl⟩
                exact hov _ _ _ rfl rfl rfl
            · cases s
              · simp (disch := omega) only [go_sem, h6]
                refine call_closed (con_l5most false) (by simp (disch := omega) only [go_sem]) ?_
                rintro r hs ⟨rfl, rfl, _⟩
                refine ⟨by simp [freeN], ?_⟩
                simp (disch := omega) only [go_sem]
                refine fin_valc (by simp (disch := omega) only [go_sem]) (by simp (disch := omega) only [go_sem]) ⟨?_, rfl, rfl⟩
                exact hov _ _ _ rfl rfl rfl
              · simp (disch := omega) only [go_sem, h6]
                refine fin_valc (by simp (disch := omega) only [go_sem]) (by simp (disch := omega) only [go_sem]) ⟨?_, rfl, rfl⟩
                exact hov _ _ _ rfl rfl rfl
            · cases s
              · simp (disch := omega) only [go_sem, h6]
                refine fin_valc (by simp (disch := omega) only [go_sem]) (by simp (disch := omega) only [go_sem]) ⟨?_, rfl, rfl⟩
                exact hov _ _ _ rfl rfl rfl
              · simp (disch := omega) only [go_sem, h6]
                refine fin_valc (by simp (disch := omega) only [go_sem]) (by simp (disch := omega) only [go_sem]) ⟨?_, rfl, rfl⟩
                exact hov _ _ _ rfl rfl rfl
          · simp (disch := omega) only [go_sem, h6]
            refine call_closed (con_l4top xs xm xe (by omega) (by omega)) (by simp (disch := omega) only [go_sem, et2]) ?_
            rintro r hs ⟨rfl, rfl, _⟩
            refine ⟨by simp [freeN], ?_⟩
            simp (disch := omega) only [go_sem]
            simp (disch := omega) only [go_sem, et2]
            have hfin : ∀ mm : Int, mm = (flM rm re : Int) → AV.tu [.ag [.v (.int .i64 1), .v (.bool xs), .v (.int .i64 mm), .v (.int .i64 (flE rm re))], .v (.int .i64 0)] = .tu [.ag [.v (.int .i64 ((flV s m e mode z).k)), .v (.bool ((flV s m e mode z).s)), .v (.int .i64 ((flV s m e mode z).m)), .v (.int .i64 ((flV s m e mode z).e))], .v (.int .i64 (flG s m e mode))] := by
              rintro mm rfl
              rw [hxs]
              exact hVG 1 _ _ 0 (by unfold flK; rw [if_neg hr0, if_neg (by omega)]) (by unfold flMm; rw [if_neg hr0, if_neg (by omega)]) (by unfold flEe; rw [if_neg hr0, if_neg (by omega)]) (by unfold flFl; rw [if_neg (by omega), hfl])
            have ek : xe - flE rm re = (((oE rm re - flE rm re).toNat : Nat) : Int) := by omega
            have hk9 : (oE rm re - flE rm re).toNat ≤ 53 := by have h9 := hM; unfold flM at h9; rw [bl_mul_pow (fun e => hr0 (oM_eq_zero.1 e))] at h9; omega
            have hM6 : flM rm re < 2 ^ 53 := Nat.lt_of_lt_of_le (bl_lt _) (Nat.pow_le_pow_right (by omega) hM)
            have eM : xm * 2 ^ (oE rm re - flE rm re).toNat = flM rm re := by rw [q1]; rfl
            generalize hkk : (oE rm re - flE rm re).toNat = kk at *
            refine ifW_dec (fun h7 => ?_) (fun h7 => ?_)
            · have eE : flE rm re = -1074 := by unfold flE flLow; rw [if_pos (by omega)]
              simp (disch := omega) only [go_sem, h7]
              rw [eE] at ek hfin
              try rw [← et2] at hfin
              refine draw_of rfl [⟨0, [], []⟩, ⟨1, [], []⟩, ⟨2, [], []⟩, ⟨3, [2], []⟩, ⟨4, [2], []⟩, ⟨5, [2], []⟩, ⟨6, [2, 5], []⟩, ⟨7, [2, 5], []⟩, ⟨8, [2, 5, 7], []⟩, ⟨9, [2, 5], []⟩, ⟨12, [2, 5, 7], []⟩, ⟨14, [2, 5, 7], []⟩, ⟨10, [2], []⟩, ⟨11, [2], []⟩, ⟨13, [], []⟩, ⟨15, [], []⟩, ⟨16, [], []⟩] (by kernel_rfl) ?_
              simp (disch := omega) only [go_sem]
              refine call_open (con_l2shlF xm kk (by omega) (by omega)) (by simp (disch := omega) only [go_sem, ek, et2]) ?_
              rintro r hs ⟨rfl, rfl, _⟩
              refine ⟨by simp [freeN], ?_⟩
              simp (disch := omega) only [go_sem]
              refine call_closed (con_l2int (xm * 2 ^ kk) (by rw [eM]; omega)) (by simp (disch := omega) only [go_sem]) ?_
              rintro r hs ⟨rfl, rfl, _⟩
              refine ⟨by simp [freeN], ?_⟩
              simp (disch := omega) only [go_sem]
              refine fin_valc (by simp (disch := omega) only [go_sem]) (by simp (disch := omega) only [go_sem]) ⟨?_, rfl, rfl⟩
              exact hfin ((xm * 2 ^ kk : Nat) : Int) (by rw [eM])
            · have eE : flE rm re = (bl rm : Int) + re - 53 := by unfold flE flLow; rw [if_neg (by omega)]
              simp (disch := omega) only [go_sem, h7]
              rw [eE] at ek hfin
              try rw [← et2] at hfin
              refine draw_of rfl [⟨0, [], []⟩, ⟨1, [], []⟩, ⟨2, [], []⟩, ⟨3, [2], []⟩, ⟨4, [2], []⟩, ⟨5, [2], []⟩, ⟨6, [2, 5], []⟩, ⟨7, [2, 5], []⟩, ⟨8, [2, 5, 7], []⟩, ⟨9, [2, 5], []⟩, ⟨12, [2, 5, 7], []⟩, ⟨14, [2, 5, 7], []⟩, ⟨10, [2], []⟩, ⟨11, [2], []⟩, ⟨13, [], []⟩, ⟨15, [], []⟩, ⟨16, [], []⟩] (by kernel_rfl) ?_
              simp (disch := omega) only [go_sem]
              refine call_open (con_l2shlF xm kk (by omega) (by omega)) (by simp (disch := omega) only [go_sem, ek, et2]) ?_
              rintro r hs ⟨rfl, rfl, _⟩
              refine ⟨by simp [freeN], ?_⟩
              simp (disch := omega) only [go_sem]
              refine call_closed (con_l2int (xm * 2 ^ kk) (by rw [eM]; omega)) (by simp (disch := omega) only [go_sem]) ?_
              rintro r hs ⟨rfl, rfl, _⟩
              refine ⟨by simp [freeN], ?_⟩
              simp (disch := omega) only [go_sem]
              refine fin_valc (by simp (disch := omega) only [go_sem]) (by simp (disch := omega) only [go_sem]) ⟨?_, rfl, rfl⟩
              exact hfin ((xm * 2 ^ kk : Nat) : Int) (by rw [eM])
end Go.Ab
namespace Go.Ab
open Go Go.Proofs
set_option linter.unusedVariables false
set_option linter.unusedSimpArgs false

theorem oE_rng {m : Nat} {e lo hi : Int} {B : Nat} (h : bl m ≤ B) (h1 : lo ≤ 0) (h2 : 0 ≤ hi) (he : lo ≤ e ∧ e ≤ hi) : lo ≤ oE m e ∧ oE m e ≤ hi + B := by
  unfold oE
  by_cases h0 : m = 0
  · rw [if_pos h0]; omega
  · rw [if_neg h0]; have := tz_lt_bl h0; omega
theorem oM_odd (m : Nat) : oM m % 2 = 1 ∨ oM m = 0 := by
  by_cases h0 : m = 0
  · exact .inr (oM_eq_zero.2 h0)
  · exact .inl (odd_part h0).1
theorem oS_z (s : Bool) (m : Nat) : oM m = 0 → oS s m = false := fun h => by unfold oS; rw [if_pos (oM_eq_zero.1 h)]

end Go.Ab
namespace Go.Ab
open Go Go.Proofs
set_option linter.unusedVariables false
set_option linter.unusedSimpArgs false

end Go.Ab
namespace Go.Ab
open Go Go.Proofs
set_option linter.unusedVariables false
set_option linter.unusedSimpArgs false

end Go.Ab
namespace Go.Ab
open Go Go.Proofs
set_option linter.unusedVariables false
set_option linter.unusedSimpArgs false

theorem con_flokS (k : Int) (s : Bool) (m e : Int) : Con Tryd.prog 25 true [.ag [.v (.int .i64 (k)), .v (.bool (s)), .v (.int .i64 (m)), .v (.int .i64 (e))]] [] (isA (.v (.bool (flB k s m e)))) := by
  refine Con.of_aw Tryd.func25 rfl Tryd.ntmps25 (by simp) (by simp) (by simp) (W.sound ?_)
  show @W Tryd.prog 59 ⟨_⟩ ⟨fun x σ => @retW _ _ _ ⟨_⟩ _ ⟨_⟩ x σ⟩ _ _
  simp (disch := omega) only [go_sem]
  refine ifW_dec (fun h0 => ?_) (fun h0 => ?_)
  · subst h0
    simp (disch := omega) only [go_sem]
    repeat' first
      | simp (disch := omega) only [go_sem, *]
      | (with_reducible refine ifW_dec (fun _ => ?_) (fun _ => ?_))
      | (with_reducible refine ifW_not (fun _ => ?_) (fun _ => ?_))
      | (with_reducible refine ifW_nb (fun _ => ?_) (fun _ => ?_))
      | (with_reducible refine ifW_b (fun _ => ?_) (fun _ => ?_))
    all_goals exact fin_valc (by simp (disch := omega) only [go_sem]) (by simp (disch := omega) only [go_sem]) ⟨by simp_all [tupA, flB] <;> omega, rfl, rfl⟩
  · simp (disch := omega) only [go_sem, h0]
    refine ifW_dec (fun h2 => ?_) (fun h2 => ?_)
    · subst h2
      simp (disch := omega) only [go_sem]
      repeat' first
        | simp (disch := omega) only [go_sem, *]
        | (with_reducible refine ifW_dec (fun _ => ?_) (fun _ => ?_))
        | (with_reducible refine ifW_not (fun _ => ?_) (fun _ => ?_))
        | (with_reducible refine ifW_nb (fun _ => ?_) (fun _ => ?_))
        | (with_reducible refine ifW_b (fun _ => ?_) (fun _ => ?_))
      all_goals exact fin_valc (by simp (disch := omega) only [go_sem]) (by simp (disch := omega) only [go_sem]) ⟨by simp_all [tupA, flB] <;> omega, rfl, rfl⟩
    · simp (disch := omega) only [go_sem, h2]
      refine ifW_dec (fun h3 => ?_) (fun h3 => ?_)
      · subst h3
        simp (disch := omega) only [go_sem]
        repeat' first
          | simp (disch := omega) only [go_sem, *]
          | (with_reducible refine ifW_dec (fun _ => ?_) (fun _ => ?_))
          | (with_reducible refine ifW_not (fun _ => ?_) (fun _ => ?_))
          | (with_reducible refine ifW_nb (fun _ => ?_) (fun _ => ?_))
          | (with_reducible refine ifW_b (fun _ => ?_) (fun _ => ?_))
        all_goals exact fin_valc (by simp (disch := omega) only [go_sem]) (by simp (disch := omega) only [go_sem]) ⟨by simp_all [tupA, flB] <;> omega, rfl, rfl⟩
      · simp (disch := omega) only [go_sem, h3]
        refine ifW_dec (fun h1 => ?_) (fun h1 => ?_)
        · subst h1
          simp (disch := omega) only [go_sem]
          repeat' first
            | simp (disch := omega) only [go_sem, *]
            | (with_reducible refine ifW_dec (fun _ => ?_) (fun _ => ?_))
            | (with_reducible refine ifW_not (fun _ => ?_) (fun _ => ?_))
            | (with_reducible refine ifW_nb (fun _ => ?_) (fun _ => ?_))
            | (with_reducible refine ifW_b (fun _ => ?_) (fun _ => ?_))
          all_goals refine fin_valc (by simp (disch := omega) only [go_sem]) (by simp (disch := omega) only [go_sem]) ⟨?_, rfl, rfl⟩
          all_goals simp only [tupA, flB, if_true]
          all_goals congr 2
          all_goals rw [Bool.eq_iff_iff]
          all_goals simp only [Bool.and_eq_true, Bool.or_eq_true, decide_eq_true_eq, Bool.false_eq_true, Bool.true_eq_false, false_iff, true_iff, not_and, not_or]
          all_goals omega
        · simp (disch := omega) only [go_sem, h1]
          refine fin_valc (by simp (disch := omega) only [go_sem]) (by simp (disch := omega) only [go_sem]) ⟨?_, rfl, rfl⟩
          simp [tupA, flB, h0, h1, h2, h3]

theorem con_l5ok (k1 : Int) (s1 : Bool) (m1 e1 k2 : Int) (s2 : Bool) (m2 e2 mode : Int) :
    Con Tryd.prog 26 true [.ag [.v (.int .i64 (k1)), .v (.bool (s1)), .v (.int .i64 (m1)), .v (.int .i64 (e1))], .ag [.v (.int .i64 (k2)), .v (.bool (s2)), .v (.int .i64 (m2)), .v (.int .i64 (e2))], .v (.int .i64 mode)] [] (isA (.v (.bool (modeB mode && (flB k1 s1 m1 e1 && flB k2 s2 m2 e2))))) := by
  refine Con.of_aw Tryd.func26 rfl Tryd.ntmps26 (by simp) (by simp) (by simp) (W.sound ?_)
  show @W Tryd.prog 17 ⟨_⟩ ⟨fun x σ => @retW _ _ _ ⟨_⟩ _ ⟨_⟩ x σ⟩ _ _
  simp (disch := omega) only [go_sem]
  refine call_closed (con_flokS k1 s1 m1 e1) (by simp (disch := omega) only [go_sem]) ?_
  rintro r hs ⟨rfl, rfl, _⟩
  refine ⟨by simp [freeN], ?_⟩
  simp (disch := omega) only [go_sem]
  refine ifW_b (fun h1 => ?_) (fun h1 => ?_)
  · simp (disch := omega) only [go_sem, h1]
    refine call_closed (con_flokS k2 s2 m2 e2) (by simp (disch := omega) only [go_sem]) ?_
    rintro r hs ⟨rfl, rfl, _⟩
    refine ⟨by simp [freeN], ?_⟩
    simp (disch := omega) only [go_sem]
    refine ifW_b (fun h2 => ?_) (fun h2 => ?_)
    · simp (disch := omega) only [go_sem, h2]
      refine call_closed (con_l4mode mode) (by simp (disch := omega) only [go_sem]) ?_
      rintro r hs ⟨rfl, rfl, _⟩
      refine ⟨by simp [freeN], ?_⟩
      simp (disch := omega) only [go_sem]
      refine fin_valc (by simp (disch := omega) only [go_sem]) (by simp (disch := omega) only [go_sem]) ⟨?_, rfl, rfl⟩
      simp [tupA, h1, h2, modeB]
    · simp (disch := omega) only [go_sem, h2]
      refine fin_valc (by simp (disch := omega) only [go_sem]) (by simp (disch := omega) only [go_sem]) ⟨?_, rfl, rfl⟩
      simp [tupA, h1, h2]
  · simp (disch := omega) only [go_sem, h1]
    refine fin_valc (by simp (disch := omega) only [go_sem]) (by simp (disch := omega) only [go_sem]) ⟨?_, rfl, rfl⟩
    simp [tupA, h1]

def l5dM (k m : Int) : Nat := if k = 1 then oM m.toNat else 0
def l5dE (k m e : Int) : Int := if k = 1 then oE m.toNat e else 0
def l5dS (k : Int) (s : Bool) (m : Int) : Bool := if k = 1 then oS (s && decide (m.toNat ≠ 0)) m.toNat else false

theorem con_l5dy (k : Int) (s : Bool) (m e : Int) (h : flB k s m e = true) : Con Tryd.prog 38 false [.ag [.v (.int .i64 (k)), .v (.bool (s)), .v (.int .i64 (m)), .v (.int .i64 (e))]] [] (isA (.ag [.v (.bool (l5dS k s m)), .sl (lim (l5dM k m)).length (ints (lim (l5dM k m))), .v (.int .i64 (l5dE k m e))])) := by
  refine Con.frzA ?_
  obtain ⟨a1, a2, a3, a4⟩ := flB_rng h
  obtain ⟨n, rfl⟩ := Int.eq_ofNat_of_zero_le a1.1
  have hb : bl n ≤ 53 := bl_le.2 (by omega)
  have hl := len_bl hb
  refine Con.of_aw Tryd.func38 rfl Tryd.ntmps38 (by simp) (by simp) (by simp) (W.sound ?_)
  show @W Tryd.prog 16 ⟨_⟩ ⟨fun x σ => @retW _ _ _ ⟨_⟩ _ ⟨_⟩ x σ⟩ _ _
  simp (disch := omega) only [go_sem]
  refine ifW_not (fun h1 => ?_) (fun h1 => ?_)
  · simp (disch := omega) only [go_sem, h1]
    unfold l5dS l5dM l5dE
    rw [if_neg h1, if_neg h1, if_neg h1, lim_zero]
    refine fin_val (by simp (disch := omega) only [go_sem]) ?_
    show snap _ 6 _ = _
    simp (disch := omega) only [go_sem]
  · simp (disch := omega) only [go_sem, h1]
    refine draw_of rfl [⟨0, [], []⟩, ⟨1, [], []⟩, ⟨2, [1], []⟩, ⟨3, [1], []⟩, ⟨6, [1, 3], []⟩, ⟨7, [1, 3], []⟩, ⟨4, [1, 7], []⟩, ⟨5, [7], []⟩, ⟨8, [], []⟩, ⟨9, [], []⟩] (by kernel_rfl) ?_
    simp (disch := omega) only [go_sem]
    refine call_open (con_l2ofF n (by omega)) (by simp (disch := omega) only [go_sem]) ?_
    rintro r hs ⟨rfl, rfl, _⟩
    refine ⟨by simp [freeN], ?_⟩
    simp (disch := omega) only [go_sem]
    refine call_open (con_l3make s n (by omega)) (by simp (disch := omega) only [go_sem]) ?_
    rintro r hs ⟨rfl, rfl, _⟩
    refine ⟨by simp [freeN], ?_⟩
    simp (disch := omega) only [go_sem]
    refine call_open (con_l4make (s && decide (n ≠ 0)) n e (by omega) (by omega)) (by simp (disch := omega) only [go_sem]) ?_
    rintro r hs ⟨rfl, rfl, _⟩
    refine ⟨by simp [freeN], ?_⟩
    simp (disch := omega) only [go_sem]
    unfold l5dS l5dM l5dE
    rw [if_pos h1, if_pos h1, if_pos h1, Int.toNat_natCast]
    refine fin_val (by simp (disch := omega) only [go_sem]) ?_
    show snap _ 6 _ = _
    simp (disch := omega) only [go_sem]
end Go.Ab
