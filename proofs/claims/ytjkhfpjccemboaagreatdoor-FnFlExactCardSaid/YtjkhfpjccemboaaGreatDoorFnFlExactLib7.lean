/- What the proof of this claim stands on: the walks of the functions and the plain laws, part 7. -/
import Derived.Test.YtjkhfpjccemboaaGreatDoorFnFlExactLib6
namespace Go.Ab
open Go Go.Proofs
set_option linter.unusedVariables false
set_option linter.unusedSimpArgs false
theorem con_l2shr (a k : Nat) (la : (lim a).length ≤ 1000000) (hk : k ≤ 100000000) : Con Tryz.prog 234 false [.ag [.sl (lim (a)).length (ints (lim (a)))], .v (.int .i64 k)] [] (isA (.ag [.sl (lim (a / 2 ^ k)).length (ints (lim (a / 2 ^ k)))])) := by
 refine Con.frzA ?_
 refine Con.of_aw Tryz.func234 rfl Tryz.ntmps234 (by simp) (by simp) (by simp) (W.sound ?_)
 show @W Tryz.prog 28 ⟨_⟩ ⟨fun x σ => @retW _ _ _ ⟨_⟩ _ ⟨_⟩ x σ⟩ _ _
 simp (disch := omega) only [go_sem]
 refine ifW_dec (fun h1 => ?_) (fun h1 => ?_)
 ·simp (disch := omega) only [go_sem, h1]
  have h0 : a / 2 ^ k = 0 := by
   refine Nat.div_eq_of_lt (Nat.lt_of_lt_of_le (lim_lt a) ?_)
   rw [pow16]; exact Nat.pow_le_pow_right (by omega) (by omega)
  rw [h0, lim_zero]
  exact fin_frz
 ·simp (disch := omega) only [go_sem, h1]
  refine draw_of rfl [⟨0, [], []⟩, ⟨1, [], []⟩, ⟨2, [1], []⟩, ⟨3, [1], []⟩, ⟨4, [], []⟩, ⟨5, [], []⟩, ⟨6, [1, 4], []⟩, ⟨7, [1, 4], []⟩, ⟨8, [1, 4], []⟩, ⟨13, [1, 4], []⟩, ⟨9, [], [70000000]⟩, ⟨10, [], [70000000]⟩, ⟨11, [], [70000000]⟩, ⟨12, [], [70000000]⟩, ⟨14, [], []⟩, ⟨15, [], []⟩] (by kernel_rfl) ?_
  have e16 : ((k : Int) / 16).toNat = k / 16 := by omega
  have e17 : (k : Int) % 16 = ((k % 16 : Nat) : Int) := by omega
  have e18 : (((lim a).length : Int) - (k : Int) / 16).toNat = ((lim a).drop (k / 16)).length := by simp; omega
  have es : IntKind.i64.wrap (1 * 2 ^ (min ((k : Int) % 16).toNat 64)) = ((2 ^ (k % 16) : Nat) : Int) := by rw [e17]; exact shl_one (by omega)
  have hp15 : 2 ^ (k % 16) ≤ 2 ^ 15 := Nat.pow_le_pow_right (by omega) (by omega)
  have hp0 : 0 < 2 ^ (k % 16) := Nat.pow_pos (by omega)
  have hvD := vl_div (gd_lim a) (i := k / 16) (by omega)
  have gD := gd_drop (gd_lim a) (k / 16)
  have hlD : ((lim a).drop (k / 16)).length ≤ 1000000 := by simp; omega
  have hm : vl ((lim a).drop (k / 16)) / ((2 ^ (k % 16) : Nat) : Int) = ((a / 2 ^ k : Nat) : Int) := by
   rw [← hvD, vl_lim]
   have : a / 2 ^ k = a / 65536 ^ (k / 16) / 2 ^ (k % 16) := by rw [Nat.div_div_eq_div_mul, pow16, ← Nat.pow_add, Nat.div_add_mod]
   rw [this, Int.natCast_ediv, Int.natCast_ediv, Int.natCast_pow 65536]; rfl
  have et : ((lim a).drop (k / 16)).take ((lim a).drop (k / 16)).length = (lim a).drop (k / 16) := List.take_length
  simp (disch := omega) only [go_sem, e16, e18, et, es]
  generalize (lim a).drop (k / 16) = D at *
  refine ⟨by omega, by omega, ?_⟩
  refine call_oI ((con_l2smallL false D (2 ^ (k % 16)) gD hlD hp0 (by omega) (a / 2 ^ k) hm).natF2) ?_
  simp (disch := omega) only [go_sem]
  exact fin_frz
theorem con_l2bits (a : Nat) (la : (lim a).length ≤ 2 ^ 40) : Con Tryz.prog 290 true [.ag [.sl (lim (a)).length (ints (lim (a)))]] [] (isA (.v (.int .i64 (bl a)))) := by
 refine Con.of_aw Tryz.func290 rfl Tryz.ntmps290 (by simp) (by simp) (by simp) (W.sound ?_)
 show @W Tryz.prog 29 ⟨_⟩ ⟨fun x σ => @retW _ _ _ ⟨_⟩ _ ⟨_⟩ x σ⟩ _ _
 simp (disch := omega) only [go_sem]
 refine ifW_dec (fun h1 => ?_) (fun h1 => ?_)
 ·simp (disch := omega) only [go_sem, h1]
  have : a = 0 := lim_eq_nil.1 (List.length_eq_zero_iff.1 (by omega))
  subst this
  rw [bl_zero]
  exact fin_cI
 ·have hm : a ≠ 0 := fun e => by rw [e, lim_zero] at h1; simp at h1
  have e2 : (((lim a).length : Int) - 1).toNat = (lim a).length - 1 := by omega
  have ht := len_top hm
  have hb := bl_lim hm
  have eq : (lim a).getD ((lim a).length - 1) 0 = ((a / 65536 ^ ((lim a).length - 1) : Nat) : Int) := by rw [lim_get, Nat.mod_eq_of_lt ht.2]
  generalize a / 65536 ^ ((lim a).length - 1) = q at *
  simp (disch := omega) only [go_sem, h1, e2, eq]
  refine ⟨by omega, by omega, ?_⟩
  refine loop_intro (fun x : Nat × Nat => [(3, .v (.int .i64 x.1)), (4, .v (.int .i64 x.2))]) (fun _ => []) (fun x => x.1 + bl x.2 = bl a ∧ x.2 < 65536 ∧ x.1 ≤ 2 ^ 45) (fun x => x.2) (16 * ((lim a).length - 1), q) ⟨hb.symm, ht.2, by show 16 * ((lim a).length - 1) ≤ 2 ^ 45; omega⟩ (Le.lst [] _ _ rfl (by simp (disch := omega) only [go_sem]; try omega) (by simp (disch := omega) only [go_sem])) ?_
  rintro ⟨n, x⟩ ⟨hn, hx, hn2⟩
  dsimp only at hn hx hn2 ⊢
  simp (disch := omega) only [go_sem]
  refine ifW_dec (fun h2 => ?_) (fun h2 => ?_)
  ·simp (disch := omega) only [go_sem, h2]
   have hd := bl_dbl (x := x) (by omega)
   have hp := bl_le.2 (show x < 2 ^ 16 by omega)
   refine next_intro (n + 1, x / 2) [] ⟨by show n + 1 + bl (x / 2) = bl a; omega, by show x / 2 < 65536; omega, ?_⟩ (by show x / 2 < x; omega) rfl (by simp (disch := omega) only [go_sem]; try omega) (by simp (disch := omega) only [go_sem])
   show n + 1 ≤ 2 ^ 45
   have := bl_len (m := a)
   omega
  ·simp (disch := omega) only [go_sem, h2]
   have : x = 0 := by omega
   subst this
   rw [bl_zero] at hn
   refine fin_valc (by simp (disch := omega) only [go_sem]) (by simp (disch := omega) only [go_sem]) ⟨?_, rfl, rfl⟩
   simp [tupA]; omega
theorem con_l2bit (m : Nat) (i : Int) (hl : (lim m).length ≤ 2 ^ 40) (hi : 0 ≤ i) (hi2 : i < 2 ^ 62) : Con Tryz.prog 138 true [.ag [.sl (lim (m)).length (ints (lim (m)))], .v (.int .i64 i)] [] (isA (.v (.int .i64 ((m / 2 ^ i.toNat % 2 : Nat) : Int)))) := by
 refine Con.of_w (rs := [.tmp 4]) Tryz.func138 rfl Tryz.ntmps138 rfl ?_
 obtain ⟨k, rfl⟩ := Int.eq_ofNat_of_zero_le hi
 rw [Int.toNat_natCast]
 have h0 : ¬ ((k : Int) < 0) := by omega
 have e16 : ((k : Int) / 16).toNat = k / 16 := by omega
 have em : min ((k : Int) % 16).toNat 64 = k % 16 := by omega
 have hb := bit_div m k
 simp (disch := omega) only [go_sem, h0]
 refine ifW_dec (fun h1 => ?_) (fun h1 => ?_)
 ·simp (disch := omega) only [go_sem, h1]
  have : m / 2 ^ k % 2 = 0 := by
   rw [← hb]
   have h2 := lim_get m (k / 16)
   rw [List.getD_eq_getElem?_getD, List.getElem?_eq_none (by omega)] at h2
   have h3 : m / 65536 ^ (k / 16) % 65536 = 0 := by simp only [Option.getD_none] at h2; omega
   rw [h3]; simp
  rw [this]
  exact fin_cI
 ·have hx := gd_getD (gd_lim m) (k / 16)
  have hp : (0 : Int) < 2 ^ (k % 16) := Int.pow_pos (by omega)
  have efd : ∀ x : Int, x.fdiv (2 ^ (k % 16)) = x / 2 ^ (k % 16) := fun x => Int.fdiv_eq_ediv_of_nonneg _ (Int.le_of_lt hp)
  have hq : 0 ≤ (lim m).getD (k / 16) 0 / 2 ^ (k % 16) ∧ (lim m).getD (k / 16) 0 / 2 ^ (k % 16) < 65536 := by
   refine ⟨Int.ediv_nonneg hx.1 (Int.le_of_lt hp), Int.lt_of_le_of_lt (Int.ediv_le_self _ hx.1) hx.2⟩
  have hr : (lim m).getD (k / 16) 0 / 2 ^ (k % 16) % 2 = ((m / 2 ^ k % 2 : Nat) : Int) := by
   rw [← hb, lim_get]
   generalize m / 65536 ^ (k / 16) % 65536 = x
   rw [Int.natCast_emod, Int.natCast_ediv, Int.natCast_pow]; rfl
  simp (disch := omega) only [go_sem, h1, e16, em, efd, hr]
  refine ⟨by omega, by omega, by omega, ?_⟩
  exact fin_cI
theorem tz_first {m i : Nat} (hz : ∀ j, j < i → m / 2 ^ j % 2 = 0) (h1 : m / 2 ^ i % 2 = 1) : tz m = i := by
 have key : ∀ k, k ≤ i → 2 ^ k * (m / 2 ^ k) = m := by
  intro k
  induction k with
  | zero => intro _; simp
  | succ k ih =>
   intro hk
   have h2 := ih (by omega)
   have h3 := hz k (by omega)
   have h4 : m / 2 ^ (k + 1) = m / 2 ^ k / 2 := by rw [Nat.pow_succ, Nat.div_div_eq_div_mul]
   rw [h4, Nat.pow_succ, Nat.mul_assoc, show 2 * (m / 2 ^ k / 2) = m / 2 ^ k by omega]; exact h2
 refine tz_uniq (a := m / 2 ^ i / 2) ?_
 have := key i (Nat.le_refl _)
 rw [show 2 * (m / 2 ^ i / 2) + 1 = m / 2 ^ i by omega]; exact this.symm
theorem con_l2trail (m : Nat) (hl : (lim m).length ≤ 2 ^ 40) : Con Tryz.prog 233 true [.ag [.sl (lim (m)).length (ints (lim (m)))]] [] (isA (.v (.int .i64 (tz m)))) := by
 refine Con.of_w (rs := [.tmp 2]) Tryz.func233 rfl Tryz.ntmps233 rfl ?_
 simp (disch := omega) only [go_sem]
 refine loop_intro (fun i : Nat => [(1, .pt 0 0), (3, .v (.int .i64 i))]) (fun _ => [(0, .own 0 [.sl (lim (m)).length (ints (lim (m)))])]) (fun i => i ≤ 16 * (lim m).length ∧ ∀ j, j < i → m / 2 ^ j % 2 = 0) (fun i => 16 * (lim m).length - i) 0 ⟨by omega, fun j hj => by omega⟩ (Le.lst [(0, 30000000)] _ _ rfl (by simp (disch := omega) only [go_sem]; try omega) (by simp (disch := omega) only [go_sem])) ?_
 rintro i ⟨hi, hz⟩
 simp (disch := omega) only [go_sem]
 refine ifW_dec (fun h1 => ?_) (fun h1 => ?_)
 ·simp (disch := omega) only [go_sem, h1]
  refine call_cI (con_l2bit m i hl (by omega) (by omega)) ?_
  simp (disch := omega) only [go_sem]
  refine ifW_dec (fun h2 => ?_) (fun h2 => ?_)
  ·simp (disch := omega) only [go_sem, h2]
   have := tz_first hz (by omega)
   rw [this]
   exact fin_cI
  ·simp (disch := omega) only [go_sem, h2]
   refine next_intro (i + 1) [] ⟨by omega, fun j hj => ?_⟩ (by show 16 * (lim m).length - (i + 1) < 16 * (lim m).length - i; omega) rfl (by simp (disch := omega) only [go_sem]; try omega) (by simp (disch := omega) only [go_sem])
   rcases (by omega : j < i ∨ j = i) with h | h
   ·exact hz j h
   ·subst h; omega
 ·simp (disch := omega) only [go_sem, h1]
  have hm : m = 0 := by
   have h3 := bl_len (m := m)
   rcases Nat.eq_zero_or_pos m with h | h
   ·exact h
   ·have h4 := tz_lt_bl (n := m) (by omega)
    have h5 := (odd_part (n := m) (by omega)).1
    have := hz (tz m) (by omega)
    omega
  subst hm
  rw [tz_zero]
  exact fin_cI
theorem con_l2int (m : Nat) (hm : m < 2 ^ 63) : Con Tryz.prog 262 true [.ag [.sl (lim (m)).length (ints (lim (m)))]] [] (isA (.v (.int .i64 m))) := by
 refine Con.of_aw Tryz.func262 rfl Tryz.ntmps262 (by simp) (by simp) (by simp) (W.sound ?_)
 show @W Tryz.prog 22 ⟨_⟩ ⟨fun x σ => @retW _ _ _ ⟨_⟩ _ ⟨_⟩ x σ⟩ _ _
 simp (disch := omega) only [go_sem]
 have hl : (lim m).length ≤ 4 := lim_len.2 (by omega)
 have hb : ∀ i, i ≤ (lim m).length → 0 ≤ vl ((lim m).drop i) ∧ vl ((lim m).drop i) < 2 ^ 63 := fun i hi => by
  have h1 := vl_nonneg (gd_drop (gd_lim m) i)
  have h2 := vl_take_drop (lim m) i hi
  have h3 := vl_nonneg (gd_take (gd_lim m) i)
  have hp : (0 : Int) < 65536 ^ i := Int.pow_pos (by omega)
  rw [vl_lim] at h2
  have h4 := Int.mul_le_mul_of_nonneg_right (show (1 : Int) ≤ 65536 ^ i by omega) h1
  omega
 refine loop_intro (fun k : Nat => [(1, .pt 0 0), (3, .v (.int .i64 (vl ((lim m).drop k)))), (4, .v (.int .i64 ((k : Int) - 1)))]) (fun _ => [(0, .own 0 [.sl (lim (m)).length (ints (lim (m)))])]) (fun k => k ≤ (lim m).length) (fun k => k) (lim m).length (Nat.le_refl _) (Le.lst [(0, 30000000)] _ _ rfl (by simp (disch := omega) only [go_sem, List.drop_length, vl]; try omega) (by simp (disch := omega) only [go_sem])) ?_
 intro k hk
 have hbk := hb k hk
 simp (disch := omega) only [go_sem]
 refine ifW_dec (fun h1 => ?_) (fun h1 => ?_)
 ·obtain ⟨i, rfl⟩ : ∃ i, k = i + 1 := ⟨k - 1, by omega⟩
  have ei : ((i + 1 : Nat) : Int) - 1 = (i : Nat) := by omega
  have hx := gd_getD (gd_lim m) i
  have hbi := hb i (by omega)
  have hd := vl_drop (l := lim m) (i := i) (by omega)
  have e2 : vl ((lim m).drop (i + 1)) * 65536 + (lim m).getD i 0 = vl ((lim m).drop i) := by omega
  simp (disch := omega) only [go_sem, h1, ei, e2]
  refine ⟨by omega, by omega, next_intro i [] (by show i ≤ _; omega) (by show i < i + 1; omega) rfl (by simp (disch := omega) only [go_sem]; try omega) (by simp (disch := omega) only [go_sem])⟩
 ·have : k = 0 := by omega
  subst this
  have e2 : vl ((lim m).drop 0) = (m : Int) := by rw [List.drop_zero, vl_lim]
  simp (disch := omega) only [go_sem, h1, e2]
  exact fin_valc (by simp (disch := omega) only [go_sem]) (by simp (disch := omega) only [go_sem]) ⟨by simp [tupA, vl_lim], rfl, rfl⟩
end Go.Ab
namespace Go.Ab
open Go Go.Proofs
set_option linter.unusedVariables false
set_option linter.unusedSimpArgs false
theorem lenpos (m : Nat) : decide ((0 : Int) < ((lim m).length : Int)) = decide (m ≠ 0) := by
 rw [decide_eq_decide]
 exact ⟨fun h e => by rw [e, lim_zero] at h; simp at h, fun h => by have := lim_ne h; omega⟩
theorem con_l2normF (m : Nat) (hl : (lim m).length ≤ 2 ^ 39) : Con Tryz.prog 259 false [.sl (lim (m)).length (ints (lim (m)))] [] (isA (.ag [.sl (lim (m)).length (ints (lim (m)))])) := (con_l2norm false (lim m) m hl (gd_lim m) (vl_lim m)).natF
theorem con_l2ofF (n : Nat) (hn : n < 2 ^ 63) : Con Tryz.prog 203 false [.v (.int .i64 n)] [] (isA (.ag [.sl (lim (n)).length (ints (lim (n)))])) := (con_l2of false n hn).natF
theorem con_l2addF (a b : Nat) (la : (lim a).length ≤ 2000000) (lb : (lim b).length ≤ 2000000) : Con Tryz.prog 206 false [.ag [.sl (lim (a)).length (ints (lim (a)))], .ag [.sl (lim (b)).length (ints (lim (b)))]] [] (isA (.ag [.sl (lim (a + b)).length (ints (lim (a + b)))])) := (con_l2add false a b la lb).natF
theorem con_l2mulF (a b : Nat) (la : (lim a).length ≤ 1000000) (lb : (lim b).length ≤ 1000000) : Con Tryz.prog 265 false [.ag [.sl (lim (a)).length (ints (lim (a)))], .ag [.sl (lim (b)).length (ints (lim (b)))]] [] (isA (.ag [.sl (lim (a * b)).length (ints (lim (a * b)))])) := (con_l2mul false a b la lb).natF
theorem con_l2shlF (a k : Nat) (la : (lim a).length ≤ 400000) (hk : k ≤ 5000000) : Con Tryz.prog 235 false [.ag [.sl (lim (a)).length (ints (lim (a)))], .v (.int .i64 k)] [] (isA (.ag [.sl (lim (a * 2 ^ k)).length (ints (lim (a * 2 ^ k)))])) := (con_l2shl false a k la hk).natF
theorem con_l3make (s : Bool) (m : Nat) (hl : (lim m).length ≤ 2 ^ 39) : Con Tryz.prog 202 false [.v (.bool s), .ag [.sl (lim (m)).length (ints (lim (m)))]] [] (isA (.ag [.v (.bool (s && decide (m ≠ 0))), .sl (lim (m)).length (ints (lim (m)))])) := by
 refine Con.frzA ?_
 refine Con.of_w (rs := [.cell 4 27]) Tryz.func202 rfl Tryz.ntmps202 rfl ?_
 simp (disch := omega) only [go_sem]
 refine draw_of rfl [⟨0, [], []⟩, ⟨1, [], []⟩, ⟨2, [], []⟩, ⟨3, [], []⟩, ⟨4, [], []⟩, ⟨5, [], []⟩, ⟨6, [], []⟩, ⟨7, [3], []⟩, ⟨8, [3], []⟩, ⟨9, [3], []⟩, ⟨10, [], []⟩, ⟨11, [], []⟩] (by kernel_rfl) ?_
 simp (disch := omega) only [go_sem]
 refine ifW_b (fun h1 => ?_) (fun h1 => ?_)
 ·simp (disch := omega) only [go_sem, h1, lenpos]
  refine call_oI (con_l2normF m hl) ?_
  simp (disch := omega) only [go_sem]
  exact fin_frz (hp := by simp (disch := omega) only [go_sem, h1, Bool.true_and])
 ·simp (disch := omega) only [go_sem, h1]
  refine call_oI (con_l2normF m hl) ?_
  simp (disch := omega) only [go_sem]
  exact fin_frz (hp := by simp (disch := omega) only [go_sem, h1, Bool.false_and])
theorem con_l3of (n : Int) (h : -9223372036854775808 ≤ n ∧ n < 9223372036854775808) : Con Tryz.prog 129 false [.v (.int .i64 n)] [] (isA (.ag [.v (.bool (decide (n < 0))), .sl (lim (n.natAbs)).length (ints (lim (n.natAbs)))])) := by
 refine Con.frzA ?_
 refine Con.of_aw Tryz.func129 rfl Tryz.ntmps129 (by simp) (by simp) (by simp) (W.sound ?_)
 show @W Tryz.prog 15 ⟨_⟩ ⟨fun x σ => @retW _ _ _ ⟨_⟩ _ ⟨_⟩ x σ⟩ _ _
 simp (disch := omega) only [go_sem]
 refine ifW_dec (fun h1 => ?_) (fun h1 => ?_)
 ·simp (disch := omega) only [go_sem, h1]
  have e1 : 0 - (n + 1) = (((0 - (n + 1)).toNat : Nat) : Int) := by omega
  refine call_oI (con_l2ofF (0 - (n + 1)).toNat (by omega)) ?_ (by simp (disch := omega) only [go_sem, ← e1])
  simp (disch := omega) only [go_sem]
  refine call_oI (con_l2ofF 1 (by omega)) ?_
  simp (disch := omega) only [go_sem]
  have l1 := len_bl (m := (0 - (n + 1)).toNat) (B := 64) (bl_le.2 (by omega))
  have l2 := len_bl (m := 1) (B := 64) (by decide)
  refine call_oI (con_l2addF (0 - (n + 1)).toNat 1 (by omega) (by omega)) ?_
  simp (disch := omega) only [go_sem]
  have e2 : (0 - (n + 1)).toNat + 1 = n.natAbs := by omega
  have l3 := len_bl (m := (0 - (n + 1)).toNat + 1) (B := 64) (bl_le.2 (by omega))
  refine call_oI (con_l3make true ((0 - (n + 1)).toNat + 1) (by omega)) ?_
  simp (disch := omega) only [go_sem]
  refine fin_val (by simp (disch := omega) only [go_sem]) ?_
  show snap _ 6 _ = _
  have e3 : decide (n.natAbs ≠ 0) = true := by simp; omega
  rw [e2]
  simp (disch := omega) only [go_sem, e3, h1, Bool.true_and]
 ·simp (disch := omega) only [go_sem, h1]
  have e1 : n = ((n.natAbs : Nat) : Int) := by omega
  refine call_oI (con_l2ofF n.natAbs (by omega)) ?_ (by simp (disch := omega) only [go_sem, ← e1])
  simp (disch := omega) only [go_sem]
  have l3 := len_bl (m := n.natAbs) (B := 64) (bl_le.2 (by omega))
  refine call_oI (con_l3make false n.natAbs (by omega)) ?_
  simp (disch := omega) only [go_sem]
  exact fin_frz (hp := by simp (disch := omega) only [go_sem, h1, Bool.false_and])
theorem con_l3mul (s1 : Bool) (m1 : Nat) (s2 : Bool) (m2 : Nat) (h1 : bl m1 ≤ 4000000) (h2 : bl m2 ≤ 4000000) : Con Tryz.prog 213 false [.ag [.v (.bool (s1)), .sl (lim (m1)).length (ints (lim (m1)))], .ag [.v (.bool (s2)), .sl (lim (m2)).length (ints (lim (m2)))]] [] (isA (.ag [.v (.bool ((s1 != s2) && decide (m1 * m2 ≠ 0))), .sl (lim (m1 * m2)).length (ints (lim (m1 * m2)))])) := by
 refine Con.frzA ?_
 refine Con.of_w (rs := [.cell 4 27]) Tryz.func213 rfl Tryz.ntmps213 rfl ?_
 simp (disch := omega) only [go_sem]
 have l1 := len_bl h1
 have l2 := len_bl h2
 refine draw_of rfl [⟨0, [], []⟩, ⟨1, [], []⟩, ⟨2, [1], []⟩, ⟨3, [1], []⟩, ⟨4, [], []⟩, ⟨5, [1, 3], []⟩, ⟨6, [1, 3], []⟩, ⟨7, [1, 3, 6], []⟩, ⟨8, [1, 3, 6], []⟩, ⟨9, [1, 3], []⟩, ⟨10, [], []⟩, ⟨11, [], []⟩] (by kernel_rfl) ?_
 simp (disch := omega) only [go_sem]
 refine call_oI (con_l2mulF m1 m2 (by omega) (by omega)) ?_
 simp (disch := omega) only [go_sem]
 have l3 := len_bl (Nat.le_trans (bl_mulle m1 m2) (Nat.add_le_add h1 h2))
 refine call_oI (con_l3make (s1 != s2) (m1 * m2) (by omega)) ?_
 simp (disch := omega) only [go_sem]
 exact fin_frz
theorem con_l4make (s : Bool) (m : Nat) (e : Int) (hm : bl m ≤ 8000000) (he : -2 ^ 40 ≤ e ∧ e ≤ 2 ^ 40) : Con Tryz.prog 156 false [.ag [.v (.bool (s)), .sl (lim (m)).length (ints (lim (m)))], .v (.int .i64 e)] [] (isA (.ag [.v (.bool (oS s m)), .sl (lim (oM m)).length (ints (lim (oM m))), .v (.int .i64 (oE m e))])) := by
 refine Con.frzA ?_
 refine Con.of_aw Tryz.func156 rfl Tryz.ntmps156 (by simp) (by simp) (by simp) (W.sound ?_)
 show @W Tryz.prog 26 ⟨_⟩ ⟨fun x σ => @retW _ _ _ ⟨_⟩ _ ⟨_⟩ x σ⟩ _ _
 simp (disch := omega) only [go_sem]
 have hl := len_bl hm
 refine ifW_dec (fun h1 => ?_) (fun h1 => ?_)
 ·simp (disch := omega) only [go_sem, h1]
  have h0 : m = 0 := lim_eq_nil.1 (List.length_eq_zero_iff.1 (by omega))
  subst h0
  refine fin_val (by simp (disch := omega) only [go_sem]) ?_
  show snap _ 6 _ = _
  simp only [oS, oM_zero, oE, lim_zero, if_true]
  simp (disch := omega) only [go_sem]
 ·have h0 : m ≠ 0 := fun e => h1 (by rw [e, lim_zero]; rfl)
  have ht := tz_lt_bl h0
  simp (disch := omega) only [go_sem, h1]
  refine call_cI (con_l2trail m (by omega)) ?_
  simp (disch := omega) only [go_sem]
  refine draw_of rfl [⟨0, [], []⟩, ⟨1, [], []⟩, ⟨2, [1], []⟩, ⟨3, [1], []⟩, ⟨4, [1, 3], []⟩, ⟨7, [1, 3], []⟩, ⟨8, [1, 3], []⟩, ⟨9, [1, 3], []⟩, ⟨5, [1], []⟩, ⟨6, [], []⟩, ⟨10, [], []⟩, ⟨11, [], []⟩] (by kernel_rfl) ?_
  simp (disch := omega) only [go_sem]
  refine call_oI (con_l2shr m (tz m) (by omega) (by omega)) ?_
  simp (disch := omega) only [go_sem]
  have l3 := len_bl (Nat.le_trans (bl_divle m (2 ^ tz m)) hm)
  refine call_oI (con_l3make s (m / 2 ^ tz m) (by omega)) ?_
  simp (disch := omega) only [go_sem]
  refine fin_val (by simp (disch := omega) only [go_sem]) ?_
  show snap _ 6 _ = _
  have h3 : decide (m / 2 ^ tz m ≠ 0) = true := by
   have := (odd_part h0).1
   simp only [decide_eq_true_eq]; omega
  simp only [oS, oM, oE, if_neg h0]
  simp (disch := omega) only [go_sem, h3, Bool.and_true]
theorem con_l4mul (s1 : Bool) (m1 : Nat) (e1 : Int) (s2 : Bool) (m2 : Nat) (e2 : Int) (h1 : bl m1 ≤ 4000000) (h2 : bl m2 ≤ 4000000) (he1 : -2 ^ 39 ≤ e1 ∧ e1 ≤ 2 ^ 39) (he2 : -2 ^ 39 ≤ e2 ∧ e2 ≤ 2 ^ 39) :
  Con Tryz.prog 140 false [.ag [.v (.bool (s1)), .sl (lim (m1)).length (ints (lim (m1))), .v (.int .i64 (e1))], .ag [.v (.bool (s2)), .sl (lim (m2)).length (ints (lim (m2))), .v (.int .i64 (e2))]] [] (isA (.ag [.v (.bool (oS ((s1 != s2) && decide (m1 * m2 ≠ 0)) (m1 * m2))), .sl (lim (oM (m1 * m2))).length (ints (lim (oM (m1 * m2)))), .v (.int .i64 (oE (m1 * m2) (e1 + e2)))])) := by
 refine Con.frzA ?_
 refine Con.of_w (rs := [.cell 4 29]) Tryz.func140 rfl Tryz.ntmps140 rfl ?_
 simp (disch := omega) only [go_sem]
 refine draw_of rfl [⟨0, [], []⟩, ⟨1, [], []⟩, ⟨2, [1], []⟩, ⟨3, [1], []⟩, ⟨5, [1, 3], []⟩, ⟨6, [1, 3], []⟩, ⟨7, [1, 3, 6], []⟩, ⟨8, [1, 3, 6], []⟩, ⟨9, [1, 3], []⟩, ⟨4, [6, 8], []⟩, ⟨10, [], []⟩, ⟨11, [], []⟩] (by kernel_rfl) ?_
 simp (disch := omega) only [go_sem]
 refine call_oI (con_l3mul s1 m1 s2 m2 h1 h2) ?_
 simp (disch := omega) only [go_sem]
 have h3 := Nat.le_trans (bl_mulle m1 m2) (Nat.add_le_add h1 h2)
 refine call_oI (con_l4make ((s1 != s2) && decide (m1 * m2 ≠ 0)) (m1 * m2) (e1 + e2) (by omega) (by omega)) ?_
 simp (disch := omega) only [go_sem]
 exact fin_frz
theorem con_l4top (s : Bool) (m : Nat) (e : Int) (hm : (lim m).length ≤ 2 ^ 40) (he : -2 ^ 40 ≤ e ∧ e ≤ 2 ^ 40) : Con Tryz.prog 260 true [.ag [.v (.bool (s)), .sl (lim (m)).length (ints (lim (m))), .v (.int .i64 (e))]] [] (isA (.v (.int .i64 (if m = 0 then 0 else e + (bl m : Int))))) := by
 refine Con.of_w (rs := [.tmp 2]) Tryz.func260 rfl Tryz.ntmps260 rfl ?_
 simp (disch := omega) only [go_sem]
 refine ifW_dec (fun h1 => ?_) (fun h1 => ?_)
 ·simp (disch := omega) only [go_sem, h1]
  have h0 : m = 0 := lim_eq_nil.1 (List.length_eq_zero_iff.1 (by omega))
  rw [if_pos h0]
  exact fin_cI
 ·have h0 : m ≠ 0 := fun e => h1 (by rw [e, lim_zero]; rfl)
  have := bl_len (m := m)
  simp (disch := omega) only [go_sem, h1]
  refine draw_of rfl [⟨0, [], []⟩, ⟨1, [], []⟩, ⟨2, [1], []⟩, ⟨3, [1], []⟩, ⟨4, [1], []⟩, ⟨5, [1], []⟩, ⟨6, [], []⟩, ⟨7, [], []⟩] (by kernel_rfl) ?_
  simp (disch := omega) only [go_sem]
  refine call_cI (con_l2bits m hm) ?_
  simp (disch := omega) only [go_sem]
  rw [if_neg h0]
  exact fin_cI
end Go.Ab
namespace Go.Ab
open Go Go.Proofs
set_option linter.unusedVariables false
set_option linter.unusedSimpArgs false
theorem con_l2cmp (a b : Nat) (la : (lim a).length ≤ 2 ^ 40) (lb : (lim b).length ≤ 2 ^ 40) :
  Con Tryz.prog 236 true [.ag [.sl (lim (a)).length (ints (lim (a)))], .ag [.sl (lim (b)).length (ints (lim (b)))]] [] (isA (.v (.int .i64 (cmpI a b)))) := by
 refine Con.of_w (rs := [.tmp 4]) Tryz.func236 rfl Tryz.ntmps236 rfl ?_
 simp (disch := omega) only [go_sem]
 refine ifW_not (fun h1 => ?_) (fun h1 => ?_)
 ·simp (disch := omega) only [go_sem, h1]
  refine ifW_dec (fun h2 => ?_) (fun h2 => ?_)
  ·simp (disch := omega) only [go_sem, h2]
   have := lim_lt_of (a := a) (b := b) (by omega)
   rw [show cmpI (a : Int) (b : Int) = -1 by unfold cmpI; rw [if_pos (by omega)]]
   exact fin_cI
  ·simp (disch := omega) only [go_sem, h2]
   have := lim_lt_of (a := b) (b := a) (by omega)
   rw [show cmpI (a : Int) (b : Int) = 1 by unfold cmpI; rw [if_neg (by omega), if_pos (by omega)]]
   exact fin_cI
 ·simp (disch := omega) only [go_sem, h1]
  have hl : (lim a).length = (lim b).length := by omega
  refine loop_intro (fun k : Nat => [(2, .pt 40000000 0), (3, .pt 50000000 0), (5, .v (.int .i64 ((k : Int) - 1)))])
   (fun _ => [(40000000, .own 0 [.sl (lim (a)).length (ints (lim (a)))]), (50000000, .own 0 [.sl (lim (b)).length (ints (lim (b)))])]) (fun k => k ≤ (lim a).length ∧ (lim a).drop k = (lim b).drop k) (fun k => k) (lim a).length ⟨Nat.le_refl _, by rw [List.drop_length, hl, List.drop_length]⟩ (Le.lst [] _ _ rfl (by simp (disch := omega) only [go_sem]; try omega) (by simp (disch := omega) only [go_sem])) ?_
  rintro k ⟨hk, hd⟩
  simp (disch := omega) only [go_sem]
  refine ifW_dec (fun h2 => ?_) (fun h2 => ?_)
  ·obtain ⟨i, rfl⟩ : ∃ i, k = i + 1 := ⟨k - 1, by omega⟩
   have ei : ((i + 1 : Nat) : Int) - 1 = (i : Nat) := by omega
   have hva := vl_lim a
   have hvb := vl_lim b
   simp (disch := omega) only [go_sem, h2, ei]
   refine draw_of rfl [⟨0, [], []⟩, ⟨1, [], []⟩, ⟨2, [1], []⟩, ⟨3, [], []⟩, ⟨4, [], []⟩, ⟨5, [1, 4], []⟩, ⟨6, [1, 4], []⟩, ⟨7, [1, 4, 6], []⟩, ⟨8, [1, 4], []⟩, ⟨9, [1, 4], []⟩, ⟨10, [], []⟩] (by kernel_rfl) ?_
   simp (disch := omega) only [go_sem, ei]
   refine ⟨by omega, by omega, by omega, by omega, ?_⟩
   refine ifW_dec (fun h3 => ?_) (fun h3 => ?_)
   ·simp (disch := omega) only [go_sem, h3]
    have := vl_lt_of (gd_lim a) (gd_lim b) (by omega) hl hd h3
    rw [show cmpI (a : Int) (b : Int) = -1 by unfold cmpI; rw [if_pos (by omega)]]
    exact fin_cI
   ·simp (disch := omega) only [go_sem, h3]
    refine draw_of rfl [⟨0, [], []⟩, ⟨1, [], []⟩, ⟨2, [1], []⟩, ⟨3, [], []⟩, ⟨4, [], []⟩, ⟨5, [1, 4], []⟩, ⟨6, [1, 4], []⟩, ⟨7, [1, 4, 6], []⟩, ⟨8, [1, 4], []⟩, ⟨9, [1, 4], []⟩, ⟨10, [], []⟩] (by kernel_rfl) ?_
    simp (disch := omega) only [go_sem, ei]
    refine ⟨by omega, by omega, by omega, by omega, ?_⟩
    refine ifW_dec (fun h4 => ?_) (fun h4 => ?_)
    ·simp (disch := omega) only [go_sem, h4]
     have := vl_lt_of (gd_lim b) (gd_lim a) (by omega) hl.symm hd.symm h4
     rw [show cmpI (a : Int) (b : Int) = 1 by unfold cmpI; rw [if_neg (by omega), if_pos (by omega)]]
     exact fin_cI
    ·simp (disch := omega) only [go_sem, h4]
     refine next_intro i [] ⟨by omega, ?_⟩ (by show i < i + 1; omega) rfl (by simp (disch := omega) only [go_sem]; try omega) (by simp (disch := omega) only [go_sem])
     have h5 : (lim a).getD i 0 = (lim b).getD i 0 := by omega
     rw [drop_getD (l := lim a) (by omega), drop_getD (l := lim b) (by omega), h5, hd]
  ·simp (disch := omega) only [go_sem, h2]
   have : k = 0 := by omega
   subst this
   rw [List.drop_zero, List.drop_zero] at hd
   have := lim_inj hd
   subst this
   rw [show cmpI (a : Int) (a : Int) = 0 by simp [cmpI]]
   exact fin_cI
theorem con_l2sub (cl : Bool) (a b : Nat) (hle : b ≤ a) (la : (lim a).length ≤ 1000000) : Con Tryz.prog 258 cl [.ag [.sl (lim (a)).length (ints (lim (a)))], .ag [.sl (lim (b)).length (ints (lim (b)))]] [] (natR (a - b)) := by
 have lB : (lim b).length ≤ (lim a).length := lim_mono hle
 have hA := gd_lim a
 have hB := gd_lim b
 refine Con.of_aw Tryz.func258 rfl Tryz.ntmps258 (by simp) (by simp) (by simp) (W.sound ?_)
 show @W Tryz.prog 45 ⟨_⟩ ⟨fun x σ => @retW _ _ _ ⟨_⟩ _ ⟨_⟩ x σ⟩ _ _
 simp (disch := omega) only [go_sem]
 refine loop_intro (fun x : Nat × List Int × Int => [(2, .pt 2 0), (3, .pt 3 0), (4, .pt 4 0), (5, .rf 1 0 x.2.1.length), (6, .v (.int .i64 x.2.2)), (7, .v (.int .i64 x.1))])
  (fun x => [(1, .own 1 (ints x.2.1)), (2, .own 0 [.sl (lim (a)).length (ints (lim (a)))]), (3, .own 0 [.sl (lim (b)).length (ints (lim (b)))]), (4, .own 0 [.v (.slice none 0 0)])])
  (fun x => x.1 ≤ (lim a).length ∧ x.2.1.length = x.1 ∧ gd x.2.1 ∧ (0 ≤ x.2.2 ∧ x.2.2 ≤ 1) ∧ vl x.2.1 - 65536 ^ x.1 * x.2.2 = vl ((lim a).take x.1) - vl ((lim b).take x.1))
  (fun x => (lim a).length - x.1) (0, [], 0) ⟨by simp, rfl, gd_nil, by simp, by simp [vl]⟩
  ((Le.ghost 5 1 1 (by simp (disch := omega) only [go_sem]) (by simp (disch := omega) only [go_sem])).trans (Le.lst [(2, 40000000), (3, 50000000), (4, 60000000)] _ _ rfl (by simp (disch := omega) only [go_sem]) (by simp (disch := omega) only [go_sem]))) ?_
 rintro ⟨i, out, bo⟩ ⟨hi, hol, hog, hbo, hov⟩
 dsimp only at hi hol hog hbo hov ⊢
 simp (disch := omega) only [go_sem]
 refine ifW_dec (fun h1 => ?_) (fun h1 => ?_)
 ·have hx := gd_getD hA i
  have hy := gd_getD hB i
  have hstep : ∀ z b' : Int, (lim a).getD i 0 - bo - (lim b).getD i 0 = z - 65536 * b' → vl (out ++ [z]) - 65536 ^ (i + 1) * b' = vl ((lim a).take (i + 1)) - vl ((lim b).take (i + 1)) := by
   intro z b' hz
   rw [vl_snoc, vl_take_any, vl_take_any, hol, Int.pow_succ]
   generalize (65536 : Int) ^ i = Pi at *
   grind
  have hyz : ¬ i < (lim b).length → (lim b).getD i 0 = 0 := fun h => by rw [List.getD_eq_getElem?_getD, List.getElem?_eq_none (by omega)]; rfl
  simp (disch := omega) only [go_sem, h1]
  refine ⟨by omega, by omega, ifW_dec (fun h2 => ?_) (fun h2 => ?_)⟩
  ·simp (disch := omega) only [go_sem, h2]
   refine ⟨by omega, by omega, ifW_dec (fun h3 => ?_) (fun h3 => ?_)⟩
   ·simp (disch := omega) only [go_sem, h3]
    refine ⟨by omega, next_intro (i + 1, out ++ [(lim a).getD i 0 - bo - (lim b).getD i 0 + 65536], 1) [(1, 440000000)] ⟨by show i + 1 ≤ _; omega, by simp [hol], gd_append.2 ⟨hog, gd_one.2 (by omega)⟩, by simp, hstep ((lim a).getD i 0 - bo - (lim b).getD i 0 + 65536) 1 (by omega)⟩ (by show (lim a).length - (i + 1) < (lim a).length - i; omega) rfl (by simp (disch := omega) only [go_sem, List.length_append]; try omega) (by simp (disch := omega) only [go_sem])⟩
   ·simp (disch := omega) only [go_sem, h3]
    refine ⟨by omega, next_intro (i + 1, out ++ [(lim a).getD i 0 - bo - (lim b).getD i 0], 0) [(1, 440000000)] ⟨by show i + 1 ≤ _; omega, by simp [hol], gd_append.2 ⟨hog, gd_one.2 (by omega)⟩, by simp, hstep ((lim a).getD i 0 - bo - (lim b).getD i 0) 0 (by omega)⟩ (by show (lim a).length - (i + 1) < (lim a).length - i; omega) rfl (by simp (disch := omega) only [go_sem, List.length_append]; try omega) (by simp (disch := omega) only [go_sem])⟩
  ·simp (disch := omega) only [go_sem, h2]
   refine ifW_dec (fun h3 => ?_) (fun h3 => ?_)
   ·simp (disch := omega) only [go_sem, h3]
    have hy0 := hyz (by omega)
    refine ⟨by omega, next_intro (i + 1, out ++ [(lim a).getD i 0 - bo + 65536], 1) [(1, 440000000)] ⟨by show i + 1 ≤ _; omega, by simp [hol], gd_append.2 ⟨hog, gd_one.2 (by omega)⟩, by simp, hstep ((lim a).getD i 0 - bo + 65536) 1 (by omega)⟩ (by show (lim a).length - (i + 1) < (lim a).length - i; omega) rfl (by simp (disch := omega) only [go_sem, List.length_append]; try omega) (by simp (disch := omega) only [go_sem])⟩
   ·simp (disch := omega) only [go_sem, h3]
    have hy0 := hyz (by omega)
    refine ⟨by omega, next_intro (i + 1, out ++ [(lim a).getD i 0 - bo], 0) [(1, 440000000)] ⟨by show i + 1 ≤ _; omega, by simp [hol], gd_append.2 ⟨hog, gd_one.2 (by omega)⟩, by simp, hstep ((lim a).getD i 0 - bo) 0 (by omega)⟩ (by show (lim a).length - (i + 1) < (lim a).length - i; omega) rfl (by simp (disch := omega) only [go_sem, List.length_append]; try omega) (by simp (disch := omega) only [go_sem])⟩
 ·simp (disch := omega) only [go_sem, h1]
  have hiA : i = (lim a).length := by omega
  subst hiA
  rw [List.take_length, List.take_of_length_le lB] at hov
  have hva := vl_lim a
  have hvb := vl_lim b
  have hb0 : bo = 0 := by
   have h2 := vl_lt hog
   rw [hol] at h2
   rcases (by omega : bo = 0 ∨ bo = 1) with h | h
   ·exact h
   ·subst h; omega
  subst hb0
  have hov2 : vl out = ((a - b : Nat) : Int) := by omega
  refine call_closed (con_l2norm true out (a - b) (by omega) hog hov2) (by simp (disch := omega) only [go_sem]) ?_
  rintro r hs (⟨h0, rfl, rfl⟩ | ⟨zs, rfl, rfl⟩)
  ·refine ⟨⟨by simp, by simp (disch := omega) only [go_sem]⟩, ?_⟩
   simp (disch := omega) only [go_sem]
   refine fin_intro [] [] [] [.ag [.v (.slice none 0 0)]] rfl (by simp (disch := omega) only [go_sem]) (by simp (disch := omega) only [go_sem]) (by simp) (by intro _; simp [tupA, AV.pu, AV.pu.puL, Ob.pu, pu_ints]) (.inl ⟨h0, rfl, rfl⟩)
  ·refine ⟨⟨by simp, by simp (disch := omega) only [go_sem]⟩, ?_⟩
   simp (disch := omega) only [go_sem]
   refine fin_intro [(0, 460000000)] [.own 1 (ints (lim (a - b) ++ zs))] [] [.ag [.rf 0 0 (lim (a - b)).length]] rfl (by simp (disch := omega) only [go_sem]) (by simp (disch := omega) only [go_sem]) (by simp) (by intro _; simp [tupA, AV.pu, AV.pu.puL, Ob.pu, pu_ints]) (.inr ⟨zs, rfl, rfl⟩)
end Go.Ab
namespace Go.Ab
open Go Go.Proofs
set_option linter.unusedVariables false
set_option linter.unusedSimpArgs false
theorem con_l2subF (a b : Nat) (hle : b ≤ a) (la : (lim a).length ≤ 1000000) : Con Tryz.prog 258 false [.ag [.sl (lim (a)).length (ints (lim (a)))], .ag [.sl (lim (b)).length (ints (lim (b)))]] [] (isA (.ag [.sl (lim (a - b)).length (ints (lim (a - b)))])) := (con_l2sub false a b hle la).natF
theorem con_l3add (s1 : Bool) (m1 : Nat) (s2 : Bool) (m2 : Nat) (h1 : bl m1 ≤ 6000000) (h2 : bl m2 ≤ 6000000) :
  Con Tryz.prog 201 false [.ag [.v (.bool (s1)), .sl (lim (m1)).length (ints (lim (m1)))], .ag [.v (.bool (s2)), .sl (lim (m2)).length (ints (lim (m2)))]] [] (isA (.ag [.v (.bool (suS s1 m1 s2 m2)), .sl (lim (suM s1 m1 s2 m2)).length (ints (lim (suM s1 m1 s2 m2)))])) := by
 refine Con.frzA ?_
 have l1 := len_bl h1
 have l2 := len_bl h2
 have hge : (0 ≤ cmpI (m1 : Int) (m2 : Int)) ↔ m2 ≤ m1 := by rw [cmp_pos.2.2]; omega
 have hb := bl_suM (s1 := s1) (s2 := s2) h1 h2
 have l3 := len_bl hb
 rw [← sgS_and]
 refine Con.of_w (rs := [.cell 4 27]) Tryz.func201 rfl Tryz.ntmps201 rfl ?_
 simp (disch := omega) only [go_sem]
 refine ifW_b (fun c1 => ?_) (fun c1 => ?_)
 ·have c1' : s1 = s2 := by simpa using c1
  simp (disch := omega) only [go_sem, c1]
  subst c1'
  rw [sgS_same, suM_same] at *
  refine draw_of rfl [⟨0, [], []⟩, ⟨1, [], []⟩, ⟨2, [1], []⟩, ⟨3, [1], []⟩, ⟨4, [1, 3], []⟩, ⟨5, [1, 3], []⟩, ⟨6, [1], []⟩, ⟨7, [], []⟩, ⟨8, [], []⟩] (by kernel_rfl) ?_
  simp (disch := omega) only [go_sem]
  refine call_oI (con_l2addF m1 m2 (by omega) (by omega)) ?_
  simp (disch := omega) only [go_sem]
  refine call_oI (con_l3make s1 (m1 + m2) (by omega)) ?_
  simp (disch := omega) only [go_sem]
  exact fin_frz
 ·have c1' : s1 ≠ s2 := by simpa using c1
  simp (disch := omega) only [go_sem, c1]
  refine call_cI (con_l2cmp m1 m2 (by omega) (by omega)) ?_
  simp (disch := omega) only [go_sem]
  refine ifW_dec (fun c2 => ?_) (fun c2 => ?_)
  ·have c2' : m2 ≤ m1 := hge.1 (by omega)
   rw [sgS_ge c1' c2', suM_ge c1' c2'] at *
   simp (disch := omega) only [go_sem, c2]
   refine draw_of rfl [⟨0, [], []⟩, ⟨1, [], []⟩, ⟨2, [1], []⟩, ⟨3, [1], []⟩, ⟨4, [1, 3], []⟩, ⟨5, [1, 3], []⟩, ⟨6, [1], []⟩, ⟨7, [], []⟩, ⟨8, [], []⟩] (by kernel_rfl) ?_
   simp (disch := omega) only [go_sem]
   refine call_oI (con_l2subF m1 m2 c2' (by omega)) ?_
   simp (disch := omega) only [go_sem]
   refine call_oI (con_l3make s1 (m1 - m2) (by omega)) ?_
   simp (disch := omega) only [go_sem]
   exact fin_frz
  ·have c2' : ¬ m2 ≤ m1 := fun h => c2 (by have := hge.2 h; omega)
   rw [sgS_lt c1' c2', suM_lt c1' c2'] at *
   simp (disch := omega) only [go_sem, c2]
   refine draw_of rfl [⟨0, [], []⟩, ⟨1, [], []⟩, ⟨2, [1], []⟩, ⟨3, [1], []⟩, ⟨4, [1, 3], []⟩, ⟨5, [1, 3], []⟩, ⟨6, [1], []⟩, ⟨7, [], []⟩, ⟨8, [], []⟩] (by kernel_rfl) ?_
   simp (disch := omega) only [go_sem]
   refine call_oI (con_l2subF m2 m1 (by omega) (by omega)) ?_
   simp (disch := omega) only [go_sem]
   refine call_oI (con_l3make s2 (m2 - m1) (by omega)) ?_
   simp (disch := omega) only [go_sem]
   exact fin_frz
theorem con_l3neg (s : Bool) (m : Nat) (hl : (lim m).length ≤ 2 ^ 39) : Con Tryz.prog 257 false [.ag [.v (.bool (s)), .sl (lim (m)).length (ints (lim (m)))]] [] (isA (.ag [.v (.bool ((!s) && decide (m ≠ 0))), .sl (lim (m)).length (ints (lim (m)))])) := by
 refine Con.frzA ?_
 refine Con.of_w (rs := [.cell 2 27]) Tryz.func257 rfl Tryz.ntmps257 rfl ?_
 simp (disch := omega) only [go_sem]
 refine call_oI (con_l3make (!s) m hl) ?_
 simp (disch := omega) only [go_sem]
 exact fin_frz
theorem con_l4neg (s : Bool) (m : Nat) (e : Int) (hl : (lim m).length ≤ 2 ^ 39) : Con Tryz.prog 199 false [.ag [.v (.bool (s)), .sl (lim (m)).length (ints (lim (m))), .v (.int .i64 (e))]] [] (isA (.ag [.v (.bool ((!s) && decide (m ≠ 0))), .sl (lim (m)).length (ints (lim (m))), .v (.int .i64 (e))])) := by
 refine Con.frzA ?_
 refine Con.of_w (rs := [.cell 2 29]) Tryz.func199 rfl Tryz.ntmps199 rfl ?_
 simp (disch := omega) only [go_sem]
 refine draw_of rfl [⟨0, [], []⟩, ⟨1, [], []⟩, ⟨3, [1], []⟩, ⟨4, [1], []⟩, ⟨2, [4], []⟩, ⟨5, [], []⟩, ⟨6, [], []⟩] (by kernel_rfl) ?_
 simp (disch := omega) only [go_sem]
 refine call_oI (con_l3neg s m hl) ?_
 simp (disch := omega) only [go_sem]
 exact fin_frz
def alF (m1 : Nat) (e1 : Int) (m2 : Nat) (e2 : Int) : Int := if m1 = 0 then e2 else if m2 = 0 then e1 else if e1 ≤ e2 then e1 else e2
theorem alF_eq (m1 : Nat) (e1 : Int) (m2 : Nat) (e2 : Int) (h : ¬ (m1 = 0 ∧ m2 = 0)) : alF m1 e1 m2 e2 = alE m1 e1 m2 e2 := by
 unfold alF alE
 repeat' split
 all_goals omega
theorem con_l4align (s1 : Bool) (m1 : Nat) (e1 : Int) (s2 : Bool) (m2 : Nat) (e2 : Int) (h1 : bl m1 ≤ 4000000) (h2 : bl m2 ≤ 4000000) (he1 : -1000000 ≤ e1 ∧ e1 ≤ 1000000) (he2 : -1000000 ≤ e2 ∧ e2 ≤ 1000000) (z1 : m1 = 0 → s1 = false) (z2 : m2 = 0 → s2 = false) :
  Con Tryz.prog 157 false [.ag [.v (.bool (s1)), .sl (lim (m1)).length (ints (lim (m1))), .v (.int .i64 (e1))], .ag [.v (.bool (s2)), .sl (lim (m2)).length (ints (lim (m2))), .v (.int .i64 (e2))]] [] (isA (.tu [.ag [.v (.bool (s1)), .sl (lim (alA m1 e1 (alE m1 e1 m2 e2))).length (ints (lim (alA m1 e1 (alE m1 e1 m2 e2))))], .ag [.v (.bool (s2)), .sl (lim (alA m2 e2 (alE m1 e1 m2 e2))).length (ints (lim (alA m2 e2 (alE m1 e1 m2 e2))))], .v (.int .i64 (alF m1 e1 m2 e2))])) := by
 refine Con.frzA ?_
 have l1 := len_bl h1
 have l2 := len_bl h2
 refine Con.of_aw Tryz.func157 rfl Tryz.ntmps157 (by simp) (by simp) (by simp) (W.sound ?_)
 show @W Tryz.prog 70 ⟨_⟩ ⟨fun x σ => @retW _ _ _ ⟨_⟩ _ ⟨_⟩ x σ⟩ _ _
 simp (disch := omega) only [go_sem]
 refine ifW_dec (fun c1 => ?_) (fun c1 => ?_)
 ·have y1 : m1 = 0 := lim_eq_nil.1 (List.length_eq_zero_iff.1 (by omega))
  have eF : alF m1 e1 m2 e2 = e2 := by unfold alF; rw [if_pos y1]
  have a1 : alA m1 e1 (alE m1 e1 m2 e2) = m1 := by rw [y1]; unfold alA; rw [Nat.zero_mul]
  have a2 : alA m2 e2 (alE m1 e1 m2 e2) = m2 := by
   by_cases y2 : m2 = 0
   ·rw [y2]; unfold alA; rw [Nat.zero_mul]
   ·unfold alA alE; rw [if_neg y2, if_pos y1, Int.sub_self]; simp
  simp (disch := omega) only [go_sem, c1]
  refine draw_of rfl [⟨0, [], []⟩, ⟨1, [], []⟩, ⟨2, [1], []⟩, ⟨3, [1], []⟩, ⟨4, [1, 3], []⟩, ⟨5, [1, 3], []⟩, ⟨6, [3, 5], []⟩, ⟨7, [5], []⟩, ⟨8, [], []⟩] (by kernel_rfl) ?_
  simp (disch := omega) only [go_sem]
  refine fin_val (by simp (disch := omega) only [go_sem]) ?_
  show snap _ 6 _ = _
  rw [eF, a1, a2]
  simp (disch := omega) only [go_sem]
 ·have y1 : m1 ≠ 0 := fun e => c1 (by rw [e, lim_zero]; rfl)
  simp (disch := omega) only [go_sem, c1]
  refine ifW_dec (fun c2 => ?_) (fun c2 => ?_)
  ·have y2 : m2 = 0 := lim_eq_nil.1 (List.length_eq_zero_iff.1 (by omega))
   have eF : alF m1 e1 m2 e2 = e1 := by unfold alF; rw [if_neg y1, if_pos y2]
   have a1 : alA m1 e1 (alE m1 e1 m2 e2) = m1 := by unfold alA alE; rw [if_pos y2, Int.sub_self]; simp
   have a2 : alA m2 e2 (alE m1 e1 m2 e2) = m2 := by rw [y2]; unfold alA; rw [Nat.zero_mul]
   simp (disch := omega) only [go_sem, c2]
   refine draw_of rfl [⟨0, [], []⟩, ⟨1, [], []⟩, ⟨2, [1], []⟩, ⟨3, [1], []⟩, ⟨4, [1, 3], []⟩, ⟨5, [1, 3], []⟩, ⟨6, [3, 5], []⟩, ⟨7, [5], []⟩, ⟨8, [], []⟩] (by kernel_rfl) ?_
   simp (disch := omega) only [go_sem]
   refine fin_val (by simp (disch := omega) only [go_sem]) ?_
   show snap _ 6 _ = _
   rw [eF, a1, a2]
   simp (disch := omega) only [go_sem]
  ·have y2 : m2 ≠ 0 := fun e => c2 (by rw [e, lim_zero]; rfl)
   simp (disch := omega) only [go_sem, c2]
   refine ifW_dec (fun c3 => ?_) (fun c3 => ?_)
   ·have eF : alF m1 e1 m2 e2 = e1 := by unfold alF; rw [if_neg y1, if_neg y2, if_pos c3]
    have eE : alE m1 e1 m2 e2 = e1 := by unfold alE; rw [if_neg y2, if_neg y1, if_neg (by omega)]
    have a1 : alA m1 e1 (alE m1 e1 m2 e2) = m1 := by rw [eE]; unfold alA; rw [Int.sub_self]; simp
    have ek : e2 - e1 = (((e2 - e1).toNat : Nat) : Int) := by omega
    have hb : bl (m2 * 2 ^ (e2 - e1).toNat) ≤ 6000000 := by have := bl_up m2 (e2 - e1).toNat; omega
    have l3 := len_bl hb
    have hn : m2 * 2 ^ (e2 - e1).toNat ≠ 0 := Nat.mul_ne_zero y2 (Nat.pos_iff_ne_zero.1 (Nat.pow_pos (by omega)))
    have hd : decide (m2 * 2 ^ (e2 - e1).toNat ≠ 0) = true := decide_eq_true hn
    simp (disch := omega) only [go_sem, c3]
    refine draw_of rfl [⟨0, [], []⟩, ⟨1, [], []⟩, ⟨2, [1], []⟩, ⟨3, [1], []⟩, ⟨4, [1], []⟩, ⟨5, [1, 4], []⟩, ⟨6, [1, 4], []⟩, ⟨7, [1, 4], []⟩, ⟨8, [1, 4, 7], []⟩, ⟨9, [1, 4, 7], []⟩, ⟨10, [1, 4, 7, 9], []⟩, ⟨11, [1, 4, 7, 9], []⟩, ⟨12, [1, 4, 7], []⟩, ⟨15, [1, 4, 7, 9, 11], []⟩, ⟨16, [1, 4, 7, 9, 11], []⟩, ⟨13, [1, 4, 16], []⟩, ⟨14, [1, 16], []⟩, ⟨17, [16], []⟩, ⟨18, [16], []⟩, ⟨19, [], []⟩] (by kernel_rfl) ?_
    simp (disch := omega) only [go_sem]
    refine call_open (con_l2shlF m2 (e2 - e1).toNat (by omega) (by omega)) (by simp (disch := omega) only [go_sem, ← ek]) ?_
    rintro r hs ⟨rfl, rfl, _⟩
    refine ⟨by simp [freeN], ?_⟩
    simp (disch := omega) only [go_sem]
    refine call_oI (con_l3make s2 (m2 * 2 ^ (e2 - e1).toNat) (by omega)) ?_
    simp (disch := omega) only [go_sem]
    refine fin_val (by simp (disch := omega) only [go_sem]) ?_
    show snap _ 6 _ = _
    rw [eF, a1, eE, hd]; unfold alA
    simp (disch := omega) only [go_sem, Bool.and_true]
   ·have eF : alF m1 e1 m2 e2 = e2 := by unfold alF; rw [if_neg y1, if_neg y2, if_neg c3]
    have eE : alE m1 e1 m2 e2 = e2 := by unfold alE; rw [if_neg y2, if_neg y1, if_pos (by omega)]
    have a2 : alA m2 e2 (alE m1 e1 m2 e2) = m2 := by rw [eE]; unfold alA; rw [Int.sub_self]; simp
    have ek : e1 - e2 = (((e1 - e2).toNat : Nat) : Int) := by omega
    have hb : bl (m1 * 2 ^ (e1 - e2).toNat) ≤ 6000000 := by have := bl_up m1 (e1 - e2).toNat; omega
    have l3 := len_bl hb
    have hn : m1 * 2 ^ (e1 - e2).toNat ≠ 0 := Nat.mul_ne_zero y1 (Nat.pos_iff_ne_zero.1 (Nat.pow_pos (by omega)))
    have hd : decide (m1 * 2 ^ (e1 - e2).toNat ≠ 0) = true := decide_eq_true hn
    simp (disch := omega) only [go_sem, c3]
    refine draw_of rfl [⟨0, [], []⟩, ⟨1, [], []⟩, ⟨2, [], []⟩, ⟨3, [2], []⟩, ⟨4, [2], []⟩, ⟨5, [2], []⟩, ⟨6, [2, 5], []⟩, ⟨7, [2, 5], []⟩, ⟨8, [2, 5, 7], []⟩, ⟨9, [2, 5, 7], []⟩, ⟨10, [2, 5], []⟩, ⟨13, [2, 5, 7, 9], []⟩, ⟨14, [2, 5, 7, 9], []⟩, ⟨15, [2, 5, 7, 9, 14], []⟩, ⟨16, [2, 5, 7, 9, 14], []⟩, ⟨11, [2, 14, 16], []⟩, ⟨12, [14, 16], []⟩, ⟨17, [14, 16], []⟩, ⟨18, [16], []⟩, ⟨19, [], []⟩] (by kernel_rfl) ?_
    simp (disch := omega) only [go_sem]
    refine call_open (con_l2shlF m1 (e1 - e2).toNat (by omega) (by omega)) (by simp (disch := omega) only [go_sem, ← ek]) ?_
    rintro r hs ⟨rfl, rfl, _⟩
    refine ⟨by simp [freeN], ?_⟩
    simp (disch := omega) only [go_sem]
    refine call_oI (con_l3make s1 (m1 * 2 ^ (e1 - e2).toNat) (by omega)) ?_
    simp (disch := omega) only [go_sem]
    refine fin_val (by simp (disch := omega) only [go_sem]) ?_
    show snap _ 6 _ = _
    rw [eF, a2, eE, hd]; unfold alA
    simp (disch := omega) only [go_sem, Bool.and_true]
theorem con_l4add (s1 : Bool) (m1 : Nat) (e1 : Int) (s2 : Bool) (m2 : Nat) (e2 : Int) (h1 : bl m1 ≤ 4000000) (h2 : bl m2 ≤ 4000000) (he1 : -1000000 ≤ e1 ∧ e1 ≤ 1000000) (he2 : -1000000 ≤ e2 ∧ e2 ≤ 1000000) (z1 : m1 = 0 → s1 = false) (z2 : m2 = 0 → s2 = false) :
  Con Tryz.prog 126 false [.ag [.v (.bool (s1)), .sl (lim (m1)).length (ints (lim (m1))), .v (.int .i64 (e1))], .ag [.v (.bool (s2)), .sl (lim (m2)).length (ints (lim (m2))), .v (.int .i64 (e2))]] [] (isA (.ag [.v (.bool (oS (adS s1 m1 e1 s2 m2 e2) (adM s1 m1 e1 s2 m2 e2))), .sl (lim (oM (adM s1 m1 e1 s2 m2 e2))).length (ints (lim (oM (adM s1 m1 e1 s2 m2 e2)))), .v (.int .i64 (oE (adM s1 m1 e1 s2 m2 e2) (alE m1 e1 m2 e2)))])) := by
 refine Con.frzA ?_
 have hE := alE_ge (m1 := m1) (m2 := m2) he1.1 he2.1
 have b1 := bl_alA (e := e1) (E := alE m1 e1 m2 e2) (C := 2000000) h1 (by omega)
 have b2 := bl_alA (e := e2) (E := alE m1 e1 m2 e2) (C := 2000000) h2 (by omega)
 have hF : -1000000 ≤ alF m1 e1 m2 e2 ∧ alF m1 e1 m2 e2 ≤ 1000000 := by
  unfold alF
  repeat' split
  all_goals omega
 have hX : oE (adM s1 m1 e1 s2 m2 e2) (alE m1 e1 m2 e2) = oE (adM s1 m1 e1 s2 m2 e2) (alF m1 e1 m2 e2) := by
  by_cases h : m1 = 0 ∧ m2 = 0
  ·have : adM s1 m1 e1 s2 m2 e2 = 0 := by rw [h.1, h.2]; unfold adM alA; rw [Nat.zero_mul, Nat.zero_mul]; unfold suM; rw [sv_zero, sv_zero]; rfl
   rw [this]; rfl
  ·rw [alF_eq _ _ _ _ h]
 rw [hX]
 have l1 := len_bl h1
 have l2 := len_bl h2
 refine Con.of_w (rs := [.cell 4 29]) Tryz.func126 rfl Tryz.ntmps126 rfl ?_
 simp (disch := omega) only [go_sem]
 refine call_oI (con_l4align s1 m1 e1 s2 m2 e2 h1 h2 he1 he2 z1 z2) ?_
 simp (disch := omega) only [go_sem]
 unfold adS adM
 generalize alA m1 e1 (alE m1 e1 m2 e2) = A at *
 generalize alA m2 e2 (alE m1 e1 m2 e2) = B at *
 generalize alF m1 e1 m2 e2 = E at *
 refine call_oI (con_l3add s1 A s2 B (by omega) (by omega)) ?_
 simp (disch := omega) only [go_sem]
 have hb := bl_suM (s1 := s1) (s2 := s2) b1 b2
 refine call_oI (con_l4make (suS s1 A s2 B) (suM s1 A s2 B) E (by omega) (by omega)) ?_
 simp (disch := omega) only [go_sem]
 exact fin_frz
end Go.Ab
namespace Go.Ab
open Go Go.Proofs
set_option linter.unusedVariables false
set_option linter.unusedSimpArgs false
theorem con_l4ups (neg : Bool) (m k : Nat) (mode : Int) (hl : (lim m).length ≤ 2 ^ 40) (hk : 1 ≤ k) (hk2 : k ≤ 2 ^ 40) : Con Tryz.prog 291 true [.v (.bool neg), .ag [.sl (lim (m)).length (ints (lim (m)))], .v (.int .i64 k), .v (.int .i64 mode)] [] (isA (.v (.bool (upsB neg m k mode)))) := by
 refine Con.of_aw Tryz.func291 rfl Tryz.ntmps291 (by simp) (by simp) (by simp) (W.sound ?_)
 show @W Tryz.prog 44 ⟨_⟩ ⟨fun x σ => @retW _ _ _ ⟨_⟩ _ ⟨_⟩ x σ⟩ _ _
 have ek : ((k : Int) - 1) = ((k - 1 : Nat) : Int) := by omega
 have e1 : decide (((m / 2 ^ (k - 1) % 2 : Nat) : Int) = 1) = decide (m / 2 ^ (k - 1) % 2 = 1) := by rw [decide_eq_decide]; omega
 have e2 : decide (((m / 2 ^ k % 2 : Nat) : Int) = 1) = decide (m / 2 ^ k % 2 = 1) := by rw [decide_eq_decide]; omega
 have e3 : decide ((tz m : Int) < ((k - 1 : Nat) : Int)) = decide (tz m < k - 1) := by rw [decide_eq_decide]; omega
 simp (disch := omega) only [go_sem, ek]
 refine call_closed (con_l2bit m ((k - 1 : Nat) : Int) hl (by omega) (by omega)) (by simp (disch := omega) only [go_sem, ek]) ?_
 rintro r hs ⟨rfl, rfl, _⟩
 refine ⟨by simp [freeN], ?_⟩
 simp (disch := omega) only [go_sem, ek, e1]
 refine call_cI (con_l2trail m hl) ?_
 simp (disch := omega) only [go_sem]
 refine ifW_dec (fun h1 => ?_) (fun h1 => ?_)
 ·simp (disch := omega) only [go_sem, h1]
  exact fin_valc (by simp (disch := omega) only [go_sem]) (by simp (disch := omega) only [go_sem]) ⟨by simp [tupA, upsB, h1], rfl, rfl⟩
 ·simp (disch := omega) only [go_sem, h1]
  refine ifW_dec (fun h2 => ?_) (fun h2 => ?_)
  ·simp (disch := omega) only [go_sem, h2]
   exact fin_valc (by simp (disch := omega) only [go_sem]) (by simp (disch := omega) only [go_sem]) ⟨by simp [tupA, upsB, h2], rfl, rfl⟩
  ·simp (disch := omega) only [go_sem, h2]
   refine ifW_dec (fun h3 => ?_) (fun h3 => ?_)
   ·simp (disch := omega) only [go_sem, h3]
    exact fin_valc (by simp (disch := omega) only [go_sem]) (by simp (disch := omega) only [go_sem]) ⟨by simp [tupA, upsB, h3], rfl, rfl⟩
   ·simp (disch := omega) only [go_sem, h3]
    refine ifW_dec (fun h4 => ?_) (fun h4 => ?_)
    ·simp (disch := omega) only [go_sem, h4]
     exact fin_valc (by simp (disch := omega) only [go_sem]) (by simp (disch := omega) only [go_sem]) ⟨by simp [tupA, upsB, h4], rfl, rfl⟩
    ·simp (disch := omega) only [go_sem, h4]
     refine ifW_b (fun h5 => ?_) (fun h5 => ?_)
     ·simp (disch := omega) only [go_sem, h5]
      refine ifW_nb (fun h6 => ?_) (fun h6 => ?_)
      ·simp (disch := omega) only [go_sem, h6]
       refine call_cI (con_l2bit m (k : Int) hl (by omega) (by omega)) ?_
       simp (disch := omega) only [go_sem]
       have h7 : decide (tz m < k - 1) = false := by rw [← e3, ← ek]; exact h6
       rw [e2]
       refine fin_valc (by simp (disch := omega) only [go_sem]) (by simp (disch := omega) only [go_sem]) ⟨?_, rfl, rfl⟩
       show AV.v (.bool _) = AV.v (.bool _)
       unfold upsB; rw [if_neg h1, if_neg h2, if_neg h3, if_neg h4, h5, h7]; rfl
      ·simp (disch := omega) only [go_sem, h6]
       have h7 : decide (tz m < k - 1) = true := by rw [← e3, ← ek]; exact h6
       refine fin_valc (by simp (disch := omega) only [go_sem]) (by simp (disch := omega) only [go_sem]) ⟨?_, rfl, rfl⟩
       show AV.v (.bool _) = AV.v (.bool _)
       unfold upsB; rw [if_neg h1, if_neg h2, if_neg h3, if_neg h4, h5, h7]; rfl
     ·simp (disch := omega) only [go_sem, h5]
      refine fin_valc (by simp (disch := omega) only [go_sem]) (by simp (disch := omega) only [go_sem]) ⟨?_, rfl, rfl⟩
      show AV.v (.bool _) = AV.v (.bool _)
      unfold upsB; rw [if_neg h1, if_neg h2, if_neg h3, if_neg h4, h5]; rfl
def srM (s : Bool) (m : Nat) (e low mode : Int) : Nat := oM (roM s m e low mode)
def srE (s : Bool) (m : Nat) (e low mode : Int) : Int := if low ≤ e ∨ m = 0 then e else oE (roM s m e low mode) low
theorem con_l4round (s : Bool) (m : Nat) (e low mode : Int) (hodd : m % 2 = 1 ∨ m = 0) (hs : m = 0 → s = false) (hmode : 0 ≤ mode ∧ mode ≤ 4) (hm : bl m ≤ 4000000) (he : -1000000 ≤ e ∧ e ≤ 1000000) (hlo : -1000000 ≤ low ∧ low ≤ 1000000) :
  Con Tryz.prog 261 false [.ag [.v (.bool (s)), .sl (lim (m)).length (ints (lim (m))), .v (.int .i64 (e))], .v (.int .i64 low), .v (.int .i64 mode)] []
   (isA (.tu [.ag [.v (.bool (oS (roS s m e low mode) (roM s m e low mode))), .sl (lim (srM s m e low mode)).length (ints (lim (srM s m e low mode))), .v (.int .i64 (srE s m e low mode))], .v (.bool (roX m e low))])) := by
 refine Con.frzA ?_
 have l1 := len_bl hm
 refine Con.of_aw Tryz.func261 rfl Tryz.ntmps261 (by simp) (by simp) (by simp) (W.sound ?_)
 show @W Tryz.prog 51 ⟨_⟩ ⟨fun x σ => @retW _ _ _ ⟨_⟩ _ ⟨_⟩ x σ⟩ _ _
 simp (disch := omega) only [go_sem]
 refine ifW_not (fun h1 => ?_) (fun h1 => ?_)
 ·have h0 : m ≠ 0 := fun e => h1 (by rw [e, lim_zero]; rfl)
  have hod : m % 2 = 1 := hodd.resolve_right h0
  simp (disch := omega) only [go_sem, h1]
  refine ifW_dec (fun h2 => ?_) (fun h2 => ?_)
  ·simp (disch := omega) only [go_sem, h2]
   refine fin_val (by simp (disch := omega) only [go_sem]) ?_
   show snap _ 6 _ = _
   have ht := tz_odd hod
   have e3 : oM m = m := by unfold oM; rw [ht]; simp
   simp only [srM, srE, roM, roS, roX, h2, true_or, if_true, oS, if_neg h0, e3]
   simp (disch := omega) only [go_sem]
  ·simp (disch := omega) only [go_sem, h2]
   have ek : low - e = (((low - e).toNat : Nat) : Int) := by omega
   have hk1 : 1 ≤ (low - e).toNat := by omega
   refine call_open (con_l2shr m (low - e).toNat (by omega) (by omega)) (by simp (disch := omega) only [go_sem, ← ek]) ?_
   rintro r hs ⟨rfl, rfl, _⟩
   refine ⟨by simp [freeN], ?_⟩
   simp (disch := omega) only [go_sem]
   refine call_closed (con_l4ups s m (low - e).toNat mode (by omega) hk1 (by omega)) (by simp (disch := omega) only [go_sem, ← ek]) ?_
   rintro r hs ⟨rfl, rfl, _⟩
   refine ⟨by simp [freeN], ?_⟩
   simp (disch := omega) only [go_sem]
   have hc : ¬ (low ≤ e ∨ m = 0) := by omega
   have hne := odd_mod hod hk1
   have hups := ups_eq (neg := s) hod hk1 hmode
   have hq : roM s m e low mode = if upsB s m (low - e).toNat mode = true then m / 2 ^ (low - e).toNat + 1 else m / 2 ^ (low - e).toNat := by
    unfold roM rq
    rw [if_neg hc, if_neg hne, ← hups]
   have hro : roS s m e low mode = (s && decide (roM s m e low mode ≠ 0)) := by unfold roS roM; rw [if_neg hc, if_neg hc]
   have hblq : bl (m / 2 ^ (low - e).toNat + 1) ≤ 4000001 := by
    have h3 := bl_succ (m / 2 ^ (low - e).toNat)
    have h4 := bl_divle m (2 ^ (low - e).toNat)
    omega
   have hblq0 : bl (m / 2 ^ (low - e).toNat) ≤ 4000001 := Nat.le_trans (bl_mono (by omega)) hblq
   have lq := len_bl hblq
   have lq0 := len_bl hblq0
   have hrx : roX m e low = false := by unfold roX; rw [if_neg hc]; simp [hne]
   have hfin : ∀ q, roM s m e low mode = q → bl q ≤ 4000001 → AV.ag [.v (.bool (oS (s && decide (q ≠ 0)) q)), .sl (lim (oM q)).length (ints (lim (oM q))), .v (.int .i64 (oE q low))] = AV.ag [.v (.bool (oS (roS s m e low mode) (roM s m e low mode))), .sl (lim (srM s m e low mode)).length (ints (lim (srM s m e low mode))), .v (.int .i64 (srE s m e low mode))] := by
    intro q hq' _
    rw [hro, hq']
    unfold srM srE
    rw [if_neg hc, hq']
   refine ifW_b (fun h3 => ?_) (fun h3 => ?_)
   ·rw [if_pos h3] at hq
    simp (disch := omega) only [go_sem, h3]
    refine draw_of rfl [⟨0, [], []⟩, ⟨1, [0], []⟩, ⟨2, [], []⟩, ⟨3, [], []⟩] (by kernel_rfl) ?_
    simp (disch := omega) only [go_sem]
    refine call_oI (con_l2ofF 1 (by omega)) ?_
    simp (disch := omega) only [go_sem]
    refine call_oI (con_l2addF (m / 2 ^ (low - e).toNat) 1 (by omega) (by have := len_bl (m := 1) (B := 1) (by decide); omega)) ?_
    simp (disch := omega) only [go_sem]
    refine call_oI (con_l3make s (m / 2 ^ (low - e).toNat + 1) (by omega)) ?_
    simp (disch := omega) only [go_sem]
    refine call_oI (con_l4make (s && decide (m / 2 ^ (low - e).toNat + 1 ≠ 0)) (m / 2 ^ (low - e).toNat + 1) low (by omega) (by omega)) ?_
    simp (disch := omega) only [go_sem]
    refine fin_val (by simp (disch := omega) only [go_sem]) ?_
    show snap _ 6 _ = _
    rw [← hfin _ hq hblq, hrx]
    simp (disch := omega) only [go_sem]
   ·rw [if_neg (by rw [h3]; simp)] at hq
    simp (disch := omega) only [go_sem, h3]
    refine call_oI (con_l3make s (m / 2 ^ (low - e).toNat) (by omega)) ?_
    simp (disch := omega) only [go_sem]
    refine call_oI (con_l4make (s && decide (m / 2 ^ (low - e).toNat ≠ 0)) (m / 2 ^ (low - e).toNat) low (by omega) (by omega)) ?_
    simp (disch := omega) only [go_sem]
    refine fin_val (by simp (disch := omega) only [go_sem]) ?_
    show snap _ 6 _ = _
    rw [← hfin _ hq hblq0, hrx]
    simp (disch := omega) only [go_sem]
 ·have h0 : m = 0 := lim_eq_nil.1 (List.length_eq_zero_iff.1 (by omega))
  simp (disch := omega) only [go_sem, h1]
  refine fin_val (by simp (disch := omega) only [go_sem]) ?_
  show snap _ 6 _ = _
  have hs0 := hs h0
  subst h0
  subst hs0
  simp only [srM, srE, roM, roS, roX, or_true, if_true, oS, oM_zero]
  simp (disch := omega) only [go_sem]
end Go.Ab
namespace Go.Ab
open Go Go.Proofs
set_option linter.unusedVariables false
set_option linter.unusedSimpArgs false
theorem con_l5nan : Con Tryz.prog 204 true [] [] (isA (.ag [.v (.int .i64 (3)), .v (.bool (false)), .v (.int .i64 (0)), .v (.int .i64 (0))])) := by
 refine Con.of_w (rs := [.cell 0 63]) Tryz.func204 rfl Tryz.ntmps204 rfl ?_
 simp (disch := omega) only [go_sem]
 exact fin_cI
theorem con_l5most (s : Bool) : Con Tryz.prog 256 true [.v (.bool s)] [] (isA (.ag [.v (.int .i64 (1)), .v (.bool (s)), .v (.int .i64 (9007199254740991)), .v (.int .i64 (971))])) := by
 refine Con.of_w (rs := [.cell 2 63]) Tryz.func256 rfl Tryz.ntmps256 rfl ?_
 simp (disch := omega) only [go_sem]
 exact fin_cI
theorem sr_eq {s : Bool} {m : Nat} {e low mode : Int} (hodd : m % 2 = 1) : srM s m e low mode = oM (roM s m e low mode) ∧ srE s m e low mode = oE (roM s m e low mode) (roE m e low) := by
 refine ⟨rfl, ?_⟩
 unfold srE
 by_cases h : low ≤ e ∨ m = 0
 ·have h0 : m ≠ 0 := fun e => by omega
  rw [if_pos h]
  unfold roM roE oE
  rw [if_pos h, if_pos h, if_neg h0, tz_odd hodd]; simp
 ·rw [if_neg h]
  unfold roE
  rw [if_neg h]
theorem roS_eq {s : Bool} {m : Nat} {e low mode : Int} (h : roM s m e low mode ≠ 0) : oS (roS s m e low mode) (roM s m e low mode) = s := by
 unfold oS; rw [if_neg h]
 unfold roS roM at *
 by_cases hc : low ≤ e ∨ m = 0
 ·rw [if_pos hc]
 ·rw [if_neg hc] at h ⊢
  simp [h]
theorem oE_bnd {m : Nat} {e : Int} {B : Nat} (h : bl m ≤ B) (he : -1000000 ≤ e ∧ e ≤ 1000000) : -1000000 ≤ oE m e ∧ oE m e ≤ 1000000 + B := by
 unfold oE
 by_cases h0 : m = 0
 ·rw [if_pos h0]; omega
 ·rw [if_neg h0]; have := tz_lt_bl h0; omega
set_option maxRecDepth 100000 in
set_option maxHeartbeats 1000000 in
theorem con_l5round (s : Bool) (m : Nat) (e mode : Int) (z : Bool) (hodd : m % 2 = 1 ∨ m = 0) (hs : m = 0 → s = false) (hmode : 0 ≤ mode ∧ mode ≤ 4) (hm : bl m ≤ 100000) (he : -100000 ≤ e ∧ e ≤ 100000) :
  Con Tryz.prog 205 true [.ag [.v (.bool (s)), .sl (lim (m)).length (ints (lim (m))), .v (.int .i64 (e))], .v (.int .i64 mode), .v (.bool z)] []
   (isA (.tu [.ag [.v (.int .i64 ((flV s m e mode z).k)), .v (.bool ((flV s m e mode z).s)), .v (.int .i64 ((flV s m e mode z).m)), .v (.int .i64 ((flV s m e mode z).e))], .v (.int .i64 (flG s m e mode))])) := by
 have hl := len_bl hm
 refine Con.of_aw Tryz.func205 rfl Tryz.ntmps205 (by simp) (by simp) (by simp) (W.sound ?_)
 show @W Tryz.prog 105 ⟨_⟩ ⟨fun x σ => @retW _ _ _ ⟨_⟩ _ ⟨_⟩ x σ⟩ _ _
 simp (disch := omega) only [go_sem]
 refine ifW_dec (fun h1 => ?_) (fun h1 => ?_)
 ·have h0 : m = 0 := lim_eq_nil.1 (List.length_eq_zero_iff.1 (by omega))
  simp (disch := omega) only [go_sem, h1]
  refine fin_valc (by simp (disch := omega) only [go_sem]) (by simp (disch := omega) only [go_sem]) ⟨?_, rfl, rfl⟩
  simp only [tupA, flV, flG, h0, if_true]
 ·have h0 : m ≠ 0 := fun e => h1 (by rw [e, lim_zero]; rfl)
  have hod : m % 2 = 1 := hodd.resolve_right h0
  simp (disch := omega) only [go_sem, h1]
  have etop : (if m = 0 then (0 : Int) else e + (bl m : Int)) = (bl m : Int) + e := by rw [if_neg h0]; omega
  refine call_cI (con_l4top s m e (by omega) (by omega)) ?_ (by simp (disch := omega) only [go_sem, etop])
  simp (disch := omega) only [go_sem]
  simp (disch := omega) only [go_sem, etop]
  have hL0 : flLow ((bl m : Int) + e) = (if -1074 > (bl m : Int) + e - 53 then -1074 else (bl m : Int) + e - 53) := rfl
  have hVG : ∀ (k mm ee fg : Int), flK s mode (roM s m e (flLow (bl m + e)) mode) (roE m e (flLow (bl m + e))) = k → flMm s mode (roM s m e (flLow (bl m + e)) mode) (roE m e (flLow (bl m + e))) = mm → flEe s mode (roM s m e (flLow (bl m + e)) mode) (roE m e (flLow (bl m + e))) = ee →
    flFl (bl m + e) (roX m e (flLow (bl m + e))) (roM s m e (flLow (bl m + e)) mode) (roE m e (flLow (bl m + e))) = fg →
    AV.tu [.ag [.v (.int .i64 k), .v (.bool s), .v (.int .i64 mm), .v (.int .i64 ee)], .v (.int .i64 fg)] = .tu [.ag [.v (.int .i64 ((flV s m e mode z).k)), .v (.bool ((flV s m e mode z).s)), .v (.int .i64 ((flV s m e mode z).m)), .v (.int .i64 ((flV s m e mode z).e))], .v (.int .i64 (flG s m e mode))] := by
   intro k mm ee fg g1 g2 g3 g4
   unfold flV flG
   rw [if_neg h0, if_neg h0, g1, g2, g3, g4]
  have hform := ro_form (s := s) (m := m) (e := e) (mode := mode) h0
  refine ifW_dec (fun h2 => ?_) (fun h2 => ?_)
  ·have hL : flLow ((bl m : Int) + e) = -1074 := by unfold flLow; rw [if_pos (by omega)]
   simp (disch := omega) only [go_sem, h2]
   have hbl := ro_bl (s := s) (e := e) (low := -1074) (mode := mode) hm
   have hroE : -1000000 ≤ roE m e (-1074) ∧ roE m e (-1074) ≤ 1000000 := by unfold roE; split <;> omega
   obtain ⟨q1, q2⟩ := sr_eq (s := s) (e := e) (low := -1074) (mode := mode) hod
   have q3 := roS_eq (s := s) (m := m) (e := e) (low := -1074) (mode := mode)
   refine call_oI (con_l4round s m e (-1074) mode hodd hs hmode (by omega) (by omega) (by omega)) ?_ (by simp (disch := omega) only [go_sem, etop])
   simp (disch := omega) only [go_sem]
   rw [hL] at hVG hform
   generalize srM s m e (-1074) mode = xm at *
   generalize srE s m e (-1074) mode = xe at *
   generalize oS (roS s m e (-1074) mode) (roM s m e (-1074) mode) = xs at *
   generalize hrm : roM s m e (-1074) mode = rm at *
   generalize hre : roE m e (-1074) = re at *
   generalize hrx : roX m e (-1074) = same at *
   have hxm0 : ((lim xm).length : Int) = 0 ↔ rm = 0 := by rw [q1, ← oM_eq_zero]; exact ⟨fun h => lim_eq_nil.1 (List.length_eq_zero_iff.1 (by omega)), fun h => by rw [h, lim_zero]; rfl⟩
   have hxmb : bl xm ≤ 100001 := by rw [q1]; exact Nat.le_trans (bl_mono (oM_le rm)) hbl
   have lxm := len_bl hxmb
   have hxeb : -2000000 ≤ xe ∧ xe ≤ 2000000 := by have := oE_bnd hbl hroE; omega
   have etop2 : rm ≠ 0 → (if xm = 0 then (0 : Int) else xe + (bl xm : Int)) = (bl rm : Int) + re := fun h => by
    have h2 := bl_oM h
    have h3 : xm ≠ 0 := by rw [q1]; exact fun e => h (oM_eq_zero.1 e)
    rw [if_neg h3, q2, q1]; unfold oE; rw [if_neg h]; omega
   refine ifW_nb (fun h3 => ?_) (fun h3 => ?_)
   ·simp (disch := omega) only [go_sem, h3]
    refine call_cI (con_l4top s m e (by omega) (by omega)) ?_ (by simp (disch := omega) only [go_sem, etop])
    simp (disch := omega) only [go_sem]
    simp (disch := omega) only [go_sem, etop]
    refine ifW_dec (fun h4 => ?_) (fun h4 => ?_)
    ·have hfl : flFlags (bl m + e) same = 5 := by unfold flFlags; rw [h3, if_neg (by simp), if_pos (by omega)]
     have e5 : ((1 ||| 4 : Nat) : Int) = 5 := rfl
     simp (disch := omega) only [go_sem, h4, e5]
     refine ifW_dec (fun h5 => ?_) (fun h5 => ?_)
     ·have hr0 : rm = 0 := hxm0.1 h5
      simp (disch := omega) only [go_sem, h5]
      refine fin_valc (by simp (disch := omega) only [go_sem]) (by simp (disch := omega) only [go_sem]) ⟨?_, rfl, rfl⟩
      refine hVG 0 0 0 5 (by simp [flK, hr0]) (by simp [flMm, hr0]) (by simp [flEe, hr0]) (by simp [flFl, hr0, hfl])
     ·have hr0 : rm ≠ 0 := fun e => h5 (hxm0.2 e)
      have et2 := etop2 hr0
      have hxs : xs = s := q3 hr0
      have hff := hform hr0
      have hM := flM_lt hr0 hff
      simp (disch := omega) only [go_sem, h5]
      refine call_cI (con_l4top xs xm xe (by omega) (by omega)) ?_ (by simp (disch := omega) only [go_sem, et2])
      simp (disch := omega) only [go_sem]
      simp (disch := omega) only [go_sem, et2]
      refine ifW_dec (fun h6 => ?_) (fun h6 => ?_)
      ·have hov : ∀ (k mm ee : Int), k = (if ovB s mode then 1 else 2) → mm = (if ovB s mode then 9007199254740991 else 0) → ee = (if ovB s mode then 971 else 0) → AV.tu [.ag [.v (.int .i64 k), .v (.bool s), .v (.int .i64 mm), .v (.int .i64 ee)], .v (.int .i64 3)] = .tu [.ag [.v (.int .i64 ((flV s m e mode z).k)), .v (.bool ((flV s m e mode z).s)), .v (.int .i64 ((flV s m e mode z).m)), .v (.int .i64 ((flV s m e mode z).e))], .v (.int .i64 (flG s m e mode))] := by
        rintro k mm ee rfl rfl rfl
        exact hVG _ _ _ 3 (by unfold flK; rw [if_neg hr0, if_pos h6]) (by unfold flMm; rw [if_neg hr0, if_pos h6]) (by unfold flEe; rw [if_neg hr0, if_pos h6]) (by unfold flFl; rw [if_pos ⟨hr0, h6⟩])
       clear hVG hform hrm hrx q3 hxs et2 hfl
       obtain rfl | rfl | rfl | rfl | rfl : mode = 0 ∨ mode = 1 ∨ mode = 2 ∨ mode = 3 ∨ mode = 4 := by omega
       ·cases s
        ·simp (disch := omega) only [go_sem, h6]
         refine fin_valc (by simp (disch := omega) only [go_sem]) (by simp (disch := omega) only [go_sem]) ⟨?_, rfl, rfl⟩
         exact hov _ _ _ rfl rfl rfl
        ·simp (disch := omega) only [go_sem, h6]
         refine fin_valc (by simp (disch := omega) only [go_sem]) (by simp (disch := omega) only [go_sem]) ⟨?_, rfl, rfl⟩
         exact hov _ _ _ rfl rfl rfl
       ·cases s
        ·simp (disch := omega) only [go_sem, h6]
         refine call_cI (con_l5most false) ?_
         simp (disch := omega) only [go_sem]
         refine fin_valc (by simp (disch := omega) only [go_sem]) (by simp (disch := omega) only [go_sem]) ⟨?_, rfl, rfl⟩
         exact hov _ _ _ rfl rfl rfl
        ·simp (disch := omega) only [go_sem, h6]
         refine call_cI (con_l5most true) ?_
         simp (disch := omega) only [go_sem]
         refine fin_valc (by simp (disch := omega) only [go_sem]) (by simp (disch := omega) only [go_sem]) ⟨?_, rfl, rfl⟩
         exact hov _ _ _ rfl rfl rfl
       ·cases s
        ·simp (disch := omega) only [go_sem, h6]
         refine fin_valc (by simp (disch := omega) only [go_sem]) (by simp (disch := omega) only [go_sem]) ⟨?_, rfl, rfl⟩
         exact hov _ _ _ rfl rfl rfl
        ·simp (disch := omega) only [go_sem, h6]
         refine call_cI (con_l5most true) ?_
         simp (disch := omega) only [go_sem]
         refine fin_valc (by simp (disch := omega) only [go_sem]) (by simp (disch := omega) only [go_sem]) ⟨?_, rfl, rfl⟩
         exact hov _ _ _ rfl rfl rfl
       ·cases s
        ·simp (disch := omega) only [go_sem, h6]
         refine call_cI (con_l5most false) ?_
         simp (disch := omega) only [go_sem]
         refine fin_valc (by simp (disch := omega) only [go_sem]) (by simp (disch := omega) only [go_sem]) ⟨?_, rfl, rfl⟩
         exact hov _ _ _ rfl rfl rfl
        ·simp (disch := omega) only [go_sem, h6]
         refine fin_valc (by simp (disch := omega) only [go_sem]) (by simp (disch := omega) only [go_sem]) ⟨?_, rfl, rfl⟩
         exact hov _ _ _ rfl rfl rfl
       ·cases s
        ·simp (disch := omega) only [go_sem, h6]
         refine fin_valc (by simp (disch := omega) only [go_sem]) (by simp (disch := omega) only [go_sem]) ⟨?_, rfl, rfl⟩
         exact hov _ _ _ rfl rfl rfl
        ·simp (disch := omega) only [go_sem, h6]
         refine fin_valc (by simp (disch := omega) only [go_sem]) (by simp (disch := omega) only [go_sem]) ⟨?_, rfl, rfl⟩
         exact hov _ _ _ rfl rfl rfl
      ·simp (disch := omega) only [go_sem, h6]
       refine call_cI (con_l4top xs xm xe (by omega) (by omega)) ?_ (by simp (disch := omega) only [go_sem, et2])
       simp (disch := omega) only [go_sem]
       simp (disch := omega) only [go_sem, et2]
       have hfin : ∀ mm : Int, mm = (flM rm re : Int) → AV.tu [.ag [.v (.int .i64 1), .v (.bool xs), .v (.int .i64 mm), .v (.int .i64 (flE rm re))], .v (.int .i64 5)] = .tu [.ag [.v (.int .i64 ((flV s m e mode z).k)), .v (.bool ((flV s m e mode z).s)), .v (.int .i64 ((flV s m e mode z).m)), .v (.int .i64 ((flV s m e mode z).e))], .v (.int .i64 (flG s m e mode))] := by
        rintro mm rfl
        rw [hxs]
        exact hVG 1 _ _ 5 (by unfold flK; rw [if_neg hr0, if_neg (by omega)]) (by unfold flMm; rw [if_neg hr0, if_neg (by omega)]) (by unfold flEe; rw [if_neg hr0, if_neg (by omega)]) (by unfold flFl; rw [if_neg (by omega), hfl])
       have ek : xe - flE rm re = (((oE rm re - flE rm re).toNat : Nat) : Int) := by omega
       have hk9 : (oE rm re - flE rm re).toNat ≤ 53 := by have h9 := hM; unfold flM at h9; rw [bl_mul_pow (fun e => hr0 (oM_eq_zero.1 e))] at h9; omega
       have hM6 : flM rm re < 2 ^ 53 := Nat.lt_of_lt_of_le (bl_lt _) (Nat.pow_le_pow_right (by omega) hM)
       have eM : xm * 2 ^ (oE rm re - flE rm re).toNat = flM rm re := by rw [q1]; rfl
       generalize hkk : (oE rm re - flE rm re).toNat = kk at *
       refine ifW_dec (fun h7 => ?_) (fun h7 => ?_)
       ·have eE : flE rm re = -1074 := by unfold flE flLow; rw [if_pos (by omega)]
        simp (disch := omega) only [go_sem, h7]
        rw [eE] at ek hfin
        try rw [← et2] at hfin
        refine draw_of rfl [⟨0, [], []⟩, ⟨1, [], []⟩, ⟨2, [], []⟩, ⟨3, [2], []⟩, ⟨4, [2], []⟩, ⟨5, [2], []⟩, ⟨6, [2, 5], []⟩, ⟨7, [2, 5], []⟩, ⟨8, [2, 5, 7], []⟩, ⟨9, [2, 5], []⟩, ⟨12, [2, 5, 7], []⟩, ⟨14, [2, 5, 7], []⟩, ⟨10, [2], []⟩, ⟨11, [2], []⟩, ⟨13, [], []⟩, ⟨15, [], []⟩, ⟨16, [], []⟩] (by kernel_rfl) ?_
        simp (disch := omega) only [go_sem]
        refine call_open (con_l2shlF xm kk (by omega) (by omega)) (by simp (disch := omega) only [go_sem, ek, et2]) ?_
        rintro r hs ⟨rfl, rfl, _⟩
        refine ⟨by simp [freeN], ?_⟩
        simp (disch := omega) only [go_sem]
        refine call_cI (con_l2int (xm * 2 ^ kk) (by rw [eM]; omega)) ?_
        simp (disch := omega) only [go_sem]
        refine fin_valc (by simp (disch := omega) only [go_sem]) (by simp (disch := omega) only [go_sem]) ⟨?_, rfl, rfl⟩
        exact hfin ((xm * 2 ^ kk : Nat) : Int) (by rw [eM])
       ·have eE : flE rm re = (bl rm : Int) + re - 53 := by unfold flE flLow; rw [if_neg (by omega)]
        simp (disch := omega) only [go_sem, h7]
        rw [eE] at ek hfin
        try rw [← et2] at hfin
        refine draw_of rfl [⟨0, [], []⟩, ⟨1, [], []⟩, ⟨2, [], []⟩, ⟨3, [2], []⟩, ⟨4, [2], []⟩, ⟨5, [2], []⟩, ⟨6, [2, 5], []⟩, ⟨7, [2, 5], []⟩, ⟨8, [2, 5, 7], []⟩, ⟨9, [2, 5], []⟩, ⟨12, [2, 5, 7], []⟩, ⟨14, [2, 5, 7], []⟩, ⟨10, [2], []⟩, ⟨11, [2], []⟩, ⟨13, [], []⟩, ⟨15, [], []⟩, ⟨16, [], []⟩] (by kernel_rfl) ?_
        simp (disch := omega) only [go_sem]
        refine call_open (con_l2shlF xm kk (by omega) (by omega)) (by simp (disch := omega) only [go_sem, ek, et2]) ?_
        rintro r hs ⟨rfl, rfl, _⟩
        refine ⟨by simp [freeN], ?_⟩
        simp (disch := omega) only [go_sem]
        refine call_cI (con_l2int (xm * 2 ^ kk) (by rw [eM]; omega)) ?_
        simp (disch := omega) only [go_sem]
        refine fin_valc (by simp (disch := omega) only [go_sem]) (by simp (disch := omega) only [go_sem]) ⟨?_, rfl, rfl⟩
        exact hfin ((xm * 2 ^ kk : Nat) : Int) (by rw [eM])
    ·have hfl : flFlags (bl m + e) same = 1 := by unfold flFlags; rw [h3, if_neg (by simp), if_neg (by omega)]
     have e5 := (rfl : (0 : Nat) = 0)
     simp (disch := omega) only [go_sem, h4]
     refine ifW_dec (fun h5 => ?_) (fun h5 => ?_)
     ·have hr0 : rm = 0 := hxm0.1 h5
      simp (disch := omega) only [go_sem, h5]
      refine fin_valc (by simp (disch := omega) only [go_sem]) (by simp (disch := omega) only [go_sem]) ⟨?_, rfl, rfl⟩
      refine hVG 0 0 0 1 (by simp [flK, hr0]) (by simp [flMm, hr0]) (by simp [flEe, hr0]) (by simp [flFl, hr0, hfl])
     ·have hr0 : rm ≠ 0 := fun e => h5 (hxm0.2 e)
      have et2 := etop2 hr0
      have hxs : xs = s := q3 hr0
      have hff := hform hr0
      have hM := flM_lt hr0 hff
      simp (disch := omega) only [go_sem, h5]
      refine call_cI (con_l4top xs xm xe (by omega) (by omega)) ?_ (by simp (disch := omega) only [go_sem, et2])
      simp (disch := omega) only [go_sem]
      simp (disch := omega) only [go_sem, et2]
      refine ifW_dec (fun h6 => ?_) (fun h6 => ?_)
      ·have hov : ∀ (k mm ee : Int), k = (if ovB s mode then 1 else 2) → mm = (if ovB s mode then 9007199254740991 else 0) → ee = (if ovB s mode then 971 else 0) → AV.tu [.ag [.v (.int .i64 k), .v (.bool s), .v (.int .i64 mm), .v (.int .i64 ee)], .v (.int .i64 3)] = .tu [.ag [.v (.int .i64 ((flV s m e mode z).k)), .v (.bool ((flV s m e mode z).s)), .v (.int .i64 ((flV s m e mode z).m)), .v (.int .i64 ((flV s m e mode z).e))], .v (.int .i64 (flG s m e mode))] := by
        rintro k mm ee rfl rfl rfl
        exact hVG _ _ _ 3 (by unfold flK; rw [if_neg hr0, if_pos h6]) (by unfold flMm; rw [if_neg hr0, if_pos h6]) (by unfold flEe; rw [if_neg hr0, if_pos h6]) (by unfold flFl; rw [if_pos ⟨hr0, h6⟩])
       clear hVG hform hrm hrx q3 hxs et2 hfl
       obtain rfl | rfl | rfl | rfl | rfl : mode = 0 ∨ mode = 1 ∨ mode = 2 ∨ mode = 3 ∨ mode = 4 := by omega
       ·cases s
        ·simp (disch := omega) only [go_sem, h6]
         refine fin_valc (by simp (disch := omega) only [go_sem]) (by simp (disch := omega) only [go_sem]) ⟨?_, rfl, rfl⟩
         exact hov _ _ _ rfl rfl rfl
        ·simp (disch := omega) only [go_sem, h6]
         refine fin_valc (by simp (disch := omega) only [go_sem]) (by simp (disch := omega) only [go_sem]) ⟨?_, rfl, rfl⟩
         exact hov _ _ _ rfl rfl rfl
       ·cases s
        ·simp (disch := omega) only [go_sem, h6]
         refine call_cI (con_l5most false) ?_
         simp (disch := omega) only [go_sem]
         refine fin_valc (by simp (disch := omega) only [go_sem]) (by simp (disch := omega) only [go_sem]) ⟨?_, rfl, rfl⟩
         exact hov _ _ _ rfl rfl rfl
        ·simp (disch := omega) only [go_sem, h6]
         refine call_cI (con_l5most true) ?_
         simp (disch := omega) only [go_sem]
         refine fin_valc (by simp (disch := omega) only [go_sem]) (by simp (disch := omega) only [go_sem]) ⟨?_, rfl, rfl⟩
         exact hov _ _ _ rfl rfl rfl
       ·cases s
        ·simp (disch := omega) only [go_sem, h6]
         refine fin_valc (by simp (disch := omega) only [go_sem]) (by simp (disch := omega) only [go_sem]) ⟨?_, rfl, rfl⟩
         exact hov _ _ _ rfl rfl rfl
        ·simp (disch := omega) only [go_sem, h6]
         refine call_cI (con_l5most true) ?_
         simp (disch := omega) only [go_sem]
         refine fin_valc (by simp (disch := omega) only [go_sem]) (by simp (disch := omega) only [go_sem]) ⟨?_, rfl, rfl⟩
         exact hov _ _ _ rfl rfl rfl
       ·cases s
        ·simp (disch := omega) only [go_sem, h6]
         refine call_cI (con_l5most false) ?_
         simp (disch := omega) only [go_sem]
         refine fin_valc (by simp (disch := omega) only [go_sem]) (by simp (disch := omega) only [go_sem]) ⟨?_, rfl, rfl⟩
         exact hov _ _ _ rfl rfl rfl
        ·simp (disch := omega) only [go_sem, h6]
         refine fin_valc (by simp (disch := omega) only [go_sem]) (by simp (disch := omega) only [go_sem]) ⟨?_, rfl, rfl⟩
         exact hov _ _ _ rfl rfl rfl
       ·cases s
        ·simp (disch := omega) only [go_sem, h6]
         refine fin_valc (by simp (disch := omega) only [go_sem]) (by simp (disch := omega) only [go_sem]) ⟨?_, rfl, rfl⟩
         exact hov _ _ _ rfl rfl rfl
        ·simp (disch := omega) only [go_sem, h6]
         refine fin_valc (by simp (disch := omega) only [go_sem]) (by simp (disch := omega) only [go_sem]) ⟨?_, rfl, rfl⟩
         exact hov _ _ _ rfl rfl rfl
      ·simp (disch := omega) only [go_sem, h6]
       refine call_cI (con_l4top xs xm xe (by omega) (by omega)) ?_ (by simp (disch := omega) only [go_sem, et2])
       simp (disch := omega) only [go_sem]
       simp (disch := omega) only [go_sem, et2]
       have hfin : ∀ mm : Int, mm = (flM rm re : Int) → AV.tu [.ag [.v (.int .i64 1), .v (.bool xs), .v (.int .i64 mm), .v (.int .i64 (flE rm re))], .v (.int .i64 1)] = .tu [.ag [.v (.int .i64 ((flV s m e mode z).k)), .v (.bool ((flV s m e mode z).s)), .v (.int .i64 ((flV s m e mode z).m)), .v (.int .i64 ((flV s m e mode z).e))], .v (.int .i64 (flG s m e mode))] := by
        rintro mm rfl
        rw [hxs]
        exact hVG 1 _ _ 1 (by unfold flK; rw [if_neg hr0, if_neg (by omega)]) (by unfold flMm; rw [if_neg hr0, if_neg (by omega)]) (by unfold flEe; rw [if_neg hr0, if_neg (by omega)]) (by unfold flFl; rw [if_neg (by omega), hfl])
       have ek : xe - flE rm re = (((oE rm re - flE rm re).toNat : Nat) : Int) := by omega
       have hk9 : (oE rm re - flE rm re).toNat ≤ 53 := by have h9 := hM; unfold flM at h9; rw [bl_mul_pow (fun e => hr0 (oM_eq_zero.1 e))] at h9; omega
       have hM6 : flM rm re < 2 ^ 53 := Nat.lt_of_lt_of_le (bl_lt _) (Nat.pow_le_pow_right (by omega) hM)
       have eM : xm * 2 ^ (oE rm re - flE rm re).toNat = flM rm re := by rw [q1]; rfl
       generalize hkk : (oE rm re - flE rm re).toNat = kk at *
       refine ifW_dec (fun h7 => ?_) (fun h7 => ?_)
       ·have eE : flE rm re = -1074 := by unfold flE flLow; rw [if_pos (by omega)]
        simp (disch := omega) only [go_sem, h7]
        rw [eE] at ek hfin
        try rw [← et2] at hfin
        refine draw_of rfl [⟨0, [], []⟩, ⟨1, [], []⟩, ⟨2, [], []⟩, ⟨3, [2], []⟩, ⟨4, [2], []⟩, ⟨5, [2], []⟩, ⟨6, [2, 5], []⟩, ⟨7, [2, 5], []⟩, ⟨8, [2, 5, 7], []⟩, ⟨9, [2, 5], []⟩, ⟨12, [2, 5, 7], []⟩, ⟨14, [2, 5, 7], []⟩, ⟨10, [2], []⟩, ⟨11, [2], []⟩, ⟨13, [], []⟩, ⟨15, [], []⟩, ⟨16, [], []⟩] (by kernel_rfl) ?_
        simp (disch := omega) only [go_sem]
        refine call_open (con_l2shlF xm kk (by omega) (by omega)) (by simp (disch := omega) only [go_sem, ek, et2]) ?_
        rintro r hs ⟨rfl, rfl, _⟩
        refine ⟨by simp [freeN], ?_⟩
        simp (disch := omega) only [go_sem]
        refine call_cI (con_l2int (xm * 2 ^ kk) (by rw [eM]; omega)) ?_
        simp (disch := omega) only [go_sem]
        refine fin_valc (by simp (disch := omega) only [go_sem]) (by simp (disch := omega) only [go_sem]) ⟨?_, rfl, rfl⟩
        exact hfin ((xm * 2 ^ kk : Nat) : Int) (by rw [eM])
       ·have eE : flE rm re = (bl rm : Int) + re - 53 := by unfold flE flLow; rw [if_neg (by omega)]
        simp (disch := omega) only [go_sem, h7]
        rw [eE] at ek hfin
        try rw [← et2] at hfin
        refine draw_of rfl [⟨0, [], []⟩, ⟨1, [], []⟩, ⟨2, [], []⟩, ⟨3, [2], []⟩, ⟨4, [2], []⟩, ⟨5, [2], []⟩, ⟨6, [2, 5], []⟩, ⟨7, [2, 5], []⟩, ⟨8, [2, 5, 7], []⟩, ⟨9, [2, 5], []⟩, ⟨12, [2, 5, 7], []⟩, ⟨14, [2, 5, 7], []⟩, ⟨10, [2], []⟩, ⟨11, [2], []⟩, ⟨13, [], []⟩, ⟨15, [], []⟩, ⟨16, [], []⟩] (by kernel_rfl) ?_
        simp (disch := omega) only [go_sem]
        refine call_open (con_l2shlF xm kk (by omega) (by omega)) (by simp (disch := omega) only [go_sem, ek, et2]) ?_
        rintro r hs ⟨rfl, rfl, _⟩
        refine ⟨by simp [freeN], ?_⟩
        simp (disch := omega) only [go_sem]
        refine call_cI (con_l2int (xm * 2 ^ kk) (by rw [eM]; omega)) ?_
        simp (disch := omega) only [go_sem]
        refine fin_valc (by simp (disch := omega) only [go_sem]) (by simp (disch := omega) only [go_sem]) ⟨?_, rfl, rfl⟩
        exact hfin ((xm * 2 ^ kk : Nat) : Int) (by rw [eM])
   ·have hfl : flFlags (bl m + e) same = 0 := by unfold flFlags; rw [h3, if_pos rfl]
    have e5 := (rfl : (0 : Nat) = 0)
    simp (disch := omega) only [go_sem, h3]
    refine ifW_dec (fun h5 => ?_) (fun h5 => ?_)
    ·have hr0 : rm = 0 := hxm0.1 h5
     simp (disch := omega) only [go_sem, h5]
     refine fin_valc (by simp (disch := omega) only [go_sem]) (by simp (disch := omega) only [go_sem]) ⟨?_, rfl, rfl⟩
     refine hVG 0 0 0 0 (by simp [flK, hr0]) (by simp [flMm, hr0]) (by simp [flEe, hr0]) (by simp [flFl, hr0, hfl])
    ·have hr0 : rm ≠ 0 := fun e => h5 (hxm0.2 e)
     have et2 := etop2 hr0
     have hxs : xs = s := q3 hr0
     have hff := hform hr0
     have hM := flM_lt hr0 hff
     simp (disch := omega) only [go_sem, h5]
     refine call_cI (con_l4top xs xm xe (by omega) (by omega)) ?_ (by simp (disch := omega) only [go_sem, et2])
     simp (disch := omega) only [go_sem]
     simp (disch := omega) only [go_sem, et2]
     refine ifW_dec (fun h6 => ?_) (fun h6 => ?_)
     ·have hov : ∀ (k mm ee : Int), k = (if ovB s mode then 1 else 2) → mm = (if ovB s mode then 9007199254740991 else 0) → ee = (if ovB s mode then 971 else 0) → AV.tu [.ag [.v (.int .i64 k), .v (.bool s), .v (.int .i64 mm), .v (.int .i64 ee)], .v (.int .i64 3)] = .tu [.ag [.v (.int .i64 ((flV s m e mode z).k)), .v (.bool ((flV s m e mode z).s)), .v (.int .i64 ((flV s m e mode z).m)), .v (.int .i64 ((flV s m e mode z).e))], .v (.int .i64 (flG s m e mode))] := by
       rintro k mm ee rfl rfl rfl
       exact hVG _ _ _ 3 (by unfold flK; rw [if_neg hr0, if_pos h6]) (by unfold flMm; rw [if_neg hr0, if_pos h6]) (by unfold flEe; rw [if_neg hr0, if_pos h6]) (by unfold flFl; rw [if_pos ⟨hr0, h6⟩])
      clear hVG hform hrm hrx q3 hxs et2 hfl
      obtain rfl | rfl | rfl | rfl | rfl : mode = 0 ∨ mode = 1 ∨ mode = 2 ∨ mode = 3 ∨ mode = 4 := by omega
      ·cases s
       ·simp (disch := omega) only [go_sem, h6]
        refine fin_valc (by simp (disch := omega) only [go_sem]) (by simp (disch := omega) only [go_sem]) ⟨?_, rfl, rfl⟩
        exact hov _ _ _ rfl rfl rfl
       ·simp (disch := omega) only [go_sem, h6]
        refine fin_valc (by simp (disch := omega) only [go_sem]) (by simp (disch := omega) only [go_sem]) ⟨?_, rfl, rfl⟩
        exact hov _ _ _ rfl rfl rfl
      ·cases s
       ·simp (disch := omega) only [go_sem, h6]
        refine call_cI (con_l5most false) ?_
        simp (disch := omega) only [go_sem]
        refine fin_valc (by simp (disch := omega) only [go_sem]) (by simp (disch := omega) only [go_sem]) ⟨?_, rfl, rfl⟩
        exact hov _ _ _ rfl rfl rfl
       ·simp (disch := omega) only [go_sem, h6]
        refine call_cI (con_l5most true) ?_
        simp (disch := omega) only [go_sem]
        refine fin_valc (by simp (disch := omega) only [go_sem]) (by simp (disch := omega) only [go_sem]) ⟨?_, rfl, rfl⟩
        exact hov _ _ _ rfl rfl rfl
      ·cases s
       ·simp (disch := omega) only [go_sem, h6]
        refine fin_valc (by simp (disch := omega) only [go_sem]) (by simp (disch := omega) only [go_sem]) ⟨?_, rfl, rfl⟩
        exact hov _ _ _ rfl rfl rfl
       ·simp (disch := omega) only [go_sem, h6]
        refine call_cI (con_l5most true) ?_
        simp (disch := omega) only [go_sem]
        refine fin_valc (by simp (disch := omega) only [go_sem]) (by simp (disch := omega) only [go_sem]) ⟨?_, rfl, rfl⟩
        exact hov _ _ _ rfl rfl rfl
      ·cases s
       ·simp (disch := omega) only [go_sem, h6]
        refine call_cI (con_l5most false) ?_
        simp (disch := omega) only [go_sem]
        refine fin_valc (by simp (disch := omega) only [go_sem]) (by simp (disch := omega) only [go_sem]) ⟨?_, rfl, rfl⟩
        exact hov _ _ _ rfl rfl rfl
       ·simp (disch := omega) only [go_sem, h6]
        refine fin_valc (by simp (disch := omega) only [go_sem]) (by simp (disch := omega) only [go_sem]) ⟨?_, rfl, rfl⟩
        exact hov _ _ _ rfl rfl rfl
      ·cases s
       ·simp (disch := omega) only [go_sem, h6]
        refine fin_valc (by simp (disch := omega) only [go_sem]) (by simp (disch := omega) only [go_sem]) ⟨?_, rfl, rfl⟩
        exact hov _ _ _ rfl rfl rfl
       ·simp (disch := omega) only [go_sem, h6]
        refine fin_valc (by simp (disch := omega) only [go_sem]) (by simp (disch := omega) only [go_sem]) ⟨?_, rfl, rfl⟩
        exact hov _ _ _ rfl rfl rfl
     ·simp (disch := omega) only [go_sem, h6]
      refine call_cI (con_l4top xs xm xe (by omega) (by omega)) ?_ (by simp (disch := omega) only [go_sem, et2])
      simp (disch := omega) only [go_sem]
      simp (disch := omega) only [go_sem, et2]
      have hfin : ∀ mm : Int, mm = (flM rm re : Int) → AV.tu [.ag [.v (.int .i64 1), .v (.bool xs), .v (.int .i64 mm), .v (.int .i64 (flE rm re))], .v (.int .i64 0)] = .tu [.ag [.v (.int .i64 ((flV s m e mode z).k)), .v (.bool ((flV s m e mode z).s)), .v (.int .i64 ((flV s m e mode z).m)), .v (.int .i64 ((flV s m e mode z).e))], .v (.int .i64 (flG s m e mode))] := by
       rintro mm rfl
       rw [hxs]
       exact hVG 1 _ _ 0 (by unfold flK; rw [if_neg hr0, if_neg (by omega)]) (by unfold flMm; rw [if_neg hr0, if_neg (by omega)]) (by unfold flEe; rw [if_neg hr0, if_neg (by omega)]) (by unfold flFl; rw [if_neg (by omega), hfl])
      have ek : xe - flE rm re = (((oE rm re - flE rm re).toNat : Nat) : Int) := by omega
      have hk9 : (oE rm re - flE rm re).toNat ≤ 53 := by have h9 := hM; unfold flM at h9; rw [bl_mul_pow (fun e => hr0 (oM_eq_zero.1 e))] at h9; omega
      have hM6 : flM rm re < 2 ^ 53 := Nat.lt_of_lt_of_le (bl_lt _) (Nat.pow_le_pow_right (by omega) hM)
      have eM : xm * 2 ^ (oE rm re - flE rm re).toNat = flM rm re := by rw [q1]; rfl
      generalize hkk : (oE rm re - flE rm re).toNat = kk at *
      refine ifW_dec (fun h7 => ?_) (fun h7 => ?_)
      ·have eE : flE rm re = -1074 := by unfold flE flLow; rw [if_pos (by omega)]
       simp (disch := omega) only [go_sem, h7]
       rw [eE] at ek hfin
       try rw [← et2] at hfin
       refine draw_of rfl [⟨0, [], []⟩, ⟨1, [], []⟩, ⟨2, [], []⟩, ⟨3, [2], []⟩, ⟨4, [2], []⟩, ⟨5, [2], []⟩, ⟨6, [2, 5], []⟩, ⟨7, [2, 5], []⟩, ⟨8, [2, 5, 7], []⟩, ⟨9, [2, 5], []⟩, ⟨12, [2, 5, 7], []⟩, ⟨14, [2, 5, 7], []⟩, ⟨10, [2], []⟩, ⟨11, [2], []⟩, ⟨13, [], []⟩, ⟨15, [], []⟩, ⟨16, [], []⟩] (by kernel_rfl) ?_
       simp (disch := omega) only [go_sem]
       refine call_open (con_l2shlF xm kk (by omega) (by omega)) (by simp (disch := omega) only [go_sem, ek, et2]) ?_
       rintro r hs ⟨rfl, rfl, _⟩
       refine ⟨by simp [freeN], ?_⟩
       simp (disch := omega) only [go_sem]
       refine call_cI (con_l2int (xm * 2 ^ kk) (by rw [eM]; omega)) ?_
       simp (disch := omega) only [go_sem]
       refine fin_valc (by simp (disch := omega) only [go_sem]) (by simp (disch := omega) only [go_sem]) ⟨?_, rfl, rfl⟩
       exact hfin ((xm * 2 ^ kk : Nat) : Int) (by rw [eM])
      ·have eE : flE rm re = (bl rm : Int) + re - 53 := by unfold flE flLow; rw [if_neg (by omega)]
       simp (disch := omega) only [go_sem, h7]
       rw [eE] at ek hfin
       try rw [← et2] at hfin
       refine draw_of rfl [⟨0, [], []⟩, ⟨1, [], []⟩, ⟨2, [], []⟩, ⟨3, [2], []⟩, ⟨4, [2], []⟩, ⟨5, [2], []⟩, ⟨6, [2, 5], []⟩, ⟨7, [2, 5], []⟩, ⟨8, [2, 5, 7], []⟩, ⟨9, [2, 5], []⟩, ⟨12, [2, 5, 7], []⟩, ⟨14, [2, 5, 7], []⟩, ⟨10, [2], []⟩, ⟨11, [2], []⟩, ⟨13, [], []⟩, ⟨15, [], []⟩, ⟨16, [], []⟩] (by kernel_rfl) ?_
       simp (disch := omega) only [go_sem]
       refine call_open (con_l2shlF xm kk (by omega) (by omega)) (by simp (disch := omega) only [go_sem, ek, et2]) ?_
       rintro r hs ⟨rfl, rfl, _⟩
       refine ⟨by simp [freeN], ?_⟩
       simp (disch := omega) only [go_sem]
       refine call_cI (con_l2int (xm * 2 ^ kk) (by rw [eM]; omega)) ?_
       simp (disch := omega) only [go_sem]
       refine fin_valc (by simp (disch := omega) only [go_sem]) (by simp (disch := omega) only [go_sem]) ⟨?_, rfl, rfl⟩
       exact hfin ((xm * 2 ^ kk : Nat) : Int) (by rw [eM])
  ·have hL : flLow ((bl m : Int) + e) = (bl m : Int) + e - 53 := by unfold flLow; rw [if_neg (by omega)]
   simp (disch := omega) only [go_sem, h2]
   have hbl := ro_bl (s := s) (e := e) (low := (bl m : Int) + e - 53) (mode := mode) hm
   have hroE : -1000000 ≤ roE m e ((bl m : Int) + e - 53) ∧ roE m e ((bl m : Int) + e - 53) ≤ 1000000 := by unfold roE; split <;> omega
   obtain ⟨q1, q2⟩ := sr_eq (s := s) (e := e) (low := (bl m : Int) + e - 53) (mode := mode) hod
   have q3 := roS_eq (s := s) (m := m) (e := e) (low := (bl m : Int) + e - 53) (mode := mode)
   refine call_oI (con_l4round s m e ((bl m : Int) + e - 53) mode hodd hs hmode (by omega) (by omega) (by omega)) ?_ (by simp (disch := omega) only [go_sem, etop])
   simp (disch := omega) only [go_sem]
   rw [hL] at hVG hform
   generalize srM s m e ((bl m : Int) + e - 53) mode = xm at *
   generalize srE s m e ((bl m : Int) + e - 53) mode = xe at *
   generalize oS (roS s m e ((bl m : Int) + e - 53) mode) (roM s m e ((bl m : Int) + e - 53) mode) = xs at *
   generalize hrm : roM s m e ((bl m : Int) + e - 53) mode = rm at *
   generalize hre : roE m e ((bl m : Int) + e - 53) = re at *
   generalize hrx : roX m e ((bl m : Int) + e - 53) = same at *
   have hxm0 : ((lim xm).length : Int) = 0 ↔ rm = 0 := by rw [q1, ← oM_eq_zero]; exact ⟨fun h => lim_eq_nil.1 (List.length_eq_zero_iff.1 (by omega)), fun h => by rw [h, lim_zero]; rfl⟩
   have hxmb : bl xm ≤ 100001 := by rw [q1]; exact Nat.le_trans (bl_mono (oM_le rm)) hbl
   have lxm := len_bl hxmb
   have hxeb : -2000000 ≤ xe ∧ xe ≤ 2000000 := by have := oE_bnd hbl hroE; omega
   have etop2 : rm ≠ 0 → (if xm = 0 then (0 : Int) else xe + (bl xm : Int)) = (bl rm : Int) + re := fun h => by
    have h2 := bl_oM h
    have h3 : xm ≠ 0 := by rw [q1]; exact fun e => h (oM_eq_zero.1 e)
    rw [if_neg h3, q2, q1]; unfold oE; rw [if_neg h]; omega
   refine ifW_nb (fun h3 => ?_) (fun h3 => ?_)
   ·simp (disch := omega) only [go_sem, h3]
    refine call_cI (con_l4top s m e (by omega) (by omega)) ?_ (by simp (disch := omega) only [go_sem, etop])
    simp (disch := omega) only [go_sem]
    simp (disch := omega) only [go_sem, etop]
    refine ifW_dec (fun h4 => ?_) (fun h4 => ?_)
    ·have hfl : flFlags (bl m + e) same = 5 := by unfold flFlags; rw [h3, if_neg (by simp), if_pos (by omega)]
     have e5 : ((1 ||| 4 : Nat) : Int) = 5 := rfl
     simp (disch := omega) only [go_sem, h4, e5]
     refine ifW_dec (fun h5 => ?_) (fun h5 => ?_)
     ·have hr0 : rm = 0 := hxm0.1 h5
      simp (disch := omega) only [go_sem, h5]
      refine fin_valc (by simp (disch := omega) only [go_sem]) (by simp (disch := omega) only [go_sem]) ⟨?_, rfl, rfl⟩
      refine hVG 0 0 0 5 (by simp [flK, hr0]) (by simp [flMm, hr0]) (by simp [flEe, hr0]) (by simp [flFl, hr0, hfl])
     ·have hr0 : rm ≠ 0 := fun e => h5 (hxm0.2 e)
      have et2 := etop2 hr0
      have hxs : xs = s := q3 hr0
      have hff := hform hr0
      have hM := flM_lt hr0 hff
      simp (disch := omega) only [go_sem, h5]
      refine call_cI (con_l4top xs xm xe (by omega) (by omega)) ?_ (by simp (disch := omega) only [go_sem, et2])
      simp (disch := omega) only [go_sem]
      simp (disch := omega) only [go_sem, et2]
      refine ifW_dec (fun h6 => ?_) (fun h6 => ?_)
      ·have hov : ∀ (k mm ee : Int), k = (if ovB s mode then 1 else 2) → mm = (if ovB s mode then 9007199254740991 else 0) → ee = (if ovB s mode then 971 else 0) → AV.tu [.ag [.v (.int .i64 k), .v (.bool s), .v (.int .i64 mm), .v (.int .i64 ee)], .v (.int .i64 3)] = .tu [.ag [.v (.int .i64 ((flV s m e mode z).k)), .v (.bool ((flV s m e mode z).s)), .v (.int .i64 ((flV s m e mode z).m)), .v (.int .i64 ((flV s m e mode z).e))], .v (.int .i64 (flG s m e mode))] := by
        rintro k mm ee rfl rfl rfl
        exact hVG _ _ _ 3 (by unfold flK; rw [if_neg hr0, if_pos h6]) (by unfold flMm; rw [if_neg hr0, if_pos h6]) (by unfold flEe; rw [if_neg hr0, if_pos h6]) (by unfold flFl; rw [if_pos ⟨hr0, h6⟩])
       clear hVG hform hrm hrx q3 hxs et2 hfl
       obtain rfl | rfl | rfl | rfl | rfl : mode = 0 ∨ mode = 1 ∨ mode = 2 ∨ mode = 3 ∨ mode = 4 := by omega
       ·cases s
        ·simp (disch := omega) only [go_sem, h6]
         refine fin_valc (by simp (disch := omega) only [go_sem]) (by simp (disch := omega) only [go_sem]) ⟨?_, rfl, rfl⟩
         exact hov _ _ _ rfl rfl rfl
        ·simp (disch := omega) only [go_sem, h6]
         refine fin_valc (by simp (disch := omega) only [go_sem]) (by simp (disch := omega) only [go_sem]) ⟨?_, rfl, rfl⟩
         exact hov _ _ _ rfl rfl rfl
       ·cases s
        ·simp (disch := omega) only [go_sem, h6]
         refine call_cI (con_l5most false) ?_
         simp (disch := omega) only [go_sem]
         refine fin_valc (by simp (disch := omega) only [go_sem]) (by simp (disch := omega) only [go_sem]) ⟨?_, rfl, rfl⟩
         exact hov _ _ _ rfl rfl rfl
        ·simp (disch := omega) only [go_sem, h6]
         refine call_cI (con_l5most true) ?_
         simp (disch := omega) only [go_sem]
         refine fin_valc (by simp (disch := omega) only [go_sem]) (by simp (disch := omega) only [go_sem]) ⟨?_, rfl, rfl⟩
         exact hov _ _ _ rfl rfl rfl
       ·cases s
        ·simp (disch := omega) only [go_sem, h6]
         refine fin_valc (by simp (disch := omega) only [go_sem]) (by simp (disch := omega) only [go_sem]) ⟨?_, rfl, rfl⟩
         exact hov _ _ _ rfl rfl rfl
        ·simp (disch := omega) only [go_sem, h6]
         refine call_cI (con_l5most true) ?_
         simp (disch := omega) only [go_sem]
         refine fin_valc (by simp (disch := omega) only [go_sem]) (by simp (disch := omega) only [go_sem]) ⟨?_, rfl, rfl⟩
         exact hov _ _ _ rfl rfl rfl
       ·cases s
        ·simp (disch := omega) only [go_sem, h6]
         refine call_cI (con_l5most false) ?_
         simp (disch := omega) only [go_sem]
         refine fin_valc (by simp (disch := omega) only [go_sem]) (by simp (disch := omega) only [go_sem]) ⟨?_, rfl, rfl⟩
         exact hov _ _ _ rfl rfl rfl
        ·simp (disch := omega) only [go_sem, h6]
         refine fin_valc (by simp (disch := omega) only [go_sem]) (by simp (disch := omega) only [go_sem]) ⟨?_, rfl, rfl⟩
         exact hov _ _ _ rfl rfl rfl
       ·cases s
        ·simp (disch := omega) only [go_sem, h6]
         refine fin_valc (by simp (disch := omega) only [go_sem]) (by simp (disch := omega) only [go_sem]) ⟨?_, rfl, rfl⟩
         exact hov _ _ _ rfl rfl rfl
        ·simp (disch := omega) only [go_sem, h6]
         refine fin_valc (by simp (disch := omega) only [go_sem]) (by simp (disch := omega) only [go_sem]) ⟨?_, rfl, rfl⟩
         exact hov _ _ _ rfl rfl rfl
      ·simp (disch := omega) only [go_sem, h6]
       refine call_cI (con_l4top xs xm xe (by omega) (by omega)) ?_ (by simp (disch := omega) only [go_sem, et2])
       simp (disch := omega) only [go_sem]
       simp (disch := omega) only [go_sem, et2]
       have hfin : ∀ mm : Int, mm = (flM rm re : Int) → AV.tu [.ag [.v (.int .i64 1), .v (.bool xs), .v (.int .i64 mm), .v (.int .i64 (flE rm re))], .v (.int .i64 5)] = .tu [.ag [.v (.int .i64 ((flV s m e mode z).k)), .v (.bool ((flV s m e mode z).s)), .v (.int .i64 ((flV s m e mode z).m)), .v (.int .i64 ((flV s m e mode z).e))], .v (.int .i64 (flG s m e mode))] := by
        rintro mm rfl
        rw [hxs]
        exact hVG 1 _ _ 5 (by unfold flK; rw [if_neg hr0, if_neg (by omega)]) (by unfold flMm; rw [if_neg hr0, if_neg (by omega)]) (by unfold flEe; rw [if_neg hr0, if_neg (by omega)]) (by unfold flFl; rw [if_neg (by omega), hfl])
       have ek : xe - flE rm re = (((oE rm re - flE rm re).toNat : Nat) : Int) := by omega
       have hk9 : (oE rm re - flE rm re).toNat ≤ 53 := by have h9 := hM; unfold flM at h9; rw [bl_mul_pow (fun e => hr0 (oM_eq_zero.1 e))] at h9; omega
       have hM6 : flM rm re < 2 ^ 53 := Nat.lt_of_lt_of_le (bl_lt _) (Nat.pow_le_pow_right (by omega) hM)
       have eM : xm * 2 ^ (oE rm re - flE rm re).toNat = flM rm re := by rw [q1]; rfl
       generalize hkk : (oE rm re - flE rm re).toNat = kk at *
       refine ifW_dec (fun h7 => ?_) (fun h7 => ?_)
       ·have eE : flE rm re = -1074 := by unfold flE flLow; rw [if_pos (by omega)]
        simp (disch := omega) only [go_sem, h7]
        rw [eE] at ek hfin
        try rw [← et2] at hfin
        refine draw_of rfl [⟨0, [], []⟩, ⟨1, [], []⟩, ⟨2, [], []⟩, ⟨3, [2], []⟩, ⟨4, [2], []⟩, ⟨5, [2], []⟩, ⟨6, [2, 5], []⟩, ⟨7, [2, 5], []⟩, ⟨8, [2, 5, 7], []⟩, ⟨9, [2, 5], []⟩, ⟨12, [2, 5, 7], []⟩, ⟨14, [2, 5, 7], []⟩, ⟨10, [2], []⟩, ⟨11, [2], []⟩, ⟨13, [], []⟩, ⟨15, [], []⟩, ⟨16, [], []⟩] (by kernel_rfl) ?_
        simp (disch := omega) only [go_sem]
        refine call_open (con_l2shlF xm kk (by omega) (by omega)) (by simp (disch := omega) only [go_sem, ek, et2]) ?_
        rintro r hs ⟨rfl, rfl, _⟩
        refine ⟨by simp [freeN], ?_⟩
        simp (disch := omega) only [go_sem]
        refine call_cI (con_l2int (xm * 2 ^ kk) (by rw [eM]; omega)) ?_
        simp (disch := omega) only [go_sem]
        refine fin_valc (by simp (disch := omega) only [go_sem]) (by simp (disch := omega) only [go_sem]) ⟨?_, rfl, rfl⟩
        exact hfin ((xm * 2 ^ kk : Nat) : Int) (by rw [eM])
       ·have eE : flE rm re = (bl rm : Int) + re - 53 := by unfold flE flLow; rw [if_neg (by omega)]
        simp (disch := omega) only [go_sem, h7]
        rw [eE] at ek hfin
        try rw [← et2] at hfin
        refine draw_of rfl [⟨0, [], []⟩, ⟨1, [], []⟩, ⟨2, [], []⟩, ⟨3, [2], []⟩, ⟨4, [2], []⟩, ⟨5, [2], []⟩, ⟨6, [2, 5], []⟩, ⟨7, [2, 5], []⟩, ⟨8, [2, 5, 7], []⟩, ⟨9, [2, 5], []⟩, ⟨12, [2, 5, 7], []⟩, ⟨14, [2, 5, 7], []⟩, ⟨10, [2], []⟩, ⟨11, [2], []⟩, ⟨13, [], []⟩, ⟨15, [], []⟩, ⟨16, [], []⟩] (by kernel_rfl) ?_
        simp (disch := omega) only [go_sem]
        refine call_open (con_l2shlF xm kk (by omega) (by omega)) (by simp (disch := omega) only [go_sem, ek, et2]) ?_
        rintro r hs ⟨rfl, rfl, _⟩
        refine ⟨by simp [freeN], ?_⟩
        simp (disch := omega) only [go_sem]
        refine call_cI (con_l2int (xm * 2 ^ kk) (by rw [eM]; omega)) ?_
        simp (disch := omega) only [go_sem]
        refine fin_valc (by simp (disch := omega) only [go_sem]) (by simp (disch := omega) only [go_sem]) ⟨?_, rfl, rfl⟩
        exact hfin ((xm * 2 ^ kk : Nat) : Int) (by rw [eM])
    ·have hfl : flFlags (bl m + e) same = 1 := by unfold flFlags; rw [h3, if_neg (by simp), if_neg (by omega)]
     have e5 := (rfl : (0 : Nat) = 0)
     simp (disch := omega) only [go_sem, h4]
     refine ifW_dec (fun h5 => ?_) (fun h5 => ?_)
     ·have hr0 : rm = 0 := hxm0.1 h5
      simp (disch := omega) only [go_sem, h5]
      refine fin_valc (by simp (disch := omega) only [go_sem]) (by simp (disch := omega) only [go_sem]) ⟨?_, rfl, rfl⟩
      refine hVG 0 0 0 1 (by simp [flK, hr0]) (by simp [flMm, hr0]) (by simp [flEe, hr0]) (by simp [flFl, hr0, hfl])
     ·have hr0 : rm ≠ 0 := fun e => h5 (hxm0.2 e)
      have et2 := etop2 hr0
      have hxs : xs = s := q3 hr0
      have hff := hform hr0
      have hM := flM_lt hr0 hff
      simp (disch := omega) only [go_sem, h5]
      refine call_cI (con_l4top xs xm xe (by omega) (by omega)) ?_ (by simp (disch := omega) only [go_sem, et2])
      simp (disch := omega) only [go_sem]
      simp (disch := omega) only [go_sem, et2]
      refine ifW_dec (fun h6 => ?_) (fun h6 => ?_)
      ·have hov : ∀ (k mm ee : Int), k = (if ovB s mode then 1 else 2) → mm = (if ovB s mode then 9007199254740991 else 0) → ee = (if ovB s mode then 971 else 0) → AV.tu [.ag [.v (.int .i64 k), .v (.bool s), .v (.int .i64 mm), .v (.int .i64 ee)], .v (.int .i64 3)] = .tu [.ag [.v (.int .i64 ((flV s m e mode z).k)), .v (.bool ((flV s m e mode z).s)), .v (.int .i64 ((flV s m e mode z).m)), .v (.int .i64 ((flV s m e mode z).e))], .v (.int .i64 (flG s m e mode))] := by
        rintro k mm ee rfl rfl rfl
        exact hVG _ _ _ 3 (by unfold flK; rw [if_neg hr0, if_pos h6]) (by unfold flMm; rw [if_neg hr0, if_pos h6]) (by unfold flEe; rw [if_neg hr0, if_pos h6]) (by unfold flFl; rw [if_pos ⟨hr0, h6⟩])
       clear hVG hform hrm hrx q3 hxs et2 hfl
       obtain rfl | rfl | rfl | rfl | rfl : mode = 0 ∨ mode = 1 ∨ mode = 2 ∨ mode = 3 ∨ mode = 4 := by omega
       ·cases s
        ·simp (disch := omega) only [go_sem, h6]
         refine fin_valc (by simp (disch := omega) only [go_sem]) (by simp (disch := omega) only [go_sem]) ⟨?_, rfl, rfl⟩
         exact hov _ _ _ rfl rfl rfl
        ·simp (disch := omega) only [go_sem, h6]
         refine fin_valc (by simp (disch := omega) only [go_sem]) (by simp (disch := omega) only [go_sem]) ⟨?_, rfl, rfl⟩
         exact hov _ _ _ rfl rfl rfl
       ·cases s
        ·simp (disch := omega) only [go_sem, h6]
         refine call_cI (con_l5most false) ?_
         simp (disch := omega) only [go_sem]
         refine fin_valc (by simp (disch := omega) only [go_sem]) (by simp (disch := omega) only [go_sem]) ⟨?_, rfl, rfl⟩
         exact hov _ _ _ rfl rfl rfl
        ·simp (disch := omega) only [go_sem, h6]
         refine call_cI (con_l5most true) ?_
         simp (disch := omega) only [go_sem]
         refine fin_valc (by simp (disch := omega) only [go_sem]) (by simp (disch := omega) only [go_sem]) ⟨?_, rfl, rfl⟩
         exact hov _ _ _ rfl rfl rfl
       ·cases s
        ·simp (disch := omega) only [go_sem, h6]
         refine fin_valc (by simp (disch := omega) only [go_sem]) (by simp (disch := omega) only [go_sem]) ⟨?_, rfl, rfl⟩
         exact hov _ _ _ rfl rfl rfl
        ·simp (disch := omega) only [go_sem, h6]
         refine call_cI (con_l5most true) ?_
         simp (disch := omega) only [go_sem]
         refine fin_valc (by simp (disch := omega) only [go_sem]) (by simp (disch := omega) only [go_sem]) ⟨?_, rfl, rfl⟩
         exact hov _ _ _ rfl rfl rfl
       ·cases s
        ·simp (disch := omega) only [go_sem, h6]
         refine call_cI (con_l5most false) ?_
         simp (disch := omega) only [go_sem]
         refine fin_valc (by simp (disch := omega) only [go_sem]) (by simp (disch := omega) only [go_sem]) ⟨?_, rfl, rfl⟩
         exact hov _ _ _ rfl rfl rfl
        ·simp (disch := omega) only [go_sem, h6]
         refine fin_valc (by simp (disch := omega) only [go_sem]) (by simp (disch := omega) only [go_sem]) ⟨?_, rfl, rfl⟩
         exact hov _ _ _ rfl rfl rfl
       ·cases s
        ·simp (disch := omega) only [go_sem, h6]
         refine fin_valc (by simp (disch := omega) only [go_sem]) (by simp (disch := omega) only [go_sem]) ⟨?_, rfl, rfl⟩
         exact hov _ _ _ rfl rfl rfl
        ·simp (disch := omega) only [go_sem, h6]
         refine fin_valc (by simp (disch := omega) only [go_sem]) (by simp (disch := omega) only [go_sem]) ⟨?_, rfl, rfl⟩
         exact hov _ _ _ rfl rfl rfl
      ·simp (disch := omega) only [go_sem, h6]
       refine call_cI (con_l4top xs xm xe (by omega) (by omega)) ?_ (by simp (disch := omega) only [go_sem, et2])
       simp (disch := omega) only [go_sem]
       simp (disch := omega) only [go_sem, et2]
       have hfin : ∀ mm : Int, mm = (flM rm re : Int) → AV.tu [.ag [.v (.int .i64 1), .v (.bool xs), .v (.int .i64 mm), .v (.int .i64 (flE rm re))], .v (.int .i64 1)] = .tu [.ag [.v (.int .i64 ((flV s m e mode z).k)), .v (.bool ((flV s m e mode z).s)), .v (.int .i64 ((flV s m e mode z).m)), .v (.int .i64 ((flV s m e mode z).e))], .v (.int .i64 (flG s m e mode))] := by
        rintro mm rfl
        rw [hxs]
        exact hVG 1 _ _ 1 (by unfold flK; rw [if_neg hr0, if_neg (by omega)]) (by unfold flMm; rw [if_neg hr0, if_neg (by omega)]) (by unfold flEe; rw [if_neg hr0, if_neg (by omega)]) (by unfold flFl; rw [if_neg (by omega), hfl])
       have ek : xe - flE rm re = (((oE rm re - flE rm re).toNat : Nat) : Int) := by omega
       have hk9 : (oE rm re - flE rm re).toNat ≤ 53 := by have h9 := hM; unfold flM at h9; rw [bl_mul_pow (fun e => hr0 (oM_eq_zero.1 e))] at h9; omega
       have hM6 : flM rm re < 2 ^ 53 := Nat.lt_of_lt_of_le (bl_lt _) (Nat.pow_le_pow_right (by omega) hM)
       have eM : xm * 2 ^ (oE rm re - flE rm re).toNat = flM rm re := by rw [q1]; rfl
       generalize hkk : (oE rm re - flE rm re).toNat = kk at *
       refine ifW_dec (fun h7 => ?_) (fun h7 => ?_)
       ·have eE : flE rm re = -1074 := by unfold flE flLow; rw [if_pos (by omega)]
        simp (disch := omega) only [go_sem, h7]
        rw [eE] at ek hfin
        try rw [← et2] at hfin
        refine draw_of rfl [⟨0, [], []⟩, ⟨1, [], []⟩, ⟨2, [], []⟩, ⟨3, [2], []⟩, ⟨4, [2], []⟩, ⟨5, [2], []⟩, ⟨6, [2, 5], []⟩, ⟨7, [2, 5], []⟩, ⟨8, [2, 5, 7], []⟩, ⟨9, [2, 5], []⟩, ⟨12, [2, 5, 7], []⟩, ⟨14, [2, 5, 7], []⟩, ⟨10, [2], []⟩, ⟨11, [2], []⟩, ⟨13, [], []⟩, ⟨15, [], []⟩, ⟨16, [], []⟩] (by kernel_rfl) ?_
        simp (disch := omega) only [go_sem]
        refine call_open (con_l2shlF xm kk (by omega) (by omega)) (by simp (disch := omega) only [go_sem, ek, et2]) ?_
        rintro r hs ⟨rfl, rfl, _⟩
        refine ⟨by simp [freeN], ?_⟩
        simp (disch := omega) only [go_sem]
        refine call_cI (con_l2int (xm * 2 ^ kk) (by rw [eM]; omega)) ?_
        simp (disch := omega) only [go_sem]
        refine fin_valc (by simp (disch := omega) only [go_sem]) (by simp (disch := omega) only [go_sem]) ⟨?_, rfl, rfl⟩
        exact hfin ((xm * 2 ^ kk : Nat) : Int) (by rw [eM])
       ·have eE : flE rm re = (bl rm : Int) + re - 53 := by unfold flE flLow; rw [if_neg (by omega)]
        simp (disch := omega) only [go_sem, h7]
        rw [eE] at ek hfin
        try rw [← et2] at hfin
        refine draw_of rfl [⟨0, [], []⟩, ⟨1, [], []⟩, ⟨2, [], []⟩, ⟨3, [2], []⟩, ⟨4, [2], []⟩, ⟨5, [2], []⟩, ⟨6, [2, 5], []⟩, ⟨7, [2, 5], []⟩, ⟨8, [2, 5, 7], []⟩, ⟨9, [2, 5], []⟩, ⟨12, [2, 5, 7], []⟩, ⟨14, [2, 5, 7], []⟩, ⟨10, [2], []⟩, ⟨11, [2], []⟩, ⟨13, [], []⟩, ⟨15, [], []⟩, ⟨16, [], []⟩] (by kernel_rfl) ?_
        simp (disch := omega) only [go_sem]
        refine call_open (con_l2shlF xm kk (by omega) (by omega)) (by simp (disch := omega) only [go_sem, ek, et2]) ?_
        rintro r hs ⟨rfl, rfl, _⟩
        refine ⟨by simp [freeN], ?_⟩
        simp (disch := omega) only [go_sem]
        refine call_cI (con_l2int (xm * 2 ^ kk) (by rw [eM]; omega)) ?_
        simp (disch := omega) only [go_sem]
        refine fin_valc (by simp (disch := omega) only [go_sem]) (by simp (disch := omega) only [go_sem]) ⟨?_, rfl, rfl⟩
        exact hfin ((xm * 2 ^ kk : Nat) : Int) (by rw [eM])
   ·have hfl : flFlags (bl m + e) same = 0 := by unfold flFlags; rw [h3, if_pos rfl]
    have e5 := (rfl : (0 : Nat) = 0)
    simp (disch := omega) only [go_sem, h3]
    refine ifW_dec (fun h5 => ?_) (fun h5 => ?_)
    ·have hr0 : rm = 0 := hxm0.1 h5
     simp (disch := omega) only [go_sem, h5]
     refine fin_valc (by simp (disch := omega) only [go_sem]) (by simp (disch := omega) only [go_sem]) ⟨?_, rfl, rfl⟩
     refine hVG 0 0 0 0 (by simp [flK, hr0]) (by simp [flMm, hr0]) (by simp [flEe, hr0]) (by simp [flFl, hr0, hfl])
    ·have hr0 : rm ≠ 0 := fun e => h5 (hxm0.2 e)
     have et2 := etop2 hr0
     have hxs : xs = s := q3 hr0
     have hff := hform hr0
     have hM := flM_lt hr0 hff
     simp (disch := omega) only [go_sem, h5]
     refine call_cI (con_l4top xs xm xe (by omega) (by omega)) ?_ (by simp (disch := omega) only [go_sem, et2])
     simp (disch := omega) only [go_sem]
     simp (disch := omega) only [go_sem, et2]
     refine ifW_dec (fun h6 => ?_) (fun h6 => ?_)
     ·have hov : ∀ (k mm ee : Int), k = (if ovB s mode then 1 else 2) → mm = (if ovB s mode then 9007199254740991 else 0) → ee = (if ovB s mode then 971 else 0) → AV.tu [.ag [.v (.int .i64 k), .v (.bool s), .v (.int .i64 mm), .v (.int .i64 ee)], .v (.int .i64 3)] = .tu [.ag [.v (.int .i64 ((flV s m e mode z).k)), .v (.bool ((flV s m e mode z).s)), .v (.int .i64 ((flV s m e mode z).m)), .v (.int .i64 ((flV s m e mode z).e))], .v (.int .i64 (flG s m e mode))] := by
       rintro k mm ee rfl rfl rfl
       exact hVG _ _ _ 3 (by unfold flK; rw [if_neg hr0, if_pos h6]) (by unfold flMm; rw [if_neg hr0, if_pos h6]) (by unfold flEe; rw [if_neg hr0, if_pos h6]) (by unfold flFl; rw [if_pos ⟨hr0, h6⟩])
      clear hVG hform hrm hrx q3 hxs et2 hfl
      obtain rfl | rfl | rfl | rfl | rfl : mode = 0 ∨ mode = 1 ∨ mode = 2 ∨ mode = 3 ∨ mode = 4 := by omega
      ·cases s
       ·simp (disch := omega) only [go_sem, h6]
        refine fin_valc (by simp (disch := omega) only [go_sem]) (by simp (disch := omega) only [go_sem]) ⟨?_, rfl, rfl⟩
        exact hov _ _ _ rfl rfl rfl
       ·simp (disch := omega) only [go_sem, h6]
        refine fin_valc (by simp (disch := omega) only [go_sem]) (by simp (disch := omega) only [go_sem]) ⟨?_, rfl, rfl⟩
        exact hov _ _ _ rfl rfl rfl
      ·cases s
       ·simp (disch := omega) only [go_sem, h6]
        refine call_cI (con_l5most false) ?_
        simp (disch := omega) only [go_sem]
        refine fin_valc (by simp (disch := omega) only [go_sem]) (by simp (disch := omega) only [go_sem]) ⟨?_, rfl, rfl⟩
        exact hov _ _ _ rfl rfl rfl
       ·simp (disch := omega) only [go_sem, h6]
        refine call_cI (con_l5most true) ?_
        simp (disch := omega) only [go_sem]
        refine fin_valc (by simp (disch := omega) only [go_sem]) (by simp (disch := omega) only [go_sem]) ⟨?_, rfl, rfl⟩
        exact hov _ _ _ rfl rfl rfl
      ·cases s
       ·simp (disch := omega) only [go_sem, h6]
        refine fin_valc (by simp (disch := omega) only [go_sem]) (by simp (disch := omega) only [go_sem]) ⟨?_, rfl, rfl⟩
        exact hov _ _ _ rfl rfl rfl
       ·simp (disch := omega) only [go_sem, h6]
        refine call_cI (con_l5most true) ?_
        simp (disch := omega) only [go_sem]
        refine fin_valc (by simp (disch := omega) only [go_sem]) (by simp (disch := omega) only [go_sem]) ⟨?_, rfl, rfl⟩
        exact hov _ _ _ rfl rfl rfl
      ·cases s
       ·simp (disch := omega) only [go_sem, h6]
        refine call_cI (con_l5most false) ?_
        simp (disch := omega) only [go_sem]
        refine fin_valc (by simp (disch := omega) only [go_sem]) (by simp (disch := omega) only [go_sem]) ⟨?_, rfl, rfl⟩
        exact hov _ _ _ rfl rfl rfl
       ·simp (disch := omega) only [go_sem, h6]
        refine fin_valc (by simp (disch := omega) only [go_sem]) (by simp (disch := omega) only [go_sem]) ⟨?_, rfl, rfl⟩
        exact hov _ _ _ rfl rfl rfl
      ·cases s
       ·simp (disch := omega) only [go_sem, h6]
        refine fin_valc (by simp (disch := omega) only [go_sem]) (by simp (disch := omega) only [go_sem]) ⟨?_, rfl, rfl⟩
        exact hov _ _ _ rfl rfl rfl
       ·simp (disch := omega) only [go_sem, h6]
        refine fin_valc (by simp (disch := omega) only [go_sem]) (by simp (disch := omega) only [go_sem]) ⟨?_, rfl, rfl⟩
        exact hov _ _ _ rfl rfl rfl
     ·simp (disch := omega) only [go_sem, h6]
      refine call_cI (con_l4top xs xm xe (by omega) (by omega)) ?_ (by simp (disch := omega) only [go_sem, et2])
      simp (disch := omega) only [go_sem]
      simp (disch := omega) only [go_sem, et2]
      have hfin : ∀ mm : Int, mm = (flM rm re : Int) → AV.tu [.ag [.v (.int .i64 1), .v (.bool xs), .v (.int .i64 mm), .v (.int .i64 (flE rm re))], .v (.int .i64 0)] = .tu [.ag [.v (.int .i64 ((flV s m e mode z).k)), .v (.bool ((flV s m e mode z).s)), .v (.int .i64 ((flV s m e mode z).m)), .v (.int .i64 ((flV s m e mode z).e))], .v (.int .i64 (flG s m e mode))] := by
       rintro mm rfl
       rw [hxs]
       exact hVG 1 _ _ 0 (by unfold flK; rw [if_neg hr0, if_neg (by omega)]) (by unfold flMm; rw [if_neg hr0, if_neg (by omega)]) (by unfold flEe; rw [if_neg hr0, if_neg (by omega)]) (by unfold flFl; rw [if_neg (by omega), hfl])
      have ek : xe - flE rm re = (((oE rm re - flE rm re).toNat : Nat) : Int) := by omega
      have hk9 : (oE rm re - flE rm re).toNat ≤ 53 := by have h9 := hM; unfold flM at h9; rw [bl_mul_pow (fun e => hr0 (oM_eq_zero.1 e))] at h9; omega
      have hM6 : flM rm re < 2 ^ 53 := Nat.lt_of_lt_of_le (bl_lt _) (Nat.pow_le_pow_right (by omega) hM)
      have eM : xm * 2 ^ (oE rm re - flE rm re).toNat = flM rm re := by rw [q1]; rfl
      generalize hkk : (oE rm re - flE rm re).toNat = kk at *
      refine ifW_dec (fun h7 => ?_) (fun h7 => ?_)
      ·have eE : flE rm re = -1074 := by unfold flE flLow; rw [if_pos (by omega)]
       simp (disch := omega) only [go_sem, h7]
       rw [eE] at ek hfin
       try rw [← et2] at hfin
       refine draw_of rfl [⟨0, [], []⟩, ⟨1, [], []⟩, ⟨2, [], []⟩, ⟨3, [2], []⟩, ⟨4, [2], []⟩, ⟨5, [2], []⟩, ⟨6, [2, 5], []⟩, ⟨7, [2, 5], []⟩, ⟨8, [2, 5, 7], []⟩, ⟨9, [2, 5], []⟩, ⟨12, [2, 5, 7], []⟩, ⟨14, [2, 5, 7], []⟩, ⟨10, [2], []⟩, ⟨11, [2], []⟩, ⟨13, [], []⟩, ⟨15, [], []⟩, ⟨16, [], []⟩] (by kernel_rfl) ?_
       simp (disch := omega) only [go_sem]
       refine call_open (con_l2shlF xm kk (by omega) (by omega)) (by simp (disch := omega) only [go_sem, ek, et2]) ?_
       rintro r hs ⟨rfl, rfl, _⟩
       refine ⟨by simp [freeN], ?_⟩
       simp (disch := omega) only [go_sem]
       refine call_cI (con_l2int (xm * 2 ^ kk) (by rw [eM]; omega)) ?_
       simp (disch := omega) only [go_sem]
       refine fin_valc (by simp (disch := omega) only [go_sem]) (by simp (disch := omega) only [go_sem]) ⟨?_, rfl, rfl⟩
       exact hfin ((xm * 2 ^ kk : Nat) : Int) (by rw [eM])
      ·have eE : flE rm re = (bl rm : Int) + re - 53 := by unfold flE flLow; rw [if_neg (by omega)]
       simp (disch := omega) only [go_sem, h7]
       rw [eE] at ek hfin
       try rw [← et2] at hfin
       refine draw_of rfl [⟨0, [], []⟩, ⟨1, [], []⟩, ⟨2, [], []⟩, ⟨3, [2], []⟩, ⟨4, [2], []⟩, ⟨5, [2], []⟩, ⟨6, [2, 5], []⟩, ⟨7, [2, 5], []⟩, ⟨8, [2, 5, 7], []⟩, ⟨9, [2, 5], []⟩, ⟨12, [2, 5, 7], []⟩, ⟨14, [2, 5, 7], []⟩, ⟨10, [2], []⟩, ⟨11, [2], []⟩, ⟨13, [], []⟩, ⟨15, [], []⟩, ⟨16, [], []⟩] (by kernel_rfl) ?_
       simp (disch := omega) only [go_sem]
       refine call_open (con_l2shlF xm kk (by omega) (by omega)) (by simp (disch := omega) only [go_sem, ek, et2]) ?_
       rintro r hs ⟨rfl, rfl, _⟩
       refine ⟨by simp [freeN], ?_⟩
       simp (disch := omega) only [go_sem]
       refine call_cI (con_l2int (xm * 2 ^ kk) (by rw [eM]; omega)) ?_
       simp (disch := omega) only [go_sem]
       refine fin_valc (by simp (disch := omega) only [go_sem]) (by simp (disch := omega) only [go_sem]) ⟨?_, rfl, rfl⟩
       exact hfin ((xm * 2 ^ kk : Nat) : Int) (by rw [eM])
end Go.Ab
namespace Go.Ab
open Go Go.Proofs
set_option linter.unusedVariables false
set_option linter.unusedSimpArgs false
theorem con_natokS (xs : List Int) (hl : xs.length ≤ 2 ^ 40) : Con Tryz.prog 212 true [.ag [.sl xs.length (ints xs)]] [] (isA (.v (.bool (natB xs)))) := by
 refine Con.of_aw Tryz.func212 rfl Tryz.ntmps212 (by simp) (by simp) (by simp) (W.sound ?_)
 show @W Tryz.prog 44 ⟨_⟩ ⟨fun x σ => @retW _ _ _ ⟨_⟩ _ ⟨_⟩ x σ⟩ _ _
 simp (disch := omega) only [go_sem]
 refine ifW_dec (fun h1 => ?_) (fun h1 => ?_)
 ·simp (disch := omega) only [go_sem, h1]
  refine fin_valc (by simp (disch := omega) only [go_sem]) (by simp (disch := omega) only [go_sem]) ⟨?_, rfl, rfl⟩
  have : ¬ (xs.length ≤ 100) := by omega
  simp [tupA, natB, this]
 ·simp (disch := omega) only [go_sem, h1]
  refine loop_intro (fun i : Nat => [(1, .pt 30000000 0), (2, .v (.bool false)), (3, .v (.int .i64 i))]) (fun _ => [(30000000, .own 0 [.sl xs.length (ints xs)])]) (fun i => i ≤ xs.length ∧ ∀ x ∈ xs.take i, 0 ≤ x ∧ x ≤ 65535) (fun i => xs.length - i) 0 ⟨by omega, by simp⟩
   (Le.lst [] _ _ rfl (by simp (disch := omega) only [go_sem]) (by simp (disch := omega) only [go_sem])) ?_
  rintro i ⟨hi, hx⟩
  simp (disch := omega) only [go_sem]
  refine ifW_dec (fun h2 => ?_) (fun h2 => ?_)
  ·simp (disch := omega) only [go_sem, h2]
   have hmem : xs.getD i 0 ∈ xs := by
    rw [List.getD_eq_getElem?_getD, List.getElem?_eq_getElem (by omega)]; exact List.getElem_mem _
   have bad : ¬ (0 ≤ xs.getD i 0 ∧ xs.getD i 0 ≤ 65535) → natB xs = false := by
    intro hc
    unfold natB
    have : xs.all (fun x => decide (0 ≤ x) && decide (x ≤ 65535)) = false := by
     rw [List.all_eq_false]
     refine ⟨_, hmem, ?_⟩
     simp only [Bool.and_eq_true, decide_eq_true_eq]; exact hc
    rw [this]; simp
   refine ⟨by omega, by omega, ?_⟩
   refine ifW_not (fun h3 => ?_) (fun h3 => ?_)
   ·simp (disch := omega) only [go_sem, h3]
    refine ⟨by omega, by omega, ?_⟩
    refine ifW_dec (fun h4 => ?_) (fun h4 => ?_)
    ·simp (disch := omega) only [go_sem, h4]
     rw [bad (by omega)]
     exact fin_cI
    ·simp (disch := omega) only [go_sem, h4]
     refine next_intro (i + 1) [] ⟨by omega, ?_⟩ (by show xs.length - (i + 1) < xs.length - i; omega) rfl (by simp (disch := omega) only [go_sem]; try omega) (by simp (disch := omega) only [go_sem])
     intro x hxx
     rw [List.take_add_one] at hxx
     rcases List.mem_append.1 hxx with h | h
     ·exact hx x h
     ·rw [List.getElem?_eq_getElem (by omega)] at h
      simp at h
      rw [List.getD_eq_getElem?_getD, List.getElem?_eq_getElem (by omega)] at h3 h4
      simp at h3 h4
      subst h
      omega
   ·simp (disch := omega) only [go_sem, h3]
    rw [bad (by omega)]
    exact fin_cI
  ·have : i = xs.length := by omega
   subst this
   rw [List.take_length] at hx
   have hall : xs.all (fun x => decide (0 ≤ x) && decide (x ≤ 65535)) = true := by
    rw [List.all_eq_true]
    intro x h; have := hx x h; simp only [Bool.and_eq_true, decide_eq_true_eq]; exact this
   have e1 : decide (xs.length ≤ 100) = true := by simp; omega
   simp (disch := omega) only [go_sem, h2]
   refine ifW_not (fun h3 => ?_) (fun h3 => ?_)
   ·have en : ((xs.length : Int) - 1).toNat = xs.length - 1 := by omega
    have hmem : xs.getD (xs.length - 1) 0 ∈ xs := by
     rw [List.getD_eq_getElem?_getD, List.getElem?_eq_getElem (by omega)]; exact List.getElem_mem _
    have hp := hx _ hmem
    simp (disch := omega) only [go_sem, h3, en]
    refine ⟨by omega, by omega, ?_⟩
    refine fin_valc (by simp (disch := omega) only [go_sem]) (by simp (disch := omega) only [go_sem]) ⟨?_, rfl, rfl⟩
    have e2 : decide (xs.length = 0) = false := by simp; intro h; subst h; simp at h3
    show AV.v (.bool _) = AV.v (.bool _)
    unfold natB
    rw [e1, hall, e2, Bool.false_or, Bool.true_and, Bool.true_and]
    congr 2
    rw [decide_eq_decide]
    omega
   ·simp (disch := omega) only [go_sem, h3]
    refine fin_valc (by simp (disch := omega) only [go_sem]) (by simp (disch := omega) only [go_sem]) ⟨?_, rfl, rfl⟩
    have e2 : decide (xs.length = 0) = true := by simp; exact List.length_eq_zero_iff.1 (by omega)
    show AV.v (.bool _) = AV.v (.bool _)
    unfold natB
    rw [e1, hall, e2]
    simp
theorem con_wholeokS (s : Bool) (xs : List Int) (hl : xs.length ≤ 2 ^ 40) : Con Tryz.prog 137 true [.ag [.v (.bool s), .sl xs.length (ints xs)]] [] (isA (.v (.bool (wholeB s xs)))) := by
 refine Con.of_aw Tryz.func137 rfl Tryz.ntmps137 (by simp) (by simp) (by simp) (W.sound ?_)
 show @W Tryz.prog 18 ⟨_⟩ ⟨fun x σ => @retW _ _ _ ⟨_⟩ _ ⟨_⟩ x σ⟩ _ _
 simp (disch := omega) only [go_sem]
 refine call_cI (con_natokS xs hl) ?_
 simp (disch := omega) only [go_sem]
 refine ifW_b (fun h1 => ?_) (fun h1 => ?_)
 ·simp (disch := omega) only [go_sem, h1]
  cases s
  ·simp (disch := omega) only [go_sem]
   refine fin_valc (by simp (disch := omega) only [go_sem]) (by simp (disch := omega) only [go_sem]) ⟨?_, rfl, rfl⟩
   simp [tupA, wholeB, h1]
  ·simp (disch := omega) only [go_sem]
   refine fin_valc (by simp (disch := omega) only [go_sem]) (by simp (disch := omega) only [go_sem]) ⟨?_, rfl, rfl⟩
   show AV.v (.bool _) = AV.v (.bool _)
   unfold wholeB
   rw [h1, Bool.true_and, Bool.true_and, ← decide_not]
   congr 2
   rw [decide_eq_decide]
   omega
 ·simp (disch := omega) only [go_sem, h1]
  refine fin_valc (by simp (disch := omega) only [go_sem]) (by simp (disch := omega) only [go_sem]) ⟨?_, rfl, rfl⟩
  simp [tupA, wholeB, h1]
theorem con_dyokS (s : Bool) (xs : List Int) (e : Int) (hl : xs.length ≤ 2 ^ 40) : Con Tryz.prog 59 true [.ag [.v (.bool s), .sl xs.length (ints xs), .v (.int .i64 e)]] [] (isA (.v (.bool (dyB s xs e)))) := by
 refine Con.of_aw Tryz.func59 rfl Tryz.ntmps59 (by simp) (by simp) (by simp) (W.sound ?_)
 show @W Tryz.prog 31 ⟨_⟩ ⟨fun x σ => @retW _ _ _ ⟨_⟩ _ ⟨_⟩ x σ⟩ _ _
 simp (disch := omega) only [go_sem]
 refine call_cI (con_wholeokS s xs hl) ?_
 simp (disch := omega) only [go_sem]
 refine ifW_b (fun hw => ?_) (fun hw => ?_)
 ·have h1 := hw
  simp only [wholeB, Bool.and_eq_true] at h1
  obtain ⟨hx, hll⟩ := natB_lim h1.1
  have hxs : xs = lim (vl xs).toNat := hx
  generalize hm : (vl xs).toNat = m at *
  subst hx
  simp (disch := omega) only [go_sem, hw]
  refine ifW_not (fun h2 => ?_) (fun h2 => ?_)
  ·simp (disch := omega) only [go_sem, h2]
   refine ifW_dec (fun h3 => ?_) (fun h3 => ?_)
   ·simp (disch := omega) only [go_sem, h3]
    refine fin_valc (by simp (disch := omega) only [go_sem]) (by simp (disch := omega) only [go_sem]) ⟨?_, rfl, rfl⟩
    have a2 : ¬ e ≤ 3000 := by omega
    simp [tupA, dyB, a2]
   ·simp (disch := omega) only [go_sem, h3]
    refine ifW_dec (fun h4 => ?_) (fun h4 => ?_)
    ·simp (disch := omega) only [go_sem, h4]
     have h0 : m = 0 := lim_eq_nil.1 (List.length_eq_zero_iff.1 (by omega))
     refine fin_valc (by simp (disch := omega) only [go_sem]) (by simp (disch := omega) only [go_sem]) ⟨?_, rfl, rfl⟩
     have a1 : -3000 ≤ e := by omega
     have a2 : e ≤ 3000 := by omega
     have a3 : (lim m).length = 0 := by omega
     show AV.v (.bool _) = AV.v (.bool _)
     unfold dyB
     rw [hw, hm, decide_eq_true a1, decide_eq_true a2, decide_eq_true a3, h0]
     simp
    ·simp (disch := omega) only [go_sem, h4]
     refine call_cI (con_l2bit m 0 (by omega) (by omega) (by omega)) ?_
     simp (disch := omega) only [go_sem]
     refine fin_valc (by simp (disch := omega) only [go_sem]) (by simp (disch := omega) only [go_sem]) ⟨?_, rfl, rfl⟩
     have a1 : -3000 ≤ e := by omega
     have a2 : e ≤ 3000 := by omega
     have a3 : ¬ (lim m).length = 0 := by omega
     show AV.v (.bool _) = AV.v (.bool _)
     unfold dyB
     rw [hw, hm, decide_eq_true a1, decide_eq_true a2, decide_eq_false a3]
     simp
     omega
  ·simp (disch := omega) only [go_sem, h2]
   refine fin_valc (by simp (disch := omega) only [go_sem]) (by simp (disch := omega) only [go_sem]) ⟨?_, rfl, rfl⟩
   have a1 : ¬ -3000 ≤ e := by omega
   simp [tupA, dyB, a1]
 ·simp (disch := omega) only [go_sem, hw]
  refine fin_valc (by simp (disch := omega) only [go_sem]) (by simp (disch := omega) only [go_sem]) ⟨?_, rfl, rfl⟩
  simp [tupA, dyB, hw]
end Go.Ab
namespace Go.Ab
open Go Go.Proofs
set_option linter.unusedVariables false
set_option linter.unusedSimpArgs false
theorem dyB_canon (s : Bool) (m : Nat) (e : Int) : dyB (oS s m) (lim (oM m)) (oE m e) = dyFit m e := by
 unfold dyB wholeB dyFit natFit
 rw [vl_lim, Int.toNat_natCast]
 have hod := oM_odd m
 have hz := oS_z s m
 by_cases h : (lim (oM m)).length ≤ 100
 ·rw [natB_of _ h, decide_eq_true h, Bool.true_and, Bool.true_and]
  by_cases h0 : oM m = 0
  ·have hm : m = 0 := oM_eq_zero.1 h0
   rw [hz h0, h0, hm]
   simp [oE, lim_zero]
  ·have h1 : oM m % 2 = 1 := hod.resolve_right h0
   have h2 : decide ((lim (oM m)).length = 0) = false := by
    have := lim_ne h0
    exact decide_eq_false (by omega)
   rw [h2, decide_eq_true h1]
   simp
 ·rw [decide_eq_false h]
  have : natB (lim (oM m)) = false := by unfold natB; rw [decide_eq_false h, Bool.false_and]
  rw [this]; simp
theorem con_l4fits (s : Bool) (m : Nat) (e : Int) (hl : (lim (oM m)).length ≤ 2 ^ 40) : Con Tryz.prog 139 false [.ag [.v (.bool (oS s m)), .sl (lim (oM m)).length (ints (lim (oM m))), .v (.int .i64 (oE m e))]] [] (isA (if dyFit m e = true then .tu [.ag [.v (.bool (oS s m)), .sl (lim (oM m)).length (ints (lim (oM m))), .v (.int .i64 (oE m e))], .v (.bool true)] else .tu [.ag [.v (.bool (false)), .sl (lim (0)).length (ints (lim (0))), .v (.int .i64 (0))], .v (.bool false)])) := by
 refine Con.frzA ?_
 have ck := con_dyokS (oS s m) (lim (oM m)) (oE m e) hl
 rw [dyB_canon] at ck
 cases hd : dyFit m e
 ·rw [hd] at ck
  rw [if_neg (by simp), lim_zero]
  refine Con.of_w (rs := [.cell 2 29, .tmp 3]) Tryz.func139 rfl Tryz.ntmps139 rfl ?_
  simp (disch := omega) only [go_sem]
  refine call_cI (ck) ?_
  simp (disch := omega) only [go_sem]
  exact fin_frz
 ·rw [hd] at ck
  rw [if_pos rfl]
  refine Con.of_w (rs := [.cell 2 29, .tmp 3]) Tryz.func139 rfl Tryz.ntmps139 rfl ?_
  simp (disch := omega) only [go_sem]
  refine call_cI (ck) ?_
  simp (disch := omega) only [go_sem]
  exact fin_frz
theorem con_DyAddS (s1 : Bool) (m1 : Nat) (e1 : Int) (s2 : Bool) (m2 : Nat) (e2 : Int) (h1 : dyB s1 (lim m1) e1 = true) (h2 : dyB s2 (lim m2) e2 = true) :
  Con Tryz.prog 71 false [.ag [.v (.bool (s1)), .sl (lim (m1)).length (ints (lim (m1))), .v (.int .i64 (e1))], .ag [.v (.bool (s2)), .sl (lim (m2)).length (ints (lim (m2))), .v (.int .i64 (e2))]] [] (isA (if dyFit (adM s1 m1 e1 s2 m2 e2) (alE m1 e1 m2 e2) = true then .tu [.ag [.v (.bool (oS (adS s1 m1 e1 s2 m2 e2) (adM s1 m1 e1 s2 m2 e2))), .sl (lim (oM (adM s1 m1 e1 s2 m2 e2))).length (ints (lim (oM (adM s1 m1 e1 s2 m2 e2)))), .v (.int .i64 (oE (adM s1 m1 e1 s2 m2 e2) (alE m1 e1 m2 e2)))], .v (.bool true)] else .tu [.ag [.v (.bool (false)), .sl (lim (0)).length (ints (lim (0))), .v (.int .i64 (0))], .v (.bool false)])) := by
 refine Con.frzA ?_
 obtain ⟨n1, q1, b1, c1, d1, _, f1⟩ := dyB_lim h1
 obtain ⟨n2, q2, b2, c2, d2, _, f2⟩ := dyB_lim h2
 obtain rfl := lim_inj q1
 obtain rfl := lim_inj q2
 have hE := alE_ge (m1 := m1) (m2 := m2) d1.1 d2.1
 have b1' := bl_alA (e := e1) (E := alE m1 e1 m2 e2) (C := 6000) c1 (by omega)
 have b2' := bl_alA (e := e2) (E := alE m1 e1 m2 e2) (C := 6000) c2 (by omega)
 have hM : bl (adM s1 m1 e1 s2 m2 e2) ≤ 7601 := bl_suM b1' b2'
 have hl := len_bl (Nat.le_trans (bl_mono (oM_le _)) hM)
 have cf := con_l4fits (adS s1 m1 e1 s2 m2 e2) (adM s1 m1 e1 s2 m2 e2) (alE m1 e1 m2 e2) (by omega)
 have ca := con_l4add s1 m1 e1 s2 m2 e2 (by omega) (by omega) (by omega) (by omega) f1 f2
 have k1 := con_dyokS s1 (lim m1) e1 (by omega)
 have k2 := con_dyokS s2 (lim m2) e2 (by omega)
 rw [h1] at k1
 rw [h2] at k2
 cases hd : dyFit (adM s1 m1 e1 s2 m2 e2) (alE m1 e1 m2 e2)
 ·rw [hd, if_neg (by simp), lim_zero] at cf
  rw [if_neg (by simp), lim_zero]
  refine Con.of_w (rs := [.cell 4 29, .tmp 5]) Tryz.func71 rfl Tryz.ntmps71 rfl ?_
  simp (disch := omega) only [go_sem]
  refine call_cI (k1) ?_
  simp (disch := omega) only [go_sem]
  refine call_cI (k2) ?_
  simp (disch := omega) only [go_sem]
  refine call_oI (ca) ?_
  simp (disch := omega) only [go_sem]
  refine call_oI (cf) ?_
  simp (disch := omega) only [go_sem]
  exact fin_frz
 ·rw [hd, if_pos rfl] at cf
  rw [if_pos rfl]
  refine Con.of_w (rs := [.cell 4 29, .tmp 5]) Tryz.func71 rfl Tryz.ntmps71 rfl ?_
  simp (disch := omega) only [go_sem]
  refine call_cI (k1) ?_
  simp (disch := omega) only [go_sem]
  refine call_cI (k2) ?_
  simp (disch := omega) only [go_sem]
  refine call_oI (ca) ?_
  simp (disch := omega) only [go_sem]
  refine call_oI (cf) ?_
  simp (disch := omega) only [go_sem]
  exact fin_frz
def pmS (s1 : Bool) (m1 : Nat) (s2 : Bool) (m2 : Nat) : Bool := (s1 != s2) && decide (m1 * m2 ≠ 0)
theorem con_DyMulS (s1 : Bool) (m1 : Nat) (e1 : Int) (s2 : Bool) (m2 : Nat) (e2 : Int) (h1 : dyB s1 (lim m1) e1 = true) (h2 : dyB s2 (lim m2) e2 = true) :
  Con Tryz.prog 60 false [.ag [.v (.bool (s1)), .sl (lim (m1)).length (ints (lim (m1))), .v (.int .i64 (e1))], .ag [.v (.bool (s2)), .sl (lim (m2)).length (ints (lim (m2))), .v (.int .i64 (e2))]] [] (isA (if dyFit (m1 * m2) (e1 + e2) = true then .tu [.ag [.v (.bool (oS (pmS s1 m1 s2 m2) (m1 * m2))), .sl (lim (oM (m1 * m2))).length (ints (lim (oM (m1 * m2)))), .v (.int .i64 (oE (m1 * m2) (e1 + e2)))], .v (.bool true)] else .tu [.ag [.v (.bool (false)), .sl (lim (0)).length (ints (lim (0))), .v (.int .i64 (0))], .v (.bool false)])) := by
 refine Con.frzA ?_
 obtain ⟨n1, q1, b1, c1, d1, _, f1⟩ := dyB_lim h1
 obtain ⟨n2, q2, b2, c2, d2, _, f2⟩ := dyB_lim h2
 obtain rfl := lim_inj q1
 obtain rfl := lim_inj q2
 have hM := Nat.le_trans (bl_mulle m1 m2) (Nat.add_le_add c1 c2)
 have hl := len_bl (Nat.le_trans (bl_mono (oM_le _)) hM)
 have cf := con_l4fits (pmS s1 m1 s2 m2) (m1 * m2) (e1 + e2) (by omega)
 have ca := con_l4mul s1 m1 e1 s2 m2 e2 (by omega) (by omega) (by omega) (by omega)
 have k1 := con_dyokS s1 (lim m1) e1 (by omega)
 have k2 := con_dyokS s2 (lim m2) e2 (by omega)
 rw [h1] at k1
 rw [h2] at k2
 unfold pmS at *
 cases hd : dyFit (m1 * m2) (e1 + e2)
 ·rw [hd, if_neg (by simp), lim_zero] at cf
  rw [if_neg (by simp), lim_zero]
  refine Con.of_w (rs := [.cell 4 29, .tmp 5]) Tryz.func60 rfl Tryz.ntmps60 rfl ?_
  simp (disch := omega) only [go_sem]
  refine call_cI (k1) ?_
  simp (disch := omega) only [go_sem]
  refine call_cI (k2) ?_
  simp (disch := omega) only [go_sem]
  refine call_oI (ca) ?_
  simp (disch := omega) only [go_sem]
  refine call_oI (cf) ?_
  simp (disch := omega) only [go_sem]
  exact fin_frz
 ·rw [hd, if_pos rfl] at cf
  rw [if_pos rfl]
  refine Con.of_w (rs := [.cell 4 29, .tmp 5]) Tryz.func60 rfl Tryz.ntmps60 rfl ?_
  simp (disch := omega) only [go_sem]
  refine call_cI (k1) ?_
  simp (disch := omega) only [go_sem]
  refine call_cI (k2) ?_
  simp (disch := omega) only [go_sem]
  refine call_oI (ca) ?_
  simp (disch := omega) only [go_sem]
  refine call_oI (cf) ?_
  simp (disch := omega) only [go_sem]
  exact fin_frz
theorem con_lawAdd (s1 : Bool) (m1 : Nat) (e1 : Int) (s2 : Bool) (m2 : Nat) (e2 : Int) (ok : Bool) (h1 : dyB s1 (lim m1) e1 = true) (h2 : dyB s2 (lim m2) e2 = true) :
  Con Tryz.prog 16 false [.ag [.v (.bool (s1)), .sl (lim (m1)).length (ints (lim (m1))), .v (.int .i64 (e1))], .ag [.v (.bool (s2)), .sl (lim (m2)).length (ints (lim (m2))), .v (.int .i64 (e2))], .v (.bool ok)] [] (isA (if dyFit (adM s1 m1 e1 s2 m2 e2) (alE m1 e1 m2 e2) = true then .tu [.ag [.v (.bool (oS (adS s1 m1 e1 s2 m2 e2) (adM s1 m1 e1 s2 m2 e2))), .sl (lim (oM (adM s1 m1 e1 s2 m2 e2))).length (ints (lim (oM (adM s1 m1 e1 s2 m2 e2)))), .v (.int .i64 (oE (adM s1 m1 e1 s2 m2 e2) (alE m1 e1 m2 e2)))], .v (.bool ok)] else .tu [.ag [.v (.bool (false)), .sl (lim (0)).length (ints (lim (0))), .v (.int .i64 (0))], .v (.bool false)])) := by
 refine Con.frzA ?_
 have cf := con_DyAddS s1 m1 e1 s2 m2 e2 h1 h2
 cases hd : dyFit (adM s1 m1 e1 s2 m2 e2) (alE m1 e1 m2 e2)
 ·rw [hd, if_neg (by simp), lim_zero] at cf
  rw [if_neg (by simp), lim_zero]
  cases ok
  ·refine Con.of_w (rs := [.cell 6 29, .tmp 7]) Tryz.func16 rfl Tryz.ntmps16 rfl ?_
   simp (disch := omega) only [go_sem]
   refine call_oI (cf) ?_
   simp (disch := omega) only [go_sem]
   exact fin_frz
  ·refine Con.of_w (rs := [.cell 6 29, .tmp 7]) Tryz.func16 rfl Tryz.ntmps16 rfl ?_
   simp (disch := omega) only [go_sem]
   refine call_oI (cf) ?_
   simp (disch := omega) only [go_sem]
   exact fin_frz
 ·rw [hd, if_pos rfl] at cf
  rw [if_pos rfl]
  cases ok
  ·refine Con.of_w (rs := [.cell 6 29, .tmp 7]) Tryz.func16 rfl Tryz.ntmps16 rfl ?_
   simp (disch := omega) only [go_sem]
   refine call_oI (cf) ?_
   simp (disch := omega) only [go_sem]
   exact fin_frz
  ·refine Con.of_w (rs := [.cell 6 29, .tmp 7]) Tryz.func16 rfl Tryz.ntmps16 rfl ?_
   simp (disch := omega) only [go_sem]
   refine call_oI (cf) ?_
   simp (disch := omega) only [go_sem]
   exact fin_frz
theorem con_lawMul (s1 : Bool) (m1 : Nat) (e1 : Int) (s2 : Bool) (m2 : Nat) (e2 : Int) (ok : Bool) (h1 : dyB s1 (lim m1) e1 = true) (h2 : dyB s2 (lim m2) e2 = true) :
  Con Tryz.prog 15 false [.ag [.v (.bool (s1)), .sl (lim (m1)).length (ints (lim (m1))), .v (.int .i64 (e1))], .ag [.v (.bool (s2)), .sl (lim (m2)).length (ints (lim (m2))), .v (.int .i64 (e2))], .v (.bool ok)] [] (isA (if dyFit (m1 * m2) (e1 + e2) = true then .tu [.ag [.v (.bool (oS (pmS s1 m1 s2 m2) (m1 * m2))), .sl (lim (oM (m1 * m2))).length (ints (lim (oM (m1 * m2)))), .v (.int .i64 (oE (m1 * m2) (e1 + e2)))], .v (.bool ok)] else .tu [.ag [.v (.bool (false)), .sl (lim (0)).length (ints (lim (0))), .v (.int .i64 (0))], .v (.bool false)])) := by
 refine Con.frzA ?_
 have cf := con_DyMulS s1 m1 e1 s2 m2 e2 h1 h2
 cases hd : dyFit (m1 * m2) (e1 + e2)
 ·rw [hd, if_neg (by simp), lim_zero] at cf
  rw [if_neg (by simp), lim_zero]
  cases ok
  ·refine Con.of_w (rs := [.cell 6 29, .tmp 7]) Tryz.func15 rfl Tryz.ntmps15 rfl ?_
   simp (disch := omega) only [go_sem]
   refine call_oI (cf) ?_
   simp (disch := omega) only [go_sem]
   exact fin_frz
  ·refine Con.of_w (rs := [.cell 6 29, .tmp 7]) Tryz.func15 rfl Tryz.ntmps15 rfl ?_
   simp (disch := omega) only [go_sem]
   refine call_oI (cf) ?_
   simp (disch := omega) only [go_sem]
   exact fin_frz
 ·rw [hd, if_pos rfl] at cf
  rw [if_pos rfl]
  cases ok
  ·refine Con.of_w (rs := [.cell 6 29, .tmp 7]) Tryz.func15 rfl Tryz.ntmps15 rfl ?_
   simp (disch := omega) only [go_sem]
   refine call_oI (cf) ?_
   simp (disch := omega) only [go_sem]
   exact fin_frz
  ·refine Con.of_w (rs := [.cell 6 29, .tmp 7]) Tryz.func15 rfl Tryz.ntmps15 rfl ?_
   simp (disch := omega) only [go_sem]
   refine call_oI (cf) ?_
   simp (disch := omega) only [go_sem]
   exact fin_frz
end Go.Ab
namespace Go.Ab
open Go Go.Proofs
set_option linter.unusedVariables false
set_option linter.unusedSimpArgs false
theorem con_l3cmp (s1 : Bool) (m1 : Nat) (s2 : Bool) (m2 : Nat) (l1 : (lim m1).length ≤ 2 ^ 40) (l2 : (lim m2).length ≤ 2 ^ 40) (z1 : m1 = 0 → s1 = false) (z2 : m2 = 0 → s2 = false) :
  Con Tryz.prog 158 true [.ag [.v (.bool (s1)), .sl (lim (m1)).length (ints (lim (m1)))], .ag [.v (.bool (s2)), .sl (lim (m2)).length (ints (lim (m2)))]] [] (isA (.v (.int .i64 (cmpI (sv s1 m1) (sv s2 m2))))) := by
 rw [cmp_signs z1 z2]
 cases s1 <;> cases s2
 ·refine Con.of_w (rs := [.tmp 4]) Tryz.func158 rfl Tryz.ntmps158 rfl ?_
  simp (disch := omega) only [go_sem]
  refine call_cI (con_l2cmp m1 m2 l1 l2) ?_
  simp (disch := omega) only [go_sem]
  exact fin_cI
 ·refine Con.of_w (rs := [.tmp 4]) Tryz.func158 rfl Tryz.ntmps158 rfl ?_
  simp (disch := omega) only [go_sem]
  exact fin_cI
 ·refine Con.of_w (rs := [.tmp 4]) Tryz.func158 rfl Tryz.ntmps158 rfl ?_
  simp (disch := omega) only [go_sem]
  exact fin_cI
 ·refine Con.of_w (rs := [.tmp 4]) Tryz.func158 rfl Tryz.ntmps158 rfl ?_
  simp (disch := omega) only [go_sem]
  refine call_cI (con_l2cmp m2 m1 l2 l1) ?_
  simp (disch := omega) only [go_sem]
  exact fin_cI
theorem con_l4cmp (K : Nat) (s1 : Bool) (m1 : Nat) (e1 : Int) (s2 : Bool) (m2 : Nat) (e2 : Int) (h1 : bl m1 ≤ 4000000) (h2 : bl m2 ≤ 4000000) (he1 : -1000000 ≤ e1 ∧ e1 ≤ 1000000) (he2 : -1000000 ≤ e2 ∧ e2 ≤ 1000000) (k1 : -(K : Int) ≤ e1) (k2 : -(K : Int) ≤ e2) (z1 : m1 = 0 → s1 = false) (z2 : m2 = 0 → s2 = false) :
  Con Tryz.prog 74 true [.ag [.v (.bool (s1)), .sl (lim (m1)).length (ints (lim (m1))), .v (.int .i64 (e1))], .ag [.v (.bool (s2)), .sl (lim (m2)).length (ints (lim (m2))), .v (.int .i64 (e2))]] [] (isA (.v (.int .i64 (cmpI (dv K s1 m1 e1) (dv K s2 m2 e2))))) := by
 have hE := alE_ge (m1 := m1) (m2 := m2) he1.1 he2.1
 have b1 := len_bl (bl_alA (e := e1) (E := alE m1 e1 m2 e2) (C := 2000000) h1 (by omega))
 have b2 := len_bl (bl_alA (e := e2) (E := alE m1 e1 m2 e2) (C := 2000000) h2 (by omega))
 rw [← cmp_dv k1 k2]
 have y1 : alA m1 e1 (alE m1 e1 m2 e2) = 0 → s1 = false := fun h => z1 (alA_zero.1 h)
 have y2 : alA m2 e2 (alE m1 e1 m2 e2) = 0 → s2 = false := fun h => z2 (alA_zero.1 h)
 refine Con.of_w (rs := [.tmp 4]) Tryz.func74 rfl Tryz.ntmps74 rfl ?_
 simp (disch := omega) only [go_sem]
 refine call_oI (con_l4align s1 m1 e1 s2 m2 e2 h1 h2 he1 he2 z1 z2) ?_
 simp (disch := omega) only [go_sem]
 refine call_cI (con_l3cmp s1 (alA m1 e1 (alE m1 e1 m2 e2)) s2 (alA m2 e2 (alE m1 e1 m2 e2)) (by omega) (by omega) y1 y2) ?_
 simp (disch := omega) only [go_sem]
 exact fin_cI
theorem con_DyCmpS (s1 : Bool) (m1 : Nat) (e1 : Int) (s2 : Bool) (m2 : Nat) (e2 : Int) (h1 : dyB s1 (lim m1) e1 = true) (h2 : dyB s2 (lim m2) e2 = true) :
  Con Tryz.prog 18 true [.ag [.v (.bool (s1)), .sl (lim (m1)).length (ints (lim (m1))), .v (.int .i64 (e1))], .ag [.v (.bool (s2)), .sl (lim (m2)).length (ints (lim (m2))), .v (.int .i64 (e2))]] [] (isA (.v (.int .i64 (cmpI (dv 3000 s1 m1 e1) (dv 3000 s2 m2 e2))))) := by
 obtain ⟨n1, q1, b1, c1, d1, _, f1⟩ := dyB_lim h1
 obtain ⟨n2, q2, b2, c2, d2, _, f2⟩ := dyB_lim h2
 obtain rfl := lim_inj q1
 obtain rfl := lim_inj q2
 have k1 := con_dyokS s1 (lim m1) e1 (by omega)
 have k2 := con_dyokS s2 (lim m2) e2 (by omega)
 rw [h1] at k1
 rw [h2] at k2
 refine Con.of_w (rs := [.tmp 4]) Tryz.func18 rfl Tryz.ntmps18 rfl ?_
 simp (disch := omega) only [go_sem]
 refine call_cI (k1) ?_
 simp (disch := omega) only [go_sem]
 refine call_cI (k2) ?_
 simp (disch := omega) only [go_sem]
 refine call_cI (con_l4cmp 3000 s1 m1 e1 s2 m2 e2 (by omega) (by omega) (by omega) (by omega) (by omega) (by omega) f1 f2) ?_
 simp (disch := omega) only [go_sem]
 exact fin_cI
theorem con_DyNegS (s : Bool) (m : Nat) (e : Int) (h : dyB s (lim m) e = true) : Con Tryz.prog 121 false [.ag [.v (.bool (s)), .sl (lim (m)).length (ints (lim (m))), .v (.int .i64 (e))]] [] (isA (.ag [.v (.bool ((!s) && decide (m ≠ 0))), .sl (lim (m)).length (ints (lim (m))), .v (.int .i64 (e))])) := by
 refine Con.frzA ?_
 obtain ⟨n1, q1, b1, c1, d1, _, f1⟩ := dyB_lim h
 obtain rfl := lim_inj q1
 have k1 := con_dyokS s (lim m) e (by omega)
 rw [h] at k1
 refine Con.of_w (rs := [.cell 2 29]) Tryz.func121 rfl Tryz.ntmps121 rfl ?_
 simp (disch := omega) only [go_sem]
 refine call_cI (k1) ?_
 simp (disch := omega) only [go_sem]
 refine call_oI (con_l4neg s m e (by omega)) ?_
 simp (disch := omega) only [go_sem]
 exact fin_frz
theorem con_lawNeg (s : Bool) (m : Nat) (e : Int) (h : dyB s (lim m) e = true) : Con Tryz.prog 46 false [.ag [.v (.bool (s)), .sl (lim (m)).length (ints (lim (m))), .v (.int .i64 (e))]] [] (isA (.ag [.v (.bool ((!s) && decide (m ≠ 0))), .sl (lim (m)).length (ints (lim (m))), .v (.int .i64 (e))])) := by
 refine Con.frzA ?_
 refine Con.of_w (rs := [.cell 2 29]) Tryz.func46 rfl Tryz.ntmps46 rfl ?_
 simp (disch := omega) only [go_sem]
 refine call_oI (con_DyNegS s m e h) ?_
 simp (disch := omega) only [go_sem]
 exact fin_frz
theorem con_WholeOfS (n : Int) (h : -9223372036854775808 ≤ n ∧ n < 9223372036854775808) : Con Tryz.prog 73 false [.v (.int .i64 n)] [] (isA (.ag [.v (.bool (decide (n < 0))), .sl (lim (n.natAbs)).length (ints (lim (n.natAbs)))])) := by
 refine Con.frzA ?_
 refine Con.of_w (rs := [.cell 2 27]) Tryz.func73 rfl Tryz.ntmps73 rfl ?_
 simp (disch := omega) only [go_sem]
 refine call_oI (con_l3of n h) ?_
 simp (disch := omega) only [go_sem]
 exact fin_frz
theorem con_l4e (e : Int) : Con Tryz.prog 155 true [.v (.int .i64 e)] [] (isA (.v (.bool (decide (-12000 ≤ e) && decide (e ≤ 12000))))) := by
 refine Con.of_aw Tryz.func155 rfl Tryz.ntmps155 (by simp) (by simp) (by simp) (W.sound ?_)
 show @W Tryz.prog 9 ⟨_⟩ ⟨fun x σ => @retW _ _ _ ⟨_⟩ _ ⟨_⟩ x σ⟩ _ _
 simp (disch := omega) only [go_sem]
 repeat' first
  | simp (disch := omega) only [go_sem, *]
  | (with_reducible refine ifW_dec (fun _ => ?_) (fun _ => ?_))
  | (with_reducible refine ifW_not (fun _ => ?_) (fun _ => ?_))
  | (with_reducible refine ifW_nb (fun _ => ?_) (fun _ => ?_))
  | (with_reducible refine ifW_b (fun _ => ?_) (fun _ => ?_))
 all_goals exact fin_valc (by simp (disch := omega) only [go_sem]) (by simp (disch := omega) only [go_sem]) ⟨by simp_all [tupA] <;> omega, rfl, rfl⟩
theorem con_DyOfS (s : Bool) (m : Nat) (e : Int) (h : wholeB s (lim m) = true) (he : -12000 ≤ e ∧ e ≤ 12000) :
  Con Tryz.prog 72 false [.ag [.v (.bool (s)), .sl (lim (m)).length (ints (lim (m)))], .v (.int .i64 e)] [] (isA (if dyFit m e = true then .tu [.ag [.v (.bool (oS s m)), .sl (lim (oM m)).length (ints (lim (oM m))), .v (.int .i64 (oE m e))], .v (.bool true)] else .tu [.ag [.v (.bool (false)), .sl (lim (0)).length (ints (lim (0))), .v (.int .i64 (0))], .v (.bool false)])) := by
 refine Con.frzA ?_
 have h' := h
 simp only [wholeB, Bool.and_eq_true] at h'
 obtain ⟨_, hl⟩ := natB_lim h'.1
 have hb := bl_len (m := m)
 have hb2 := len_bl (Nat.le_trans (bl_mono (oM_le m)) hb)
 have k1 := con_wholeokS s (lim m) (by omega)
 rw [h] at k1
 have k2 := con_l4e e
 rw [decide_eq_true he.1, decide_eq_true he.2] at k2
 have cf := con_l4fits s m e (by omega)
 cases hd : dyFit m e
 ·rw [hd, if_neg (by simp), lim_zero] at cf
  rw [if_neg (by simp), lim_zero]
  refine Con.of_w (rs := [.cell 4 29, .tmp 5]) Tryz.func72 rfl Tryz.ntmps72 rfl ?_
  simp (disch := omega) only [go_sem]
  refine call_cI (k1) ?_
  simp (disch := omega) only [go_sem]
  refine call_cI (k2) ?_
  simp (disch := omega) only [go_sem]
  refine call_oI (con_l4make s m e (by omega) (by omega)) ?_
  simp (disch := omega) only [go_sem]
  refine call_oI (cf) ?_
  simp (disch := omega) only [go_sem]
  exact fin_frz
 ·rw [hd, if_pos rfl] at cf
  rw [if_pos rfl]
  refine Con.of_w (rs := [.cell 4 29, .tmp 5]) Tryz.func72 rfl Tryz.ntmps72 rfl ?_
  simp (disch := omega) only [go_sem]
  refine call_cI (k1) ?_
  simp (disch := omega) only [go_sem]
  refine call_cI (k2) ?_
  simp (disch := omega) only [go_sem]
  refine call_oI (con_l4make s m e (by omega) (by omega)) ?_
  simp (disch := omega) only [go_sem]
  refine call_oI (cf) ?_
  simp (disch := omega) only [go_sem]
  exact fin_frz
theorem tz_one' : tz 1 = 0 := tz_odd rfl
theorem lim_one : lim 1 = [1] := by rw [lim_pos (by omega)]; simp [lim_zero]
/-! ### Sameness -/
theorem con_sameNat (a b : Nat) (la : (lim a).length ≤ 2 ^ 40) (lb : (lim b).length ≤ 2 ^ 40) : Con Tryz.prog 146 true [.ag [.sl (lim (a)).length (ints (lim (a)))], .ag [.sl (lim (b)).length (ints (lim (b)))]] [] (isA (.v (.bool (decide (a = b))))) := by
 refine Con.of_w (rs := [.tmp 4]) Tryz.func146 rfl Tryz.ntmps146 rfl ?_
 simp (disch := omega) only [go_sem]
 refine ifW_not (fun h1 => ?_) (fun h1 => ?_)
 ·simp (disch := omega) only [go_sem, h1]
  rw [decide_eq_false (fun e => h1 (by rw [e]))]
  exact fin_cI
 ·have hl : (lim a).length = (lim b).length := by omega
  simp (disch := omega) only [go_sem, h1]
  refine loop_intro (fun i : Nat => [(2, .pt 40000000 0), (3, .pt 50000000 0), (5, .v (.int .i64 i))]) (fun _ => [(40000000, .own 0 [.sl (lim (a)).length (ints (lim (a)))]), (50000000, .own 0 [.sl (lim (b)).length (ints (lim (b)))])])
   (fun i => i ≤ (lim a).length ∧ (lim a).take i = (lim b).take i) (fun i => (lim a).length - i) 0 ⟨by omega, by simp⟩ (Le.lst [] _ _ rfl (by simp (disch := omega) only [go_sem]; try omega) (by simp (disch := omega) only [go_sem])) ?_
  rintro i ⟨hi, ht⟩
  simp (disch := omega) only [go_sem]
  refine ifW_dec (fun h2 => ?_) (fun h2 => ?_)
  ·simp (disch := omega) only [go_sem, h2]
   refine draw_of rfl [⟨0, [], []⟩, ⟨1, [], []⟩, ⟨2, [1], []⟩, ⟨3, [], []⟩, ⟨4, [], []⟩, ⟨5, [1, 4], []⟩, ⟨6, [1, 4], []⟩, ⟨7, [1, 4, 6], []⟩, ⟨8, [1, 4], []⟩, ⟨9, [1, 4], []⟩, ⟨10, [], []⟩] (by kernel_rfl) ?_
   simp (disch := omega) only [go_sem]
   refine ⟨by omega, by omega, by omega, by omega, ?_⟩
   refine ifW_not (fun h3 => ?_) (fun h3 => ?_)
   ·simp (disch := omega) only [go_sem, h3]
    rw [decide_eq_false (fun e => h3 (by rw [e]))]
    exact fin_cI
   ·simp (disch := omega) only [go_sem, h3]
    refine next_intro (i + 1) [] ⟨by omega, ?_⟩ (by show (lim a).length - (i + 1) < (lim a).length - i; omega) rfl (by simp (disch := omega) only [go_sem]; try omega) (by simp (disch := omega) only [go_sem])
    rw [take_succ' (l := lim a) (by omega), take_succ' (l := lim b) (by omega), ht, h3]
  ·simp (disch := omega) only [go_sem, h2]
   have : i = (lim a).length := by omega
   subst this
   have ht2 : lim a = lim b := by
    have h4 := List.take_of_length_le (l := lim b) (i := (lim a).length) (by omega)
    rw [List.take_length, h4] at ht
    exact ht
   rw [decide_eq_true (lim_inj ht2)]
   exact fin_cI
theorem con_sameWhole (s1 : Bool) (m1 : Nat) (s2 : Bool) (m2 : Nat) (l1 : (lim m1).length ≤ 2 ^ 40) (l2 : (lim m2).length ≤ 2 ^ 40) : Con Tryz.prog 69 true [.ag [.v (.bool (s1)), .sl (lim (m1)).length (ints (lim (m1)))], .ag [.v (.bool (s2)), .sl (lim (m2)).length (ints (lim (m2)))]] [] (isA (.v (.bool ((s1 == s2) && decide (m1 = m2))))) := by
 refine Con.of_w (rs := [.tmp 4]) Tryz.func69 rfl Tryz.ntmps69 rfl ?_
 cases hs : (s1 == s2)
 ·simp (disch := omega) only [go_sem, hs]
  exact fin_cI
 ·simp (disch := omega) only [go_sem, hs]
  refine call_cI (con_sameNat m1 m2 l1 l2) ?_
  simp (disch := omega) only [go_sem]
  exact fin_cI
theorem con_sameDy (s1 : Bool) (m1 : Nat) (e1 : Int) (s2 : Bool) (m2 : Nat) (e2 : Int) (l1 : (lim m1).length ≤ 2 ^ 40) (l2 : (lim m2).length ≤ 2 ^ 40) : Con Tryz.prog 13 true [.ag [.v (.bool (s1)), .sl (lim (m1)).length (ints (lim (m1))), .v (.int .i64 (e1))], .ag [.v (.bool (s2)), .sl (lim (m2)).length (ints (lim (m2))), .v (.int .i64 (e2))]] [] (isA (.v (.bool (decide (e1 = e2) && ((s1 == s2) && decide (m1 = m2)))))) := by
 cases he : decide (e1 = e2)
 ·have he' : ¬ e1 = e2 := by simpa using he
  refine Con.of_w (rs := [.tmp 4]) Tryz.func13 rfl Tryz.ntmps13 rfl ?_
  simp (disch := omega) only [go_sem, he']
  exact fin_cI
 ·refine Con.of_w (rs := [.tmp 4]) Tryz.func13 rfl Tryz.ntmps13 rfl ?_
  simp (disch := omega) only [go_sem, he]
  refine call_cI (con_sameWhole s1 m1 s2 m2 l1 l2) ?_
  simp (disch := omega) only [go_sem]
  exact fin_cI
end Go.Ab
namespace Go.Ab
open Go Go.Proofs
set_option linter.unusedVariables false
set_option linter.unusedSimpArgs false
theorem con_dyOne (e : Int) (he : -3000 ≤ e ∧ e ≤ 3000) : Con Tryz.prog 17 false [.v (.int .i64 1), .v (.int .i64 e)] [] (isA (.ag [.v (.bool (false)), .sl (lim (1)).length (ints (lim (1))), .v (.int .i64 (e))])) := by
 refine Con.frzA ?_
 have hm : oM 1 = 1 := by unfold oM; rw [tz_one']
 have hE : oE 1 e = e := by unfold oE; rw [tz_one', if_neg (by decide)]; simp
 have hf : dyFit 1 e = true := by
  unfold dyFit natFit; rw [hm, hE, lim_one]
  simp only [Bool.and_eq_true, decide_eq_true_eq]
  exact ⟨by decide, by omega, by omega⟩
 have c1 := con_DyOfS false 1 e (by rw [lim_one]; decide) (by omega)
 rw [if_pos hf, hm, hE] at c1
 have c0 := con_WholeOfS 1 (by omega)
 have e1 : decide ((1 : Int) < 0) = false := rfl
 have e2 : (1 : Int).natAbs = 1 := rfl
 rw [e1, e2] at c0
 refine Con.of_aw Tryz.func17 rfl Tryz.ntmps17 (by simp) (by simp) (by simp) (W.sound ?_)
 show @W Tryz.prog 15 ⟨_⟩ ⟨fun x σ => @retW _ _ _ ⟨_⟩ _ ⟨_⟩ x σ⟩ _ _
 simp (disch := omega) only [go_sem]
 refine call_oI (c0) ?_
 simp (disch := omega) only [go_sem]
 refine call_oI (c1) ?_
 simp (disch := omega) only [go_sem]
 refine fin_val (by simp (disch := omega) only [go_sem]) ?_
 show snap _ 6 _ = _
 rfl
theorem tz_1024 : tz 1024 = 10 := tz_uniq (a := 0) (by decide)
theorem can_x : (ExV.can ⟨false, 1024, -10⟩) = ⟨false, 1, 0⟩ := by
 show (⟨oS false 1024, oM 1024, oE 1024 (-10)⟩ : ExV) = _
 unfold oS oM oE
 rw [tz_1024]; rfl
theorem can_far : (ExV.can ⟨false, 1, -14⟩) = ⟨false, 1, -14⟩ := by
 show (⟨oS false 1, oM 1, oE 1 (-14)⟩ : ExV) = _
 unfold oS oM oE
 rw [tz_one']; rfl
theorem fit_can (x : ExV) (a : Nat) (s : Bool) (e : Int) (h : x.can = ⟨s, a, e⟩) (h1 : (lim a).length ≤ 100) (h2 : -3000 ≤ e ∧ e ≤ 3000) : x.fit = true := by
 have e1 : oM x.m = a := congrArg ExV.m h
 have e2 : oE x.m x.e = e := congrArg ExV.e h
 unfold ExV.fit dyFit natFit
 rw [e1, e2]
 simp only [Bool.and_eq_true, decide_eq_true_eq]
 exact ⟨h1, h2⟩
theorem con_ExpMat0 (n : Nat) (h1 : n = 1) : Con Tryz.prog 70 false [.ag [.v (.int .i64 (n)), .sl ([ex0]).length (rowA ExV.cs ([ex0]))], .v (.int .i64 (-10))] [] (isA (.tu [.ag [.v (.int .i64 (n)), .sl ([ex1]).length (rowA ExV.cs ([ex1]))], .ag [.v (.bool (false)), .sl (lim (1)).length (ints (lim (1))), .v (.int .i64 (-14))], .v (.bool true)])) := by
 have c := con_ExpMatG n [ex0] (-10) hRes (by omega) (by rw [h1]; rfl) (by omega) (con_isAsked0 n h1) (con_hold0 n h1) (by rw [h1]; decide +kernel) (by decide +kernel) (by
  rw [show hRes = [⟨⟨false, 16383, -14⟩, ⟨false, 16385, -14⟩⟩] by decide +kernel, List.all_cons, List.all_nil]
  have t1 : tz 16383 = 0 := tz_odd rfl
  have t2 : tz 16385 = 0 := tz_odd rfl
  have f1 : ExV.fit ⟨false, 16383, -14⟩ = true := fit_can _ 16383 false (-14) (by show (⟨oS false 16383, oM 16383, oE 16383 (-14)⟩ : ExV) = _; unfold oS oM oE; rw [t1]; rfl) (by have := len_bl (m := 16383) (B := 20) (bl_le.2 (by decide)); omega) (by omega)
  have f2 : ExV.fit ⟨false, 16385, -14⟩ = true := fit_can _ 16385 false (-14) (by show (⟨oS false 16385, oM 16385, oE 16385 (-14)⟩ : ExV) = _; unfold oS oM oE; rw [t2]; rfl) (by have := len_bl (m := 16385) (B := 20) (bl_le.2 (by decide)); omega) (by omega)
  unfold SpV.fit
  rw [f1, f2]; rfl)
 have eX : expX n hRes (-10) = [⟨false, 1024, -10⟩] := by rw [h1]; decide +kernel
 have eF : expFar n hRes (-10) = ⟨false, 1, -14⟩ := by rw [h1]; decide +kernel
 rw [eX, eF] at c
 have f1 : ExV.fit ⟨false, 1024, -10⟩ = true := fit_can _ 1 false 0 can_x (by rw [lim_one]; decide) (by omega)
 have f2 : ExV.fit ⟨false, 1, -14⟩ = true := fit_can _ 1 false (-14) can_far (by rw [lim_one]; decide) (by omega)
 rw [List.all_cons, List.all_nil, f1, f2, if_pos (by rfl), List.map_cons, List.map_nil, can_x, can_far] at c
 exact c
set_option maxRecDepth 100000 in
theorem con_alive : Con Tryz.prog 14 true [] [] (isA (.v (.bool true))) := by
 obtain ⟨n, hn⟩ : ∃ n : Nat, n = 1 := ⟨1, rfl⟩
 have c := con_ExpMat0 n hn
 have en : (n : Int) = 1 := by omega
 have hrow : rowA ExV.cs [ex0] = [.v (.bool false), .sl 0 [], .v (.int .i64 0)] := by
  simp [rowA, ExV.cs, ex0, lim_zero, ints]
 rw [en, hrow] at c
 have hr1 : rowA ExV.cs [ex1] = [.v (.bool false), .sl (lim 1).length (ints (lim 1)), .v (.int .i64 0)] := by
  simp [rowA, ExV.cs, ex1]
 rw [hr1] at c
 have cd1 := con_dyOne 0 (by omega)
 have cd2 := con_dyOne (-9) (by omega)
 have csd := con_sameDy false 1 0 false 1 0 (by rw [lim_one]; decide) (by rw [lim_one]; decide)
 rw [show (decide ((0 : Int) = 0) && ((false == false) && decide ((1 : Nat) = 1))) = true from rfl] at csd
 have hb : ∀ e : Int, -3000 ≤ e ∧ e ≤ 3000 → dyB false (lim 1) e = true := fun e he => by
  rw [lim_one]; unfold dyB
  rw [show wholeB false [1] = true by decide, decide_eq_true he.1, decide_eq_true he.2]; rfl
 have ccm := con_DyCmpS false 1 (-14) false 1 (-9) (hb _ (by omega)) (hb _ (by omega))
 have hle : cmpI (dv 3000 false 1 (-14)) (dv 3000 false 1 (-9)) ≤ 0 := (cmpI_le _ _).1.2 (by
  unfold dv sv
  rw [if_neg (by simp), show (-9 + ((3000 : Nat) : Int)).toNat = (-14 + ((3000 : Nat) : Int)).toNat + 5 by rfl, Int.pow_add]
  have : (0 : Int) < 2 ^ (-14 + ((3000 : Nat) : Int)).toNat := Int.pow_pos (by omega)
  generalize (2 : Int) ^ (-14 + ((3000 : Nat) : Int)).toNat = p at *
  omega)
 have q3 : decide (cmpI (dv 3000 false 1 (-14)) (dv 3000 false 1 (-9)) ≤ 0) = true := decide_eq_true hle
 generalize cmpI (dv 3000 false 1 (-14)) (dv 3000 false 1 (-9)) = C at *
 refine Con.of_aw Tryz.func14 rfl Tryz.ntmps14 (by simp) (by simp) (by simp)
  (AW.seqLe (E := [(0, .v (.bool false))]) (H := []) (W.sound ?_) (AW.regSplit (E := [(0, .v (.bool false)), (7, .ag [.v (.int .i64 1), .sl 1 [.v (.bool false), .sl 0 [], .v (.int .i64 0)]])]) (H := []) 3 (by simp only [List.take_succ_cons, List.take_zero]; rfl) (by simp only [List.drop_succ_cons, List.drop_zero]; rfl) ?_ ?_))
 ·show @W Tryz.prog 38 ⟨_⟩ ⟨_⟩ _ _
  simp (disch := omega) only [go_sem]
  exact Le.lst [] _ _ rfl (by simp (disch := omega) only [go_sem]) (by simp (disch := omega) only [go_sem])
 ·simp (disch := omega) only [go_sem]
  exact (Le.nilC 80000000 1 (zo := 3) (cs := [.v (.bool false), .v (.slice none 0 0), .v (.int .i64 0)]) (by simp (disch := omega) only [go_sem]) rfl).trans ((Le.frz 80000000 (z := 3) (ks := [.v (.bool false), .sl 0 [], .v (.int .i64 0)]) (by simp (disch := omega) only [go_sem, List.set_cons_succ, List.set_cons_zero]) rfl (by simp (disch := omega) only [go_sem])).trans (Le.lst [] _ _ rfl (by simp (disch := omega) only [go_sem]) (by simp (disch := omega) only [go_sem])))
 show @Ch Tryz.prog 38 ⟨_⟩ ⟨_⟩ ⟨fun σ => @W Tryz.prog 38 ⟨_⟩ ⟨fun x σ => @retW _ _ _ ⟨_⟩ _ ⟨_⟩ x σ⟩ σ.env σ.hp⟩ _ _
 simp (disch := omega) only [go_sem]
 refine call_oI (c) ?_
 simp (disch := omega) only [go_sem]
 refine draw_of rfl [⟨0, [], []⟩, ⟨1, [], []⟩, ⟨2, [], []⟩, ⟨3, [], []⟩, ⟨4, [], []⟩, ⟨5, [], []⟩, ⟨6, [], []⟩, ⟨7, [], []⟩, ⟨8, [], []⟩, ⟨9, [], []⟩, ⟨10, [], []⟩, ⟨11, [], []⟩, ⟨12, [], []⟩, ⟨13, [], []⟩, ⟨14, [], []⟩, ⟨15, [], []⟩, ⟨16, [], []⟩, ⟨17, [14, 16], []⟩, ⟨18, [], []⟩, ⟨19, [], []⟩, ⟨20, [], []⟩, ⟨21, [], []⟩, ⟨22, [21], []⟩, ⟨23, [], []⟩, ⟨24, [], []⟩, ⟨25, [], []⟩, ⟨26, [], []⟩] (by kernel_rfl) ?_
 simp (disch := omega) only [go_sem]
 refine call_oI (cd1) ?_
 simp (disch := omega) only [go_sem]
 refine call_cI (csd) ?_
 simp (disch := omega) only [go_sem]
 refine call_oI (cd2) ?_
 simp (disch := omega) only [go_sem]
 refine call_cI (ccm) ?_
 simp (disch := omega) only [go_sem]
 simp (disch := omega) only [go_sem, q3]
 exact fin_cI
end Go.Ab
namespace Go.Ab
set_option linter.unusedVariables false
set_option linter.unusedSimpArgs false
theorem fl_form {s : Bool} {rm : Nat} {re : Int} (h0 : rm ≠ 0) (ht : (bl rm : Int) + re ≤ 1024) (he : flE rm re ≤ oE rm re) (hr : -1074 ≤ re) :
  flB 1 s (flM rm re : Int) (flE rm re) = true ∧ dv 1074 s (flM rm re) (flE rm re) = dv 1074 s rm re := by
 have h1 : oM rm ≠ 0 := fun e => h0 (oM_eq_zero.1 e)
 have h2 := bl_oM h0
 have hoE : oE rm re = re + tz rm := by unfold oE; rw [if_neg h0]
 have hbl : bl (flM rm re) = bl (oM rm) + (oE rm re - flE rm re).toNat := by unfold flM; rw [bl_mul_pow h1]
 have hM0 : flM rm re ≠ 0 := by
  unfold flM
  exact Nat.mul_ne_zero h1 (Nat.pos_iff_ne_zero.1 (Nat.pow_pos (by omega)))
 have hE : flE rm re = if -1074 > (bl rm : Int) + re - 53 then -1074 else (bl rm : Int) + re - 53 := rfl
 have hlt := bl_lt (flM rm re)
 have hge := bl_ge hM0
 refine ⟨?_, ?_⟩
 ·have hlt2 : flM rm re < 2 ^ 53 := Nat.lt_of_lt_of_le hlt (Nat.pow_le_pow_right (by omega) (by split at hE <;> omega))
  by_cases c : -1074 > (bl rm : Int) + re - 53
  ·rw [if_pos c] at hE
   unfold flB
   rw [if_pos rfl, hE]
   simp only [Bool.and_eq_true, Bool.or_eq_true, decide_eq_true_eq, and_true]
   omega
  ·rw [if_neg c] at hE
   have hb53 : bl (flM rm re) = 53 := by omega
   rw [hb53] at hge
   unfold flB
   rw [if_pos rfl, hE]
   simp only [Bool.and_eq_true, Bool.or_eq_true, decide_eq_true_eq]
   omega
 ·have hE1 : -1074 ≤ flE rm re := by rw [hE]; split <;> omega
  rw [← dv_norm (s := s) (m := rm) (e := re) (K := 1074) (by omega)]
  unfold dv flM
  rw [sv_mul]
  have e1 : (oE rm re + ((1074 : Nat) : Int)).toNat = (oE rm re - flE rm re).toNat + (flE rm re + ((1074 : Nat) : Int)).toNat := by omega
  rw [e1, Int.pow_add, Int.natCast_pow, Int.mul_assoc]; rfl
theorem flB_zero (s : Bool) : flB 0 s 0 0 = true := by unfold flB; simp
theorem dv_form {K : Nat} {s : Bool} {m : Nat} {e : Int} {s' : Bool} {m' : Nat} {e' : Int} (he : -(K : Int) ≤ e) (he' : -(K : Int) ≤ e') (h : dv K s m e = dv K s' m' e') : oS s m = oS s' m' ∧ oM m = oM m' ∧ oE m e = oE m' e' := by
 by_cases h0 : m = 0
 ·have h0' : m' = 0 := by rw [h0, dv_zero] at h; exact dv_eq_zero.1 h.symm
  rw [h0, h0']; exact ⟨rfl, rfl, rfl⟩
 ·obtain ⟨rfl, hM, hE, h0'⟩ := dv_inj h0 he he' h
  refine ⟨?_, hM, hE⟩
  unfold oS; rw [if_neg h0, if_neg h0']
end Go.Ab
namespace Go.Ab
open Go Go.Proofs
set_option linter.unusedVariables false
set_option linter.unusedSimpArgs false
def ExV.val (K : Nat) (x : ExV) : Int := dv K x.s x.m x.e
theorem ok_rng {x : ExV} (h : x.ok = true) : (-3000 ≤ x.e ∧ x.e ≤ 3000) ∧ bl x.m ≤ 1600 ∧ (lim x.m).length ≤ 100 ∧ (x.m = 0 → x.s = false ∧ x.e = 0) ∧ (x.m % 2 = 1 ∨ x.m = 0) := by
 obtain ⟨m, e1, h1, h2, h3, h4, h5⟩ := dyB_lim h
 obtain rfl := lim_inj e1
 exact ⟨h3, h2, h1, fun h0 => ⟨h5 h0, by omega⟩, by omega⟩
theorem ok_can {x : ExV} (h : x.ok = true) : x.can = x := by
 obtain ⟨h1, h2, h3, h4, h5⟩ := ok_rng h
 show (⟨oS x.s x.m, oM x.m, oE x.m x.e⟩ : ExV) = x
 obtain ⟨s, m, e⟩ := x
 dsimp only at *
 rcases h5 with o | h0
 ·have h0 : m ≠ 0 := by omega
  have ht := tz_odd o
  have g1 : oS s m = s := by unfold oS; rw [if_neg h0]
  have g2 : oM m = m := by have := @oM_mul m; rw [ht] at this; simpa using this
  have g3 : oE m e = e := by unfold oE; rw [if_neg h0, ht]; simp
  rw [g1, g2, g3]
 ·obtain ⟨rfl, rfl⟩ := h4 h0
  rw [h0, oM_zero]; rfl
theorem can_ok {x : ExV} (h : x.fit = true) : x.can.ok = true := by
 show dyB (oS x.s x.m) (lim (oM x.m)) (oE x.m x.e) = true
 rw [dyB_canon]; exact h
theorem ex0_ok : ex0.ok = true := by show dyB false (lim 0) 0 = true; rw [lim_zero]; decide
theorem neg_ok {x : ExV} (h : x.ok = true) : x.neg.ok = true := by
 show dyB ((!x.s) && decide (x.m ≠ 0)) (lim x.m) x.e = true
 have h : dyB x.s (lim x.m) x.e = true := h
 unfold dyB wholeB at *
 simp only [Bool.and_eq_true] at h ⊢
 refine ⟨⟨h.1.1, ?_⟩, h.2⟩
 by_cases h0 : x.m = 0
 ·rw [decide_eq_false (show ¬ x.m ≠ 0 from fun h => h h0), Bool.and_false, Bool.false_and]; rfl
 ·have : decide ((lim x.m).length = 0) = false := by have := lim_ne h0; exact decide_eq_false (by omega)
  rw [this, Bool.and_false]; rfl
theorem abs_ok {x : ExV} (h : x.ok = true) : x.abs.ok = true := by
 show dyB false (lim x.m) x.e = true
 have h : dyB x.s (lim x.m) x.e = true := h
 unfold dyB wholeB at *
 simp only [Bool.and_eq_true] at h ⊢
 exact ⟨⟨h.1.1, rfl⟩, h.2⟩
theorem can_val {K : Nat} {x : ExV} (h : -(K : Int) ≤ x.e) : x.can.val K = x.val K := by
 show dv K (oS x.s x.m) (oM x.m) (oE x.m x.e) = _
 rw [dv_norm h, dv_oS]; rfl
theorem plus_val {K : Nat} {x y : ExV} (h1 : -(K : Int) ≤ x.e) (h2 : -(K : Int) ≤ y.e) : (x.plus y).val K = x.val K + y.val K := ad_dv h1 h2
theorem times_val {K K' : Nat} {x y : ExV} (h1 : -(K : Int) ≤ x.e) (h2 : -(K' : Int) ≤ y.e) : (x.times y).val (K + K') = x.val K * y.val K' := by
 show dv (K + K') ((x.s != y.s) && decide (x.m * y.m ≠ 0)) (x.m * y.m) (x.e + y.e) = _
 rw [dv_and]; exact dv_mul h1 h2
theorem neg_val {K : Nat} {x : ExV} : x.neg.val K = -x.val K := by
 show dv K ((!x.s) && decide (x.m ≠ 0)) x.m x.e = -dv K x.s x.m x.e
 rw [dv_and]; unfold dv; rw [sv_not, Int.neg_mul]
theorem abs_val {K : Nat} {x : ExV} : x.abs.val K = (x.val K).natAbs := by
 show dv K false x.m x.e = ((dv K x.s x.m x.e).natAbs : Int)
 unfold dv sv
 rw [Int.natAbs_mul]
 have hp : 0 ≤ (2 : Int) ^ (x.e + (K : Int)).toNat := Int.le_of_lt (Int.pow_pos (by omega))
 have e : (((2 : Int) ^ (x.e + (K : Int)).toNat).natAbs : Int) = 2 ^ (x.e + (K : Int)).toNat := by omega
 rw [Int.natCast_mul, e]
 cases x.s <;> simp
theorem val_up {K j : Nat} {x : ExV} (h : -(K : Int) ≤ x.e) : x.val (K + j) = x.val K * 2 ^ j := by
 unfold ExV.val dv
 have : (x.e + ((K + j : Nat) : Int)).toNat = (x.e + (K : Int)).toNat + j := by omega
 rw [this, Int.pow_add, Int.mul_assoc]
theorem plus_e {K : Int} {x y : ExV} (h1 : K ≤ x.e) (h2 : K ≤ y.e) : K ≤ (x.plus y).e := alE_ge h1 h2
theorem can_e {K : Int} {x : ExV} (h : -K ≤ x.e) (h0 : 0 ≤ K) : -K ≤ x.can.e := oE_ge h h0
theorem ok_inj {K : Nat} {x y : ExV} (h1 : x.ok = true) (h2 : y.ok = true) (k1 : -(K : Int) ≤ x.e) (k2 : -(K : Int) ≤ y.e) (h : x.val K = y.val K) : x = y := by
 obtain ⟨g1, g2, g3⟩ := dv_form k1 k2 h
 rw [← ok_can h1, ← ok_can h2]
 show (⟨oS x.s x.m, oM x.m, oE x.m x.e⟩ : ExV) = ⟨oS y.s y.m, oM y.m, oE y.m y.e⟩
 rw [g1, g2, g3]
def ExV.tel (x : ExV) : ExV := if x.fit = true then x.can else ex0
theorem tel_ok (x : ExV) : x.tel.ok = true := by
 unfold ExV.tel; split
 ·rename_i h; exact can_ok h
 ·exact ex0_ok
theorem tel_fit {x : ExV} (h : x.fit = true) : x.tel = x.can := if_pos h
theorem con_FlDyV (F : FlV) : Con Tryz.prog 41 false [.ag [.v (.int .i64 (F.k)), .v (.bool (F.s)), .v (.int .i64 (F.m)), .v (.int .i64 (F.e))]] []
  (isA (if (flB F.k F.s F.m F.e && (decide (F.k = 0) || decide (F.k = 1))) = true then .tu [.ag [.v (.bool (oS (F.s && decide (F.k = 1)) F.m.toNat)), .sl (lim (oM F.m.toNat)).length (ints (lim (oM F.m.toNat))), .v (.int .i64 (oE F.m.toNat F.e))], .v (.bool true)] else .tu [.ag [.v (.bool (false)), .sl (lim (0)).length (ints (lim (0))), .v (.int .i64 (0))], .v (.bool false)])) := con_FlDy F.k F.s F.m F.e
theorem con_addV (x y : ExV) (ok : Bool) (hx : x.ok = true) (hy : y.ok = true) : Con Tryz.prog 16 false [.ag [.v (.bool (x).s), .sl (lim (x).m).length (ints (lim (x).m)), .v (.int .i64 (x).e)], .ag [.v (.bool (y).s), .sl (lim (y).m).length (ints (lim (y).m)), .v (.int .i64 (y).e)], .v (.bool ok)] [] (isA (.tu [.ag [.v (.bool ((x.plus y).tel).s), .sl (lim ((x.plus y).tel).m).length (ints (lim ((x.plus y).tel).m)), .v (.int .i64 ((x.plus y).tel).e)], .v (.bool ((x.plus y).fit && ok))])) := by
 have c := con_lawAdd x.s x.m x.e y.s y.m y.e ok hx hy
 have e : dyFit (adM x.s x.m x.e y.s y.m y.e) (alE x.m x.e y.m y.e) = (x.plus y).fit := rfl
 rw [e] at c
 unfold ExV.tel
 cases h : (x.plus y).fit
 ·rw [h, if_neg (by simp)] at c
  rw [if_neg (by simp)]; exact c
 ·rw [h, if_pos rfl] at c
  rw [if_pos rfl]; exact c
theorem con_mulV (x y : ExV) (ok : Bool) (hx : x.ok = true) (hy : y.ok = true) : Con Tryz.prog 15 false [.ag [.v (.bool (x).s), .sl (lim (x).m).length (ints (lim (x).m)), .v (.int .i64 (x).e)], .ag [.v (.bool (y).s), .sl (lim (y).m).length (ints (lim (y).m)), .v (.int .i64 (y).e)], .v (.bool ok)] [] (isA (.tu [.ag [.v (.bool ((x.times y).tel).s), .sl (lim ((x.times y).tel).m).length (ints (lim ((x.times y).tel).m)), .v (.int .i64 ((x.times y).tel).e)], .v (.bool ((x.times y).fit && ok))])) := by
 have c := con_lawMul x.s x.m x.e y.s y.m y.e ok hx hy
 have e : dyFit (x.m * y.m) (x.e + y.e) = (x.times y).fit := rfl
 rw [e] at c
 unfold ExV.tel
 cases h : (x.times y).fit
 ·rw [h, if_neg (by simp)] at c
  rw [if_neg (by simp)]; exact c
 ·rw [h, if_pos rfl] at c
  rw [if_pos rfl]; exact c
theorem con_lnegV (x : ExV) (hx : x.ok = true) : Con Tryz.prog 46 false [.ag [.v (.bool (x).s), .sl (lim (x).m).length (ints (lim (x).m)), .v (.int .i64 (x).e)]] [] (isA (.ag [.v (.bool (x.neg).s), .sl (lim (x.neg).m).length (ints (lim (x.neg).m)), .v (.int .i64 (x.neg).e)])) := con_lawNeg x.s x.m x.e hx
theorem con_labsV (x : ExV) (hx : x.ok = true) : Con Tryz.prog 51 false [.ag [.v (.bool (x).s), .sl (lim (x).m).length (ints (lim (x).m)), .v (.int .i64 (x).e)]] [] (isA (.ag [.v (.bool (x.abs).s), .sl (lim (x.abs).m).length (ints (lim (x.abs).m)), .v (.int .i64 (x.abs).e)])) := by
 refine Con.frzA ?_
 cases hs : x.s
 ·have e : x.abs = x := by obtain ⟨s, m, e⟩ := x; dsimp only at hs; rw [hs]; rfl
  rw [e, hs]
  refine Con.of_w (rs := [.cell 2 29]) Tryz.func51 rfl Tryz.ntmps51 rfl ?_
  simp (disch := omega) only [go_sem]
  exact fin_frz
 ·have c := con_lnegV x hx
  have e : x.neg = x.abs := by obtain ⟨s, m, e⟩ := x; dsimp only at hs; rw [hs]; rfl
  rw [e, hs] at c
  refine Con.of_w (rs := [.cell 2 29]) Tryz.func51 rfl Tryz.ntmps51 rfl ?_
  simp (disch := omega) only [go_sem]
  refine call_oI (c) ?_
  simp (disch := omega) only [go_sem]
  exact fin_frz
theorem con_sameV (x y : ExV) (hx : x.ok = true) (hy : y.ok = true) : Con Tryz.prog 13 true [.ag [.v (.bool (x).s), .sl (lim (x).m).length (ints (lim (x).m)), .v (.int .i64 (x).e)], .ag [.v (.bool (y).s), .sl (lim (y).m).length (ints (lim (y).m)), .v (.int .i64 (y).e)]] [] (isA (.v (.bool (decide (x = y))))) := by
 have c := con_sameDy x.s x.m x.e y.s y.m y.e (by have := (ok_rng hx).2.2.1; omega) (by have := (ok_rng hy).2.2.1; omega)
 have e : (decide (x.e = y.e) && ((x.s == y.s) && decide (x.m = y.m))) = decide (x = y) := by
  obtain ⟨s, m, e⟩ := x
  obtain ⟨t, n, f⟩ := y
  rw [Bool.eq_iff_iff]
  simp only [Bool.and_eq_true, decide_eq_true_eq, beq_iff_eq, ExV.mk.injEq]
  exact ⟨fun ⟨a, b, c⟩ => ⟨b, c, a⟩, fun ⟨a, b, c⟩ => ⟨c, a, b⟩⟩
 rw [e] at c; exact c
theorem con_dcmpV (x y : ExV) (hx : x.ok = true) (hy : y.ok = true) : Con Tryz.prog 18 true [.ag [.v (.bool (x).s), .sl (lim (x).m).length (ints (lim (x).m)), .v (.int .i64 (x).e)], .ag [.v (.bool (y).s), .sl (lim (y).m).length (ints (lim (y).m)), .v (.int .i64 (y).e)]] [] (isA (.v (.int .i64 (cmpI (x.val 3000) (y.val 3000))))) := con_DyCmpS x.s x.m x.e y.s y.m y.e hx hy
/-! ### Floats that are numbers -/
theorem fl_ex {s : Bool} {m : Nat} {e : Int} (mode : Int) (z : Bool) (he : -1074 ≤ e) (hm : bl m ≤ 53) (ht : (bl m : Int) + e ≤ 1024) :
  flB (flV s m e mode z).k (flV s m e mode z).s (flV s m e mode z).m (flV s m e mode z).e = true ∧ ((flV s m e mode z).k = 0 ∨ (flV s m e mode z).k = 1) ∧ flG s m e mode = 0 ∧
   dv 1074 (xS (flV s m e mode z).k (flV s m e mode z).s) (flV s m e mode z).m.toNat (flV s m e mode z).e = dv 1074 s m e := by
 by_cases h0 : m = 0
 ·subst h0
  unfold flV flG
  rw [if_pos rfl, if_pos rfl]
  exact ⟨flB_zero z, .inl rfl, rfl, by rw [dv_zero]; exact dv_zero⟩
 ·have hform := @ro_form s m e mode h0
  unfold flV flG
  rw [if_neg h0, if_neg h0]
  have hlow : flLow ((bl m : Int) + e) ≤ e := by unfold flLow; split <;> omega
  have c : flLow ((bl m : Int) + e) ≤ e ∨ m = 0 := .inl hlow
  have r1 : roM s m e (flLow ((bl m : Int) + e)) mode = m := by unfold roM; rw [if_pos c]
  have r2 : roE m e (flLow ((bl m : Int) + e)) = e := by unfold roE; rw [if_pos c]
  have r3 : roX m e (flLow ((bl m : Int) + e)) = true := by unfold roX; rw [if_pos c]
  rw [r1, r2] at hform
  rw [r1, r2, r3]
  have nt : ¬ 1024 < (bl m : Int) + e := by omega
  have e1 : flK s mode m e = 1 := by unfold flK; rw [if_neg h0, if_neg nt]
  have e2 : flMm s mode m e = (flM m e : Int) := by unfold flMm; rw [if_neg h0, if_neg nt]
  have e3 : flEe s mode m e = flE m e := by unfold flEe; rw [if_neg h0, if_neg nt]
  have e4 : flFl ((bl m : Int) + e) true m e = 0 := by unfold flFl flFlags; rw [if_neg (by omega)]; rfl
  dsimp only
  rw [e1, e2, e3, e4]
  obtain ⟨f1, f2⟩ := fl_form (s := s) h0 ht (hform h0) he
  refine ⟨f1, .inr rfl, rfl, ?_⟩
  rw [Int.toNat_natCast, ← f2]
  unfold xS; simp
def flD (F : FlV) : ExV := ⟨oS (xS F.k F.s) F.m.toNat, oM F.m.toNat, oE F.m.toNat F.e⟩
theorem flD_ok {F : FlV} (h : flB F.k F.s F.m F.e = true) : (flD F).ok = true := by
 obtain ⟨a1, a2, _⟩ := flB_rng h
 show dyB (oS (xS F.k F.s) F.m.toNat) (lim (oM F.m.toNat)) (oE F.m.toNat F.e) = true
 rw [dyB_canon]
 exact dyFit_fl (by omega) (by omega)
theorem flD_e {F : FlV} (h : flB F.k F.s F.m F.e = true) : -1074 ≤ (flD F).e ∧ (flD F).e ≤ 1024 := by
 obtain ⟨a1, a2, _⟩ := flB_rng h
 have := oE_rng (m := F.m.toNat) (e := F.e) (lo := -1074) (hi := 971) (B := 53) (bl_le.2 (by omega)) (by omega) (by omega) (by omega)
 exact ⟨this.1, by have := this.2; show oE _ _ ≤ _; omega⟩
theorem flD_val {F : FlV} (h : flB F.k F.s F.m F.e = true) : (flD F).val 1074 = dv 1074 (xS F.k F.s) F.m.toNat F.e := by
 obtain ⟨a1, a2, _⟩ := flB_rng h
 show dv 1074 (oS _ _) (oM _) (oE _ _) = _
 rw [dv_norm (by omega), dv_oS]
theorem con_flD (F : FlV) (h : flB F.k F.s F.m F.e = true) (hk : (decide (F.k = 0) || decide (F.k = 1)) = true) : Con Tryz.prog 41 false [.ag [.v (.int .i64 (F.k)), .v (.bool (F.s)), .v (.int .i64 (F.m)), .v (.int .i64 (F.e))]] [] (isA (.tu [.ag [.v (.bool (flD F).s), .sl (lim (flD F).m).length (ints (lim (flD F).m)), .v (.int .i64 (flD F).e)], .v (.bool true)])) := by
 have c := con_FlDyV F
 rw [h, hk, if_pos (by rfl)] at c
 exact c
theorem con_flDno (F : FlV) (h : (flB F.k F.s F.m F.e && (decide (F.k = 0) || decide (F.k = 1))) = false) : Con Tryz.prog 41 false [.ag [.v (.int .i64 (F.k)), .v (.bool (F.s)), .v (.int .i64 (F.m)), .v (.int .i64 (F.e))]] [] (isA (.tu [.ag [.v (.bool (ex0).s), .sl (lim (ex0).m).length (ints (lim (ex0).m)), .v (.int .i64 (ex0).e)], .v (.bool false)])) := by
 have c := con_FlDyV F
 rw [h, if_neg (by simp)] at c
 exact c
theorem con_FlRoundV (x : ExV) (mode : Int) (h : x.ok = true) (hm : modeB mode = true) : Con Tryz.prog 50 true [.ag [.v (.bool (x).s), .sl (lim (x).m).length (ints (lim (x).m)), .v (.int .i64 (x).e)], .v (.int .i64 mode)] []
  (isA (.tu [.ag [.v (.int .i64 ((flV x.s x.m x.e mode false).k)), .v (.bool ((flV x.s x.m x.e mode false).s)), .v (.int .i64 ((flV x.s x.m x.e mode false).m)), .v (.int .i64 ((flV x.s x.m x.e mode false).e))], .v (.int .i64 (flG x.s x.m x.e mode)), .v (.bool true)])) := by
 have c := con_FlRound x.s (lim x.m) x.e mode (by have := (ok_rng h).2.2.1; omega)
 have h' : dyB x.s (lim x.m) x.e = true := h
 rw [h', hm, if_pos (by rfl), vl_lim, Int.toNat_natCast] at c
 exact c
end Go.Ab
namespace Go.Ab
open Go Go.Proofs
set_option linter.unusedVariables false
set_option linter.unusedSimpArgs false
set_option maxRecDepth 100000 in
theorem con_add (k1 : Int) (s1 : Bool) (m1 e1 k2 : Int) (s2 : Bool) (m2 e2 mode : Int) (h1 : flB k1 s1 m1 e1 = true) (h2 : flB k2 s2 m2 e2 = true) :
  Con Tryz.prog 122 true [.ag [.v (.int .i64 (k1)), .v (.bool (s1)), .v (.int .i64 (m1)), .v (.int .i64 (e1))], .ag [.v (.int .i64 (k2)), .v (.bool (s2)), .v (.int .i64 (m2)), .v (.int .i64 (e2))], .v (.int .i64 mode)] []
   (isA (.tu [.ag [.v (.int .i64 ((addV k1 s1 m1 e1 k2 s2 m2 e2 mode).k)), .v (.bool ((addV k1 s1 m1 e1 k2 s2 m2 e2 mode).s)), .v (.int .i64 ((addV k1 s1 m1 e1 k2 s2 m2 e2 mode).m)), .v (.int .i64 ((addV k1 s1 m1 e1 k2 s2 m2 e2 mode).e))], .v (.int .i64 (addG k1 s1 m1 e1 k2 s2 m2 e2 mode))])) := by
 obtain ⟨a1, a2, a3, a4⟩ := flB_rng h1
 obtain ⟨b1, b2, b3, b4⟩ := flB_rng h2
 obtain ⟨n1, rfl⟩ := Int.eq_ofNat_of_zero_le a1.1
 obtain ⟨n2, rfl⟩ := Int.eq_ofNat_of_zero_le b1.1
 have q1 : bl n1 ≤ 53 := bl_le.2 (by omega)
 have q2 : bl n2 ≤ 53 := bl_le.2 (by omega)
 have r1 : ((n1 : Nat) : Int).toNat = n1 := rfl
 have r2 : ((n2 : Nat) : Int).toNat = n2 := rfl
 by_cases c1 : k1 = 3
 ·subst c1
  refine Con.of_w (rs := [.cell 6 63, .tmp 7]) Tryz.func122 rfl Tryz.ntmps122 rfl ?_
  simp (disch := omega) only [go_sem]
  refine call_cI (con_hasKind 3 3 (n1 : Int) e1 k2 (n2 : Int) e2 s1 s2) ?_
  simp (disch := omega) only [go_sem]
  refine call_cI (con_nan) ?_
  simp (disch := omega) only [go_sem]
  rw [(addV_nan (.inl rfl)).1, (addV_nan (.inl rfl)).2]
  exact fin_cI
 by_cases c2 : k2 = 3
 ·subst c2
  refine Con.of_w (rs := [.cell 6 63, .tmp 7]) Tryz.func122 rfl Tryz.ntmps122 rfl ?_
  simp (disch := omega) only [go_sem]
  refine call_cI (con_hasKind 3 k1 (n1 : Int) e1 3 (n2 : Int) e2 s1 s2) ?_
  simp (disch := omega) only [go_sem]
  refine call_cI (con_nan) ?_
  simp (disch := omega) only [go_sem]
  rw [(addV_nan (.inr rfl)).1, (addV_nan (.inr rfl)).2]
  exact fin_cI
 by_cases d1 : k1 = 2
 ·by_cases d2 : k2 = 2
  ·by_cases hs : s1 = s2
   ·subst d1
    subst d2
    subst hs
    have hx : (s1 != s1) = false := by simp
    refine Con.of_w (rs := [.cell 6 63, .tmp 7]) Tryz.func122 rfl Tryz.ntmps122 rfl ?_
    simp (disch := omega) only [go_sem, hx]
    refine call_cI (con_hasKind 3 2 (n1 : Int) e1 2 (n2 : Int) e2 s1 s1) ?_ (by simp (disch := omega) only [go_sem, hx])
    simp (disch := omega) only [go_sem]
    simp (disch := omega) only [go_sem, hx]
    rw [(addV_inf1 rfl (by omega) (fun _ => rfl)).1, (addV_inf1 rfl (by omega) (fun _ => rfl)).2]
    exact fin_cI
   ·subst d1
    subst d2
    have hx : (s1 != s2) = true := by simpa using hs
    refine Con.of_w (rs := [.cell 6 63, .tmp 7]) Tryz.func122 rfl Tryz.ntmps122 rfl ?_
    simp (disch := omega) only [go_sem, hx]
    refine call_cI (con_hasKind 3 2 (n1 : Int) e1 2 (n2 : Int) e2 s1 s2) ?_ (by simp (disch := omega) only [go_sem, hx])
    simp (disch := omega) only [go_sem]
    simp (disch := omega) only [go_sem, hx]
    refine call_cI (con_nan) ?_
    simp (disch := omega) only [go_sem]
    rw [(addV_bad rfl rfl hs).1, (addV_bad rfl rfl hs).2]
    exact fin_cI
  ·subst d1
   refine Con.of_w (rs := [.cell 6 63, .tmp 7]) Tryz.func122 rfl Tryz.ntmps122 rfl ?_
   simp (disch := omega) only [go_sem, c2, d2]
   refine call_cI (con_hasKind 3 2 (n1 : Int) e1 k2 (n2 : Int) e2 s1 s2) ?_ (by simp (disch := omega) only [go_sem, c2, d2])
   simp (disch := omega) only [go_sem]
   simp (disch := omega) only [go_sem, c2, d2]
   rw [(addV_inf1 rfl c2 (fun h => absurd h d2)).1, (addV_inf1 rfl c2 (fun h => absurd h d2)).2]
   exact fin_cI
 by_cases d2 : k2 = 2
 ·subst d2
  refine Con.of_w (rs := [.cell 6 63, .tmp 7]) Tryz.func122 rfl Tryz.ntmps122 rfl ?_
  simp (disch := omega) only [go_sem, c1, d1]
  refine call_cI (con_hasKind 3 k1 (n1 : Int) e1 2 (n2 : Int) e2 s1 s2) ?_ (by simp (disch := omega) only [go_sem, c1, d1])
  simp (disch := omega) only [go_sem]
  simp (disch := omega) only [go_sem, c1, d1]
  rw [(addV_inf2 c1 d1 rfl).1, (addV_inf2 c1 d1 rfl).2]
  exact fin_cI
 have g1 : xS k1 s1 = (s1 && decide (k1 = 1)) := rfl
 have g2 : xS k2 s2 = (s2 && decide (k2 = 1)) := rfl
 have fin : ∀ z, z = adZ k1 s1 k2 s2 mode → (addV k1 s1 n1 e1 k2 s2 n2 e2 mode = flV (adS (xS k1 s1) n1 e1 (xS k2 s2) n2 e2) (adM (xS k1 s1) n1 e1 (xS k2 s2) n2 e2) (alE n1 e1 n2 e2) mode z ∧ addG k1 s1 n1 e1 k2 s2 n2 e2 mode = flG (adS (xS k1 s1) n1 e1 (xS k2 s2) n2 e2) (adM (xS k1 s1) n1 e1 (xS k2 s2) n2 e2) (alE n1 e1 n2 e2) mode) := fun z hz => by rw [hz]; exact addV_fin c1 d1 c2 d2
 have hE := alE_ge (K := -1074) (m1 := n1) (m2 := n2) (e1 := e1) (e2 := e2) (by omega) (by omega)
 have hE2 := alE_le (K := 971) (m1 := n1) (m2 := n2) (e1 := e1) (e2 := e2) (by omega) (by omega)
 have hM : bl (adM (xS k1 s1) n1 e1 (xS k2 s2) n2 e2) ≤ 3000 := by
  have y1 := bl_alA (e := e1) (E := alE n1 e1 n2 e2) (C := 2900) q1 (by omega)
  have y2 := bl_alA (e := e2) (E := alE n1 e1 n2 e2) (C := 2900) q2 (by omega)
  exact Nat.le_trans (bl_suM y1 y2) (by omega)
 by_cases u1 : k1 = 0
 ·have v1 : decide (k1 = 0) = true := decide_eq_true u1
  by_cases u2 : k2 = 0
  ·have v2 : decide (k2 = 0) = true := decide_eq_true u2
   by_cases hs : s1 = s2
   ·have hx : (s1 == s2) = true := by simpa using hs
    refine Con.of_w (rs := [.cell 6 63, .tmp 7]) Tryz.func122 rfl Tryz.ntmps122 rfl ?_
    simp (disch := omega) only [go_sem, c1, c2, d1, d2, v1, v2, hx]
    refine call_cI (con_hasKind 3 k1 (n1 : Int) e1 k2 (n2 : Int) e2 s1 s2) ?_ (by simp (disch := omega) only [go_sem, c1, c2, d1, d2, v1, v2, hx])
    simp (disch := omega) only [go_sem]
    simp (disch := omega) only [go_sem, c1, c2, d1, d2, v1, v2, hx]
    refine draw_of rfl [⟨0, [], []⟩, ⟨2, [0], []⟩, ⟨5, [0, 2], []⟩, ⟨6, [0, 2], []⟩, ⟨1, [2], []⟩, ⟨3, [], []⟩, ⟨4, [], []⟩, ⟨7, [], []⟩, ⟨8, [], []⟩, ⟨9, [], []⟩, ⟨10, [], []⟩, ⟨11, [], []⟩] (by kernel_rfl) ?_
    simp (disch := omega) only [go_sem, c1, c2, d1, d2, v1, v2, hx]
    refine call_oI (con_flexact k1 s1 n1 e1 (by omega)) ?_
    simp (disch := omega) only [go_sem]
    refine call_oI (con_flexact k2 s2 n2 e2 (by omega)) ?_
    simp (disch := omega) only [go_sem]
    refine call_oI (con_plusX (s1 && decide (k1 = 1)) n1 e1 (s2 && decide (k2 = 1)) n2 e2 (by omega) (by omega) (by omega) (by omega)) ?_
    simp (disch := omega) only [go_sem]
    refine call_cI (con_float (adS (xS k1 s1) n1 e1 (xS k2 s2) n2 e2) (adM (xS k1 s1) n1 e1 (xS k2 s2) n2 e2) (alE n1 e1 n2 e2) mode (s1) (by omega) (by omega)) ?_ (by simp (disch := omega) only [go_sem, g1, g2])
    simp (disch := omega) only [go_sem]
    rw [(fin (s1) (by unfold adZ; rw [if_pos ⟨u1, u2, hs⟩])).1, (fin (s1) (by unfold adZ; rw [if_pos ⟨u1, u2, hs⟩])).2]
    exact fin_cI
   ·have hx : (s1 == s2) = false := by simpa using hs
    refine Con.of_w (rs := [.cell 6 63, .tmp 7]) Tryz.func122 rfl Tryz.ntmps122 rfl ?_
    simp (disch := omega) only [go_sem, c1, c2, d1, d2, v1, v2, hx]
    refine call_cI (con_hasKind 3 k1 (n1 : Int) e1 k2 (n2 : Int) e2 s1 s2) ?_ (by simp (disch := omega) only [go_sem, c1, c2, d1, d2, v1, v2, hx])
    simp (disch := omega) only [go_sem]
    simp (disch := omega) only [go_sem, c1, c2, d1, d2, v1, v2, hx]
    refine draw_of rfl [⟨0, [], []⟩, ⟨2, [0], []⟩, ⟨5, [0, 2], []⟩, ⟨6, [0, 2], []⟩, ⟨1, [2], []⟩, ⟨3, [], []⟩, ⟨4, [], []⟩, ⟨7, [], []⟩, ⟨8, [], []⟩, ⟨9, [], []⟩, ⟨10, [], []⟩, ⟨11, [], []⟩] (by kernel_rfl) ?_
    simp (disch := omega) only [go_sem, c1, c2, d1, d2, v1, v2, hx]
    refine call_oI (con_flexact k1 s1 n1 e1 (by omega)) ?_
    simp (disch := omega) only [go_sem]
    refine call_oI (con_flexact k2 s2 n2 e2 (by omega)) ?_
    simp (disch := omega) only [go_sem]
    refine call_oI (con_plusX (s1 && decide (k1 = 1)) n1 e1 (s2 && decide (k2 = 1)) n2 e2 (by omega) (by omega) (by omega) (by omega)) ?_
    simp (disch := omega) only [go_sem]
    refine call_cI (con_float (adS (xS k1 s1) n1 e1 (xS k2 s2) n2 e2) (adM (xS k1 s1) n1 e1 (xS k2 s2) n2 e2) (alE n1 e1 n2 e2) mode (decide (mode = 3)) (by omega) (by omega)) ?_ (by simp (disch := omega) only [go_sem, g1, g2])
    simp (disch := omega) only [go_sem]
    rw [(fin (decide (mode = 3)) (by unfold adZ; rw [if_neg (fun h => hs h.2.2)])).1, (fin (decide (mode = 3)) (by unfold adZ; rw [if_neg (fun h => hs h.2.2)])).2]
    exact fin_cI
  ·have v2 : decide (k2 = 0) = false := decide_eq_false u2
   refine Con.of_w (rs := [.cell 6 63, .tmp 7]) Tryz.func122 rfl Tryz.ntmps122 rfl ?_
   simp (disch := omega) only [go_sem, c1, c2, d1, d2, v1, v2]
   refine call_cI (con_hasKind 3 k1 (n1 : Int) e1 k2 (n2 : Int) e2 s1 s2) ?_ (by simp (disch := omega) only [go_sem, c1, c2, d1, d2, v1, v2])
   simp (disch := omega) only [go_sem]
   simp (disch := omega) only [go_sem, c1, c2, d1, d2, v1, v2]
   refine draw_of rfl [⟨0, [], []⟩, ⟨2, [0], []⟩, ⟨5, [0, 2], []⟩, ⟨6, [0, 2], []⟩, ⟨1, [2], []⟩, ⟨3, [], []⟩, ⟨4, [], []⟩, ⟨7, [], []⟩, ⟨8, [], []⟩, ⟨9, [], []⟩, ⟨10, [], []⟩, ⟨11, [], []⟩] (by kernel_rfl) ?_
   simp (disch := omega) only [go_sem, c1, c2, d1, d2, v1, v2]
   refine call_oI (con_flexact k1 s1 n1 e1 (by omega)) ?_
   simp (disch := omega) only [go_sem]
   refine call_oI (con_flexact k2 s2 n2 e2 (by omega)) ?_
   simp (disch := omega) only [go_sem]
   refine call_oI (con_plusX (s1 && decide (k1 = 1)) n1 e1 (s2 && decide (k2 = 1)) n2 e2 (by omega) (by omega) (by omega) (by omega)) ?_
   simp (disch := omega) only [go_sem]
   refine call_cI (con_float (adS (xS k1 s1) n1 e1 (xS k2 s2) n2 e2) (adM (xS k1 s1) n1 e1 (xS k2 s2) n2 e2) (alE n1 e1 n2 e2) mode (decide (mode = 3)) (by omega) (by omega)) ?_ (by simp (disch := omega) only [go_sem, g1, g2])
   simp (disch := omega) only [go_sem]
   rw [(fin (decide (mode = 3)) (by unfold adZ; rw [if_neg (fun h => u2 h.2.1)])).1, (fin (decide (mode = 3)) (by unfold adZ; rw [if_neg (fun h => u2 h.2.1)])).2]
   exact fin_cI
 ·have v1 : decide (k1 = 0) = false := decide_eq_false u1
  refine Con.of_w (rs := [.cell 6 63, .tmp 7]) Tryz.func122 rfl Tryz.ntmps122 rfl ?_
  simp (disch := omega) only [go_sem, c1, c2, d1, d2, v1]
  refine call_cI (con_hasKind 3 k1 (n1 : Int) e1 k2 (n2 : Int) e2 s1 s2) ?_ (by simp (disch := omega) only [go_sem, c1, c2, d1, d2, v1])
  simp (disch := omega) only [go_sem]
  simp (disch := omega) only [go_sem, c1, c2, d1, d2, v1]
  refine draw_of rfl [⟨0, [], []⟩, ⟨2, [0], []⟩, ⟨5, [0, 2], []⟩, ⟨6, [0, 2], []⟩, ⟨1, [2], []⟩, ⟨3, [], []⟩, ⟨4, [], []⟩, ⟨7, [], []⟩, ⟨8, [], []⟩, ⟨9, [], []⟩, ⟨10, [], []⟩, ⟨11, [], []⟩] (by kernel_rfl) ?_
  simp (disch := omega) only [go_sem, c1, c2, d1, d2, v1]
  refine call_oI (con_flexact k1 s1 n1 e1 (by omega)) ?_
  simp (disch := omega) only [go_sem]
  refine call_oI (con_flexact k2 s2 n2 e2 (by omega)) ?_
  simp (disch := omega) only [go_sem]
  refine call_oI (con_plusX (s1 && decide (k1 = 1)) n1 e1 (s2 && decide (k2 = 1)) n2 e2 (by omega) (by omega) (by omega) (by omega)) ?_
  simp (disch := omega) only [go_sem]
  refine call_cI (con_float (adS (xS k1 s1) n1 e1 (xS k2 s2) n2 e2) (adM (xS k1 s1) n1 e1 (xS k2 s2) n2 e2) (alE n1 e1 n2 e2) mode (decide (mode = 3)) (by omega) (by omega)) ?_ (by simp (disch := omega) only [go_sem, g1, g2])
  simp (disch := omega) only [go_sem]
  rw [(fin (decide (mode = 3)) (by unfold adZ; rw [if_neg (fun h => u1 h.1)])).1, (fin (decide (mode = 3)) (by unfold adZ; rw [if_neg (fun h => u1 h.1)])).2]
  exact fin_cI
end Go.Ab
namespace Go.Ab
open Go Go.Proofs
set_option linter.unusedVariables false
set_option linter.unusedSimpArgs false
theorem ng_flB {k : Int} {s : Bool} {m e : Int} (h : flB k s m e = true) : flB k (ngS k s) m e = true := by
 obtain ⟨_, _, _, _, _, h3⟩ := flB_rng h
 unfold ngS
 by_cases c : k = 3
 ·rw [if_pos c]; exact h
 ·rw [if_neg c]
  unfold flB at *
  rw [decide_eq_false c] at *
  simpa using h
theorem con_negated (k : Int) (s : Bool) (m e : Int) : Con Tryz.prog 124 true [.ag [.v (.int .i64 (k)), .v (.bool (s)), .v (.int .i64 (m)), .v (.int .i64 (e))]] [] (isA (.ag [.v (.int .i64 (k)), .v (.bool (ngS k s)), .v (.int .i64 (m)), .v (.int .i64 (e))])) := by
 refine Con.of_w (rs := [.cell 2 63]) Tryz.func124 rfl Tryz.ntmps124 rfl ?_
 simp (disch := omega) only [go_sem]
 refine ifW_not (fun h => ?_) (fun h => ?_)
 ·simp (disch := omega) only [go_sem, h]
  unfold ngS
  rw [if_neg h]
  exact fin_cI
 ·subst h
  simp (disch := omega) only [go_sem]
  exact fin_cI
theorem con_FlAdd (k1 : Int) (s1 : Bool) (m1 e1 k2 : Int) (s2 : Bool) (m2 e2 mode : Int) :
  Con Tryz.prog 47 true [.ag [.v (.int .i64 (k1)), .v (.bool (s1)), .v (.int .i64 (m1)), .v (.int .i64 (e1))], .ag [.v (.int .i64 (k2)), .v (.bool (s2)), .v (.int .i64 (m2)), .v (.int .i64 (e2))], .v (.int .i64 mode)] []
   (isA (if (modeB mode && (flB k1 s1 m1 e1 && flB k2 s2 m2 e2)) = true then .tu [.ag [.v (.int .i64 ((addV k1 s1 m1 e1 k2 s2 m2 e2 mode).k)), .v (.bool ((addV k1 s1 m1 e1 k2 s2 m2 e2 mode).s)), .v (.int .i64 ((addV k1 s1 m1 e1 k2 s2 m2 e2 mode).m)), .v (.int .i64 ((addV k1 s1 m1 e1 k2 s2 m2 e2 mode).e))], .v (.int .i64 (addG k1 s1 m1 e1 k2 s2 m2 e2 mode))]
    else .tu [.ag [.v (.int .i64 (3)), .v (.bool (false)), .v (.int .i64 (0)), .v (.int .i64 (0))], .v (.int .i64 16)])) := by
 refine Con.of_w (rs := [.cell 6 63, .tmp 7]) Tryz.func47 rfl Tryz.ntmps47 rfl ?_
 simp (disch := omega) only [go_sem]
 refine call_cI (con_areFloats2 mode k1 s1 m1 e1 k2 s2 m2 e2) ?_
 simp (disch := omega) only [go_sem]
 refine ifW_nb (fun h => ?_) (fun h => ?_)
 ·simp (disch := omega) only [go_sem, h]
  refine call_cI (con_nan) ?_
  simp (disch := omega) only [go_sem]
  rw [if_neg (by rw [h]; simp)]
  exact fin_cI
 ·simp (disch := omega) only [go_sem, h]
  have h' := h
  simp only [Bool.and_eq_true, modeB, decide_eq_true_eq] at h'
  refine call_cI (con_add k1 s1 m1 e1 k2 s2 m2 e2 mode h'.2.1 h'.2.2) ?_
  simp (disch := omega) only [go_sem]
  rw [if_pos h]
  exact fin_cI
theorem con_FlSub (k1 : Int) (s1 : Bool) (m1 e1 k2 : Int) (s2 : Bool) (m2 e2 mode : Int) :
  Con Tryz.prog 49 true [.ag [.v (.int .i64 (k1)), .v (.bool (s1)), .v (.int .i64 (m1)), .v (.int .i64 (e1))], .ag [.v (.int .i64 (k2)), .v (.bool (s2)), .v (.int .i64 (m2)), .v (.int .i64 (e2))], .v (.int .i64 mode)] []
   (isA (if (modeB mode && (flB k1 s1 m1 e1 && flB k2 s2 m2 e2)) = true then .tu [.ag [.v (.int .i64 ((addV k1 s1 m1 e1 k2 (ngS k2 s2) m2 e2 mode).k)), .v (.bool ((addV k1 s1 m1 e1 k2 (ngS k2 s2) m2 e2 mode).s)), .v (.int .i64 ((addV k1 s1 m1 e1 k2 (ngS k2 s2) m2 e2 mode).m)), .v (.int .i64 ((addV k1 s1 m1 e1 k2 (ngS k2 s2) m2 e2 mode).e))], .v (.int .i64 (addG k1 s1 m1 e1 k2 (ngS k2 s2) m2 e2 mode))]
    else .tu [.ag [.v (.int .i64 (3)), .v (.bool (false)), .v (.int .i64 (0)), .v (.int .i64 (0))], .v (.int .i64 16)])) := by
 refine Con.of_w (rs := [.cell 6 63, .tmp 7]) Tryz.func49 rfl Tryz.ntmps49 rfl ?_
 simp (disch := omega) only [go_sem]
 refine call_cI (con_areFloats2 mode k1 s1 m1 e1 k2 s2 m2 e2) ?_
 simp (disch := omega) only [go_sem]
 refine ifW_nb (fun h => ?_) (fun h => ?_)
 ·simp (disch := omega) only [go_sem, h]
  refine call_cI (con_nan) ?_
  simp (disch := omega) only [go_sem]
  rw [if_neg (by rw [h]; simp)]
  exact fin_cI
 ·simp (disch := omega) only [go_sem, h]
  have h' := h
  simp only [Bool.and_eq_true, modeB, decide_eq_true_eq] at h'
  refine draw_of rfl [⟨0, [], []⟩, ⟨1, [0], []⟩, ⟨3, [0, 1], []⟩, ⟨2, [0], []⟩, ⟨4, [], []⟩, ⟨5, [], []⟩, ⟨6, [], []⟩, ⟨7, [], []⟩, ⟨8, [], []⟩] (by kernel_rfl) ?_
  simp (disch := omega) only [go_sem]
  refine call_cI (con_negated k2 s2 m2 e2) ?_
  simp (disch := omega) only [go_sem]
  refine call_cI (con_add k1 s1 m1 e1 k2 (ngS k2 s2) m2 e2 mode h'.2.1 (ng_flB h'.2.2)) ?_
  simp (disch := omega) only [go_sem]
  rw [if_pos h]
  exact fin_cI
end Go.Ab
namespace Go.Ab
open Go Go.Proofs
set_option linter.unusedVariables false
set_option linter.unusedSimpArgs false
theorem con_FlMul (k1 : Int) (s1 : Bool) (m1 e1 k2 : Int) (s2 : Bool) (m2 e2 mode : Int) :
  Con Tryz.prog 48 true [.ag [.v (.int .i64 (k1)), .v (.bool (s1)), .v (.int .i64 (m1)), .v (.int .i64 (e1))], .ag [.v (.int .i64 (k2)), .v (.bool (s2)), .v (.int .i64 (m2)), .v (.int .i64 (e2))], .v (.int .i64 mode)] []
   (isA (if (modeB mode && (flB k1 s1 m1 e1 && flB k2 s2 m2 e2)) = true then .tu [.ag [.v (.int .i64 ((mulV k1 s1 m1 e1 k2 s2 m2 e2 mode).k)), .v (.bool ((mulV k1 s1 m1 e1 k2 s2 m2 e2 mode).s)), .v (.int .i64 ((mulV k1 s1 m1 e1 k2 s2 m2 e2 mode).m)), .v (.int .i64 ((mulV k1 s1 m1 e1 k2 s2 m2 e2 mode).e))], .v (.int .i64 (mulG k1 s1 m1 e1 k2 s2 m2 e2 mode))]
    else .tu [.ag [.v (.int .i64 (3)), .v (.bool (false)), .v (.int .i64 (0)), .v (.int .i64 (0))], .v (.int .i64 16)])) := by
 refine Con.of_w (rs := [.cell 6 63, .tmp 7]) Tryz.func48 rfl Tryz.ntmps48 rfl ?_
 simp (disch := omega) only [go_sem]
 refine call_cI (con_areFloats2 mode k1 s1 m1 e1 k2 s2 m2 e2) ?_
 simp (disch := omega) only [go_sem]
 refine ifW_nb (fun h => ?_) (fun h => ?_)
 ·simp (disch := omega) only [go_sem, h]
  refine call_cI (con_nan) ?_
  simp (disch := omega) only [go_sem]
  rw [if_neg (by rw [h]; simp)]
  exact fin_cI
 ·simp (disch := omega) only [go_sem, h]
  have h' := h
  simp only [Bool.and_eq_true] at h'
  refine call_cI (con_mul k1 s1 m1 e1 k2 s2 m2 e2 mode h'.2.1 h'.2.2) ?_
  simp (disch := omega) only [go_sem]
  rw [if_pos h]
  exact fin_cI
end Go.Ab
namespace Go.Ab
open Go Go.Proofs
set_option linter.unusedVariables false
set_option linter.unusedSimpArgs false
def curO (l : List UInt8) (i h : Int) : Ob := .own 0 [.sl l.length (bytesA l), .v (.int .i64 i), .v (.int .i64 h)]
def curR (l : List UInt8) (Q : AV → Prop) : AV → List Ob → List Ob → Prop := fun r hs bs => hs = [] ∧ Q r ∧ ∃ i h : Int, (0 ≤ i ∧ i ≤ l.length) ∧ bs = [.own 0 [.sl l.length (bytesA l), .v (.int .i64 i), .v (.int .i64 h)]]
section
variable (l : List UInt8) (hl : l.length ≤ 9223372036854775807) (i h : Int) (hi : 0 ≤ i ∧ i ≤ l.length)
include hl hi
theorem con_l1Byte : Con Tryz.prog 207 false [.pt 10000000 0] [.own 0 [.sl l.length (bytesA l), .v (.int .i64 i), .v (.int .i64 h)]] (curR l fun r => ∃ k : Int, (0 ≤ k ∧ k ≤ 255) ∧ r = .v (.int .i64 k)) := by
 refine Con.of_aw Tryz.func207 rfl Tryz.ntmps207 (by simp) (by simp) (by simp) (W.sound ?_)
 show @W Tryz.prog 58 ⟨_⟩ ⟨fun x σ => @retW _ _ _ ⟨_⟩ _ ⟨_⟩ x σ⟩ _ _
 simp (disch := omega) only [go_sem]
 generalize IntKind.i64.wrap (IntKind.i64.wrap (h * 6364136223846793005) + 1442695040888963407) = h1
 refine draw_of rfl [⟨0, [], []⟩, ⟨1, [], []⟩, ⟨2, [], []⟩, ⟨3, [], []⟩, ⟨4, [], []⟩, ⟨5, [3], []⟩, ⟨6, [3], []⟩, ⟨7, [3], []⟩, ⟨8, [3], []⟩, ⟨9, [3], []⟩, ⟨10, [], []⟩, ⟨11, [], []⟩, ⟨12, [], []⟩] (by kernel_rfl) ?_
 simp (disch := omega) only [go_sem]
 generalize xorI (h1.fdiv (2 ^ min 33 64)) (h1.fdiv (2 ^ min 45 64)) = y
 have hy : 0 ≤ y % 256 ∧ y % 256 < 256 := by omega
 generalize y % 256 = x at *
 refine draw_of rfl [⟨0, [], []⟩, ⟨1, [], []⟩, ⟨2, [], []⟩, ⟨3, [], []⟩, ⟨4, [3], []⟩, ⟨5, [3], []⟩, ⟨6, [3], []⟩, ⟨7, [3], []⟩, ⟨8, [3], []⟩, ⟨9, [], []⟩] (by kernel_rfl) ?_
 simp (disch := omega) only [go_sem]
 refine ifW_dec (fun c1 => ?_) (fun c1 => ?_)
 ·simp (disch := omega) only [go_sem, c1]
  refine draw_of rfl [⟨0, [], []⟩, ⟨1, [], []⟩, ⟨2, [], []⟩, ⟨3, [], []⟩, ⟨4, [], []⟩, ⟨5, [4], []⟩, ⟨6, [4], []⟩, ⟨7, [4], []⟩, ⟨8, [4], []⟩, ⟨9, [], []⟩, ⟨10, [], []⟩, ⟨11, [], []⟩, ⟨12, [], []⟩, ⟨13, [], []⟩, ⟨14, [], []⟩] (by kernel_rfl) ?_
  simp (disch := omega) only [go_sem]
  refine ⟨by omega, by omega, ?_⟩
  generalize IntKind.i64.wrap (x + IntKind.i64.wrap ((l.getD i.toNat 0).toNat : Int)) = y2
  have hy2 : 0 ≤ y2 % 256 ∧ y2 % 256 < 256 := by omega
  refine fin_intro [] [] [.own 0 [.sl l.length (bytesA l), .v (.int .i64 (i + 1)), .v (.int .i64 (h1))]] [.v (.int .i64 (y2 % 256))] rfl (by simp (disch := omega) only [go_sem]) (by simp (disch := omega) only [go_sem]) (by simp) (by simp) ⟨rfl, ⟨_, by omega, rfl⟩, _, _, by omega, rfl⟩
 ·simp (disch := omega) only [go_sem, c1]
  refine fin_intro [] [] [.own 0 [.sl l.length (bytesA l), .v (.int .i64 (i)), .v (.int .i64 (h1))]] [.v (.int .i64 x)] rfl (by simp (disch := omega) only [go_sem]) (by simp (disch := omega) only [go_sem]) (by simp) (by simp) ⟨rfl, ⟨_, by omega, rfl⟩, _, _, by omega, rfl⟩
theorem con_l1Below (n : Int) (hn : n ≤ 2 ^ 62) : Con Tryz.prog 130 false [.pt 10000000 0, .v (.int .i64 n)] [.own 0 [.sl l.length (bytesA l), .v (.int .i64 i), .v (.int .i64 h)]] (curR l fun r => ∃ k : Int, (0 ≤ k ∧ (0 < n → k < n)) ∧ r = .v (.int .i64 k)) := by
 refine Con.of_aw Tryz.func130 rfl Tryz.ntmps130 (by simp) (by simp) (by simp) (W.sound ?_)
 show @W Tryz.prog 37 ⟨_⟩ ⟨fun x σ => @retW _ _ _ ⟨_⟩ _ ⟨_⟩ x σ⟩ _ _
 simp (disch := omega) only [go_sem]
 refine ifW_dec (fun c1 => ?_) (fun c1 => ?_)
 ·simp (disch := omega) only [go_sem, c1]
  refine fin_intro [] [] [.own 0 [.sl l.length (bytesA l), .v (.int .i64 (i)), .v (.int .i64 (h))]] [.v (.int .i64 0)] rfl (by simp (disch := omega) only [go_sem]) (by simp (disch := omega) only [go_sem]) (by simp) (by simp) ⟨rfl, ⟨_, ⟨by omega, fun h => by omega⟩, rfl⟩, _, _, by omega, rfl⟩
 ·simp (disch := omega) only [go_sem, c1]
  refine ifW_dec (fun c2 => ?_) (fun c2 => ?_)
  ·simp (disch := omega) only [go_sem, c2]
   refine call_lent false [10000000] (con_l1Byte l hl i h hi) (by simp (disch := omega) only [go_sem]) (by simp (disch := omega) only [go_sem]) rfl (lend_cons (z := 0) (cs := [.sl l.length (bytesA l), .v (.int .i64 (i)), .v (.int .i64 (h))]) (by simp (disch := omega) only [go_sem]) (by simp (disch := omega) only [go_sem])) (by intro n hn; exact ⟨_, List.mem_cons_self .., by rw [List.mem_singleton.1 hn]; rfl⟩) ?_
   rintro r hs bs ⟨rfl, ⟨k1, hk1, rfl⟩, i1, h1, hi1, rfl⟩ -
   refine ⟨by simp [freeN], ?_⟩
   simp (disch := omega) only [go_sem]
   refine ⟨by omega, ?_⟩
   have hm := Int.emod_nonneg k1 (show n ≠ 0 by omega)
   have hm2 := Int.emod_lt_of_pos k1 (show 0 < n by omega)
   refine fin_intro [] [] [.own 0 [.sl l.length (bytesA l), .v (.int .i64 (i1)), .v (.int .i64 (h1))]] [.v (.int .i64 (k1 % n))] rfl (by simp (disch := omega) only [go_sem]) (by simp (disch := omega) only [go_sem]) (by simp) (by simp) ⟨rfl, ⟨_, ⟨hm, fun _ => hm2⟩, rfl⟩, _, _, by omega, rfl⟩
  ·simp (disch := omega) only [go_sem, c2]
   refine call_lent false [10000000] (con_l1Byte l hl i h hi) (by simp (disch := omega) only [go_sem]) (by simp (disch := omega) only [go_sem]) rfl (lend_cons (z := 0) (cs := [.sl l.length (bytesA l), .v (.int .i64 (i)), .v (.int .i64 (h))]) (by simp (disch := omega) only [go_sem]) (by simp (disch := omega) only [go_sem])) (by intro n hn; exact ⟨_, List.mem_cons_self .., by rw [List.mem_singleton.1 hn]; rfl⟩) ?_
   rintro r hs bs ⟨rfl, ⟨k1, hk1, rfl⟩, i1, h1, hi1, rfl⟩ -
   refine ⟨by simp [freeN], ?_⟩
   simp (disch := omega) only [go_sem]
   refine call_lent false [10000000] (con_l1Byte l hl i1 h1 hi1) (by simp (disch := omega) only [go_sem]) (by simp (disch := omega) only [go_sem]) rfl (lend_cons (z := 0) (cs := [.sl l.length (bytesA l), .v (.int .i64 (i1)), .v (.int .i64 (h1))]) (by simp (disch := omega) only [go_sem]) (by simp (disch := omega) only [go_sem])) (by intro n hn; exact ⟨_, List.mem_cons_self .., by rw [List.mem_singleton.1 hn]; rfl⟩) ?_
   rintro r hs bs ⟨rfl, ⟨k2, hk2, rfl⟩, i2, h2, hi2, rfl⟩ -
   refine ⟨by simp [freeN], ?_⟩
   simp (disch := omega) only [go_sem]
   refine call_lent false [10000000] (con_l1Byte l hl i2 h2 hi2) (by simp (disch := omega) only [go_sem]) (by simp (disch := omega) only [go_sem]) rfl (lend_cons (z := 0) (cs := [.sl l.length (bytesA l), .v (.int .i64 (i2)), .v (.int .i64 (h2))]) (by simp (disch := omega) only [go_sem]) (by simp (disch := omega) only [go_sem])) (by intro n hn; exact ⟨_, List.mem_cons_self .., by rw [List.mem_singleton.1 hn]; rfl⟩) ?_
   rintro r hs bs ⟨rfl, ⟨k3, hk3, rfl⟩, i3, h3, hi3, rfl⟩ -
   refine ⟨by simp [freeN], ?_⟩
   simp (disch := omega) only [go_sem]
   refine call_lent false [10000000] (con_l1Byte l hl i3 h3 hi3) (by simp (disch := omega) only [go_sem]) (by simp (disch := omega) only [go_sem]) rfl (lend_cons (z := 0) (cs := [.sl l.length (bytesA l), .v (.int .i64 (i3)), .v (.int .i64 (h3))]) (by simp (disch := omega) only [go_sem]) (by simp (disch := omega) only [go_sem])) (by intro n hn; exact ⟨_, List.mem_cons_self .., by rw [List.mem_singleton.1 hn]; rfl⟩) ?_
   rintro r hs bs ⟨rfl, ⟨k4, hk4, rfl⟩, i4, h4, hi4, rfl⟩ -
   refine ⟨by simp [freeN], ?_⟩
   simp (disch := omega) only [go_sem]
   refine ⟨by omega, ?_⟩
   have hm := Int.emod_nonneg (k1 * 16777216 + k2 * 65536 + k3 * 256 + k4) (show n ≠ 0 by omega)
   have hm2 := Int.emod_lt_of_pos (k1 * 16777216 + k2 * 65536 + k3 * 256 + k4) (show 0 < n by omega)
   refine fin_intro [] [] [.own 0 [.sl l.length (bytesA l), .v (.int .i64 (i4)), .v (.int .i64 (h4))]] [.v (.int .i64 ((k1 * 16777216 + k2 * 65536 + k3 * 256 + k4) % n))] rfl (by simp (disch := omega) only [go_sem]) (by simp (disch := omega) only [go_sem]) (by simp) (by simp) ⟨rfl, ⟨_, ⟨hm, fun _ => hm2⟩, rfl⟩, _, _, by omega, rfl⟩
theorem con_l1Once (n : Int) (hn : n ≤ 2 ^ 62) : Con Tryz.prog 58 false [.pt 10000000 0, .v (.int .i64 n)] [.own 0 [.sl l.length (bytesA l), .v (.int .i64 i), .v (.int .i64 h)]] (curR l fun r => ∃ b : Bool, r = .v (.bool b)) := by
 refine Con.of_aw Tryz.func58 rfl Tryz.ntmps58 (by simp) (by simp) (by simp) (W.sound ?_)
 show @W Tryz.prog 9 ⟨_⟩ ⟨fun x σ => @retW _ _ _ ⟨_⟩ _ ⟨_⟩ x σ⟩ _ _
 simp (disch := omega) only [go_sem]
 refine call_lent false [10000000] (con_l1Below l hl i h hi n hn) (by simp (disch := omega) only [go_sem]) (by simp (disch := omega) only [go_sem]) rfl (lend_cons (z := 0) (cs := [.sl l.length (bytesA l), .v (.int .i64 (i)), .v (.int .i64 (h))]) (by simp (disch := omega) only [go_sem]) (by simp (disch := omega) only [go_sem])) (by intro n hn; exact ⟨_, List.mem_cons_self .., by rw [List.mem_singleton.1 hn]; rfl⟩) ?_
 rintro r hs bs ⟨rfl, ⟨k1, hk1, rfl⟩, i1, h1, hi1, rfl⟩ -
 refine ⟨by simp [freeN], ?_⟩
 simp (disch := omega) only [go_sem]
 refine fin_intro [] [] [.own 0 [.sl l.length (bytesA l), .v (.int .i64 (i1)), .v (.int .i64 (h1))]] [.v (.bool (decide (k1 = 0)))] rfl (by simp (disch := omega) only [go_sem]) (by simp (disch := omega) only [go_sem]) (by simp) (by simp) ⟨rfl, ⟨_, rfl⟩, _, _, by omega, rfl⟩
def curL (l : List UInt8) (xs : List Int) (Q : AV → Prop) : AV → List Ob → List Ob → Prop := fun r hs bs => hs = [] ∧ Q r ∧ ∃ i h : Int, (0 ≤ i ∧ i ≤ l.length) ∧ bs = [.own 0 [.sl l.length (bytesA l), .v (.int .i64 i), .v (.int .i64 h)], .own 1 (ints xs)]
theorem con_l1PickInt (xs : List Int) (h0 : 0 < xs.length) (h1 : xs.length ≤ 2 ^ 40) : Con Tryz.prog 131 false [.pt 10000000 0, .rf 10000001 0 xs.length] [.own 0 [.sl l.length (bytesA l), .v (.int .i64 i), .v (.int .i64 h)], .own 1 (ints xs)] (curL l xs fun r => ∃ x ∈ xs, r = .v (.int .i64 x)) := by
 refine Con.of_aw Tryz.func131 rfl Tryz.ntmps131 (by simp) (by simp) (by simp) (W.sound ?_)
 show @W Tryz.prog 12 ⟨_⟩ ⟨fun x σ => @retW _ _ _ ⟨_⟩ _ ⟨_⟩ x σ⟩ _ _
 simp (disch := omega) only [go_sem]
 refine call_lent false [10000000] (con_l1Below l hl i h hi xs.length (by omega)) (by simp (disch := omega) only [go_sem]) (by simp (disch := omega) only [go_sem]) rfl (lend_cons (z := 0) (cs := [.sl l.length (bytesA l), .v (.int .i64 (i)), .v (.int .i64 (h))]) (by simp (disch := omega) only [go_sem]) (by simp (disch := omega) only [go_sem])) (by intro n hn; exact ⟨_, List.mem_cons_self .., by rw [List.mem_singleton.1 hn]; rfl⟩) ?_
 rintro r hs bs ⟨rfl, ⟨k1, hk1, rfl⟩, i1, h1, hi1, rfl⟩ -
 refine ⟨by simp [freeN], ?_⟩
 simp (disch := omega) only [go_sem]
 obtain ⟨n1, rfl⟩ := Int.eq_ofNat_of_zero_le hk1.1
 have hlt : n1 < xs.length := by have := hk1.2 (by omega); omega
 simp (disch := omega) only [go_sem]
 refine ⟨by omega, by omega, ?_⟩
 have hm : xs.getD n1 0 ∈ xs := by rw [List.getD_eq_getElem?_getD, List.getElem?_eq_getElem hlt]; exact List.getElem_mem _
 refine fin_intro [] [] [.own 0 [.sl l.length (bytesA l), .v (.int .i64 i1), .v (.int .i64 h1)], .own 1 (ints xs)] [.v (.int .i64 (xs.getD n1 0))] rfl (by simp (disch := omega) only [go_sem]) (by simp (disch := omega) only [go_sem]) (by simp) (by simp) ⟨rfl, ⟨_, hm, rfl⟩, _, _, by omega, rfl⟩
end
end Go.Ab
namespace Go.Ab
open Go Go.Proofs
set_option linter.unusedVariables false
set_option linter.unusedSimpArgs false
end Go.Ab
namespace Go.Ab
open Go Go.Proofs
set_option linter.unusedVariables false
set_option linter.unusedSimpArgs false
theorem con_flokS (k : Int) (s : Bool) (m e : Int) : Con Tryz.prog 42 true [.ag [.v (.int .i64 (k)), .v (.bool (s)), .v (.int .i64 (m)), .v (.int .i64 (e))]] [] (isA (.v (.bool (flB k s m e)))) := by
 refine Con.of_aw Tryz.func42 rfl Tryz.ntmps42 (by simp) (by simp) (by simp) (W.sound ?_)
 show @W Tryz.prog 59 ⟨_⟩ ⟨fun x σ => @retW _ _ _ ⟨_⟩ _ ⟨_⟩ x σ⟩ _ _
 simp (disch := omega) only [go_sem]
 refine ifW_dec (fun h0 => ?_) (fun h0 => ?_)
 ·subst h0
  simp (disch := omega) only [go_sem]
  repeat' first
   | simp (disch := omega) only [go_sem, *]
   | (with_reducible refine ifW_dec (fun _ => ?_) (fun _ => ?_))
   | (with_reducible refine ifW_not (fun _ => ?_) (fun _ => ?_))
   | (with_reducible refine ifW_nb (fun _ => ?_) (fun _ => ?_))
   | (with_reducible refine ifW_b (fun _ => ?_) (fun _ => ?_))
  all_goals exact fin_valc (by simp (disch := omega) only [go_sem]) (by simp (disch := omega) only [go_sem]) ⟨by simp_all [tupA, flB] <;> omega, rfl, rfl⟩
 ·simp (disch := omega) only [go_sem, h0]
  refine ifW_dec (fun h2 => ?_) (fun h2 => ?_)
  ·subst h2
   simp (disch := omega) only [go_sem]
   repeat' first
    | simp (disch := omega) only [go_sem, *]
    | (with_reducible refine ifW_dec (fun _ => ?_) (fun _ => ?_))
    | (with_reducible refine ifW_not (fun _ => ?_) (fun _ => ?_))
    | (with_reducible refine ifW_nb (fun _ => ?_) (fun _ => ?_))
    | (with_reducible refine ifW_b (fun _ => ?_) (fun _ => ?_))
   all_goals exact fin_valc (by simp (disch := omega) only [go_sem]) (by simp (disch := omega) only [go_sem]) ⟨by simp_all [tupA, flB] <;> omega, rfl, rfl⟩
  ·simp (disch := omega) only [go_sem, h2]
   refine ifW_dec (fun h3 => ?_) (fun h3 => ?_)
   ·subst h3
    simp (disch := omega) only [go_sem]
    repeat' first
     | simp (disch := omega) only [go_sem, *]
     | (with_reducible refine ifW_dec (fun _ => ?_) (fun _ => ?_))
     | (with_reducible refine ifW_not (fun _ => ?_) (fun _ => ?_))
     | (with_reducible refine ifW_nb (fun _ => ?_) (fun _ => ?_))
     | (with_reducible refine ifW_b (fun _ => ?_) (fun _ => ?_))
    all_goals exact fin_valc (by simp (disch := omega) only [go_sem]) (by simp (disch := omega) only [go_sem]) ⟨by simp_all [tupA, flB] <;> omega, rfl, rfl⟩
   ·simp (disch := omega) only [go_sem, h3]
    refine ifW_dec (fun h1 => ?_) (fun h1 => ?_)
    ·subst h1
     simp (disch := omega) only [go_sem]
     repeat' first
      | simp (disch := omega) only [go_sem, *]
      | (with_reducible refine ifW_dec (fun _ => ?_) (fun _ => ?_))
      | (with_reducible refine ifW_not (fun _ => ?_) (fun _ => ?_))
      | (with_reducible refine ifW_nb (fun _ => ?_) (fun _ => ?_))
      | (with_reducible refine ifW_b (fun _ => ?_) (fun _ => ?_))
     all_goals refine fin_valc (by simp (disch := omega) only [go_sem]) (by simp (disch := omega) only [go_sem]) ⟨?_, rfl, rfl⟩
     all_goals simp only [tupA, flB, if_true]
     all_goals congr 2
     all_goals rw [Bool.eq_iff_iff]
     all_goals simp only [Bool.and_eq_true, Bool.or_eq_true, decide_eq_true_eq, Bool.false_eq_true, Bool.true_eq_false, false_iff, true_iff, not_and, not_or]
     all_goals omega
    ·simp (disch := omega) only [go_sem, h1]
     refine fin_valc (by simp (disch := omega) only [go_sem]) (by simp (disch := omega) only [go_sem]) ⟨?_, rfl, rfl⟩
     simp [tupA, flB, h0, h1, h2, h3]
def l5dM (k m : Int) : Nat := if k = 1 then oM m.toNat else 0
def l5dE (k m e : Int) : Int := if k = 1 then oE m.toNat e else 0
def l5dS (k : Int) (s : Bool) (m : Int) : Bool := if k = 1 then oS (s && decide (m.toNat ≠ 0)) m.toNat else false
end Go.Ab
namespace Go.Ab
open Go Go.Proofs
set_option linter.unusedVariables false
set_option linter.unusedSimpArgs false
def someF : AV → List Ob → List Ob → Prop := fun r hs bs => hs = [] ∧ bs = [] ∧ ∃ x : FlV, r = .ag x.cs
theorem con_FlNextE (k : Int) (s : Bool) (m e : Int) : Con Tryz.prog 198 true [.ag [.v (.int .i64 (k)), .v (.bool (s)), .v (.int .i64 (m)), .v (.int .i64 (e))]] [] someF := by
 have e3 : .ag [.v (.int .i64 (3)), .v (.bool (false)), .v (.int .i64 (0)), .v (.int .i64 (0))] = AV.ag (FlV.cs ⟨3, false, 0, 0⟩) := rfl
 refine Con.of_aw Tryz.func198 rfl Tryz.ntmps198 (by simp) (by simp) (by simp) (W.sound ?_)
 show @W Tryz.prog 78 ⟨_⟩ ⟨fun x σ => @retW _ _ _ ⟨_⟩ _ ⟨_⟩ x σ⟩ _ _
 simp (disch := omega) only [go_sem]
 refine call_cI (con_flokS k s m e) ?_
 simp (disch := omega) only [go_sem]
 refine ifW_nb (fun h => ?_) (fun h => ?_)
 ·simp (disch := omega) only [go_sem, h]
  refine call_cI (con_l5nan) ?_
  simp (disch := omega) only [go_sem]
  exact fin_valc (by simp (disch := omega) only [go_sem]) (by simp (disch := omega) only [go_sem]) ⟨rfl, rfl, ⟨_, _, _, _⟩, rfl⟩
 ·simp (disch := omega) only [go_sem, h]
  by_cases c1 : k = 3
  ·subst c1
   simp (disch := omega) only [go_sem]
   exact fin_valc (by simp (disch := omega) only [go_sem]) (by simp (disch := omega) only [go_sem]) ⟨rfl, rfl, ⟨_, _, _, _⟩, rfl⟩
  ·by_cases c2 : k = 2
   ·subst c2
    cases s
    ·simp (disch := omega) only [go_sem]
     exact fin_valc (by simp (disch := omega) only [go_sem]) (by simp (disch := omega) only [go_sem]) ⟨rfl, rfl, ⟨_, _, _, _⟩, rfl⟩
    ·simp (disch := omega) only [go_sem]
     refine call_cI (con_l5most true) ?_
     simp (disch := omega) only [go_sem]
     exact fin_valc (by simp (disch := omega) only [go_sem]) (by simp (disch := omega) only [go_sem]) ⟨rfl, rfl, ⟨_, _, _, _⟩, rfl⟩
   ·by_cases c3 : k = 0
    ·subst c3
     simp (disch := omega) only [go_sem]
     exact fin_valc (by simp (disch := omega) only [go_sem]) (by simp (disch := omega) only [go_sem]) ⟨rfl, rfl, ⟨_, _, _, _⟩, rfl⟩
    ·simp (disch := omega) only [go_sem, c1, c2, c3]
     cases s
     ·simp (disch := omega) only [go_sem]
      repeat' first
       | simp (disch := omega) only [go_sem, *]
       | (with_reducible refine ifW_dec (fun _ => ?_) (fun _ => ?_))
       | (with_reducible refine ifW_not (fun _ => ?_) (fun _ => ?_))
       | (with_reducible refine ifW_nb (fun _ => ?_) (fun _ => ?_))
       | (with_reducible refine ifW_b (fun _ => ?_) (fun _ => ?_))
      all_goals exact fin_valc (by simp (disch := omega) only [go_sem]) (by simp (disch := omega) only [go_sem]) ⟨rfl, rfl, ⟨_, _, _, _⟩, rfl⟩
     ·simp (disch := omega) only [go_sem]
      repeat' first
       | simp (disch := omega) only [go_sem, *]
       | (with_reducible refine ifW_dec (fun _ => ?_) (fun _ => ?_))
       | (with_reducible refine ifW_not (fun _ => ?_) (fun _ => ?_))
       | (with_reducible refine ifW_nb (fun _ => ?_) (fun _ => ?_))
       | (with_reducible refine ifW_b (fun _ => ?_) (fun _ => ?_))
      all_goals exact fin_valc (by simp (disch := omega) only [go_sem]) (by simp (disch := omega) only [go_sem]) ⟨rfl, rfl, ⟨_, _, _, _⟩, rfl⟩
section
variable (l : List UInt8) (hl : l.length ≤ 9223372036854775807) (i h : Int) (hi : 0 ≤ i ∧ i ≤ l.length)
include hl hi
theorem con_l4drawMode : Con Tryz.prog 62 false [.pt 10000000 0] [.own 0 [.sl l.length (bytesA l), .v (.int .i64 i), .v (.int .i64 h)]] (curR l fun r => ∃ k : Int, r = .v (.int .i64 k)) := by
 refine Con.of_aw Tryz.func62 rfl Tryz.ntmps62 (by simp) (by simp) (by simp) (W.sound ?_)
 show @W Tryz.prog 10 ⟨_⟩ ⟨fun x σ => @retW _ _ _ ⟨_⟩ _ ⟨_⟩ x σ⟩ _ _
 simp (disch := omega) only [go_sem]
 refine call_lent false [10000000] (con_l1Once l hl i h hi 15 (by omega)) (by simp (disch := omega) only [go_sem]) (by simp (disch := omega) only [go_sem]) rfl (lend_cons (z := 0) (cs := [.sl l.length (bytesA l), .v (.int .i64 (i)), .v (.int .i64 (h))]) (by simp (disch := omega) only [go_sem]) (by simp (disch := omega) only [go_sem])) (by intro n hn; exact ⟨_, List.mem_cons_self .., by rw [List.mem_singleton.1 hn]; rfl⟩) ?_
 rintro r hs bs ⟨rfl, ⟨b, rfl⟩, i1, h1, hi1, rfl⟩ -
 refine ⟨by simp [freeN], ?_⟩
 simp (disch := omega) only [go_sem]
 cases b
 ·simp (disch := omega) only [go_sem]
  refine call_lent false [10000000] (con_l1Below l hl i1 h1 hi1 5 (by omega)) (by simp (disch := omega) only [go_sem]) (by simp (disch := omega) only [go_sem]) rfl (lend_cons (z := 0) (cs := [.sl l.length (bytesA l), .v (.int .i64 (i1)), .v (.int .i64 (h1))]) (by simp (disch := omega) only [go_sem]) (by simp (disch := omega) only [go_sem])) (by intro n hn; exact ⟨_, List.mem_cons_self .., by rw [List.mem_singleton.1 hn]; rfl⟩) ?_
  rintro r hs bs ⟨rfl, ⟨k1, hk1, rfl⟩, i2, h2, hi2, rfl⟩ -
  refine ⟨by simp [freeN], ?_⟩
  simp (disch := omega) only [go_sem]
  refine fin_intro [] [] [.own 0 [.sl l.length (bytesA l), .v (.int .i64 (i2)), .v (.int .i64 (h2))]] [.v (.int .i64 k1)] rfl (by simp (disch := omega) only [go_sem]) (by simp (disch := omega) only [go_sem]) (by simp) (by simp) ⟨rfl, ⟨_, rfl⟩, _, _, by omega, rfl⟩
 ·simp (disch := omega) only [go_sem]
  have hL2 : [AV.v (Value.int IntKind.i64 (-1)), AV.v (Value.int IntKind.i64 (5))] = ints ([-1, 5] : List Int) := rfl
  have cc2 := con_l1PickInt l hl i1 h1 hi1 [-1, 5] (by simp) (by simp)
  generalize hG2 : ([-1, 5] : List Int) = xs2 at hL2 cc2
  have hN2 : xs2.length = 2 := by rw [← hG2]; rfl
  rw [hL2]
  rw [hN2] at cc2
  refine call_lent false [10000000, 80000000] cc2 (by simp (disch := omega) only [go_sem]) (by simp (disch := omega) only [go_sem]) rfl (lend_two (z := 0) (cs := [.sl l.length (bytesA l), .v (.int .i64 (i1)), .v (.int .i64 (h1))]) (z' := 1) (cs' := ints xs2) (by simp (disch := omega) only [go_sem]) (by simp (disch := omega) only [go_sem]) (by simp (disch := omega) only [go_sem]) (by simp (disch := omega) only [go_sem])) (by intro n hn; simp only [List.mem_cons, List.not_mem_nil, or_false] at hn; rcases hn with rfl | rfl <;> simp [AV.top]) ?_
  rintro r hs bs ⟨rfl, ⟨k1, hk1, rfl⟩, i2, h2, hi2, rfl⟩ -
  clear cc2 hL2 hk1 hG2 hN2
  refine ⟨by simp [freeN], ?_⟩
  simp (disch := omega) only [go_sem]
  refine fin_intro [] [] [.own 0 [.sl l.length (bytesA l), .v (.int .i64 (i2)), .v (.int .i64 (h2))]] [.v (.int .i64 k1)] rfl (by simp (disch := omega) only [go_sem]) (by simp (disch := omega) only [go_sem]) (by simp) (by simp) ⟨rfl, ⟨_, rfl⟩, _, _, by omega, rfl⟩
end
end Go.Ab
