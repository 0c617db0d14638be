/- What the proof of this claim stands on: the walks of the functions and the plain laws, part 5. -/
import Derived.Test.YtjkhfpjccemboaaGreatDoorFnFlDivsLib4
import Derived.Shelf.Spec.TrailingZeros
import Derived.Shelf.Small.Bits
import Derived.Shelf.Strconv.Itoa0
import Derived.Carry
import Derived.ChangeSlices
namespace Go.Ab
open Go Go.Proofs
set_option linter.unusedVariables false
set_option linter.unusedSimpArgs false
set_option maxRecDepth 100000 in
theorem con_digitOf (U V : List Int) (j : Nat) (hU : gd U) (hV : gd V) (lU : U.length ≤ 2000000) (h2 : 2 ≤ V.length) (hj : j + V.length < U.length) (hv1 : 32768 ≤ V.getD (V.length - 1) 0) (hW : vl (U.drop j) < 65536 * vl V) :
  Con Tryz.prog 296 true [.sl U.length (ints U), .sl V.length (ints V), .v (.int .i64 j)] [] (fun r hs bs => ∃ q : Int, r = .v (.int .i64 q) ∧ hs = [] ∧ bs = [] ∧ (0 ≤ q ∧ q < 65536) ∧ vl (U.drop j) < (q + 1) * vl V ∧ q * vl V < vl (U.drop j) + vl V) := by
 refine Con.of_aw Tryz.func296 rfl Tryz.ntmps296 (by simp) (by simp) (by simp) (W.sound ?_)
 show @W Tryz.prog 76 ⟨_⟩ ⟨fun x σ => @retW _ _ _ ⟨_⟩ _ ⟨_⟩ x σ⟩ _ _
 have hDl : V.length < (U.drop j).length := by simp; omega
 have hz := vl_above (gd_drop hU j) hV hDl hW
 have hw := vl_win hDl h2 hz
 have hvv := vl_top2 h2
 rw [getD_drop0, getD_drop0, getD_drop0] at hw
 have hx0 := vl_nonneg (gd_take (gd_drop hU j) (V.length - 2))
 have hx1 := vl_lt (gd_take (gd_drop hU j) (V.length - 2))
 have hy0 := vl_nonneg (gd_take hV (V.length - 2))
 have hy1 := vl_lt (gd_take hV (V.length - 2))
 rw [List.length_take, Nat.min_eq_left (by omega)] at hx1 hy1
 have gu0 := gd_getD hU (j + V.length)
 have gu1 := gd_getD hU (j + (V.length - 1))
 have gu2 := gd_getD hU (j + (V.length - 2))
 have gv1 := gd_getD hV (V.length - 1)
 have gv2 := gd_getD hV (V.length - 2)
 have htop := kn_top hw hvv ⟨hx0, hx1⟩ ⟨hy0, hy1⟩ gu2.1 gu1.1 gv2.2 hW
 have e0 : ((j : Int) + (V.length : Int)).toNat = j + V.length := by omega
 have e1 : ((j : Int) + (V.length : Int) - 1).toNat = j + (V.length - 1) := by omega
 have e2 : ((j : Int) + (V.length : Int) - 2).toNat = j + (V.length - 2) := by omega
 have f1 : ((V.length : Int) - 1).toNat = V.length - 1 := by omega
 have f2 : ((V.length : Int) - 2).toNat = V.length - 2 := by omega
 simp (disch := omega) only [go_sem]
 refine draw_of rfl [⟨0, [], []⟩, ⟨1, [], []⟩, ⟨2, [], []⟩, ⟨3, [], []⟩, ⟨4, [], []⟩, ⟨5, [], []⟩, ⟨6, [], []⟩, ⟨7, [5], []⟩, ⟨8, [5], []⟩, ⟨9, [5], []⟩, ⟨10, [5], []⟩, ⟨11, [5], []⟩, ⟨12, [5], []⟩, ⟨13, [5], []⟩, ⟨14, [], []⟩, ⟨15, [], []⟩] (by kernel_rfl) ?_
 simp (disch := omega) only [go_sem, e0, e1]
 generalize hu0 : U.getD (j + V.length) 0 = u0 at *
 generalize hu1 : U.getD (j + (V.length - 1)) 0 = u1 at *
 generalize hu2 : U.getD (j + (V.length - 2)) 0 = u2 at *
 refine ⟨by omega, by omega, by omega, by omega, ?_⟩
 refine draw_of rfl [⟨0, [], []⟩, ⟨1, [], []⟩, ⟨2, [], []⟩, ⟨3, [], []⟩, ⟨4, [], []⟩, ⟨5, [], []⟩, ⟨6, [], []⟩, ⟨7, [5], []⟩, ⟨8, [5], []⟩, ⟨9, [5], []⟩, ⟨10, [5], []⟩, ⟨11, [5], []⟩, ⟨12, [5], []⟩, ⟨13, [5], []⟩, ⟨14, [12], []⟩, ⟨15, [], []⟩] (by kernel_rfl) ?_
 simp (disch := omega) only [go_sem, f1]
 generalize hvv1 : V.getD (V.length - 1) 0 = v1 at *
 generalize hvv2 : V.getD (V.length - 2) 0 = v2 at *
 generalize htt : u0 * 65536 + u1 = top at *
 refine ⟨by omega, by omega, by omega, by omega, by omega, by omega, ?_⟩
 have hq0 : 0 ≤ top / v1 := Int.ediv_nonneg (by omega) (by omega)
 have hq1 : top / v1 ≤ 65537 := by
  have : top / v1 < 65538 := Int.ediv_lt_of_lt_mul (by omega) (by omega)
  omega
 have hr0 := Int.emod_nonneg top (show v1 ≠ 0 by omega)
 have hr1 := Int.emod_lt_of_pos top (show 0 < v1 by omega)
 have hqr := Int.emod_add_mul_ediv top v1
 have hini := kn_init hw hvv ⟨hx0, hx1⟩ ⟨hy0, hy1⟩ gu2 gv2.1 hq0 (show top < (top / v1 + 1) * v1 by rw [Int.add_mul, Int.mul_comm (top / v1)]; omega)
 have hqr' : top / v1 * v1 + top % v1 = top := by rw [Int.mul_comm]; omega
 generalize top / v1 = q0 at *
 generalize top % v1 = r0 at *
 refine loop_intro (fun x : Int × Int => [(0, .sl U.length (ints U)), (1, .sl V.length (ints V)), (2, .v (.int .i64 j)), (7, .v (.int .i64 V.length)), (9, .v (.int .i64 x.1)), (10, .v (.int .i64 x.2))])
  (fun _ => []) (fun x => (0 ≤ x.1 ∧ x.1 ≤ 65537) ∧ (0 ≤ x.2 ∧ x.2 < 65536) ∧ x.1 * v1 + x.2 = top ∧ vl (U.drop j) < (x.1 + 1) * vl V) (fun x => x.1.toNat) (q0, r0) ⟨⟨hq0, hq1⟩, ⟨hr0, by omega⟩, hqr', hini⟩
  (Le.lst [] _ _ rfl (by simp (disch := omega) only [go_sem]; try omega) (by simp (disch := omega) only [go_sem])) ?_
 rintro ⟨q, r⟩ ⟨hq, hr, hqr2, hlt⟩
 dsimp only at hq hr hqr2 hlt ⊢
 have hqv : 0 ≤ q * v2 ∧ q * v2 ≤ 65537 * 65535 := ⟨Int.mul_nonneg hq.1 gv2.1, Int.mul_le_mul hq.2 (by omega) gv2.1 (by omega)⟩
 simp (disch := omega) only [go_sem]
 refine draw_of rfl [⟨0, [], []⟩, ⟨1, [], []⟩, ⟨2, [], []⟩, ⟨3, [], []⟩, ⟨4, [], []⟩, ⟨5, [], []⟩, ⟨6, [], []⟩, ⟨7, [], []⟩, ⟨8, [], []⟩, ⟨9, [], []⟩, ⟨10, [8], []⟩, ⟨11, [8], []⟩, ⟨12, [8], []⟩, ⟨13, [8], []⟩, ⟨14, [8], []⟩, ⟨15, [8], []⟩, ⟨16, [8], []⟩, ⟨17, [8], []⟩, ⟨18, [8], []⟩, ⟨19, [8], []⟩, ⟨20, [], []⟩, ⟨21, [], []⟩] (by kernel_rfl) ?_
 simp (disch := omega) only [go_sem]
 refine ifW_not (fun h1 => ?_) (fun h1 => ?_)
 ·simp (disch := omega) only [go_sem, h1, e2, f2, hu2, hvv2]
  refine ⟨by omega, by omega, by omega, by omega, ifW_dec (fun h2 => ?_) (fun h2 => ?_)⟩
  ·simp (disch := omega) only [go_sem, h2, f1, hvv1]
   have hst := kn_step hw hvv ⟨hx0, hx1⟩ ⟨hy0, hy1⟩ hW gv2.1 (by omega) hq.1 hqr2 (.inr h2)
   have hqp : 0 < q := by
    rcases (by omega : 0 < q ∨ q = 0) with h | h
    ·exact h
    ·subst h; omega
   have hm : (q - 1) * v1 + (r + v1) = top := by rw [Int.sub_mul]; omega
   refine ⟨by omega, by omega, ifW_dec (fun h3 => ?_) (fun h3 => ?_)⟩
   ·simp (disch := omega) only [go_sem, h3]
    have h4 : q - 1 < 65536 := by
     rcases (by omega : q - 1 < 65536 ∨ 65536 ≤ q - 1) with h | h
     ·exact h
     ·have := Int.mul_le_mul_of_nonneg_right h (show 0 ≤ v1 by omega)
      omega
    have h5 : (q - 1) * v2 ≤ (r + v1) * 65536 + u2 := by
     have : (q - 1) * v2 ≤ 65535 * 65535 := Int.mul_le_mul (by omega) (by omega) gv2.1 (by omega)
     omega
    have h6 := kn_exit hw hvv ⟨hx0, hx1⟩ ⟨hy0, hy1⟩ gv2.1 (by omega) ⟨by omega, h4⟩ hm h5
    exact fin_valc (by simp (disch := omega) only [go_sem]) (by simp (disch := omega) only [go_sem]) ⟨q - 1, rfl, rfl, rfl, ⟨by omega, h4⟩, by rw [show q - 1 + 1 = q by omega]; exact hst, h6⟩
   ·simp (disch := omega) only [go_sem, h3]
    refine next_intro (q - 1, r + v1) [] ⟨by show 0 ≤ q - 1 ∧ q - 1 ≤ 65537; omega, by show 0 ≤ r + v1 ∧ r + v1 < 65536; omega, hm, by show _ < (q - 1 + 1) * vl V; rw [show q - 1 + 1 = q by omega]; exact hst⟩ (by show (q - 1).toNat < q.toNat; omega) rfl (by simp (disch := omega) only [go_sem]; try omega) (by simp (disch := omega) only [go_sem])
  ·simp (disch := omega) only [go_sem, h2]
   have h6 := kn_exit hw hvv ⟨hx0, hx1⟩ ⟨hy0, hy1⟩ gv2.1 (by omega) ⟨hq.1, by omega⟩ hqr2 (by omega)
   exact fin_valc (by simp (disch := omega) only [go_sem]) (by simp (disch := omega) only [go_sem]) ⟨q, rfl, rfl, rfl, ⟨hq.1, by omega⟩, hlt, h6⟩
 ·simp (disch := omega) only [go_sem, h1, f1, hvv1]
  have hst := kn_step hw hvv ⟨hx0, hx1⟩ ⟨hy0, hy1⟩ hW gv2.1 (by omega) hq.1 hqr2 (.inl h1)
  have hqp : 0 < q := by omega
  have hm : (q - 1) * v1 + (r + v1) = top := by rw [Int.sub_mul]; omega
  refine ⟨by omega, by omega, ifW_dec (fun h3 => ?_) (fun h3 => ?_)⟩
  ·simp (disch := omega) only [go_sem, h3]
   have h4 : q - 1 < 65536 := by
    rcases (by omega : q - 1 < 65536 ∨ 65536 ≤ q - 1) with h | h
    ·exact h
    ·have := Int.mul_le_mul_of_nonneg_right h (show 0 ≤ v1 by omega)
     omega
   have h5 : (q - 1) * v2 ≤ (r + v1) * 65536 + u2 := by
    have : (q - 1) * v2 ≤ 65535 * 65535 := Int.mul_le_mul (by omega) (by omega) gv2.1 (by omega)
    omega
   have h6 := kn_exit hw hvv ⟨hx0, hx1⟩ ⟨hy0, hy1⟩ gv2.1 (by omega) ⟨by omega, h4⟩ hm h5
   exact fin_valc (by simp (disch := omega) only [go_sem]) (by simp (disch := omega) only [go_sem]) ⟨q - 1, rfl, rfl, rfl, ⟨by omega, h4⟩, by rw [show q - 1 + 1 = q by omega]; exact hst, h6⟩
  ·simp (disch := omega) only [go_sem, h3]
   refine next_intro (q - 1, r + v1) [] ⟨by show 0 ≤ q - 1 ∧ q - 1 ≤ 65537; omega, by show 0 ≤ r + v1 ∧ r + v1 < 65536; omega, hm, by show _ < (q - 1 + 1) * vl V; rw [show q - 1 + 1 = q by omega]; exact hst⟩ (by show (q - 1).toNat < q.toNat; omega) rfl (by simp (disch := omega) only [go_sem]; try omega) (by simp (disch := omega) only [go_sem])
end Go.Ab
namespace Go.Ab
open Go Go.Proofs
set_option linter.unusedVariables false
set_option linter.unusedSimpArgs false
theorem con_takeAway (U V : List Int) (j : Nat) (q : Int) (hU : gd U) (hV : gd V) (lU : U.length ≤ 2000000) (hj : j + V.length < U.length) (hq : 0 ≤ q ∧ q < 65536) :
  Con Tryz.prog 297 false [.rf 10000000 0 U.length, .sl V.length (ints V), .v (.int .i64 j), .v (.int .i64 q)] [.own 1 (ints U)]
   (fun r hs bs => ∃ (U' : List Int) (bo : Int), r = .v (.bool (decide (U.getD (j + V.length) 0 - bo < 0))) ∧ hs = [] ∧ bs = [.own 1 (ints (U'.set (j + V.length) (U.getD (j + V.length) 0 - bo)))] ∧
    U'.length = U.length ∧ gd U' ∧ (0 ≤ bo ∧ bo < 65536) ∧ (∀ t, t < j ∨ j + V.length ≤ t → U'.getD t 0 = U.getD t 0) ∧ vl U' - 65536 ^ (j + V.length) * bo = vl U - 65536 ^ j * (q * vl V)) := by
 refine Con.of_aw Tryz.func297 rfl Tryz.ntmps297 (by simp) (by simp) (by simp) (W.sound ?_)
 show @W Tryz.prog 68 ⟨_⟩ ⟨fun x σ => @retW _ _ _ ⟨_⟩ _ ⟨_⟩ x σ⟩ _ _
 simp (disch := omega) only [go_sem]
 refine loop_intro (fun x : Nat × List Int × Int => [(0, .rf 10000000 0 U.length), (1, .sl V.length (ints V)), (2, .v (.int .i64 j)), (3, .v (.int .i64 q)), (9, .v (.int .i64 x.2.2)), (13, .sl V.length (ints V)), (14, .v (.int .i64 V.length)), (15, .v (.int .i64 x.1))])
  (fun x => [(10000000, .own 1 (ints x.2.1))])
  (fun x => x.1 ≤ V.length ∧ x.2.1.length = U.length ∧ gd x.2.1 ∧ (0 ≤ x.2.2 ∧ x.2.2 < 65536) ∧ (∀ t, t < j ∨ j + x.1 ≤ t → x.2.1.getD t 0 = U.getD t 0) ∧ vl x.2.1 - 65536 ^ (j + x.1) * x.2.2 = vl U - 65536 ^ j * (q * vl (V.take x.1)))
  (fun x => V.length - x.1) (0, U, 0) ⟨by simp, rfl, hU, by simp, fun _ _ => rfl, by simp [vl]⟩
  (Le.lst [] _ _ rfl (by simp (disch := omega) only [go_sem]; try omega) (by simp (disch := omega) only [go_sem])) ?_
 rintro ⟨i, U1, bo⟩ ⟨hi, hl1, hg1, hbo, hsame, hval⟩
 dsimp only at hi hl1 hg1 hbo hsame hval ⊢
 simp (disch := omega) only [go_sem]
 refine ifW_dec (fun h1 => ?_) (fun h1 => ?_)
 ·have hx := gd_getD hV i
  have hu := gd_getD hg1 (j + i)
  have hqx : 0 ≤ q * V.getD i 0 ∧ q * V.getD i 0 ≤ 65535 * 65535 := ⟨Int.mul_nonneg hq.1 hx.1, Int.mul_le_mul (by omega) (by omega) hx.1 (by omega)⟩
  have e1 : ((j : Int) + (i : Int)).toNat = j + i := by omega
  have hstep : ∀ d b : Int, d - 65536 * b = U1.getD (j + i) 0 - q * V.getD i 0 - bo → vl (U1.set (j + i) d) - 65536 ^ (j + (i + 1)) * b = vl U - 65536 ^ j * (q * vl (V.take (i + 1))) := by
   intro d b hd
   rw [vl_set (by omega), vl_take_any, ← Nat.add_assoc, Int.pow_succ]
   have e3 : (65536 : Int) ^ (j + i) = 65536 ^ j * 65536 ^ i := Int.pow_add _ _ _
   rw [e3] at hval ⊢
   generalize (65536 : Int) ^ i = Pi at *
   generalize (65536 : Int) ^ j = Pj at *
   grind
  have hsm : ∀ d : Int, ∀ t, t < j ∨ j + (i + 1) ≤ t → (U1.set (j + i) d).getD t 0 = U.getD t 0 := fun d t ht => by
   rw [getD_set (by omega), if_neg (by omega)]; exact hsame t (by omega)
  simp (disch := omega) only [go_sem, h1, e1]
  refine ⟨by omega, by omega, by omega, by omega, ifW_dec (fun h2 => ?_) (fun h2 => ?_)⟩
  ·simp (disch := omega) only [go_sem, h2, e1]
   generalize hb : (0 - (U1.getD (j + i) 0 - q * V.getD i 0 - bo) + 65536 - 1) / 65536 = b
   refine ⟨by omega, by omega, next_intro (i + 1, U1.set (j + i) (U1.getD (j + i) 0 - q * V.getD i 0 - bo + b * 65536), b) [] ⟨by show i + 1 ≤ _; omega, by simp [hl1], gd_set hg1 (by omega), by show 0 ≤ b ∧ b < 65536; omega, hsm _, hstep (U1.getD (j + i) 0 - q * V.getD i 0 - bo + b * 65536) b (by omega)⟩
    (by show V.length - (i + 1) < V.length - i; omega) rfl (by simp (disch := omega) only [go_sem]; try omega) (by simp (disch := omega) only [go_sem])⟩
  ·simp (disch := omega) only [go_sem, h2, e1]
   refine ⟨by omega, by omega, next_intro (i + 1, U1.set (j + i) (U1.getD (j + i) 0 - q * V.getD i 0 - bo), 0) [] ⟨by show i + 1 ≤ _; omega, by simp [hl1], gd_set hg1 (by omega), by simp, hsm _, hstep (U1.getD (j + i) 0 - q * V.getD i 0 - bo) 0 (by omega)⟩
    (by show V.length - (i + 1) < V.length - i; omega) rfl (by simp (disch := omega) only [go_sem]; try omega) (by simp (disch := omega) only [go_sem])⟩
 ·have hiA : i = V.length := by omega
  subst hiA
  rw [List.take_length] at hval
  have e1 : ((j : Int) + (V.length : Int)).toNat = j + V.length := by omega
  have hu := gd_getD hg1 (j + V.length)
  have es := hsame (j + V.length) (by omega)
  have eg : (U1.set (j + V.length) (U.getD (j + V.length) 0 - bo)).getD (j + V.length) 0 = U.getD (j + V.length) 0 - bo := by rw [getD_set (by omega), if_pos rfl]
  simp (disch := omega) only [go_sem, h1, e1, es]
  refine ⟨by omega, by omega, by omega, by omega, by omega, by simp; omega, ?_⟩
  simp (disch := omega) only [go_sem, eg]
  refine fin_intro [] [] [.own 1 (ints (U1.set (j + V.length) (U.getD (j + V.length) 0 - bo)))] [.v (.bool (decide (U.getD (j + V.length) 0 - bo < 0)))] rfl (by simp (disch := omega) only [go_sem]) (by simp (disch := omega) only [go_sem]) (by simp) (by simp) ⟨U1, bo, rfl, rfl, rfl, hl1, hg1, hbo, hsame, hval⟩
theorem con_addBack (U V : List Int) (j : Nat) (hU : ∀ t, t ≠ j + V.length → 0 ≤ U.getD t 0 ∧ U.getD t 0 < 65536) (hUt : -65536 ≤ U.getD (j + V.length) 0 ∧ U.getD (j + V.length) 0 < 65536) (hV : gd V) (lU : U.length ≤ 2000000) (hj : j + V.length < U.length) :
  Con Tryz.prog 298 false [.rf 10000000 0 U.length, .sl V.length (ints V), .v (.int .i64 j)] [.own 1 (ints U)]
   (fun r hs bs => ∃ (U' : List Int), r = .tu [] ∧ hs = [] ∧ bs = [.own 1 (ints U')] ∧
    U'.length = U.length ∧ (∀ t, t ≠ j + V.length → 0 ≤ U'.getD t 0 ∧ U'.getD t 0 < 65536) ∧ (∀ t, t < j ∨ j + V.length < t → U'.getD t 0 = U.getD t 0) ∧ vl U' = vl U + 65536 ^ j * vl V) := by
 refine Con.of_aw Tryz.func298 rfl Tryz.ntmps298 (by simp) (by simp) (by simp) (W.sound ?_)
 show @W Tryz.prog 46 ⟨_⟩ ⟨fun x σ => @retW _ _ _ ⟨_⟩ _ ⟨_⟩ x σ⟩ _ _
 simp (disch := omega) only [go_sem]
 refine loop_intro (fun x : Nat × List Int × Int => [(0, .rf 10000000 0 U.length), (1, .sl V.length (ints V)), (2, .v (.int .i64 j)), (6, .v (.int .i64 x.2.2)), (9, .sl V.length (ints V)), (10, .v (.int .i64 V.length)), (11, .v (.int .i64 x.1))])
  (fun x => [(10000000, .own 1 (ints x.2.1))])
  (fun x => x.1 ≤ V.length ∧ x.2.1.length = U.length ∧ (∀ t, t ≠ j + V.length → 0 ≤ x.2.1.getD t 0 ∧ x.2.1.getD t 0 < 65536) ∧ (0 ≤ x.2.2 ∧ x.2.2 ≤ 1) ∧ (∀ t, t < j ∨ j + x.1 ≤ t → x.2.1.getD t 0 = U.getD t 0) ∧ vl x.2.1 + 65536 ^ (j + x.1) * x.2.2 = vl U + 65536 ^ j * vl (V.take x.1))
  (fun x => V.length - x.1) (0, U, 0) ⟨by simp, rfl, hU, by simp, fun _ _ => rfl, by simp [vl]⟩
  (Le.lst [] _ _ rfl (by simp (disch := omega) only [go_sem]; try omega) (by simp (disch := omega) only [go_sem])) ?_
 rintro ⟨i, U1, cy⟩ ⟨hi, hl1, hg1, hcy, hsame, hval⟩
 dsimp only at hi hl1 hg1 hcy hsame hval ⊢
 simp (disch := omega) only [go_sem]
 refine ifW_dec (fun h1 => ?_) (fun h1 => ?_)
 ·have hx := gd_getD hV i
  have hu := hg1 (j + i) (by omega)
  have e1 : ((j : Int) + (i : Int)).toNat = j + i := by omega
  simp (disch := omega) only [go_sem, h1, e1]
  generalize hb : cy + (U1.getD (j + i) 0 + V.getD i 0) = b
  have hg2 : ∀ t, t ≠ j + V.length → 0 ≤ (U1.set (j + i) (b % 65536)).getD t 0 ∧ (U1.set (j + i) (b % 65536)).getD t 0 < 65536 := fun t ht => by
   rw [getD_set (by omega)]
   split
   ·omega
   ·exact hg1 t ht
  refine ⟨by omega, by omega, by omega, by omega, by omega, by omega, next_intro (i + 1, U1.set (j + i) (b % 65536), b / 65536) [] ⟨by show i + 1 ≤ _; omega, by simp [hl1], hg2, by show 0 ≤ b / 65536 ∧ b / 65536 ≤ 1; omega, fun t ht => ?_, ?_⟩
   (by show V.length - (i + 1) < V.length - i; omega) rfl (by simp (disch := omega) only [go_sem]; try omega) (by simp (disch := omega) only [go_sem])⟩
  ·show (U1.set (j + i) (b % 65536)).getD t 0 = _
   have ht : t < j ∨ j + (i + 1) ≤ t := ht
   rw [getD_set (by omega), if_neg (by omega)]; exact hsame t (by omega)
  ·show vl (U1.set (j + i) (b % 65536)) + 65536 ^ (j + (i + 1)) * (b / 65536) = vl U + 65536 ^ j * vl (V.take (i + 1))
   rw [vl_set (by omega), vl_take_any, ← Nat.add_assoc, Int.pow_succ]
   have e3 : (65536 : Int) ^ (j + i) = 65536 ^ j * 65536 ^ i := Int.pow_add _ _ _
   have e4 : b % 65536 + 65536 * (b / 65536) = b := Int.emod_add_mul_ediv b 65536
   rw [e3] at hval ⊢
   generalize (65536 : Int) ^ i = Pi at *
   generalize (65536 : Int) ^ j = Pj at *
   grind
 ·have hiA : i = V.length := by omega
  subst hiA
  rw [List.take_length] at hval
  have e1 : ((j : Int) + (V.length : Int)).toNat = j + V.length := by omega
  have es := hsame (j + V.length) (by omega)
  simp (disch := omega) only [go_sem, h1, e1, es]
  refine ⟨by omega, by omega, by omega, by omega, ?_⟩
  refine fin_intro [] [] [.own 1 (ints (U1.set (j + V.length) (U.getD (j + V.length) 0 + cy)))] [] rfl (by simp (disch := omega) only [go_sem]) (by simp (disch := omega) only [go_sem]) (by simp) (by simp) ⟨_, rfl, rfl, rfl, by simp [hl1], fun t ht => ?_, fun t ht => ?_, ?_⟩
  ·rw [getD_set (by omega), if_neg ht]; exact hg1 t ht
  ·rw [getD_set (by omega), if_neg (by omega)]; exact hsame t (by omega)
  ·rw [vl_set (by omega), es]
   generalize (65536 : Int) ^ (j + V.length) = Pj at *
   grind
end Go.Ab
namespace Go.Ab
open Go Go.Proofs
set_option linter.unusedVariables false
set_option linter.unusedSimpArgs false
theorem con_trim (xs : List Int) (hl : xs.length ≤ 2 ^ 40) : Con Tryz.prog 254 false [.rf 10000000 0 xs.length] [.own 1 (ints xs)] (fun r hs bs => r = .rf 10000000 0 (cutZ xs).length ∧ hs = [] ∧ bs = [.own 1 (ints xs)]) := by
 refine Con.of_aw Tryz.func254 rfl Tryz.ntmps254 (by simp) (by simp) (by simp) (W.sound ?_)
 show @W Tryz.prog 21 ⟨_⟩ ⟨fun x σ => @retW _ _ _ ⟨_⟩ _ ⟨_⟩ x σ⟩ _ _
 simp (disch := omega) only [go_sem]
 refine loop_intro (fun m : Nat => [(0, .rf 10000000 0 m)]) (fun _ => [(10000000, .own 1 (ints xs))]) (fun m => m ≤ xs.length ∧ cutZ (xs.take m) = cutZ xs) id xs.length ⟨Nat.le_refl _, by simp⟩
  (Le.lst [] _ _ rfl (by simp (disch := omega) only [go_sem]; try omega) (by simp (disch := omega) only [go_sem])) ?_
 intro m ⟨hm, hx⟩
 have hmx : ∀ k, k + 1 = m → xs.take m = xs.take k ++ [xs.getD k 0] := fun k hk => by rw [← hk]; exact take_succ' (by omega)
 simp (disch := omega) only [go_sem]
 refine ifW_dec (fun h1 => ?_) (fun h1 => ?_)
 ·obtain ⟨k, rfl⟩ : ∃ k, m = k + 1 := ⟨m - 1, by omega⟩
  have e1 : ((k + 1 : Nat) : Int) - 1 = (k : Nat) := by omega
  rw [hmx k rfl] at hx
  simp (disch := omega) only [go_sem, h1, e1]
  refine ⟨by omega, by omega, ifW_dec (fun h2 => ?_) (fun h2 => ?_)⟩
  ·simp (disch := omega) only [go_sem, h2, e1]
   rw [h2, cutZ_zero] at hx
   refine ⟨by omega, next_intro k [] ⟨by omega, hx⟩ (by show k < k + 1; omega) rfl (by simp (disch := omega) only [go_sem]; try omega) (by simp (disch := omega) only [go_sem])⟩
  ·simp (disch := omega) only [go_sem, h2]
   refine fin_intro [] [] [.own 1 (ints xs)] [.rf 10000000 0 (k + 1)] rfl (by simp (disch := omega) only [go_sem]) (by simp (disch := omega) only [go_sem]) (by simp) (by simp) ⟨?_, rfl, rfl⟩
   rw [cutZ_ne _ h2, ← hmx k rfl] at hx
   rw [← hx, List.length_take, Nat.min_eq_left hm]; rfl
 ·simp (disch := omega) only [go_sem, h1]
  refine fin_intro [] [] [.own 1 (ints xs)] [.rf 10000000 0 m] rfl (by simp (disch := omega) only [go_sem]) (by simp (disch := omega) only [go_sem]) (by simp) (by simp) ⟨?_, rfl, rfl⟩
  have : m = 0 := by omega
  subst this
  rw [← hx]; rfl
end Go.Ab
namespace Go.Ab
open Go Go.Proofs
set_option linter.unusedVariables false
set_option linter.unusedSimpArgs false
theorem mul_lim {x y : Int} (hx : 0 ≤ x ∧ x < 65536) (hy : 0 ≤ y ∧ y < 65536) : 0 ≤ x * y ∧ x * y ≤ 4294836225 := by
 have h1 := Int.mul_nonneg hx.1 hy.1
 have h2 : x * y ≤ 65535 * 65535 := Int.mul_le_mul (by omega) (by omega) hy.1 (by omega)
 omega
theorem con_times (cl : Bool) (A B : List Int) (hA : gd A) (hB : gd B) (lA : A.length ≤ 1000000) (lB : B.length ≤ 1000000) :
  Con Tryz.prog 218 cl [.sl A.length (ints A), .sl B.length (ints B)] [] (numR (lim (vl A * vl B).toNat)) := by
 refine Con.of_aw Tryz.func218 rfl Tryz.ntmps218 (by simp) (by simp) (by simp) (W.sound ?_)
 show @W Tryz.prog 63 ⟨_⟩ ⟨fun x σ => @retW _ _ _ ⟨_⟩ _ ⟨_⟩ x σ⟩ _ _
 simp (disch := omega) only [go_sem]
 refine ⟨⟨by omega, by omega, by omega⟩, ?_⟩
 refine loop_intro (fun x : Nat × List Int => [(1, .sl B.length (ints B)), (5, .rf 180000000 0 (A.length + B.length)), (17, .sl A.length (ints A)), (18, .v (.int .i64 A.length)), (19, .v (.int .i64 x.1))])
  (fun x => [(180000000, .own 1 (ints x.2))])
  (fun x => x.1 ≤ A.length ∧ x.2.length = A.length + B.length ∧ gd x.2 ∧ vl x.2 = vl (A.take x.1) * vl B ∧ ∀ j, x.1 + B.length ≤ j → x.2.getD j 0 = 0)
  (fun x => A.length - x.1) (0, List.replicate (A.length + B.length) 0) ⟨by simp, by simp, gd_replicate _, by simp [vl_replicate, vl], fun j _ => by
   rw [List.getD_eq_getElem?_getD, List.getElem?_replicate]; split <;> rfl⟩
  (Le.lst [] _ _ rfl (by simp (disch := omega) only [go_sem]; try omega) (by simp (disch := omega) only [go_sem, show ((A.length : Int) + (B.length : Int)).toNat = A.length + B.length by omega])) ?_
 rintro ⟨i, out⟩ ⟨hi, hol, hog, hov, hoz⟩
 dsimp only at hi hol hog hov hoz ⊢
 simp (disch := omega) only [go_sem]
 refine ifW_dec (fun h1 => ?_) (fun h1 => ?_)
 ·have hx := gd_getD hA i
  simp (disch := omega) only [go_sem, h1]
  refine ⟨by omega, by omega, ?_⟩
  refine loop_intro (fun x : Nat × List Int × Int => [(1, .sl B.length (ints B)), (5, .rf 180000000 0 (A.length + B.length)), (17, .sl A.length (ints A)), (18, .v (.int .i64 A.length)), (19, .v (.int .i64 i)), (6, .v (.int .i64 i)),
    (7, .v (.int .i64 (A.getD i 0))), (8, .v (.int .i64 x.2.2)), (24, .sl B.length (ints B)), (25, .v (.int .i64 B.length)), (26, .v (.int .i64 x.1))])
   (fun x => [(180000000, .own 1 (ints x.2.1))])
   (fun x => x.1 ≤ B.length ∧ x.2.1.length = A.length + B.length ∧ gd x.2.1 ∧ (0 ≤ x.2.2 ∧ x.2.2 < 65536) ∧ vl x.2.1 + 65536 ^ (i + x.1) * x.2.2 = vl out + 65536 ^ i * (A.getD i 0 * vl (B.take x.1)) ∧ ∀ j, i + B.length ≤ j → x.2.1.getD j 0 = 0)
   (fun x => B.length - x.1) (0, out, 0) ⟨by simp, hol, hog, by simp, by simp [vl], hoz⟩
   (Le.lst [] _ _ rfl (by simp (disch := omega) only [go_sem]; try omega) (by simp (disch := omega) only [go_sem])) ?_
  rintro ⟨j, o2, cy⟩ ⟨hj, hol2, hog2, hcy, hov2, hoz2⟩
  dsimp only at hj hol2 hog2 hcy hov2 hoz2 ⊢
  simp (disch := omega) only [go_sem]
  refine ifW_dec (fun h2 => ?_) (fun h2 => ?_)
  ·have hy := gd_getD hB j
   have ho := gd_getD hog2 (i + j)
   have hxy := mul_lim hx hy
   have e1 : ((i : Int) + (j : Int)).toNat = i + j := by omega
   simp (disch := omega) only [go_sem, h2, e1]
   generalize hq : cy + (o2.getD (i + j) 0 + A.getD i 0 * B.getD j 0) = q
   refine ⟨by omega, by omega, by omega, by omega, by omega, by omega, next_intro (j + 1, o2.set (i + j) (q % 65536), q / 65536) [] ⟨by show j + 1 ≤ _; omega, by simp [hol2], gd_set hog2 (by omega), by show 0 ≤ q / 65536 ∧ q / 65536 < 65536; omega, ?_, fun k hk => ?_⟩
    (by show B.length - (j + 1) < B.length - j; omega) rfl (by simp (disch := omega) only [go_sem]; try omega) (by simp (disch := omega) only [go_sem])⟩
   ·show vl (o2.set (i + j) (q % 65536)) + 65536 ^ (i + (j + 1)) * (q / 65536) = vl out + 65536 ^ i * (A.getD i 0 * vl (B.take (j + 1)))
    rw [vl_set (by omega), vl_take_succ (by omega), ← Nat.add_assoc, Int.pow_succ]
    have e2 : (65536 : Int) ^ (i + j) = 65536 ^ i * 65536 ^ j := Int.pow_add _ _ _
    have e3 : q % 65536 + 65536 * (q / 65536) = q := Int.emod_add_mul_ediv q 65536
    rw [e2] at hov2 ⊢
    generalize (65536 : Int) ^ i = Pi at *
    generalize (65536 : Int) ^ j = Pj at *
    grind
   ·show (o2.set (i + j) (q % 65536)).getD k 0 = 0
    rw [List.getD_eq_getElem?_getD, List.getElem?_set_ne (by omega), ← List.getD_eq_getElem?_getD]
    exact hoz2 k hk
  ·simp (disch := omega) only [go_sem, h2]
   have e1 : ((i : Int) + (B.length : Int)).toNat = i + B.length := by omega
   have hjB : j = B.length := by omega
   subst hjB
   rw [List.take_length] at hov2
   simp (disch := omega) only [go_sem, e1]
   refine ⟨by omega, by omega, next_intro (i + 1, o2.set (i + B.length) cy) [] ⟨by show i + 1 ≤ _; omega, by simp [hol2], gd_set hog2 hcy, ?_, fun k hk => ?_⟩ (by show A.length - (i + 1) < A.length - i; omega) rfl (by simp (disch := omega) only [go_sem]; try omega) (by simp (disch := omega) only [go_sem])⟩
   ·show vl (o2.set (i + B.length) cy) = vl (A.take (i + 1)) * vl B
    rw [vl_set (by omega), hoz2 _ (Nat.le_refl _), vl_take_succ (by omega)]
    generalize (65536 : Int) ^ i = Pi at *
    grind
   ·show (o2.set (i + B.length) cy).getD k 0 = 0
    rw [List.getD_eq_getElem?_getD, List.getElem?_set_ne (by show i + B.length ≠ k; omega), ← List.getD_eq_getElem?_getD]
    exact hoz2 k (by omega)
 ·simp (disch := omega) only [go_sem, h1]
  have hiA : i = A.length := by omega
  subst hiA
  rw [List.take_length] at hov
  refine call_lend false [180000000] (con_trim out (by omega)) (by rw [← hol]; simp (disch := omega) only [go_sem]) (by simp (disch := omega) only [go_sem]) rfl (lend_cons (z := 1) (cs := ints out) (by simp (disch := omega) only [go_sem]) (by simp (disch := omega) only [go_sem])) (by intro n hn; exact ⟨_, List.mem_singleton.2 rfl, by rw [List.mem_singleton.1 hn]; rfl⟩) ?_
  rintro r hs bs ⟨rfl, rfl, rfl⟩ _
  refine ⟨by simp [freeN], ?_⟩
  simp (disch := omega) only [go_sem]
  obtain ⟨z, hz⟩ := cutZ_pre out
  have hc := cutZ_lim hog
  rw [hov] at hc
  rw [hc] at hz ⊢
  refine fin_intro [(0, 180000000)] [.own 1 (ints out)] [] [.rf 0 0 (lim (vl A * vl B).toNat).length] rfl (by simp (disch := omega) only [go_sem]) (by simp (disch := omega) only [go_sem]) (by simp) (by intro _; simp [tupA, AV.pu, AV.pu.puL, Ob.pu, pu_ints]) (.inr ⟨List.replicate z 0, rfl, by rw [← hz]⟩)
end Go.Ab
namespace Go.Ab
open Go Go.Proofs
set_option linter.unusedVariables false
set_option linter.unusedSimpArgs false
theorem con_small (cl : Bool) (n : Nat) (hn : n < 2 ^ 63) : Con Tryz.prog 189 cl [.v (.int .i64 n)] [] (numR (lim n)) := by
 refine Con.of_aw Tryz.func189 rfl Tryz.ntmps189 (by simp) (by simp) (by simp) (W.sound ?_)
 show @W Tryz.prog 14 ⟨_⟩ ⟨fun x σ => @retW _ _ _ ⟨_⟩ _ ⟨_⟩ x σ⟩ _ _
 simp (disch := omega) only [go_sem]
 refine loop_intro (fun x : Nat × List Int => [(0, .v (.int .i64 x.1)), (3, .rf 1 0 x.2.length)]) (fun x => [(1, .own 1 (ints x.2))]) (fun x => x.1 < 2 ^ 63 ∧ x.2 ++ lim x.1 = lim n) (fun x => x.1) (n, []) ⟨hn, rfl⟩
  ((Le.ghost 3 1 1 (by simp (disch := omega) only [go_sem]) (by simp (disch := omega) only [go_sem])).trans (Le.lst [] _ _ rfl (by simp (disch := omega) only [go_sem]) (by simp (disch := omega) only [go_sem]))) ?_
 rintro ⟨k, l⟩ ⟨hk, hl⟩
 dsimp only at hk hl ⊢
 have hlen : l.length ≤ 4 := by
  have h1 := congrArg List.length hl
  have h2 := lim_len (n := n) (k := 4) |>.2 (by omega)
  rw [List.length_append] at h1; omega
 simp (disch := omega) only [go_sem]
 refine ifW_dec (fun h1 => ?_) (fun h1 => ?_)
 ·simp (disch := omega) only [go_sem, h1]
  have hk0 : k ≠ 0 := by omega
  refine ⟨by omega, next_intro (k / 65536, l ++ [(k : Int) % 65536]) [(1, 140000000)] ⟨by show k / 65536 < 2 ^ 63; omega, ?_⟩ (by show k / 65536 < k; omega) rfl (by simp (disch := omega) only [go_sem, List.length_append]; omega) (by simp (disch := omega) only [go_sem])⟩
  rw [lim_pos hk0] at hl
  rw [← hl, List.append_assoc]; rfl
 ·simp (disch := omega) only [go_sem, h1]
  have hk0 : k = 0 := by omega
  subst hk0
  rw [lim_zero, List.append_nil] at hl
  subst hl
  refine fin_intro [(0, 1)] [.own 1 (ints (lim n ++ []))] [] [.rf 0 0 (lim n).length] rfl (by simp (disch := omega) only [go_sem]) (by simp (disch := omega) only [go_sem]) (by simp) (by intro _; simp [tupA, AV.pu, AV.pu.puL, Ob.pu, pu_ints]) (.inr ⟨[], rfl, rfl⟩)
end Go.Ab
namespace Go.Ab
open Go Go.Proofs
set_option linter.unusedVariables false
set_option linter.unusedSimpArgs false
theorem pow_le_15 (k : Nat) (h : k < 16) : (0 : Int) < 2 ^ k ∧ (2 : Int) ^ k ≤ 32768 := by
 have : ∀ k, k < 16 → (0 : Int) < 2 ^ k ∧ (2 : Int) ^ k ≤ 32768 := by decide
 exact this k h
theorem mul_shift {x : Int} (hx : 0 ≤ x ∧ x < 65536) {k : Nat} (hk : k < 16) : 0 ≤ x * 2 ^ k ∧ x * 2 ^ k ≤ 2147450880 := by
 obtain ⟨h1, h2⟩ := pow_le_15 k hk
 have h3 := Int.mul_nonneg hx.1 (Int.le_of_lt h1)
 have h4 : x * 2 ^ k ≤ 65535 * 32768 := Int.mul_le_mul (by omega) h2 (by omega) (by omega)
 omega
theorem pow_split (k : Nat) : (65536 : Int) ^ (k / 16) * 2 ^ (k % 16) = 2 ^ k := by
 have e : (65536 : Int) = 2 ^ 16 := by decide
 rw [e, ← Int.pow_mul, ← Int.pow_add, Nat.div_add_mod]
theorem con_up (cl : Bool) (A : List Int) (k : Nat) (hA : gd A) (lA : A.length ≤ 1000000) (hk : k ≤ 100000000) :
  Con Tryz.prog 195 cl [.sl A.length (ints A), .v (.int .i64 k)] [] (numR (lim (vl A * 2 ^ k).toNat)) := by
 refine Con.of_aw Tryz.func195 rfl Tryz.ntmps195 (by simp) (by simp) (by simp) (W.sound ?_)
 show @W Tryz.prog 46 ⟨_⟩ ⟨fun x σ => @retW _ _ _ ⟨_⟩ _ ⟨_⟩ x σ⟩ _ _
 simp (disch := omega) only [go_sem]
 refine ifW_dec (fun h0 => ?_) (fun h0 => ?_)
 ·simp (disch := omega) only [go_sem, h0]
  have : A = [] := List.length_eq_zero_iff.1 (by omega)
  subst this
  refine fin_intro [] [] [] [.v (.slice none 0 0)] rfl (by simp (disch := omega) only [go_sem]) (by simp (disch := omega) only [go_sem]) (by simp) (by intro _; simp [tupA, AV.pu, AV.pu.puL, Ob.pu, pu_ints]) (.inl ⟨by simp [vl, lim_zero], rfl, rfl⟩)
 ·simp (disch := omega) only [go_sem, h0]
  refine ⟨by omega, ?_⟩
  have e16 : ((k : Int) / 16).toNat = k / 16 := by omega
  refine loop_intro (fun x : Nat × List Int × Int => [(1, .v (.int .i64 k)), (5, .rf 1 0 x.2.1.length), (6, .v (.int .i64 x.2.2)), (21, .sl A.length (ints A)), (22, .v (.int .i64 A.length)), (23, .v (.int .i64 x.1))])
   (fun x => [(1, .own 1 (ints x.2.1))])
   (fun x => x.1 ≤ A.length ∧ x.2.1.length = k / 16 + x.1 ∧ gd x.2.1 ∧ (0 ≤ x.2.2 ∧ x.2.2 < 65536) ∧ vl x.2.1 + 65536 ^ (k / 16 + x.1) * x.2.2 = 65536 ^ (k / 16) * 2 ^ (k % 16) * vl (A.take x.1))
   (fun x => A.length - x.1) (0, List.replicate (k / 16) 0, 0) ⟨by simp, by simp, gd_replicate _, by simp, by simp [vl, vl_replicate]⟩
   (Le.lst [(1, 220000000)] _ _ rfl (by simp (disch := omega) only [go_sem, List.length_replicate, e16]) (by simp (disch := omega) only [go_sem, e16])) ?_
  rintro ⟨i, out, cy⟩ ⟨hi, hol, hog, hcy, hov⟩
  dsimp only at hi hol hog hcy hov ⊢
  simp (disch := omega) only [go_sem]
  refine ifW_dec (fun h1 => ?_) (fun h1 => ?_)
  ·have hx := gd_getD hA i
   have hxs := mul_shift hx (show k % 16 < 16 by omega)
   have em : min ((k : Int) % 16).toNat 64 = k % 16 := by omega
   simp (disch := omega) only [go_sem, h1, em]
   generalize hq : cy + A.getD i 0 * 2 ^ (k % 16) = q
   refine ⟨by omega, by omega, by omega, by omega, next_intro (i + 1, out ++ [q % 65536], q / 65536) [(1, 390000000)] ⟨by show i + 1 ≤ _; omega, by simp [hol]; omega, gd_append.2 ⟨hog, gd_one.2 (by omega)⟩, by show 0 ≤ q / 65536 ∧ q / 65536 < 65536; omega, ?_⟩ (by show A.length - (i + 1) < A.length - i; omega) rfl (by simp (disch := omega) only [go_sem, List.length_append]; try omega) (by simp (disch := omega) only [go_sem])⟩
   show vl (out ++ [q % 65536]) + 65536 ^ (k / 16 + (i + 1)) * (q / 65536) = 65536 ^ (k / 16) * 2 ^ (k % 16) * vl (A.take (i + 1))
   rw [vl_snoc, vl_take_any, hol, ← Nat.add_assoc, Int.pow_succ]
   have e3 : q % 65536 + 65536 * (q / 65536) = q := Int.emod_add_mul_ediv q 65536
   rw [Int.pow_add] at hov ⊢
   generalize (65536 : Int) ^ i = Pi at *
   generalize (65536 : Int) ^ (k / 16) = Pk at *
   generalize (2 : Int) ^ (k % 16) = Pm at *
   grind
  ·simp (disch := omega) only [go_sem, h1]
   have hiA : i = A.length := by omega
   subst hiA
   rw [List.take_length, pow_split] at hov
   have hov2 : vl (out ++ [cy]) = vl A * 2 ^ k := by rw [vl_snoc, hol, hov]; grind
   have hog2 : gd (out ++ [cy]) := gd_append.2 ⟨hog, gd_one.2 hcy⟩
   refine ⟨by omega, ?_⟩
   have hl2 : out.length + 1 = (out ++ [cy]).length := by simp
   rw [hl2]
   refine call_lend false [460000000] (con_trim (out ++ [cy]) (by simp; omega)) (by simp (disch := omega) only [go_sem]) (by simp (disch := omega) only [go_sem]) rfl (lend_cons (z := 1) (cs := ints (out ++ [cy])) (by simp (disch := omega) only [go_sem]) (by simp (disch := omega) only [go_sem])) (by intro n hn; exact ⟨_, List.mem_singleton.2 rfl, by rw [List.mem_singleton.1 hn]; rfl⟩) ?_
   rintro r hs bs ⟨rfl, rfl, rfl⟩ _
   refine ⟨by simp [freeN], ?_⟩
   simp (disch := omega) only [go_sem]
   obtain ⟨z, hz⟩ := cutZ_pre (out ++ [cy])
   have hc := cutZ_lim hog2
   rw [hov2] at hc
   rw [hc] at hz ⊢
   refine fin_intro [(0, 460000000)] [.own 1 (ints (out ++ [cy]))] [] [.rf 0 0 (lim (vl A * 2 ^ k).toNat).length] rfl (by simp (disch := omega) only [go_sem]) (by simp (disch := omega) only [go_sem]) (by simp) (by intro _; simp [tupA, AV.pu, AV.pu.puL, Ob.pu, pu_ints]) (.inr ⟨List.replicate z 0, rfl, by rw [← hz]⟩)
end Go.Ab
namespace Go.Ab
open Go Go.Proofs
set_option linter.unusedVariables false
set_option linter.unusedSimpArgs false
theorem mod_step (V P : Int) (hP : 0 < P) : V % (P * 65536) = V % P + P * (V / P % 65536) := by
 rw [Int.emod_def, Int.emod_def, Int.emod_def, ← Int.ediv_ediv_of_nonneg (Int.le_of_lt hP)]
 grind
theorem pow_rest {s : Nat} (hs : s < 16) : (65536 : Int) = 2 ^ s * 2 ^ (16 - s) := by
 rw [← Int.pow_add, show s + (16 - s) = 16 by omega]; decide
theorem digit_down {D : List Int} (hD : gd D) {i s : Nat} (hi : i < D.length) (hs : s < 16) :
  (vl D / 2 ^ s) / 65536 ^ i % 65536 = (D.getD i 0 + D.getD (i + 1) 0 * 65536) / 2 ^ s % 65536 := by
 have h2 := (pow_le_15 s hs).1
 rw [Int.ediv_ediv_of_nonneg (Int.le_of_lt h2), Int.mul_comm, ← Int.ediv_ediv_of_nonneg (Int.le_of_lt (Int.pow_pos (by omega))), vl_div hD (by omega), vl_drop hi]
 have h3 : vl (D.drop (i + 1)) = D.getD (i + 1) 0 + 65536 * vl (D.drop (i + 2)) := by
  rcases Nat.lt_or_ge (i + 1) D.length with h | h
  ·exact vl_drop h
  ·rw [List.drop_of_length_le h, List.drop_of_length_le (by omega), List.getD_eq_getElem?_getD, List.getElem?_eq_none h]; simp [vl]
 rw [h3]
 have e : D.getD i 0 + 65536 * (D.getD (i + 1) 0 + 65536 * vl (D.drop (i + 2))) = (D.getD i 0 + D.getD (i + 1) 0 * 65536) + 2 ^ s * (65536 * (2 ^ (16 - s) * vl (D.drop (i + 2)))) := by
  have := pow_rest hs
  generalize (2 : Int) ^ s = a at *
  generalize (2 : Int) ^ (16 - s) = b at *
  grind
 rw [e, Int.add_mul_ediv_left _ _ (by omega), Int.add_mul_emod_self_left]
theorem pow_mono' {a b : Nat} (h : a ≤ b) : (65536 : Int) ^ a ≤ 65536 ^ b := by
 obtain ⟨d, rfl⟩ := Nat.exists_eq_add_of_le h
 have h1 : (0 : Int) < 65536 ^ a := Int.pow_pos (by omega)
 have h2 : (0 : Int) < 65536 ^ d := Int.pow_pos (by omega)
 have h3 := Int.mul_le_mul_of_nonneg_left (show (1 : Int) ≤ 65536 ^ d by omega) (Int.le_of_lt h1)
 rw [Int.mul_one, ← Int.pow_add] at h3
 exact h3
theorem con_down (cl : Bool) (A : List Int) (k : Nat) (hA : gd A) (lA : A.length ≤ 1000000) (hk : k ≤ 100000000) :
  Con Tryz.prog 216 cl [.sl A.length (ints A), .v (.int .i64 k)] [] (numR (lim (vl A / 2 ^ k).toNat)) := by
 refine Con.of_aw Tryz.func216 rfl Tryz.ntmps216 (by simp) (by simp) (by simp) (W.sound ?_)
 show @W Tryz.prog 52 ⟨_⟩ ⟨fun x σ => @retW _ _ _ ⟨_⟩ _ ⟨_⟩ x σ⟩ _ _
 have hvk : vl A / 2 ^ k = vl A / 65536 ^ (k / 16) / 2 ^ (k % 16) := by
  rw [Int.ediv_ediv_of_nonneg (Int.le_of_lt (Int.pow_pos (by omega))), pow_split]
 simp (disch := omega) only [go_sem]
 refine ifW_dec (fun h0 => ?_) (fun h0 => ?_)
 ·simp (disch := omega) only [go_sem, h0]
  have hz : vl A / 2 ^ k = 0 := by
   rw [hvk, Int.ediv_eq_zero_of_lt (vl_nonneg hA)]
   ·simp
   ·refine Int.lt_of_lt_of_le (vl_lt hA) ?_
    exact pow_mono' (by omega)
  rw [hz]
  refine fin_intro [] [] [] [.v (.slice none 0 0)] rfl (by simp (disch := omega) only [go_sem]) (by simp (disch := omega) only [go_sem]) (by simp) (by intro _; simp [tupA, AV.pu, AV.pu.puL, Ob.pu, pu_ints]) (.inl ⟨by simp [lim_zero], rfl, rfl⟩)
 ·have e16 : ((k : Int) / 16).toNat = k / 16 := by omega
  have e17 : ((A.length : Int) - (k : Int) / 16).toNat = (A.drop (k / 16)).length := by simp; omega
  have e18 : (A.drop (k / 16)).take (A.drop (k / 16)).length = A.drop (k / 16) := List.take_length
  have hvD := vl_div hA (i := k / 16) (by omega)
  have hlD : (A.drop (k / 16)).length ≤ 1000000 := by simp; omega
  have hD := gd_drop hA (k / 16)
  simp (disch := omega) only [go_sem, h0, e16, e17, e18]
  generalize A.drop (k / 16) = D at *
  refine ⟨by omega, by omega, ?_⟩
  refine loop_intro (fun x : Nat × List Int => [(1, .v (.int .i64 k)), (5, .sl D.length (ints D)), (6, .rf 1 0 x.2.length), (21, .sl D.length (ints D)), (22, .v (.int .i64 D.length)), (23, .v (.int .i64 x.1))])
   (fun x => [(1, .own 1 (ints x.2))])
   (fun x => x.1 ≤ D.length ∧ x.2.length = x.1 ∧ gd x.2 ∧ vl x.2 = vl D / 2 ^ (k % 16) % 65536 ^ x.1)
   (fun x => D.length - x.1) (0, []) ⟨by simp, rfl, gd_nil, by simp [vl]⟩
   (Le.lst [(1, 220000000)] _ _ rfl (by simp (disch := omega) only [go_sem]) (by simp (disch := omega) only [go_sem])) ?_
  rintro ⟨i, out⟩ ⟨hi, hol, hog, hov⟩
  dsimp only at hi hol hog hov ⊢
  simp (disch := omega) only [go_sem]
  refine ifW_dec (fun h1 => ?_) (fun h1 => ?_)
  ·have hx := gd_getD hD i
   have hy := gd_getD hD (i + 1)
   have em : min ((k : Int) % 16).toNat 64 = k % 16 := by omega
   have hm := pow_le_15 (k % 16) (by omega)
   have efd : ∀ x : Int, x.fdiv (2 ^ (k % 16)) = x / 2 ^ (k % 16) := fun x => Int.fdiv_eq_ediv_of_nonneg _ (Int.le_of_lt hm.1)
   have hdig := digit_down hD (i := i) (s := k % 16) (by omega) (by omega)
   have hnn : ∀ x : Int, 0 ≤ x → 0 ≤ x / 2 ^ (k % 16) := fun x hx => Int.ediv_nonneg hx (Int.le_of_lt hm.1)
   have ei : ((i : Int) + 1).toNat = i + 1 := by omega
   have hstep : ∀ z : Int, z = (D.getD i 0 + D.getD (i + 1) 0 * 65536) / 2 ^ (k % 16) % 65536 → vl (out ++ [z]) = vl D / 2 ^ (k % 16) % 65536 ^ (i + 1) := by
    intro z hz
    rw [vl_snoc, hov, hol, Int.pow_succ, mod_step _ _ (Int.pow_pos (by omega)), hdig, hz]
   simp (disch := omega) only [go_sem, h1]
   refine ⟨by omega, by omega, ifW_dec (fun h2 => ?_) (fun h2 => ?_)⟩
   ·have hn1 := hnn (D.getD i 0 + D.getD (i + 1) 0 * 65536) (by omega)
    simp (disch := omega) only [go_sem, h2, em, efd, ei]
    refine ⟨by omega, by omega, by omega, by omega, next_intro (i + 1, out ++ [(D.getD i 0 + D.getD (i + 1) 0 * 65536) / 2 ^ (k % 16) % 65536]) [(1, 500000000)] ⟨by show i + 1 ≤ _; omega, by simp [hol], gd_append.2 ⟨hog, gd_one.2 (by omega)⟩, hstep _ rfl⟩ (by show D.length - (i + 1) < D.length - i; omega) rfl (by simp (disch := omega) only [go_sem, List.length_append]; try omega) (by simp (disch := omega) only [go_sem])⟩
   ·have hn1 := hnn (D.getD i 0) (by omega)
    simp (disch := omega) only [go_sem, h2, em, efd]
    have hy0 : D.getD (i + 1) 0 = 0 := by rw [List.getD_eq_getElem?_getD, List.getElem?_eq_none (by omega)]; rfl
    refine ⟨by omega, by omega, next_intro (i + 1, out ++ [D.getD i 0 / 2 ^ (k % 16) % 65536]) [(1, 500000000)] ⟨by show i + 1 ≤ _; omega, by simp [hol], gd_append.2 ⟨hog, gd_one.2 (by omega)⟩, hstep _ (by rw [hy0]; simp)⟩ (by show D.length - (i + 1) < D.length - i; omega) rfl (by simp (disch := omega) only [go_sem, List.length_append]; try omega) (by simp (disch := omega) only [go_sem])⟩
  ·simp (disch := omega) only [go_sem, h1]
   have hiD : i = D.length := by omega
   subst hiD
   have hV : vl out = vl A / 2 ^ k := by
    rw [hov, hvk, hvD]
    refine Int.emod_eq_of_lt (Int.ediv_nonneg (vl_nonneg hD) (Int.le_of_lt (pow_le_15 (k % 16) (by omega)).1)) ?_
    exact Int.lt_of_le_of_lt (Int.ediv_le_self _ (vl_nonneg hD)) (vl_lt hD)
   refine call_lend false [1] (con_trim out (by omega)) (by simp (disch := omega) only [go_sem]) (by simp (disch := omega) only [go_sem]) rfl (lend_cons (z := 1) (cs := ints out) (by simp (disch := omega) only [go_sem]) (by simp (disch := omega) only [go_sem])) (by intro n hn; exact ⟨_, List.mem_singleton.2 rfl, by rw [List.mem_singleton.1 hn]; rfl⟩) ?_
   rintro r hs bs ⟨rfl, rfl, rfl⟩ _
   refine ⟨by simp [freeN], ?_⟩
   simp (disch := omega) only [go_sem]
   obtain ⟨z, hz⟩ := cutZ_pre out
   have hc := cutZ_lim hog
   rw [hV] at hc
   rw [hc] at hz ⊢
   refine fin_intro [(0, 1)] [.own 1 (ints out)] [] [.rf 0 0 (lim (vl A / 2 ^ k).toNat).length] rfl (by simp (disch := omega) only [go_sem]) (by simp (disch := omega) only [go_sem]) (by simp) (by intro _; simp [tupA, AV.pu, AV.pu.puL, Ob.pu, pu_ints]) (.inr ⟨List.replicate z 0, rfl, by rw [← hz]⟩)
end Go.Ab
namespace Go.Ab
open Go Go.Proofs
set_option linter.unusedVariables false
set_option linter.unusedSimpArgs false
theorem drop_set {l : List Int} {i : Nat} (h : i < l.length) (z : Int) : (l.set i z).drop i = z :: l.drop (i + 1) := by
 rw [List.drop_eq_getElem_cons (by simpa using h)]
 simp [List.drop_set]
theorem con_divs (cl : Bool) (A : List Int) (d : Nat) (hA : gd A) (lA : A.length ≤ 1000000) (hd : 0 < d) (hd2 : d < 65536) :
  Con Tryz.prog 295 cl [.sl A.length (ints A), .v (.int .i64 d)] [] (fun r hs bs => ∃ zs, r = .tu [.rf 0 0 (lim (vl A / d).toNat).length, .v (.int .i64 (vl A % d))] ∧ hs = [.own 1 (ints (lim (vl A / d).toNat ++ zs))]) := by
 refine Con.of_aw Tryz.func295 rfl Tryz.ntmps295 (by simp) (by simp) (by simp) (W.sound ?_)
 show @W Tryz.prog 38 ⟨_⟩ ⟨fun x σ => @retW _ _ _ ⟨_⟩ _ ⟨_⟩ x σ⟩ _ _
 simp (disch := omega) only [go_sem]
 refine ⟨by omega, ?_⟩
 refine loop_intro (fun x : Nat × List Int × Int => [(0, .sl A.length (ints A)), (1, .v (.int .i64 d)), (6, .rf 130000000 0 A.length), (7, .v (.int .i64 x.2.2)), (8, .v (.int .i64 ((x.1 : Int) - 1)))])
  (fun x => [(130000000, .own 1 (ints x.2.1))])
  (fun x => x.1 ≤ A.length ∧ x.2.1.length = A.length ∧ gd x.2.1 ∧ x.2.2 = vl (A.drop x.1) % d ∧ vl (x.2.1.drop x.1) = vl (A.drop x.1) / d)
  (fun x => x.1) (A.length, List.replicate A.length 0, 0) ⟨by simp, by simp, gd_replicate _, by simp [vl], by simp [vl]⟩
  (Le.lst [] _ _ rfl (by simp (disch := omega) only [go_sem]; try omega) (by simp (disch := omega) only [go_sem])) ?_
 rintro ⟨m, out, rest⟩ ⟨hm, hol, hog, hr, hov⟩
 dsimp only at hm hol hog hr hov ⊢
 simp (disch := omega) only [go_sem]
 refine ifW_dec (fun h1 => ?_) (fun h1 => ?_)
 ·obtain ⟨i, rfl⟩ : ∃ i, m = i + 1 := ⟨m - 1, by omega⟩
  have e1 : ((i + 1 : Nat) : Int) - 1 = (i : Nat) := by omega
  have hx := gd_getD hA i
  have hr2 : 0 ≤ rest ∧ rest < d := by rw [hr]; exact ⟨Int.emod_nonneg _ (by omega), Int.emod_lt_of_pos _ (by omega)⟩
  generalize hq : rest * 65536 + A.getD i 0 = q
  have hq0 : 0 ≤ q := by omega
  have hqd : 0 ≤ q / d ∧ q / d < 65536 := ⟨Int.ediv_nonneg hq0 (by omega), Int.ediv_lt_of_lt_mul (by omega) (by omega)⟩
  have hqm : 0 ≤ q % d ∧ q % d < d := ⟨Int.emod_nonneg _ (by omega), Int.emod_lt_of_pos _ (by omega)⟩
  simp (disch := omega) only [go_sem, h1, e1, hq]
  refine ⟨by omega, by omega, by omega, by omega, by omega, by omega, next_intro (i, out.set i (q / d), q % d) [] ⟨by show i ≤ _; omega, by simp [hol], gd_set hog hqd, ?_, ?_⟩ (by show i < i + 1; omega) rfl (by simp (disch := omega) only [go_sem]) (by simp (disch := omega) only [go_sem])⟩
  ·show q % d = vl (A.drop i) % d
   rw [vl_drop (l := A) (i := i) (by omega), ← hq, hr]
   have h3 := Int.emod_add_mul_ediv (vl (A.drop (i + 1))) d
   rw [show A.getD i 0 + 65536 * vl (A.drop (i + 1)) = vl (A.drop (i + 1)) % d * 65536 + A.getD i 0 + d * (65536 * (vl (A.drop (i + 1)) / d)) by grind, Int.add_mul_emod_self_left]
  ·show vl ((out.set i (q / d)).drop i) = vl (A.drop i) / d
   rw [drop_set (by omega), vl, hov, vl_drop (l := A) (i := i) (by omega), ← hq, hr]
   have h3 := Int.emod_add_mul_ediv (vl (A.drop (i + 1))) d
   rw [show A.getD i 0 + 65536 * vl (A.drop (i + 1)) = vl (A.drop (i + 1)) % d * 65536 + A.getD i 0 + d * (65536 * (vl (A.drop (i + 1)) / d)) by grind, Int.add_mul_ediv_left _ _ (by omega)]
 ·simp (disch := omega) only [go_sem, h1]
  have : m = 0 := by omega
  subst this
  rw [List.drop_zero, List.drop_zero] at hov
  rw [List.drop_zero] at hr
  rw [← hol]
  refine call_lend false [130000000] (con_trim out (by omega)) (by simp (disch := omega) only [go_sem]) (by simp (disch := omega) only [go_sem]) rfl (lend_cons (z := 1) (cs := ints out) (by simp (disch := omega) only [go_sem]) (by simp (disch := omega) only [go_sem])) (by intro n hn; exact ⟨_, List.mem_singleton.2 rfl, by rw [List.mem_singleton.1 hn]; rfl⟩) ?_
  rintro r hs bs ⟨rfl, rfl, rfl⟩ _
  refine ⟨by simp [freeN], ?_⟩
  simp (disch := omega) only [go_sem]
  obtain ⟨z, hz⟩ := cutZ_pre out
  have hc := cutZ_lim hog
  rw [hov] at hc
  rw [hc] at hz ⊢
  rw [hr]
  refine fin_intro [(0, 130000000)] [.own 1 (ints out)] [] [.rf 0 0 (lim (vl A / d).toNat).length, .v (.int .i64 (vl A % d))] rfl (by simp (disch := omega) only [go_sem]) (by simp (disch := omega) only [go_sem]) (by simp) (by intro _; simp [tupA, AV.pu, AV.pu.puL, Ob.pu, pu_ints]) ⟨List.replicate z 0, rfl, by rw [← hz]⟩
end Go.Ab
namespace Go.Ab
open Go Go.Proofs
set_option linter.unusedVariables false
set_option linter.unusedSimpArgs false
theorem con_plus (cl : Bool) (A B : List Int) (hA : gd A) (hB : gd B) (lA : A.length ≤ 2000000) (lB : B.length ≤ 2000000) :
  Con Tryz.prog 219 cl [.sl A.length (ints A), .sl B.length (ints B)] [] (numR (lim (vl A + vl B).toNat)) := by
 refine Con.of_aw Tryz.func219 rfl Tryz.ntmps219 (by simp) (by simp) (by simp) (W.sound ?_)
 show @W Tryz.prog 53 ⟨_⟩ ⟨fun x σ => @retW _ _ _ ⟨_⟩ _ ⟨_⟩ x σ⟩ _ _
 simp (disch := omega) only [go_sem]
 refine ifW_dec (fun h0 => ?_) (fun h0 => ?_)
 all_goals simp (disch := omega) only [go_sem, h0]
 ·revert A B
  intro Y X hY hX lY lX h0'
  have h00 : Y.length ≤ X.length := by omega
  have hcm : vl Y + vl X = vl X + vl Y := Int.add_comm _ _
  refine ⟨by omega, ?_⟩
  refine loop_intro (fun x : Nat × List Int × Int => [(1, .sl Y.length (ints Y)), (5, .rf 1 0 x.2.1.length), (6, .v (.int .i64 x.2.2)), (20, .sl X.length (ints X)), (21, .v (.int .i64 X.length)), (22, .v (.int .i64 x.1))])
   (fun x => [(1, .own 1 (ints x.2.1))])
   (fun x => x.1 ≤ X.length ∧ x.2.1.length = x.1 ∧ gd x.2.1 ∧ (0 ≤ x.2.2 ∧ x.2.2 ≤ 1) ∧ vl x.2.1 + 65536 ^ x.1 * x.2.2 = vl (X.take x.1) + vl (Y.take x.1))
   (fun x => X.length - x.1) (0, [], 0) ⟨by simp, rfl, gd_nil, by simp, by simp [vl]⟩
   (Le.lst [(1, 210000000)] _ _ rfl (by simp (disch := omega) only [go_sem]) (by simp (disch := omega) only [go_sem])) ?_
  rintro ⟨i, out, cy⟩ ⟨hi, hol, hog, hcy, hov⟩
  dsimp only at hi hol hog hcy hov ⊢
  simp (disch := omega) only [go_sem]
  refine ifW_dec (fun h1 => ?_) (fun h1 => ?_)
  ·have hx := gd_getD hX i
   have hy := gd_getD hY i
   have hstep : ∀ q : Int, q = cy + X.getD i 0 + Y.getD i 0 → vl (out ++ [q % 65536]) + 65536 ^ (i + 1) * (q / 65536) = vl (X.take (i + 1)) + vl (Y.take (i + 1)) := by
    intro q hq
    rw [vl_snoc, vl_take_any, vl_take_any, hol, Int.pow_succ]
    have e3 : q % 65536 + 65536 * (q / 65536) = q := Int.emod_add_mul_ediv q 65536
    generalize (65536 : Int) ^ i = Pi at *
    grind
   have hyz : ¬ i < Y.length → Y.getD i 0 = 0 := fun h => by rw [List.getD_eq_getElem?_getD, List.getElem?_eq_none (by omega)]; rfl
   simp (disch := omega) only [go_sem, h1]
   refine ⟨by omega, by omega, ifW_dec (fun h2 => ?_) (fun h2 => ?_)⟩
   ·simp (disch := omega) only [go_sem, h2]
    generalize hq : cy + X.getD i 0 + Y.getD i 0 = q
    refine ⟨by omega, by omega, by omega, next_intro (i + 1, out ++ [q % 65536], q / 65536) [(1, 460000000)] ⟨by show i + 1 ≤ _; omega, by simp [hol], gd_append.2 ⟨hog, gd_one.2 (by omega)⟩, by show 0 ≤ q / 65536 ∧ q / 65536 ≤ 1; omega, hstep q hq.symm⟩ (by show X.length - (i + 1) < X.length - i; omega) rfl (by simp (disch := omega) only [go_sem, List.length_append]; try omega) (by simp (disch := omega) only [go_sem])⟩
   ·simp (disch := omega) only [go_sem, h2]
    have hy0 := hyz (by omega)
    generalize hq : cy + X.getD i 0 = q
    refine ⟨by omega, next_intro (i + 1, out ++ [q % 65536], q / 65536) [(1, 460000000)] ⟨by show i + 1 ≤ _; omega, by simp [hol], gd_append.2 ⟨hog, gd_one.2 (by omega)⟩, by show 0 ≤ q / 65536 ∧ q / 65536 ≤ 1; omega, hstep q (by omega)⟩ (by show X.length - (i + 1) < X.length - i; omega) rfl (by simp (disch := omega) only [go_sem, List.length_append]; try omega) (by simp (disch := omega) only [go_sem])⟩
  ·simp (disch := omega) only [go_sem, h1]
   have hiA : i = X.length := by omega
   subst hiA
   rw [List.take_length, List.take_of_length_le h00] at hov
   have hov2 : vl (out ++ [cy]) = vl X + vl Y := by rw [vl_snoc, hol]; exact hov
   have hog2 : gd (out ++ [cy]) := gd_append.2 ⟨hog, gd_one.2 (by omega)⟩
   refine ⟨by omega, ?_⟩
   have hl2 : out.length + 1 = (out ++ [cy]).length := by simp
   rw [hl2]
   refine call_lend false [530000000] (con_trim (out ++ [cy]) (by simp; omega)) (by simp (disch := omega) only [go_sem]) (by simp (disch := omega) only [go_sem]) rfl (lend_cons (z := 1) (cs := ints (out ++ [cy])) (by simp (disch := omega) only [go_sem]) (by simp (disch := omega) only [go_sem])) (by intro n hn; exact ⟨_, List.mem_singleton.2 rfl, by rw [List.mem_singleton.1 hn]; rfl⟩) ?_
   rintro r hs bs ⟨rfl, rfl, rfl⟩ _
   refine ⟨by simp [freeN], ?_⟩
   simp (disch := omega) only [go_sem]
   obtain ⟨z, hz⟩ := cutZ_pre (out ++ [cy])
   have hc := cutZ_lim hog2
   rw [hov2] at hc
   rw [hc] at hz ⊢
   refine fin_intro [(0, 530000000)] [.own 1 (ints (out ++ [cy]))] [] [.rf 0 0 (lim (vl X + vl Y).toNat).length] rfl (by simp (disch := omega) only [go_sem]) (by simp (disch := omega) only [go_sem]) (by simp) (by intro _; simp [tupA, AV.pu, AV.pu.puL, Ob.pu, pu_ints]) (.inr ⟨List.replicate z 0, by rw [hcm]; rfl, by rw [hcm, ← hz]⟩)
 ·revert A B
  intro X Y hX hY lX lY h0'
  have h00 : Y.length ≤ X.length := by omega
  have hcm : vl X + vl Y = vl X + vl Y := rfl
  refine ⟨by omega, ?_⟩
  refine loop_intro (fun x : Nat × List Int × Int => [(1, .sl Y.length (ints Y)), (5, .rf 1 0 x.2.1.length), (6, .v (.int .i64 x.2.2)), (20, .sl X.length (ints X)), (21, .v (.int .i64 X.length)), (22, .v (.int .i64 x.1))])
   (fun x => [(1, .own 1 (ints x.2.1))])
   (fun x => x.1 ≤ X.length ∧ x.2.1.length = x.1 ∧ gd x.2.1 ∧ (0 ≤ x.2.2 ∧ x.2.2 ≤ 1) ∧ vl x.2.1 + 65536 ^ x.1 * x.2.2 = vl (X.take x.1) + vl (Y.take x.1))
   (fun x => X.length - x.1) (0, [], 0) ⟨by simp, rfl, gd_nil, by simp, by simp [vl]⟩
   (Le.lst [(1, 210000000)] _ _ rfl (by simp (disch := omega) only [go_sem]) (by simp (disch := omega) only [go_sem])) ?_
  rintro ⟨i, out, cy⟩ ⟨hi, hol, hog, hcy, hov⟩
  dsimp only at hi hol hog hcy hov ⊢
  simp (disch := omega) only [go_sem]
  refine ifW_dec (fun h1 => ?_) (fun h1 => ?_)
  ·have hx := gd_getD hX i
   have hy := gd_getD hY i
   have hstep : ∀ q : Int, q = cy + X.getD i 0 + Y.getD i 0 → vl (out ++ [q % 65536]) + 65536 ^ (i + 1) * (q / 65536) = vl (X.take (i + 1)) + vl (Y.take (i + 1)) := by
    intro q hq
    rw [vl_snoc, vl_take_any, vl_take_any, hol, Int.pow_succ]
    have e3 : q % 65536 + 65536 * (q / 65536) = q := Int.emod_add_mul_ediv q 65536
    generalize (65536 : Int) ^ i = Pi at *
    grind
   have hyz : ¬ i < Y.length → Y.getD i 0 = 0 := fun h => by rw [List.getD_eq_getElem?_getD, List.getElem?_eq_none (by omega)]; rfl
   simp (disch := omega) only [go_sem, h1]
   refine ⟨by omega, by omega, ifW_dec (fun h2 => ?_) (fun h2 => ?_)⟩
   ·simp (disch := omega) only [go_sem, h2]
    generalize hq : cy + X.getD i 0 + Y.getD i 0 = q
    refine ⟨by omega, by omega, by omega, next_intro (i + 1, out ++ [q % 65536], q / 65536) [(1, 460000000)] ⟨by show i + 1 ≤ _; omega, by simp [hol], gd_append.2 ⟨hog, gd_one.2 (by omega)⟩, by show 0 ≤ q / 65536 ∧ q / 65536 ≤ 1; omega, hstep q hq.symm⟩ (by show X.length - (i + 1) < X.length - i; omega) rfl (by simp (disch := omega) only [go_sem, List.length_append]; try omega) (by simp (disch := omega) only [go_sem])⟩
   ·simp (disch := omega) only [go_sem, h2]
    have hy0 := hyz (by omega)
    generalize hq : cy + X.getD i 0 = q
    refine ⟨by omega, next_intro (i + 1, out ++ [q % 65536], q / 65536) [(1, 460000000)] ⟨by show i + 1 ≤ _; omega, by simp [hol], gd_append.2 ⟨hog, gd_one.2 (by omega)⟩, by show 0 ≤ q / 65536 ∧ q / 65536 ≤ 1; omega, hstep q (by omega)⟩ (by show X.length - (i + 1) < X.length - i; omega) rfl (by simp (disch := omega) only [go_sem, List.length_append]; try omega) (by simp (disch := omega) only [go_sem])⟩
  ·simp (disch := omega) only [go_sem, h1]
   have hiA : i = X.length := by omega
   subst hiA
   rw [List.take_length, List.take_of_length_le h00] at hov
   have hov2 : vl (out ++ [cy]) = vl X + vl Y := by rw [vl_snoc, hol]; exact hov
   have hog2 : gd (out ++ [cy]) := gd_append.2 ⟨hog, gd_one.2 (by omega)⟩
   refine ⟨by omega, ?_⟩
   have hl2 : out.length + 1 = (out ++ [cy]).length := by simp
   rw [hl2]
   refine call_lend false [530000000] (con_trim (out ++ [cy]) (by simp; omega)) (by simp (disch := omega) only [go_sem]) (by simp (disch := omega) only [go_sem]) rfl (lend_cons (z := 1) (cs := ints (out ++ [cy])) (by simp (disch := omega) only [go_sem]) (by simp (disch := omega) only [go_sem])) (by intro n hn; exact ⟨_, List.mem_singleton.2 rfl, by rw [List.mem_singleton.1 hn]; rfl⟩) ?_
   rintro r hs bs ⟨rfl, rfl, rfl⟩ _
   refine ⟨by simp [freeN], ?_⟩
   simp (disch := omega) only [go_sem]
   obtain ⟨z, hz⟩ := cutZ_pre (out ++ [cy])
   have hc := cutZ_lim hog2
   rw [hov2] at hc
   rw [hc] at hz ⊢
   refine fin_intro [(0, 530000000)] [.own 1 (ints (out ++ [cy]))] [] [.rf 0 0 (lim (vl X + vl Y).toNat).length] rfl (by simp (disch := omega) only [go_sem]) (by simp (disch := omega) only [go_sem]) (by simp) (by intro _; simp [tupA, AV.pu, AV.pu.puL, Ob.pu, pu_ints]) (.inr ⟨List.replicate z 0, by rw [hcm]; rfl, by rw [hcm, ← hz]⟩)
end Go.Ab
namespace Go.Ab
open Go Go.Proofs
set_option linter.unusedVariables false
set_option linter.unusedSimpArgs false
theorem con_clone (cl : Bool) (xs : List Int) (hl : xs.length ≤ 2 ^ 39) : Con Tryz.prog 270 cl [.sl xs.length (ints xs)] [] (numR xs) := by
 refine Con.of_aw Tryz.func270 rfl Tryz.ntmps270 (by simp) (by simp) (by simp) (W.sound ?_)
 show @W Tryz.prog 8 ⟨_⟩ ⟨fun x σ => @retW _ _ _ ⟨_⟩ _ ⟨_⟩ x σ⟩ _ _
 simp (disch := omega) only [go_sem]
 refine ⟨fun h0 => ?_, ?_⟩
 ·have : xs = [] := by cases xs with | nil => rfl | cons a r => cases h0
  subst this
  refine fin_intro [] [] [] [.v (.slice none 0 0)] rfl (by simp (disch := omega) only [go_sem]) (by simp (disch := omega) only [go_sem]) (by simp) (by intro _; simp [tupA, AV.pu]) (.inl ⟨rfl, rfl, rfl⟩)
 ·refine ⟨by omega, ?_⟩
  refine fin_intro [(0, 90000000)] [.own 1 (ints xs)] [] [.rf 0 0 xs.length] rfl (by simp (disch := omega) only [go_sem]) (by simp (disch := omega) only [go_sem]) (by simp) (by intro _; simp [tupA, AV.pu, Ob.pu, pu_ints]) (.inr ⟨[], rfl, by rw [List.append_nil]⟩)
end Go.Ab
namespace Go.Ab
open Go Go.Proofs
set_option linter.unusedVariables false
set_option linter.unusedSimpArgs false
theorem con_isnan (x : Int) : Con Tryz.prog 263 true [.v (.int .i64 x)] [] (isA (.v (.bool false))) := by
 refine Con.of_w (rs := [.tmp 2]) Tryz.func263 rfl Tryz.ntmps263 rfl ?_
 simp (disch := omega) only [go_sem]
 exact fin_cI
theorem con_cmp (x y : Int) : Con Tryz.prog 209 true [.v (.int .i64 x), .v (.int .i64 y)] [] (isA (.v (.int .i64 (cmpI x y)))) := by
 refine Con.of_w (rs := [.tmp 4]) Tryz.func209 rfl Tryz.ntmps209 rfl ?_
 simp (disch := omega) only [go_sem]
 refine call_cI (con_isnan x) ?_
 simp (disch := omega) only [go_sem]
 refine call_cI (con_isnan y) ?_
 simp (disch := omega) only [go_sem]
 refine ifW_dec (fun h1 => ?_) (fun h1 => ?_)
 ·simp (disch := omega) only [go_sem, h1]
  rw [show cmpI x y = -1 by simp [cmpI, h1]]
  exact fin_cI
 ·simp (disch := omega) only [go_sem, h1]
  refine ifW_dec (fun h2 => ?_) (fun h2 => ?_)
  ·simp (disch := omega) only [go_sem, h2]
   rw [show cmpI x y = 1 by simp [cmpI, h1, h2]]
   exact fin_cI
  ·simp (disch := omega) only [go_sem, h2]
   rw [show cmpI x y = 0 by simp [cmpI, h1, h2]]
   exact fin_cI
theorem con_compare (a b : Nat) (la : (lim a).length ≤ 2 ^ 40) (lb : (lim b).length ≤ 2 ^ 40) :
  Con Tryz.prog 217 true [.sl (lim (a)).length (ints (lim (a))), .sl (lim (b)).length (ints (lim (b)))] [] (isA (.v (.int .i64 (cmpI a b)))) := by
 refine Con.of_w (rs := [.tmp 4]) Tryz.func217 rfl Tryz.ntmps217 rfl ?_
 simp (disch := omega) only [go_sem]
 refine ifW_not (fun h1 => ?_) (fun h1 => ?_)
 ·simp (disch := omega) only [go_sem, h1]
  refine call_cI (con_cmp (lim a).length (lim b).length) ?_
  simp (disch := omega) only [go_sem]
  have : cmpI ((lim a).length : Int) ((lim b).length : Int) = cmpI a b := by
   unfold cmpI
   rcases (by omega : (lim a).length < (lim b).length ∨ (lim b).length < (lim a).length) with h | h
   ·have := lim_lt_of h
    rw [if_pos (by omega), if_pos (by omega)]
   ·have := lim_lt_of h
    rw [if_neg (by omega), if_pos (by omega), if_neg (by omega), if_pos (by omega)]
  rw [this]
  exact fin_cI
 ·simp (disch := omega) only [go_sem, h1]
  have hl : (lim a).length = (lim b).length := by omega
  refine loop_intro (fun k : Nat => [(0, .sl (lim (a)).length (ints (lim (a)))), (1, .sl (lim (b)).length (ints (lim (b)))), (5, .v (.int .i64 ((k : Int) - 1)))])
   (fun _ => []) (fun k => k ≤ (lim a).length ∧ (lim a).drop k = (lim b).drop k) (fun k => k) (lim a).length ⟨Nat.le_refl _, by rw [List.drop_length, hl, List.drop_length]⟩ (Le.lst [] _ _ rfl (by simp (disch := omega) only [go_sem]; try omega) (by simp (disch := omega) only [go_sem])) ?_
  rintro k ⟨hk, hd⟩
  simp (disch := omega) only [go_sem]
  refine ifW_dec (fun h2 => ?_) (fun h2 => ?_)
  ·obtain ⟨i, rfl⟩ : ∃ i, k = i + 1 := ⟨k - 1, by omega⟩
   have ei : ((i + 1 : Nat) : Int) - 1 = (i : Nat) := by omega
   simp (disch := omega) only [go_sem, h2, ei]
   refine draw_of rfl [⟨0, [], []⟩, ⟨1, [], []⟩, ⟨2, [], []⟩, ⟨3, [], []⟩, ⟨4, [3], []⟩, ⟨5, [3], []⟩, ⟨6, [3], []⟩, ⟨7, [3], []⟩, ⟨8, [], []⟩] (by kernel_rfl) ?_
   simp (disch := omega) only [go_sem, ei]
   refine ⟨by omega, by omega, by omega, by omega, ?_⟩
   refine ifW_not (fun h3 => ?_) (fun h3 => ?_)
   ·simp (disch := omega) only [go_sem, h3]
    refine draw_of rfl [⟨0, [], []⟩, ⟨1, [], []⟩, ⟨2, [], []⟩, ⟨3, [], []⟩, ⟨4, [3], []⟩, ⟨5, [3], []⟩, ⟨6, [3], []⟩, ⟨7, [3], []⟩, ⟨8, [], []⟩, ⟨9, [], []⟩] (by kernel_rfl) ?_
    simp (disch := omega) only [go_sem, ei]
    refine ⟨by omega, by omega, by omega, by omega, ?_⟩
    refine call_cI (con_cmp ((lim a).getD i 0) ((lim b).getD i 0)) ?_
    simp (disch := omega) only [go_sem]
    have hva := vl_lim a
    have hvb := vl_lim b
    have : cmpI ((lim a).getD i 0) ((lim b).getD i 0) = cmpI a b := by
     unfold cmpI
     rcases (by omega : (lim a).getD i 0 < (lim b).getD i 0 ∨ (lim b).getD i 0 < (lim a).getD i 0) with h | h
     ·have := vl_lt_of (gd_lim a) (gd_lim b) (by omega) hl hd h
      rw [if_pos (by omega), if_pos (by omega)]
     ·have := vl_lt_of (gd_lim b) (gd_lim a) (by omega) hl.symm hd.symm h
      rw [if_neg (by omega), if_pos (by omega), if_neg (by omega), if_pos (by omega)]
    rw [this]
    exact fin_cI
   ·simp (disch := omega) only [go_sem, h3]
    refine next_intro i [] ⟨by omega, ?_⟩ (by show i < i + 1; omega) rfl (by simp (disch := omega) only [go_sem]; try omega) (by simp (disch := omega) only [go_sem])
    rw [drop_getD (l := lim a) (by omega), drop_getD (l := lim b) (by omega), h3, hd]
  ·simp (disch := omega) only [go_sem, h2]
   have : k = 0 := by omega
   subst this
   rw [List.drop_zero, List.drop_zero] at hd
   have := lim_inj hd
   subst this
   rw [show cmpI (a : Int) (a : Int) = 0 by simp [cmpI]]
   exact fin_cI
end Go.Ab
namespace Go.Proofs
open Go.Shelf
def Tryz.lays29_ren : Go.Shelf.Ren := ⟨fun | 29 => 300 | n => n, fun | 0 => 0 | 3 => 3 | 4 => 4 | 5 => 5 | 22 => 244 | 25 => 132 | 54 => 257 | n => n, fun | 1 => 1 | n => n⟩
theorem Tryz.lays29 : Go.Proofs.Lays7.n29 Tryz.prog Tryz.lays29_ren := {
 mixed := by kernel_rfl
 f29 := Tryz.func300.trans (congrArg some (by kernel_rfl))
 t0 := Tryz.underlying0
 a0 := Tryz.isAgg0
 z0 := Tryz.sizeOf0
 v0 := Tryz.zeroValue0
 i0 := by kernel_rfl
 t3 := Tryz.underlying3
 a3 := Tryz.isAgg3
 z3 := Tryz.sizeOf3
 v3 := Tryz.zeroValue3
 i3 := by kernel_rfl
 t4 := Tryz.underlying4
 a4 := Tryz.isAgg4
 z4 := Tryz.sizeOf4
 v4 := Tryz.zeroValue4
 i4 := by kernel_rfl
 t5 := Tryz.underlying5
 a5 := Tryz.isAgg5
 z5 := Tryz.sizeOf5
 v5 := Tryz.zeroValue5
 i5 := by kernel_rfl
 t22 := Tryz.underlying244
 a22 := Tryz.isAgg244
 z22 := Tryz.sizeOf244
 v22 := Tryz.zeroValue244
 i22 := by kernel_rfl
 t25 := Tryz.underlying132
 a25 := Tryz.isAgg132
 z25 := Tryz.sizeOf132
 v25 := Tryz.zeroValue132
 i25 := by kernel_rfl
 t54 := Tryz.underlying257
 a54 := Tryz.isAgg257
 z54 := Tryz.sizeOf257
 g1 := by kernel_rfl }
def Tryz.lays129_ren : Go.Shelf.Ren := ⟨fun | 129 => 289 | n => n, fun | 53 => 244 | 46 => 132 | 3 => 3 | 4 => 4 | 5 => 5 | 9 => 9 | n => n, fun | n => n⟩
theorem Tryz.lays129 : Go.Proofs.Lays.n129 Tryz.prog Tryz.lays129_ren := {
 mixed := by kernel_rfl
 f129 := Tryz.func289.trans (congrArg some (by kernel_rfl))
 t3 := Tryz.underlying3
 a3 := Tryz.isAgg3
 z3 := Tryz.sizeOf3
 v3 := Tryz.zeroValue3
 t4 := Tryz.underlying4
 a4 := Tryz.isAgg4
 z4 := Tryz.sizeOf4
 v4 := Tryz.zeroValue4
 t5 := Tryz.underlying5
 a5 := Tryz.isAgg5
 z5 := Tryz.sizeOf5
 v5 := Tryz.zeroValue5
 t9 := Tryz.underlying9
 a9 := Tryz.isAgg9
 z9 := Tryz.sizeOf9
 v9 := Tryz.zeroValue9
 t46 := Tryz.underlying132
 a46 := Tryz.isAgg132
 z46 := Tryz.sizeOf132
 v46 := Tryz.zeroValue132
 t53 := Tryz.underlying244
 a53 := Tryz.isAgg244
 z53 := Tryz.sizeOf244
 v53 := Tryz.zeroValue244 }
end Go.Proofs
namespace Go.Ab
open Go Go.Proofs
set_option linter.unusedVariables false
set_option linter.unusedSimpArgs false
theorem ctz_tz (x : Nat) (h0 : x ≠ 0) (h : x < 2 ^ 64) : Lib.ctz 64 x = tz x := by
 unfold Lib.ctz
 rw [if_neg h0]
 obtain ⟨m, hm, _⟩ := Lib.ctzFrom_spec 64 x (by omega) h
 exact (tz_uniq hm).symm
theorem bitLen_bl (x : Nat) (h : x < 2 ^ 64) : Lib.bitLen x = bl x := by
 induction x using Nat.strongRecOn with
 | _ x ih =>
  by_cases h0 : x = 0
  ·subst h0; rfl
  ·rw [Lib.bitLen_half x h0 h, ih (x / 2) (by omega) (by omega), bl_dbl h0, Nat.add_comm]
theorem con_tz64 (x : Nat) (h0 : x ≠ 0) (h : x < 2 ^ 64) : Con Tryz.prog 300 true [.v (.int .u64 x)] [] (isA (.v (.int .i64 (tz x)))) :=
 Con.scalar (xs := [.int .u64 x]) fun w hg => by
  rw [← ctz_tz x h0 h]
  exact Any7.bits_TrailingZeros64 Tryz.lays29 x h w fun _ j hj => (hg 1 Lib.deBruijn64tab rfl).2 j hj
theorem con_len64 (x : Nat) (h : x < 2 ^ 64) : Con Tryz.prog 289 true [.v (.int .u64 x)] [] (isA (.v (.int .i64 (bl x)))) :=
 Con.scalar (xs := [.int .u64 x]) fun w hg => by
  rw [← bitLen_bl x h]
  exact Any.bits_Len64 Tryz.lays129 x w (by omega) (by omega)
theorem con_tz (x : Nat) (h0 : x ≠ 0) (h : x < 2 ^ 64) : Con Tryz.prog 269 true [.v (.int .u64 x)] [] (isA (.v (.int .i64 (tz x)))) := by
 refine Con.of_w (rs := [.tmp 2]) Tryz.func269 rfl Tryz.ntmps269 rfl ?_
 simp (disch := omega) only [go_sem]
 refine call_cI (con_tz64 x h0 h) ?_
 simp (disch := omega) only [go_sem]
 exact fin_cI
theorem con_len (x : Nat) (h : x < 2 ^ 64) : Con Tryz.prog 255 true [.v (.int .u64 x)] [] (isA (.v (.int .i64 (bl x)))) := by
 refine Con.of_w (rs := [.tmp 2]) Tryz.func255 rfl Tryz.ntmps255 rfl ?_
 simp (disch := omega) only [go_sem]
 refine call_cI (con_len64 x h) ?_
 simp (disch := omega) only [go_sem]
 exact fin_cI
theorem wrap_u {x : Int} (h1 : 0 ≤ x) (h2 : x < 9223372036854775808) : IntKind.u64.wrap x = x := by
 simp only [IntKind.wrap, IntKind.signed, IntKind.bits]
 simp only [Bool.false_and, Bool.false_eq_true, if_false]
 omega
theorem con_bitsOf (m : Nat) (hl : (lim m).length ≤ 2 ^ 40) : Con Tryz.prog 196 true [.sl (lim (m)).length (ints (lim (m)))] [] (isA (.v (.int .i64 (bl m)))) := by
 refine Con.of_w (rs := [.tmp 2]) Tryz.func196 rfl Tryz.ntmps196 rfl ?_
 simp (disch := omega) only [go_sem]
 refine ifW_dec (fun h1 => ?_) (fun h1 => ?_)
 ·simp (disch := omega) only [go_sem, h1]
  have : m = 0 := lim_eq_nil.1 (List.length_eq_zero_iff.1 (by omega))
  subst this
  rw [bl_zero]
  exact fin_cI
 ·have hm : m ≠ 0 := fun e => by rw [e, lim_zero] at h1; simp at h1
  have e1 : ((lim m).length : Int).toNat - 1 = (lim m).length - 1 := by omega
  have e2 : (((lim m).length : Int) - 1).toNat = (lim m).length - 1 := by omega
  have ht := len_top hm
  have hb := bl_lim hm
  simp (disch := omega) only [go_sem, h1, e2, lim_get]
  generalize m / 65536 ^ ((lim m).length - 1) = q at *
  have e3 : ((q % 65536 : Nat) : Int) = (q : Int) := by omega
  simp (disch := omega) only [go_sem, e3, wrap_u]
  refine ⟨by omega, by omega, ?_⟩
  refine call_cI (con_len q (by omega)) ?_
  simp (disch := omega) only [go_sem]
  have hq : bl q ≤ 16 := bl_le.2 (by omega)
  have e4 : (16 : Int) * (((lim m).length : Int) - 1) + (bl q : Int) = (bl m : Int) := by omega
  simp (disch := omega) only [go_sem, e4]
  exact fin_cI
theorem tz_limb {m i : Nat} (hz : ∀ j, j < i → (lim m).getD j 0 = 0) (hx : (lim m).getD i 0 ≠ 0) : tz m = 16 * i + tz (m / 65536 ^ i % 65536) := by
 rw [lim_get] at hx
 have hx' : m / 65536 ^ i % 65536 ≠ 0 := fun e => hx (by rw [e]; rfl)
 obtain ⟨a, ha⟩ := tz_spec hx'
 have hlow : 65536 ^ i * (m / 65536 ^ i) = m := by
  have key : ∀ k, k ≤ i → m % 65536 ^ k = 0 := by
   intro k
   induction k with
   | zero => intro _; simp [Nat.mod_one]
   | succ k ih =>
    intro hk
    have h1 := ih (by omega)
    have h2 := hz k (by omega)
    rw [lim_get] at h2
    have h3 : m / 65536 ^ k % 65536 = 0 := by omega
    rw [Nat.pow_succ, Nat.mod_mul, h1, h3]; omega
  have := Nat.div_add_mod m (65536 ^ i)
  rw [key i (Nat.le_refl _)] at this
  omega
 generalize hq : m / 65536 ^ i = q at *
 have ht : tz (q % 65536) < 16 := by
  have h1 := tz_lt_bl hx'
  have : bl (q % 65536) ≤ 16 := bl_le.2 (by omega)
  omega
 generalize hk : tz (q % 65536) = k at *
 have e16 : (65536 : Nat) = 2 ^ k * (2 * 2 ^ (15 - k)) := by rw [Nat.mul_left_comm, ← Nat.pow_add, show k + (15 - k) = 15 by omega]
 refine tz_uniq (a := a + 2 ^ (15 - k) * (q / 65536)) ?_
 have hd := Nat.div_add_mod q 65536
 rw [← hlow, Nat.pow_add, ← pow16]
 have h5 : q = 2 ^ k * (2 * (a + 2 ^ (15 - k) * (q / 65536)) + 1) := by
  have : q = 2 ^ k * (2 * 2 ^ (15 - k)) * (q / 65536) + 2 ^ k * (2 * a + 1) := by rw [← e16, ← ha]; omega
  generalize q / 65536 = y at *
  generalize 2 ^ (15 - k) = z at *
  grind
 generalize q / 65536 = y at *
 rw [Nat.mul_assoc, ← h5]
theorem con_trailOf (m : Nat) (hl : (lim m).length ≤ 2 ^ 40) : Con Tryz.prog 221 true [.sl (lim (m)).length (ints (lim (m)))] [] (isA (.v (.int .i64 (tz m)))) := by
 refine Con.of_w (rs := [.tmp 2]) Tryz.func221 rfl Tryz.ntmps221 rfl ?_
 simp (disch := omega) only [go_sem]
 refine loop_intro (fun i : Nat => [(0, .sl (lim (m)).length (ints (lim (m)))), (5, .sl (lim (m)).length (ints (lim (m)))), (6, .v (.int .i64 (lim m).length)), (7, .v (.int .i64 i))])
  (fun _ => []) (fun i => i ≤ (lim m).length ∧ ∀ j, j < i → (lim m).getD j 0 = 0) (fun i => (lim m).length - i) 0 ⟨by omega, fun j hj => by omega⟩ (Le.lst [] _ _ rfl (by simp (disch := omega) only [go_sem]; try omega) (by simp (disch := omega) only [go_sem])) ?_
 rintro i ⟨hi, hz⟩
 simp (disch := omega) only [go_sem]
 refine ifW_dec (fun h1 => ?_) (fun h1 => ?_)
 ·simp (disch := omega) only [go_sem, h1]
  refine ⟨by omega, by omega, ifW_not (fun h2 => ?_) (fun h2 => ?_)⟩
  ·have ht := tz_limb hz h2
   have hx : m / 65536 ^ i % 65536 ≠ 0 := fun e => h2 (by rw [lim_get, e]; rfl)
   have ht16 : tz (m / 65536 ^ i % 65536) < 16 := by
    have h1 := tz_lt_bl hx
    have : bl (m / 65536 ^ i % 65536) ≤ 16 := bl_le.2 (by omega)
    omega
   simp (disch := omega) only [go_sem, h2, lim_get]
   generalize hq : m / 65536 ^ i % 65536 = q at *
   have hq6 : q < 65536 := by omega
   simp (disch := omega) only [go_sem, wrap_u]
   refine call_cI (con_tz q hx (by omega)) ?_
   simp (disch := omega) only [go_sem]
   have e4 : (16 : Int) * (i : Int) + (tz q : Int) = (tz m : Int) := by omega
   simp (disch := omega) only [go_sem, e4]
   exact fin_cI
  ·simp (disch := omega) only [go_sem, h2]
   refine next_intro (i + 1) [] ⟨by omega, fun j hj => ?_⟩ (by show (lim m).length - (i + 1) < (lim m).length - i; omega) rfl (by simp (disch := omega) only [go_sem]; try omega) (by simp (disch := omega) only [go_sem])
   rcases (by omega : j < i ∨ j = i) with h | h
   ·exact hz j h
   ·subst h; exact h2
 ·simp (disch := omega) only [go_sem, h1]
  have hm : m = 0 := by
   have := vl_lim m
   have h3 : lim m = List.replicate (lim m).length 0 := by
    apply List.ext_getElem
    ·simp
    ·intro j h1 h2
     have := hz j (by omega)
     rw [List.getD_eq_getElem?_getD, List.getElem?_eq_getElem h1] at this
     simpa using this
   rw [h3, vl_replicate] at this
   omega
  subst hm
  rw [tz_zero]
  exact fin_cI
theorem con_bitOf (m : Nat) (i : Int) (hl : (lim m).length ≤ 2 ^ 40) (hi : 0 ≤ i) (hi2 : i < 2 ^ 62) : Con Tryz.prog 142 true [.sl (lim (m)).length (ints (lim (m))), .v (.int .i64 i)] [] (isA (.v (.int .i64 ((m / 2 ^ i.toNat % 2 : Nat) : Int)))) := by
 refine Con.of_w (rs := [.tmp 4]) Tryz.func142 rfl Tryz.ntmps142 rfl ?_
 obtain ⟨k, rfl⟩ := Int.eq_ofNat_of_zero_le hi
 rw [Int.toNat_natCast]
 have h0 : ¬ ((k : Int) < 0) := by omega
 have e16 : ((k : Int) / 16).toNat = k / 16 := by omega
 have em : min ((k : Int) % 16).toNat 64 = k % 16 := by omega
 have hb := bit_div m k
 simp (disch := omega) only [go_sem, h0]
 refine ifW_dec (fun h1 => ?_) (fun h1 => ?_)
 ·simp (disch := omega) only [go_sem, h1]
  have : m / 2 ^ k % 2 = 0 := by
   rw [← hb]
   have h2 := lim_get m (k / 16)
   rw [List.getD_eq_getElem?_getD, List.getElem?_eq_none (by omega)] at h2
   have h3 : m / 65536 ^ (k / 16) % 65536 = 0 := by simp only [Option.getD_none] at h2; omega
   rw [h3]; simp
  rw [this]
  exact fin_cI
 ·have hx := gd_getD (gd_lim m) (k / 16)
  have hp : (0 : Int) < 2 ^ (k % 16) := Int.pow_pos (by omega)
  have efd : ∀ x : Int, x.fdiv (2 ^ (k % 16)) = x / 2 ^ (k % 16) := fun x => Int.fdiv_eq_ediv_of_nonneg _ (Int.le_of_lt hp)
  have hq : 0 ≤ (lim m).getD (k / 16) 0 / 2 ^ (k % 16) ∧ (lim m).getD (k / 16) 0 / 2 ^ (k % 16) < 65536 := by
   refine ⟨Int.ediv_nonneg hx.1 (Int.le_of_lt hp), Int.lt_of_le_of_lt (Int.ediv_le_self _ hx.1) hx.2⟩
  have hr : (lim m).getD (k / 16) 0 / 2 ^ (k % 16) % 2 = ((m / 2 ^ k % 2 : Nat) : Int) := by
   rw [← hb, lim_get]
   generalize m / 65536 ^ (k / 16) % 65536 = x
   rw [Int.natCast_emod, Int.natCast_ediv, Int.natCast_pow]; rfl
  simp (disch := omega) only [go_sem, h1, e16, em, efd, hr]
  refine ⟨by omega, by omega, by omega, ?_⟩
  exact fin_cI
end Go.Ab
namespace Go.Ab
open Go Go.Proofs
set_option linter.unusedVariables false
theorem toN_mul_pow (a k : Nat) : (vl (lim a) * 2 ^ k).toNat = a * 2 ^ k := by
 rw [vl_lim]
 have : ((a : Int) * 2 ^ k) = ((a * 2 ^ k : Nat) : Int) := by rw [Int.natCast_mul, Int.natCast_pow]; rfl
 rw [this, Int.toNat_natCast]
theorem toN_div_pow (a k : Nat) : (vl (lim a) / 2 ^ k).toNat = a / 2 ^ k := by
 rw [vl_lim]
 have : ((a : Int) / 2 ^ k) = ((a / 2 ^ k : Nat) : Int) := by rw [Int.natCast_ediv, Int.natCast_pow]; rfl
 rw [this, Int.toNat_natCast]
theorem toN_mul (a b : Nat) : (vl (lim a) * vl (lim b)).toNat = a * b := by rw [vl_lim, vl_lim, ← Int.natCast_mul, Int.toNat_natCast]
theorem toN_add (a b : Nat) : (vl (lim a) + vl (lim b)).toNat = a + b := by rw [vl_lim, vl_lim]; omega
theorem toN_sub (a b : Nat) : (vl (lim a) - vl (lim b)).toNat = a - b := by rw [vl_lim, vl_lim]; omega
theorem con_smallN (n : Nat) (hn : n < 2 ^ 63) : Con Tryz.prog 189 false [.v (.int .i64 n)] [] (numF (lim n)) := (con_small false n hn).num
theorem con_upR (cl : Bool) (a k : Nat) (la : (lim a).length ≤ 1000000) (hk : k ≤ 100000000) : Con Tryz.prog 195 cl [.sl (lim (a)).length (ints (lim (a))), .v (.int .i64 k)] [] (numR (lim (a * 2 ^ k))) := by
 have := con_up cl (lim a) k (gd_lim a) la hk
 rwa [toN_mul_pow] at this
theorem con_upN (a k : Nat) (la : (lim a).length ≤ 1000000) (hk : k ≤ 100000000) : Con Tryz.prog 195 false [.sl (lim (a)).length (ints (lim (a))), .v (.int .i64 k)] [] (numF (lim (a * 2 ^ k))) := (con_upR false a k la hk).num
theorem con_downR (cl : Bool) (a k : Nat) (la : (lim a).length ≤ 1000000) (hk : k ≤ 100000000) : Con Tryz.prog 216 cl [.sl (lim (a)).length (ints (lim (a))), .v (.int .i64 k)] [] (numR (lim (a / 2 ^ k))) := by
 have := con_down cl (lim a) k (gd_lim a) la hk
 rwa [toN_div_pow] at this
theorem con_downN (a k : Nat) (la : (lim a).length ≤ 1000000) (hk : k ≤ 100000000) : Con Tryz.prog 216 false [.sl (lim (a)).length (ints (lim (a))), .v (.int .i64 k)] [] (numF (lim (a / 2 ^ k))) := (con_downR false a k la hk).num
theorem con_timesN (a b : Nat) (la : (lim a).length ≤ 1000000) (lb : (lim b).length ≤ 1000000) : Con Tryz.prog 218 false [.sl (lim (a)).length (ints (lim (a))), .sl (lim (b)).length (ints (lim (b)))] [] (numF (lim (a * b))) := by
 have := (con_times false (lim a) (lim b) (gd_lim a) (gd_lim b) la lb).num
 rwa [toN_mul] at this
theorem con_plusN (a b : Nat) (la : (lim a).length ≤ 2000000) (lb : (lim b).length ≤ 2000000) : Con Tryz.prog 219 false [.sl (lim (a)).length (ints (lim (a))), .sl (lim (b)).length (ints (lim (b)))] [] (numF (lim (a + b))) := by
 have := (con_plus false (lim a) (lim b) (gd_lim a) (gd_lim b) la lb).num
 rwa [toN_add] at this
theorem con_divsF (a d : Nat) (la : (lim a).length ≤ 1000000) (hd : 0 < d) (hd2 : d < 65536) :
  Con Tryz.prog 295 false [.sl (lim (a)).length (ints (lim (a))), .v (.int .i64 d)] [] (isA (.tu [.sl (lim (a / d)).length (ints (lim (a / d))), .v (.int .i64 ((a % d : Nat) : Int))])) :=
 Con.frzA <| (con_divs false (lim a) d (gd_lim a) la hd hd2).mono fun r hs bs ⟨zs, h1, h2⟩ => by
  rw [vl_lim] at h1 h2
  rw [h1, h2]
  have e : ((a : Int) / (d : Int)).toNat = a / d := by
   rw [← Int.natCast_ediv, Int.toNat_natCast]
  rw [e]
  show snap _ 6 _ = _
  unfold snap
  simp only [List.map_cons, List.map_nil]
  rw [snap_num (k := 3) (l := lim (a / d)) (zs := zs) rhp_zero rfl]
  rw [Int.natCast_emod]; rfl
end Go.Ab
namespace Go.Ab
open Go Go.Proofs
set_option linter.unusedVariables false
set_option linter.unusedSimpArgs false
set_option maxRecDepth 100000 in
theorem con_divide (a b : Nat) (hb : b ≠ 0) (la : (lim a).length ≤ 900000) (lb : (lim b).length ≤ 900000) :
  Con Tryz.prog 268 false [.sl (lim (a)).length (ints (lim (a))), .sl (lim (b)).length (ints (lim (b)))] [] (frzR (.tu [.sl (lim (a / b)).length (ints (lim (a / b))), .sl (lim (a % b)).length (ints (lim (a % b)))])) := by
 refine Con.of_aw Tryz.func268 rfl Tryz.ntmps268 (by simp) (by simp) (by simp) (W.sound ?_)
 show @W Tryz.prog 96 ⟨_⟩ ⟨fun x σ => @retW _ _ _ ⟨_⟩ _ ⟨_⟩ x σ⟩ _ _
 simp (disch := omega) only [go_sem]
 refine call_closed (con_compare a b (by omega) (by omega)) (by simp (disch := omega) only [go_sem]) ?_
 rintro r hs ⟨rfl, rfl, _⟩
 refine ⟨by simp [freeN], ?_⟩
 simp (disch := omega) only [go_sem]
 refine ifW_dec (fun h1 => ?_) (fun h1 => ?_)
 ·simp (disch := omega) only [go_sem, h1]
  have hab : a < b := by
   unfold cmpI at h1; split at h1
   ·omega
   ·split at h1 <;> omega
  refine call_oI (con_clone false (lim a) (by omega)).num ?_
  simp (disch := omega) only [go_sem]
  refine fin_val (by simp (disch := omega) only [go_sem]) ?_
  show snap _ 6 _ = _
  rw [Nat.div_eq_of_lt hab, Nat.mod_eq_of_lt hab]
  simp only [snap, lim_zero]; rfl
 ·have hab : b ≤ a := by
   unfold cmpI at h1; split at h1
   ·omega
   ·omega
  have ha : a ≠ 0 := by omega
  have hlb := lim_ne hb
  simp (disch := omega) only [go_sem, h1]
  refine ifW_dec (fun h2 => ?_) (fun h2 => ?_)
  ·simp (disch := omega) only [go_sem, h2]
   have hb6 : b < 65536 := by have := lim_lt b; rw [show (lim b).length = 1 by omega] at this; omega
   have e0 : (lim b).getD 0 0 = (b : Int) := by rw [lim_get]; simp; omega
   simp (disch := omega) only [go_sem, e0]
   refine ⟨by omega, by omega, ?_⟩
   refine call_oI (con_divsF a b (by omega) (by omega) hb6) ?_
   simp (disch := omega) only [go_sem]
   have : a % b < b := Nat.mod_lt _ (by omega)
   refine call_oI (con_smallN (a % b) (by omega)) ?_
   simp (disch := omega) only [go_sem]
   exact fin_val (by simp (disch := omega) only [go_sem]) (by rfl)
  ·have hl2 : 2 ≤ (lim b).length := by omega
   have hll : (lim b).length ≤ (lim a).length := lim_mono hab
   have ht := len_top hb
   have eb : (((lim b).length : Int) - 1).toNat = (lim b).length - 1 := by omega
   have hnd := norm_div hb _ rfl
   simp (disch := omega) only [go_sem, h2, eb, lim_get]
   have e3 : ((b / 65536 ^ ((lim b).length - 1) % 65536 : Nat) : Int) = ((b / 65536 ^ ((lim b).length - 1) : Nat) : Int) := by rw [Nat.mod_eq_of_lt ht.2]
   generalize hq : b / 65536 ^ ((lim b).length - 1) = q at *
   have hq16 : bl q ≤ 16 := bl_le.2 (by omega)
   simp (disch := omega) only [go_sem, e3, wrap_u]
   refine ⟨by omega, by omega, ?_⟩
   refine call_cI (con_len q (by omega)) ?_
   simp (disch := omega) only [go_sem]
   have e4 : (16 : Int) - (bl q : Int) = ((16 - bl q : Nat) : Int) := by omega
   simp (disch := omega) only [go_sem, e4]
   generalize hs : 16 - bl q = s at *
   obtain ⟨hs16, hvl, hv1, hvge⟩ := hnd
   refine call_open (con_upN b s (by omega) (by omega)) (by simp (disch := omega) only [go_sem, e4]) ?_
   rintro r hs0 ⟨rfl, rfl, _⟩
   refine ⟨by simp [freeN], ?_⟩
   simp (disch := omega) only [go_sem]
   refine call_open (con_upR false a s (by omega) (by omega)) (by simp (disch := omega) only [go_sem, e4]) ?_
   have hun : a * 2 ^ s ≠ 0 := by have : 0 < 2 ^ s := Nat.pow_pos (by omega); have := Nat.mul_pos (show 0 < a by omega) this; omega
   rintro r hs1 (⟨h, _, _⟩ | ⟨zs, rfl, rfl⟩)
   ·exact absurd (lim_eq_nil.1 h) hun
   refine ⟨⟨by simp, by simp (disch := omega) only [go_sem]⟩, ?_⟩
   have hul := lim_up_len a hs16
   have hug := lim_up_ge a s
   have ex : ((lim a).length : Int) + 1 - ((lim (a * 2 ^ s)).length : Int) = (((lim a).length + 1 - (lim (a * 2 ^ s)).length : Nat) : Int) := by omega
   have ecut : (lim (a * 2 ^ s) ++ zs).take (lim (a * 2 ^ s)).length = lim (a * 2 ^ s) := List.take_left' rfl
   have em : (((lim a).length : Int) - ((lim b).length : Int) + 1).toNat = (lim a).length - (lim b).length + 1 := by omega
   simp (disch := omega) only [go_sem, ex, ecut, em]
   generalize hU0 : lim (a * 2 ^ s) ++ List.replicate ((lim a).length + 1 - (lim (a * 2 ^ s)).length) 0 = U0
   have lU0 : U0.length = (lim a).length + 1 := by rw [← hU0]; simp; omega
   have gU0 : gd U0 := by rw [← hU0]; exact gd_append.2 ⟨gd_lim _, gd_replicate _⟩
   have vU0 : vl U0 = ((a * 2 ^ s : Nat) : Int) := by rw [← hU0, vl_zeros, vl_lim]
   have hfw := first_win gU0 hll hlb hs16 lU0 vU0 hvge
   have elen : (lim (a * 2 ^ s)).length + ((lim a).length + 1 - (lim (a * 2 ^ s)).length) = U0.length := by omega
   refine ⟨by omega, ⟨by simp, by omega⟩, by omega, ?_⟩
   generalize hV : lim (b * 2 ^ s) = V at *
   have gV : gd V := by rw [← hV]; exact gd_lim _
   have vV : vl V = ((b * 2 ^ s : Nat) : Int) := by rw [← hV, vl_lim]
   generalize hm : (lim a).length - (lim b).length + 1 = m at *
   refine loop_intro (fun x : Nat × List Int × List Int => [(8, .v (.int .i64 s)), (9, .sl V.length (ints V)), (10, .rf 0 0 x.2.1.length), (11, .rf 1 0 x.2.2.length), (12, .v (.int .i64 ((x.1 : Int) - 1)))])
    (fun x => [(0, .own 1 (ints x.2.1)), (1, .own 1 (ints x.2.2))])
    (fun x => x.1 ≤ m ∧ x.2.1.length = U0.length ∧ gd x.2.1 ∧ x.2.2.length = m ∧ gd x.2.2 ∧ vl (x.2.1.drop x.1) < vl V ∧ vl x.2.1 + vl V * (65536 ^ x.1 * vl (x.2.2.drop x.1)) = ((a * 2 ^ s : Nat) : Int))
    (fun x => x.1) (m, U0, List.replicate m 0) ⟨Nat.le_refl _, rfl, gU0, by simp, gd_replicate _, by show vl (U0.drop m) < vl V; rw [vV]; exact hfw, by show vl U0 + vl V * (65536 ^ m * vl ((List.replicate m 0).drop m)) = _; rw [List.drop_of_length_le (by simp)]; simp [vl]; exact vU0⟩
    (Le.lst [(0, 580000000), (1, 650000000)] _ _ rfl (by simp (disch := omega) only [go_sem, elen, e4, List.length_replicate]; try omega) (by simp (disch := omega) only [go_sem, hU0, em])) ?_
   rintro ⟨k, U, O⟩ ⟨hk, lU, gU, lO, gO, hlt, hval⟩
   dsimp only at hk lU gU lO gO hlt hval ⊢
   simp (disch := omega) only [go_sem]
   refine ifW_dec (fun g1 => ?_) (fun g1 => ?_)
   ·obtain ⟨j, rfl⟩ : ∃ j, k = j + 1 := ⟨k - 1, by omega⟩
    have ej : ((j + 1 : Nat) : Int) - 1 = (j : Nat) := by omega
    have hWj : vl (U.drop j) < 65536 * vl V := by
     rw [vl_drop (by omega)]
     have := gd_getD gU j
     omega
    simp (disch := omega) only [go_sem, g1, ej]
    refine call_closed (con_digitOf U V j gU gV (by omega) (by omega) (by omega) (by rw [hvl]; exact hv1) hWj) (by simp (disch := omega) only [go_sem]) ?_
    rintro r hs ⟨qd, rfl, rfl, _, hq, hq1, hq2⟩
    refine ⟨by simp [freeN], ?_⟩
    simp (disch := omega) only [go_sem]
    refine call_lend false [0] (con_takeAway U V j qd gU gV (by omega) (by omega) hq) (by simp (disch := omega) only [go_sem]) (by simp (disch := omega) only [go_sem]) rfl (lend_cons (z := 1) (cs := ints U) (by simp (disch := omega) only [go_sem]) (by simp (disch := omega) only [go_sem])) (by intro n hn; exact ⟨_, List.mem_cons_self .., by rw [List.mem_singleton.1 hn]; rfl⟩) ?_
    rintro r hs bs ⟨U', bo, rfl, rfl, rfl, hl', gU', hbo, hsm, hv'⟩ _
    refine ⟨by simp [freeN], ?_⟩
    generalize hT : U'.set (j + V.length) (U.getD (j + V.length) 0 - bo) = T at *
    obtain ⟨lT, vT, wT, tT, aT, pT, nT⟩ := take_step gU gV (by omega) hWj hq1 hq2 hl' gU' hsm hv' T hT.symm
    have hfin : ∀ (U2 : List Int) (qf : Int), vl U2 = vl U - 65536 ^ j * (qf * vl V) → vl U2 + vl V * (65536 ^ j * vl ((O.set j qf).drop j)) = ((a * 2 ^ s : Nat) : Int) := by
     intro U2 qf h2
     rw [set_drop_val (by omega), h2, ← hval, Int.pow_succ]
     generalize (65536 : Int) ^ j = Pj at *
     grind
    simp (disch := omega) only [go_sem]
    refine ifW_dec (fun g2 => ?_) (fun g2 => ?_)
    ·obtain ⟨⟨n1, n2⟩, n3⟩ := nT g2
     simp (disch := omega) only [go_sem, g2]
     refine call_lend false [0] (con_addBack T V j n3 (by rw [tT]; omega) gV (by omega) (by omega)) (by simp (disch := omega) only [go_sem, lT]) (by simp (disch := omega) only [go_sem]) rfl (lend_cons (z := 1) (cs := ints T) (by simp (disch := omega) only [go_sem]) (by simp (disch := omega) only [go_sem])) (by intro n hn; exact ⟨_, List.mem_cons_self .., by rw [List.mem_singleton.1 hn]; rfl⟩) ?_
     rintro r hs bs ⟨T', rfl, rfl, rfl, lT', gT', sT', vT'⟩ _
     refine ⟨by simp [freeN], ?_⟩
     rw [Int.add_mul] at hq1
     obtain ⟨gT2, wT2⟩ := back_step gV (by omega) lT' gT' sT' aT vT' (by omega) (by omega)
     simp (disch := omega) only [go_sem, lO]
     have hqp : 0 < qd := by
      have h3 := vl_nonneg (gd_drop gU j)
      rcases (by omega : 0 < qd ∨ qd = 0) with h | h
      ·exact h
      ·subst h; simp at n2; omega
     refine ⟨by omega, by omega, next_intro (j, T', O.set j (qd - 1)) [] ⟨by show j ≤ m; omega, by show T'.length = _; omega, gT2, by simp [lO], gd_set gO (by omega), by show vl (T'.drop j) < vl V; omega, hfin T' (qd - 1) ?_⟩ (by show j < j + 1; omega) rfl (by simp (disch := omega) only [go_sem, List.length_set]; try omega) (by simp (disch := omega) only [go_sem])⟩
     rw [vT', vT, Int.sub_mul, Int.one_mul, Int.mul_sub]; omega
    ·obtain ⟨p1, p2⟩ := pT g2
     rw [Int.add_mul] at hq1
     simp (disch := omega) only [go_sem, g2, lO]
     refine ⟨by omega, by omega, next_intro (j, T, O.set j qd) [] ⟨by show j ≤ m; omega, by show T.length = _; omega, p1, by simp [lO], gd_set gO hq, by show vl (T.drop j) < vl V; omega, hfin T qd vT⟩ (by show j < j + 1; omega) rfl (by simp (disch := omega) only [go_sem, List.length_set]; try omega) (by simp (disch := omega) only [go_sem])⟩
   ·have : k = 0 := by omega
    subst this
    rw [List.drop_zero] at hlt
    rw [List.drop_zero, Int.pow_zero, Int.one_mul] at hval
    have hvO := vl_nonneg gO
    have hvU := vl_nonneg gU
    have hcO := cutZ_lim gO
    have hcU := cutZ_lim gU
    have hpS : 0 < 2 ^ s := Nat.pow_pos (by omega)
    obtain ⟨d1, d2⟩ : (vl O).toNat = a / b ∧ (vl U).toNat = a % b * 2 ^ s := by
     refine div_norm hpS (by omega) ?_ (by omega)
     rw [vV] at hval
     have : ((vl U).toNat : Int) + ((b * 2 ^ s : Nat) : Int) * ((vl O).toNat : Int) = ((a * 2 ^ s : Nat) : Int) := by
      rw [Int.toNat_of_nonneg hvO, Int.toNat_of_nonneg hvU]; exact hval
     rw [← Int.natCast_mul, ← Int.natCast_add] at this
     exact Int.ofNat.inj this
    rw [d1] at hcO
    rw [d2] at hcU
    obtain ⟨zo, hzo⟩ := cutZ_pre O
    obtain ⟨zu, hzu⟩ := cutZ_pre U
    have htU := cutZ_take U
    rw [hcO] at hzo
    rw [hcU] at hzu htU
    simp (disch := omega) only [go_sem, g1]
    refine call_lend false [1] (con_trim O (by omega)) (by simp (disch := omega) only [go_sem]) (by simp (disch := omega) only [go_sem]) rfl (lend_cons (z := 1) (cs := ints O) (by simp (disch := omega) only [go_sem]) (by simp (disch := omega) only [go_sem])) (by intro n hn; exact ⟨_, List.mem_singleton.2 rfl, by rw [List.mem_singleton.1 hn]; rfl⟩) ?_
    rintro r hs bs ⟨rfl, rfl, rfl⟩ _
    refine ⟨by simp [freeN], ?_⟩
    simp (disch := omega) only [go_sem]
    refine call_lend false [0] (con_trim U (by omega)) (by simp (disch := omega) only [go_sem]) (by simp (disch := omega) only [go_sem]) rfl (lend_cons (z := 1) (cs := ints U) (by simp (disch := omega) only [go_sem]) (by simp (disch := omega) only [go_sem])) (by intro n hn; exact ⟨_, List.mem_singleton.2 rfl, by rw [List.mem_singleton.1 hn]; rfl⟩) ?_
    rintro r hs bs ⟨rfl, rfl, rfl⟩ _
    refine ⟨by simp [freeN], ?_⟩
    simp (disch := omega) only [go_sem, hcO, hcU]
    have hlr : (lim (a % b * 2 ^ s)).length ≤ 1000000 := by
     have := congrArg List.length hzu
     simp at this; omega
    refine call_closed (con_downR true (a % b * 2 ^ s) s hlr (by omega)) (by simp (disch := omega) only [go_sem, htU]) ?_
    rw [Nat.mul_div_cancel _ hpS]
    rintro r hs2 (⟨h, rfl, rfl⟩ | ⟨z2, rfl, rfl⟩)
    ·refine ⟨⟨by simp, by simp (disch := omega) only [go_sem]⟩, ?_⟩
     simp (disch := omega) only [go_sem]
     refine fin_intro [(0, 1)] [.own 1 (ints O)] [] [.rf 0 0 (lim (a / b)).length, .v (.slice none 0 0)] rfl (by simp (disch := omega) only [go_sem]) (by simp (disch := omega) only [go_sem]) (by simp) (by simp) ?_
     show snap _ 6 _ = _
     unfold snap
     simp only [tupA, List.map_cons, List.map_nil]
     rw [hzo, snap_num (k := 3) (l := lim (a / b)) (zs := List.replicate zo 0) rhp_zero rfl, h]
     rfl
    ·refine ⟨⟨by simp, by simp (disch := omega) only [go_sem]⟩, ?_⟩
     simp (disch := omega) only [go_sem]
     refine fin_intro [(0, 1), (1, 970000000)] [.own 1 (ints O), .own 1 (ints (lim (a % b) ++ z2))] [] [.rf 0 0 (lim (a / b)).length, .rf 1 0 (lim (a % b)).length] rfl (by simp (disch := omega) only [go_sem]) (by simp (disch := omega) only [go_sem]) (by simp) (by simp) ?_
     show snap _ 6 _ = _
     unfold snap
     simp only [tupA, List.map_cons, List.map_nil]
     rw [hzo, snap_num (k := 3) (l := lim (a / b)) (zs := List.replicate zo 0) rhp_zero rfl, snap_num (k := 3) (l := lim (a % b)) (zs := z2) rhp_one rfl]
end Go.Ab
namespace Go.Ab
open Go Go.Proofs
set_option linter.unusedVariables false
set_option linter.unusedSimpArgs false
theorem con_within (n lo hi : Int) : Con Tryz.prog 100 true [.v (.int .i64 n), .v (.int .i64 lo), .v (.int .i64 hi)] [] (fun r hs bs => r = .v (.bool (decide (lo ≤ n) && decide (n ≤ hi))) ∧ hs = []) := by
 refine Con.of_aw Tryz.func100 rfl Tryz.ntmps100 (by simp) (by simp) (by simp) (W.sound ?_)
 show @W Tryz.prog 15 ⟨_⟩ ⟨fun x σ => @retW _ _ _ ⟨_⟩ _ ⟨_⟩ x σ⟩ _ _
 simp (disch := omega) only [go_sem]
 refine ifW_dec (fun h1 => ?_) (fun h1 => ?_)
 ·simp (disch := omega) only [go_sem, h1]
  refine fin_intro [] [] [] [.v (.bool (decide (n ≤ hi)))] rfl (by simp (disch := omega) only [go_sem]) (by simp (disch := omega) only [go_sem]) (by simp) (by simp [AV.pu, tupA]) ⟨by simp [tupA, h1], rfl⟩
 ·simp (disch := omega) only [go_sem, h1]
  refine fin_intro [] [] [] [.v (.bool false)] rfl (by simp (disch := omega) only [go_sem]) (by simp (disch := omega) only [go_sem]) (by simp) (by simp [AV.pu, tupA]) ⟨by simp [tupA, h1], rfl⟩
end Go.Ab
namespace Go.Ab
open Go Go.Proofs
set_option linter.unusedVariables false
set_option linter.unusedSimpArgs false
theorem con_divideN (a b : Nat) (hb : b ≠ 0) (la : (lim a).length ≤ 900000) (lb : (lim b).length ≤ 900000) :
  Con Tryz.prog 268 false [.sl (lim (a)).length (ints (lim (a))), .sl (lim (b)).length (ints (lim (b)))] [] (isA (.tu [.sl (lim (a / b)).length (ints (lim (a / b))), .sl (lim (a % b)).length (ints (lim (a % b)))])) := (con_divide a b hb la lb).frzA
theorem con_roundUp (neg odd : Bool) (half mode : Int) : Con Tryz.prog 220 true [.v (.bool neg), .v (.bool odd), .v (.int .i64 half), .v (.int .i64 mode)] [] (isA (.v (.bool (rup neg odd half mode)))) := by
 refine Con.of_aw Tryz.func220 rfl Tryz.ntmps220 (by simp) (by simp) (by simp) (W.sound ?_)
 show @W Tryz.prog 32 ⟨_⟩ ⟨fun x σ => @retW _ _ _ ⟨_⟩ _ ⟨_⟩ x σ⟩ _ _
 simp (disch := omega) only [go_sem]
 refine ifW_dec (fun h1 => ?_) (fun h1 => ?_)
 ·simp (disch := omega) only [go_sem, h1]
  exact fin_valc (by simp (disch := omega) only [go_sem]) (by simp (disch := omega) only [go_sem]) ⟨by simp [tupA, rup, h1], rfl, rfl⟩
 ·simp (disch := omega) only [go_sem, h1]
  refine ifW_dec (fun h2 => ?_) (fun h2 => ?_)
  ·simp (disch := omega) only [go_sem, h2]
   exact fin_valc (by simp (disch := omega) only [go_sem]) (by simp (disch := omega) only [go_sem]) ⟨by simp [tupA, rup, h2], rfl, rfl⟩
  ·simp (disch := omega) only [go_sem, h2]
   refine ifW_dec (fun h3 => ?_) (fun h3 => ?_)
   ·simp (disch := omega) only [go_sem, h3]
    refine ifW_not (fun h4 => ?_) (fun h4 => ?_)
    ·simp (disch := omega) only [go_sem, h4]
     refine ifW_dec (fun h5 => ?_) (fun h5 => ?_)
     ·simp (disch := omega) only [go_sem, h5]
      exact fin_valc (by simp (disch := omega) only [go_sem]) (by simp (disch := omega) only [go_sem]) ⟨by simp [tupA, rup, h3, h5], rfl, rfl⟩
     ·simp (disch := omega) only [go_sem, h5]
      exact fin_valc (by simp (disch := omega) only [go_sem]) (by simp (disch := omega) only [go_sem]) ⟨by simp [tupA, rup, h3, h4, h5], rfl, rfl⟩
    ·simp (disch := omega) only [go_sem, h4]
     exact fin_valc (by simp (disch := omega) only [go_sem]) (by simp (disch := omega) only [go_sem]) ⟨by simp [tupA, rup, h3, h4], rfl, rfl⟩
   ·simp (disch := omega) only [go_sem, h3]
    refine ifW_dec (fun h4 => ?_) (fun h4 => ?_)
    ·simp (disch := omega) only [go_sem, h4]
     exact fin_valc (by simp (disch := omega) only [go_sem]) (by simp (disch := omega) only [go_sem]) ⟨by simp [tupA, rup, h4], rfl, rfl⟩
    ·simp (disch := omega) only [go_sem, h4]
     exact fin_valc (by simp (disch := omega) only [go_sem]) (by simp (disch := omega) only [go_sem]) ⟨by simp [tupA, rup, h1, h2, h3, h4], rfl, rfl⟩
theorem con_isMode (mode : Int) : Con Tryz.prog 65 true [.v (.int .i64 mode)] [] (isA (.v (.bool (decide (0 ≤ mode) && decide (mode ≤ 4))))) := by
 refine Con.of_w (rs := [.tmp 2]) Tryz.func65 rfl Tryz.ntmps65 rfl ?_
 simp (disch := omega) only [go_sem]
 refine call_closed (con_within mode 0 4) (by simp (disch := omega) only [go_sem]) ?_
 rintro r hs ⟨rfl, rfl⟩
 refine ⟨by simp [freeN], ?_⟩
 simp (disch := omega) only [go_sem]
 exact fin_cI
theorem con_roundQuotient (neg : Bool) (a b : Nat) (mode : Int) (hb : b ≠ 0) (la : bl a ≤ 8000000) (lb : bl b ≤ 8000000) :
  Con Tryz.prog 252 false [.v (.bool neg), .sl (lim (a)).length (ints (lim (a))), .sl (lim (b)).length (ints (lim (b))), .v (.int .i64 mode)] [] (isA (.tu [.sl (lim (rq neg a b mode)).length (ints (lim (rq neg a b mode))), .v (.bool (decide (a % b = 0)))])) := by
 refine Con.of_aw Tryz.func252 rfl Tryz.ntmps252 (by simp) (by simp) (by simp) (W.sound ?_)
 show @W Tryz.prog 36 ⟨_⟩ ⟨fun x σ => @retW _ _ _ ⟨_⟩ _ ⟨_⟩ x σ⟩ _ _
 simp (disch := omega) only [go_sem]
 have lla := len_bl la
 have llb := len_bl lb
 refine call_oI (con_divideN a b hb (by omega) (by omega)) ?_
 simp (disch := omega) only [go_sem]
 have hmb : a % b < b := Nat.mod_lt _ (by omega)
 have llr := len_bl (Nat.le_trans (bl_mono (Nat.le_of_lt hmb)) lb)
 have llq := len_bl (Nat.le_trans (bl_divle a b) la)
 refine ifW_dec (fun h1 => ?_) (fun h1 => ?_)
 ·simp (disch := omega) only [go_sem, h1]
  have h0 : a % b = 0 := lim_eq_nil.1 (List.length_eq_zero_iff.1 (by omega))
  refine fin_val (by simp (disch := omega) only [go_sem]) ⟨?_, rfl, rfl⟩
  simp [tupA, rq, h0]
 ·simp (disch := omega) only [go_sem, h1]
  have h0 : a % b ≠ 0 := fun e => h1 (by rw [e, lim_zero]; rfl)
  refine call_cI (con_bitOf (a / b) 0 (by omega) (by omega) (by omega)) ?_
  simp (disch := omega) only [go_sem]
  refine call_oI (con_upN (a % b) 1 (by omega) (by omega)) ?_
  simp (disch := omega) only [go_sem]
  have llu := len_bl (Nat.le_trans (bl_up (a % b) 1) (Nat.add_le_add_right (Nat.le_trans (bl_mono (Nat.le_of_lt hmb)) lb) 1))
  refine call_cI (con_compare (a % b * 2 ^ 1) b (by omega) (by omega)) ?_
  simp (disch := omega) only [go_sem]
  have e1 : (decide (((a / b / 1 % 2 : Nat) : Int) = 1)) = decide (a / b % 2 = 1) := by
   simp; omega
  refine call_cI (con_roundUp neg (decide (a / b % 2 = 1)) (cmpI ((a % b * 2 ^ 1 : Nat) : Int) (b : Int)) mode) ?_ (by simp (disch := omega) only [go_sem, e1, Int.toNat_zero, Nat.pow_zero])
  simp (disch := omega) only [go_sem]
  refine ifW_b (fun h2 => ?_) (fun h2 => ?_)
  ·simp (disch := omega) only [go_sem, h2]
   refine call_oI (con_smallN 1 (by omega)) ?_
   simp (disch := omega) only [go_sem]
   have l1 : (lim 1).length ≤ 2000000 := by have := len_bl (m := 1) (B := 1) (by decide); omega
   refine call_oI (con_plusN (a / b) 1 (by omega) l1) ?_
   simp (disch := omega) only [go_sem]
   refine fin_val (by simp (disch := omega) only [go_sem]) ⟨?_, rfl, rfl⟩
   have e : rq neg a b mode = a / b + 1 := by unfold rq; rw [if_neg h0, if_pos h2]
   rw [e]; simp [tupA, h0]
  ·simp (disch := omega) only [go_sem, h2]
   refine fin_val (by simp (disch := omega) only [go_sem]) ⟨?_, rfl, rfl⟩
   have e : rq neg a b mode = a / b := by unfold rq; rw [if_neg h0, if_neg (by rw [h2]; simp)]
   rw [e]; simp [tupA, h0]
end Go.Ab
namespace Go.Ab
open Go Go.Proofs
set_option linter.unusedVariables false
set_option linter.unusedSimpArgs false
theorem con_isZero (s : Bool) (m : Nat) (e : Int) : Con Tryz.prog 193 true [.ag [.v (.bool (s)), .sl (lim (m)).length (ints (lim (m))), .v (.int .i64 (e))]] [] (isA (.v (.bool (decide (m = 0))))) := by
 refine Con.of_aw Tryz.func193 rfl Tryz.ntmps193 (by simp) (by simp) (by simp) (W.sound ?_)
 show @W Tryz.prog 7 ⟨_⟩ ⟨fun x σ => @retW _ _ _ ⟨_⟩ _ ⟨_⟩ x σ⟩ _ _
 simp (disch := omega) only [go_sem]
 refine fin_valc (by simp (disch := omega) only [go_sem]) (by simp (disch := omega) only [go_sem]) ⟨?_, rfl, rfl⟩
 have : decide (((lim m).length : Int) = 0) = decide (m = 0) := by
  rw [decide_eq_decide]
  exact ⟨fun h => lim_eq_nil.1 (List.length_eq_zero_iff.1 (by omega)), fun h => by rw [h, lim_zero]; rfl⟩
 rw [this]; rfl
theorem con_topX (s : Bool) (m : Nat) (e : Int) (hm : (lim m).length ≤ 2 ^ 40) (he : -2 ^ 40 ≤ e ∧ e ≤ 2 ^ 40) : Con Tryz.prog 118 true [.ag [.v (.bool (s)), .sl (lim (m)).length (ints (lim (m))), .v (.int .i64 (e))]] [] (isA (.v (.int .i64 (if m = 0 then 0 else (bl m : Int) + e)))) := by
 refine Con.of_w (rs := [.tmp 2]) Tryz.func118 rfl Tryz.ntmps118 rfl ?_
 simp (disch := omega) only [go_sem]
 refine ifW_dec (fun h1 => ?_) (fun h1 => ?_)
 ·simp (disch := omega) only [go_sem, h1]
  have h0 : m = 0 := lim_eq_nil.1 (List.length_eq_zero_iff.1 (by omega))
  rw [if_pos h0]
  exact fin_cI
 ·have h0 : m ≠ 0 := fun e => h1 (by rw [e, lim_zero]; rfl)
  have := bl_len (m := m)
  simp (disch := omega) only [go_sem, h1]
  refine draw_of rfl [⟨0, [], []⟩, ⟨1, [], []⟩, ⟨3, [1], []⟩, ⟨4, [1], []⟩, ⟨2, [4], []⟩, ⟨5, [], []⟩, ⟨6, [], []⟩] (by kernel_rfl) ?_
  simp (disch := omega) only [go_sem]
  refine call_cI (con_bitsOf m hm) ?_
  simp (disch := omega) only [go_sem]
  rw [if_neg h0]
  exact fin_cI
theorem con_odd (s : Bool) (m : Nat) (e : Int) (hm : bl m ≤ 10000000) (he : -2 ^ 40 ≤ e ∧ e ≤ 2 ^ 40) : Con Tryz.prog 144 false [.ag [.v (.bool (s)), .sl (lim (m)).length (ints (lim (m))), .v (.int .i64 (e))]] [] (isA (.ag [.v (.bool (oS s m)), .sl (lim (oM m)).length (ints (lim (oM m))), .v (.int .i64 (oE m e))])) := by
 refine Con.frzA ?_
 refine Con.of_aw Tryz.func144 rfl Tryz.ntmps144 (by simp) (by simp) (by simp) (W.sound ?_)
 show @W Tryz.prog 23 ⟨_⟩ ⟨fun x σ => @retW _ _ _ ⟨_⟩ _ ⟨_⟩ x σ⟩ _ _
 simp (disch := omega) only [go_sem]
 have hl := len_bl hm
 refine ifW_dec (fun h1 => ?_) (fun h1 => ?_)
 ·simp (disch := omega) only [go_sem, h1]
  have h0 : m = 0 := lim_eq_nil.1 (List.length_eq_zero_iff.1 (by omega))
  subst h0
  refine fin_val (by simp (disch := omega) only [go_sem]) ?_
  show snap _ 6 _ = _
  simp only [oS, oM_zero, oE, lim_zero, if_true]
  simp (disch := omega) only [go_sem]
 ·have h0 : m ≠ 0 := fun e => h1 (by rw [e, lim_zero]; rfl)
  have ht := tz_lt_bl h0
  simp (disch := omega) only [go_sem, h1]
  refine call_cI (con_trailOf m (by omega)) ?_
  simp (disch := omega) only [go_sem]
  refine draw_of rfl [⟨0, [], []⟩, ⟨1, [], []⟩, ⟨2, [1], []⟩, ⟨3, [1], []⟩, ⟨4, [1, 3], []⟩, ⟨6, [1, 3], []⟩, ⟨7, [1, 3], []⟩, ⟨8, [1, 3, 7], []⟩, ⟨9, [1, 3], []⟩, ⟨5, [1, 7], []⟩, ⟨10, [], []⟩, ⟨11, [], []⟩] (by kernel_rfl) ?_
  simp (disch := omega) only [go_sem]
  refine call_oI (con_downN m (tz m) (by omega) (by omega)) ?_
  simp (disch := omega) only [go_sem]
  refine fin_val (by simp (disch := omega) only [go_sem]) ?_
  show snap _ 6 _ = _
  simp only [oS, oM, oE, if_neg h0]
  simp (disch := omega) only [go_sem]
def ovA (m1 : Nat) (k : Int) : Nat := m1 * 2 ^ k.toNat
def ovQ (s : Bool) (m1 : Nat) (e1 : Int) (m2 : Nat) (e2 low mode : Int) : Nat := rq s (ovA m1 (e1 - e2 - low)) (ovA m2 (-(e1 - e2 - low))) mode
def ovX (m1 : Nat) (e1 : Int) (m2 : Nat) (e2 low : Int) : Bool := decide (ovA m1 (e1 - e2 - low) % ovA m2 (-(e1 - e2 - low)) = 0)
theorem bl_ovA {m B : Nat} {k : Int} {C : Nat} (h : bl m ≤ B) (hk : k ≤ C) : bl (ovA m k) ≤ B + C := by
 have := bl_up m k.toNat
 unfold ovA; omega
theorem ovA_ne {m : Nat} {k : Int} (h : m ≠ 0) : ovA m k ≠ 0 := by
 unfold ovA
 have : 0 < 2 ^ k.toNat := Nat.pow_pos (by omega)
 have := Nat.mul_pos (show 0 < m by omega) this
 omega
theorem con_over (s1 : Bool) (m1 : Nat) (e1 : Int) (s2 : Bool) (m2 : Nat) (e2 low mode : Int) (h2 : m2 ≠ 0) (hm1 : bl m1 ≤ 4000000) (hm2 : bl m2 ≤ 4000000) (hk : -4000000 ≤ e1 - e2 - low ∧ e1 - e2 - low ≤ 4000000)
  (he1 : -2 ^ 40 ≤ e1 ∧ e1 ≤ 2 ^ 40) (he2 : -2 ^ 40 ≤ e2 ∧ e2 ≤ 2 ^ 40) (hlo : -2 ^ 40 ≤ low ∧ low ≤ 2 ^ 40) :
  Con Tryz.prog 188 false [.ag [.v (.bool (s1)), .sl (lim (m1)).length (ints (lim (m1))), .v (.int .i64 (e1))], .ag [.v (.bool (s2)), .sl (lim (m2)).length (ints (lim (m2))), .v (.int .i64 (e2))], .v (.int .i64 low), .v (.int .i64 mode)] []
   (isA (.tu [.ag [.v (.bool ((s1 != s2) && decide (ovQ (s1 != s2) m1 e1 m2 e2 low mode ≠ 0))), .sl (lim (ovQ (s1 != s2) m1 e1 m2 e2 low mode)).length (ints (lim (ovQ (s1 != s2) m1 e1 m2 e2 low mode))), .v (.int .i64 (low))], .v (.bool (ovX m1 e1 m2 e2 low))])) := by
 refine Con.frzA ?_
 refine Con.of_w (rs := [.cell 8 90, .tmp 9]) Tryz.func188 rfl Tryz.ntmps188 rfl ?_
 have l1 := len_bl hm1
 have l2 := len_bl hm2
 generalize hsh : e1 - e2 - low = sh at *
 have eq1 : ovQ (s1 != s2) m1 e1 m2 e2 low mode = rq (s1 != s2) (ovA m1 sh) (ovA m2 (-sh)) mode := by unfold ovQ; rw [hsh]
 have eq2 : ovX m1 e1 m2 e2 low = decide (ovA m1 sh % ovA m2 (-sh) = 0) := by unfold ovX; rw [hsh]
 rw [eq1, eq2]
 simp (disch := omega) only [go_sem, hsh]
 refine draw_of rfl [⟨0, [], []⟩, ⟨1, [], []⟩, ⟨2, [], []⟩, ⟨3, [2], []⟩, ⟨4, [2], []⟩, ⟨6, [2], []⟩, ⟨7, [2], []⟩, ⟨8, [2, 7], []⟩, ⟨9, [2, 7], []⟩, ⟨10, [2, 7], []⟩, ⟨12, [2, 7], []⟩, ⟨5, [7], []⟩, ⟨11, [], []⟩, ⟨13, [], []⟩, ⟨14, [], []⟩, ⟨15, [], []⟩, ⟨16, [], []⟩, ⟨17, [], []⟩, ⟨18, [], []⟩] (by kernel_rfl) ?_
 have ex1 : (if 0 > sh then 0 else sh) = ((sh.toNat : Nat) : Int) := by split <;> omega
 have ex2 : (if 0 > 0 - sh then 0 else 0 - sh) = (((-sh).toNat : Nat) : Int) := by split <;> omega
 simp (disch := omega) only [go_sem, ex1, ex2]
 refine call_oI (con_upN m1 sh.toNat (by omega) (by omega)) ?_
 simp (disch := omega) only [go_sem]
 refine call_oI (con_upN m2 (-sh).toNat (by omega) (by omega)) ?_
 simp (disch := omega) only [go_sem]
 refine call_oI (con_roundQuotient (s1 != s2) (ovA m1 sh) (ovA m2 (-sh)) mode (ovA_ne h2) (bl_ovA (C := 4000000) hm1 (by omega)) (bl_ovA (C := 4000000) hm2 (by omega))) ?_ (by simp (disch := omega) only [go_sem, ovA])
 simp (disch := omega) only [go_sem]
 generalize rq (s1 != s2) (ovA m1 sh) (ovA m2 (-sh)) mode = q
 generalize decide (ovA m1 sh % ovA m2 (-sh) = 0) = b
 have hq : decide ((0 : Int) < ((lim q).length : Int)) = decide (q ≠ 0) := by
  rw [decide_eq_decide]
  exact ⟨fun h e => by rw [e, lim_zero] at h; simp at h, fun h => by have := lim_ne h; omega⟩
 refine ifW_b (fun h3 => ?_) (fun h3 => ?_)
 ·simp (disch := omega) only [go_sem, h3, hq]
  exact fin_frz (hp := by simp (disch := omega) only [go_sem, h3, Bool.true_and])
 ·simp (disch := omega) only [go_sem, h3]
  exact fin_frz (hp := by simp (disch := omega) only [go_sem, h3, Bool.false_and])
def roM (s : Bool) (m : Nat) (e low mode : Int) : Nat := if low ≤ e ∨ m = 0 then m else rq s m (2 ^ (low - e).toNat) mode
def roE (m : Nat) (e low : Int) : Int := if low ≤ e ∨ m = 0 then e else low
def roX (m : Nat) (e low : Int) : Bool := if low ≤ e ∨ m = 0 then true else decide (m % 2 ^ (low - e).toNat = 0)
def roS (s : Bool) (m : Nat) (e low mode : Int) : Bool := if low ≤ e ∨ m = 0 then s else s && decide (rq s m (2 ^ (low - e).toNat) mode ≠ 0)
theorem con_rounded (s : Bool) (m : Nat) (e low mode : Int) (hm : bl m ≤ 4000000) (he : -1000000 ≤ e ∧ e ≤ 1000000) (hlo : -1000000 ≤ low ∧ low ≤ 1000000) :
  Con Tryz.prog 177 false [.ag [.v (.bool (s)), .sl (lim (m)).length (ints (lim (m))), .v (.int .i64 (e))], .v (.int .i64 low), .v (.int .i64 mode)] []
   (isA (.tu [.ag [.v (.bool (roS s m e low mode)), .sl (lim (roM s m e low mode)).length (ints (lim (roM s m e low mode))), .v (.int .i64 (roE m e low))], .v (.bool (roX m e low))])) := by
 refine Con.frzA ?_
 refine Con.of_aw Tryz.func177 rfl Tryz.ntmps177 (by simp) (by simp) (by simp) (W.sound ?_)
 show @W Tryz.prog 25 ⟨_⟩ ⟨fun x σ => @retW _ _ _ ⟨_⟩ _ ⟨_⟩ x σ⟩ _ _
 simp (disch := omega) only [go_sem]
 refine ifW_not (fun h1 => ?_) (fun h1 => ?_)
 ·simp (disch := omega) only [go_sem, h1]
  refine call_cI (con_isZero s m e) ?_
  simp (disch := omega) only [go_sem]
  refine ifW_dec (fun h2 => ?_) (fun h2 => ?_)
  ·simp (disch := omega) only [go_sem, h2]
   refine fin_val (by simp (disch := omega) only [go_sem]) ?_
   show snap _ 6 _ = _
   simp only [roS, roM, roE, roX, h2, or_true, if_true]
   simp (disch := omega) only [go_sem]
  ·simp (disch := omega) only [go_sem, h2]
   refine draw_of rfl [⟨0, [], []⟩, ⟨3, [0], []⟩, ⟨4, [0], []⟩, ⟨1, [0], []⟩, ⟨2, [0], []⟩, ⟨5, [], []⟩, ⟨6, [], []⟩, ⟨7, [], []⟩, ⟨8, [], []⟩, ⟨9, [], []⟩] (by kernel_rfl) ?_
   simp (disch := omega) only [go_sem]
   refine call_oI (con_smallN 1 (by omega)) ?_
   simp (disch := omega) only [go_sem]
   refine call_oI (con_over s m e false 1 0 low mode (by omega) hm (by decide) (by omega) (by omega) (by omega) (by omega)) ?_
   simp (disch := omega) only [go_sem]
   refine fin_val (by simp (disch := omega) only [go_sem]) ?_
   show snap _ 6 _ = _
   have hc : ¬ (low ≤ e ∨ m = 0) := by omega
   have e1 : ovA m (e - 0 - low) = m := by unfold ovA; rw [show (e - 0 - low).toNat = 0 by omega]; simp
   have e2 : ovA 1 (-(e - 0 - low)) = 2 ^ (low - e).toNat := by unfold ovA; rw [show (-(e - 0 - low)).toNat = (low - e).toNat by omega]; simp
   have e3 : (s != false) = s := by cases s <;> rfl
   simp only [roS, roM, roE, roX, if_neg hc, ovQ, ovX, e1, e2, e3]
   simp (disch := omega) only [go_sem]
 ·simp (disch := omega) only [go_sem, h1]
  refine fin_val (by simp (disch := omega) only [go_sem]) ?_
  show snap _ 6 _ = _
  simp only [roS, roM, roE, roX, h1, true_or, if_true]
  simp (disch := omega) only [go_sem]
end Go.Ab
namespace Go.Ab
open Go Go.Proofs
set_option linter.unusedVariables false
set_option linter.unusedSimpArgs false
theorem con_minus (cl : Bool) (A B : List Int) (hA : gd A) (hB : gd B) (lA : A.length ≤ 1000000) (lB : B.length ≤ A.length) (hle : vl B ≤ vl A) :
  Con Tryz.prog 284 cl [.sl A.length (ints A), .sl B.length (ints B)] [] (numR (lim (vl A - vl B).toNat)) := by
 refine Con.of_aw Tryz.func284 rfl Tryz.ntmps284 (by simp) (by simp) (by simp) (W.sound ?_)
 show @W Tryz.prog 43 ⟨_⟩ ⟨fun x σ => @retW _ _ _ ⟨_⟩ _ ⟨_⟩ x σ⟩ _ _
 simp (disch := omega) only [go_sem]
 refine ⟨by omega, ?_⟩
 refine loop_intro (fun x : Nat × List Int × Int => [(1, .sl B.length (ints B)), (5, .rf 1 0 x.2.1.length), (6, .v (.int .i64 x.2.2)), (12, .sl A.length (ints A)), (13, .v (.int .i64 A.length)), (14, .v (.int .i64 x.1))])
  (fun x => [(1, .own 1 (ints x.2.1))])
  (fun x => x.1 ≤ A.length ∧ x.2.1.length = x.1 ∧ gd x.2.1 ∧ (0 ≤ x.2.2 ∧ x.2.2 ≤ 1) ∧ vl x.2.1 - 65536 ^ x.1 * x.2.2 = vl (A.take x.1) - vl (B.take x.1))
  (fun x => A.length - x.1) (0, [], 0) ⟨by simp, rfl, gd_nil, by simp, by simp [vl]⟩
  (Le.lst [(1, 130000000)] _ _ rfl (by simp (disch := omega) only [go_sem]) (by simp (disch := omega) only [go_sem])) ?_
 rintro ⟨i, out, bo⟩ ⟨hi, hol, hog, hbo, hov⟩
 dsimp only at hi hol hog hbo hov ⊢
 simp (disch := omega) only [go_sem]
 refine ifW_dec (fun h1 => ?_) (fun h1 => ?_)
 ·have hx := gd_getD hA i
  have hy := gd_getD hB i
  have hstep : ∀ z b : Int, A.getD i 0 - bo - B.getD i 0 = z - 65536 * b → vl (out ++ [z]) - 65536 ^ (i + 1) * b = vl (A.take (i + 1)) - vl (B.take (i + 1)) := by
   intro z b hz
   rw [vl_snoc, vl_take_any, vl_take_any, hol, Int.pow_succ]
   generalize (65536 : Int) ^ i = Pi at *
   grind
  have hyz : ¬ i < B.length → B.getD i 0 = 0 := fun h => by rw [List.getD_eq_getElem?_getD, List.getElem?_eq_none (by omega)]; rfl
  simp (disch := omega) only [go_sem, h1]
  refine ⟨by omega, by omega, ifW_dec (fun h2 => ?_) (fun h2 => ?_)⟩
  ·simp (disch := omega) only [go_sem, h2]
   refine ⟨by omega, by omega, ifW_dec (fun h3 => ?_) (fun h3 => ?_)⟩
   ·simp (disch := omega) only [go_sem, h3]
    refine ⟨by omega, next_intro (i + 1, out ++ [A.getD i 0 - bo - B.getD i 0 + 65536], 1) [(1, 410000000)] ⟨by show i + 1 ≤ _; omega, by simp [hol], gd_append.2 ⟨hog, gd_one.2 (by omega)⟩, by simp, hstep (A.getD i 0 - bo - B.getD i 0 + 65536) 1 (by omega)⟩ (by show A.length - (i + 1) < A.length - i; omega) rfl (by simp (disch := omega) only [go_sem, List.length_append]; try omega) (by simp (disch := omega) only [go_sem])⟩
   ·simp (disch := omega) only [go_sem, h3]
    refine ⟨by omega, next_intro (i + 1, out ++ [A.getD i 0 - bo - B.getD i 0], 0) [(1, 410000000)] ⟨by show i + 1 ≤ _; omega, by simp [hol], gd_append.2 ⟨hog, gd_one.2 (by omega)⟩, by simp, hstep (A.getD i 0 - bo - B.getD i 0) 0 (by omega)⟩ (by show A.length - (i + 1) < A.length - i; omega) rfl (by simp (disch := omega) only [go_sem, List.length_append]; try omega) (by simp (disch := omega) only [go_sem])⟩
  ·simp (disch := omega) only [go_sem, h2]
   refine ifW_dec (fun h3 => ?_) (fun h3 => ?_)
   ·simp (disch := omega) only [go_sem, h3]
    have hy0 := hyz (by omega)
    refine ⟨by omega, next_intro (i + 1, out ++ [A.getD i 0 - bo + 65536], 1) [(1, 410000000)] ⟨by show i + 1 ≤ _; omega, by simp [hol], gd_append.2 ⟨hog, gd_one.2 (by omega)⟩, by simp, hstep (A.getD i 0 - bo + 65536) 1 (by omega)⟩ (by show A.length - (i + 1) < A.length - i; omega) rfl (by simp (disch := omega) only [go_sem, List.length_append]; try omega) (by simp (disch := omega) only [go_sem])⟩
   ·simp (disch := omega) only [go_sem, h3]
    have hy0 := hyz (by omega)
    refine ⟨by omega, next_intro (i + 1, out ++ [A.getD i 0 - bo], 0) [(1, 410000000)] ⟨by show i + 1 ≤ _; omega, by simp [hol], gd_append.2 ⟨hog, gd_one.2 (by omega)⟩, by simp, hstep (A.getD i 0 - bo) 0 (by omega)⟩ (by show A.length - (i + 1) < A.length - i; omega) rfl (by simp (disch := omega) only [go_sem, List.length_append]; try omega) (by simp (disch := omega) only [go_sem])⟩
 ·simp (disch := omega) only [go_sem, h1]
  have hiA : i = A.length := by omega
  subst hiA
  rw [List.take_length, List.take_of_length_le lB] at hov
  have hb0 : bo = 0 := by
   have h2 := vl_lt hog
   rw [hol] at h2
   rcases (by omega : bo = 0 ∨ bo = 1) with h | h
   ·exact h
   ·subst h; omega
  subst hb0
  have hov2 : vl out = vl A - vl B := by omega
  refine call_lend false [1] (con_trim out (by omega)) (by simp (disch := omega) only [go_sem]) (by simp (disch := omega) only [go_sem]) rfl (lend_cons (z := 1) (cs := ints out) (by simp (disch := omega) only [go_sem]) (by simp (disch := omega) only [go_sem])) (by intro n hn; exact ⟨_, List.mem_singleton.2 rfl, by rw [List.mem_singleton.1 hn]; rfl⟩) ?_
  rintro r hs bs ⟨rfl, rfl, rfl⟩ _
  refine ⟨by simp [freeN], ?_⟩
  simp (disch := omega) only [go_sem]
  obtain ⟨z, hz⟩ := cutZ_pre out
  have hc := cutZ_lim hog
  rw [hov2] at hc
  rw [hc] at hz ⊢
  refine fin_intro [(0, 1)] [.own 1 (ints out)] [] [.rf 0 0 (lim (vl A - vl B).toNat).length] rfl (by simp (disch := omega) only [go_sem]) (by simp (disch := omega) only [go_sem]) (by simp) (by intro _; simp [tupA, AV.pu, AV.pu.puL, Ob.pu, pu_ints]) (.inr ⟨List.replicate z 0, rfl, by rw [← hz]⟩)
end Go.Ab
namespace Go.Ab
set_option linter.unusedVariables false
theorem bl_next {q : Nat} {n : Nat} (hn : 1 ≤ n) (h : bl q ≤ n) : bl (q + 1) ≤ n + tz (q + 1) := by
 have h1 := bl_le.1 h
 rcases (by omega : q + 1 < 2 ^ n ∨ q + 1 = 2 ^ n) with h2 | h2
 ·have := bl_le.2 h2; omega
 ·have h3 : tz (q + 1) = n := tz_uniq (a := 0) (by omega)
  have h4 : bl (q + 1) ≤ n + 1 := bl_le.2 (by rw [h2, Nat.pow_succ]; have := Nat.pow_pos (n := n) (show 0 < 2 by omega); omega)
  omega
theorem bl_shr (m k : Nat) : bl (m / 2 ^ k) ≤ bl m - k := by
 rcases Nat.lt_or_ge m (2 ^ k) with h | h
 ·rw [Nat.div_eq_of_lt h, bl_zero]; omega
 ·have := bl_div h; omega
theorem rnd_form {s : Bool} {m k : Nat} {mode : Int} (h : bl m ≤ 53 + k) : bl (rq s m (2 ^ k) mode) ≤ 53 + tz (rq s m (2 ^ k) mode) := by
 have h1 : bl (m / 2 ^ k) ≤ 53 := by have := bl_shr m k; omega
 have h2 := bl_next (by omega) h1
 unfold rq
 split
 ·omega
 ·split
  ·exact h2
  ·omega
def natB (xs : List Int) : Bool := decide (xs.length ≤ 100) && (xs.all (fun x => decide (0 ≤ x) && decide (x ≤ 65535)) && (decide (xs.length = 0) || decide (xs.getD (xs.length - 1) 0 ≠ 0)))
def wholeB (s : Bool) (xs : List Int) : Bool := natB xs && !(s && decide (xs.length = 0))
def dyB (s : Bool) (xs : List Int) (e : Int) : Bool :=
 wholeB s xs && ((decide (-3000 ≤ e) && decide (e ≤ 3000)) && (decide ((vl xs).toNat % 2 = 1) || (decide (xs.length = 0) && decide (e = 0))))
theorem natB_lim {xs : List Int} (h : natB xs = true) : xs = lim (vl xs).toNat ∧ xs.length ≤ 100 := by
 simp only [natB, Bool.and_eq_true, decide_eq_true_eq, List.all_eq_true, Bool.or_eq_true] at h
 obtain ⟨h1, h2, h3⟩ := h
 refine ⟨lim_uniq (fun x hx => by have := h2 x hx; omega) ?_, h1⟩
 intro a x e
 subst e
 rcases h3 with h3 | h3
 ·simp at h3
 ·simpa [List.getD_eq_getElem?_getD] using h3
theorem natB_of (m : Nat) (h : (lim m).length ≤ 100) : natB (lim m) = true := by
 simp only [natB, Bool.and_eq_true, decide_eq_true_eq, List.all_eq_true, Bool.or_eq_true]
 refine ⟨h, fun x hx => ?_, ?_⟩
 ·have := gd_lim m x hx
  exact ⟨this.1, by omega⟩
 ·rcases Nat.eq_zero_or_pos (lim m).length with h0 | h0
  ·exact .inl h0
  ·refine .inr fun e => ?_
   have hm : m ≠ 0 := fun e => by rw [e, lim_zero] at h0; simp at h0
   rw [lim_get] at e
   have := len_top hm
   rw [Nat.mod_eq_of_lt this.2] at e
   omega
theorem dyB_lim {s : Bool} {xs : List Int} {e : Int} (h : dyB s xs e = true) : ∃ m, xs = lim m ∧ (lim m).length ≤ 100 ∧ bl m ≤ 1600 ∧ (-3000 ≤ e ∧ e ≤ 3000) ∧ (m % 2 = 1 ∨ (m = 0 ∧ e = 0)) ∧ (m = 0 → s = false) := by
 simp only [dyB, wholeB, Bool.and_eq_true, decide_eq_true_eq, Bool.or_eq_true] at h
 obtain ⟨⟨h1, h2⟩, h3, h4⟩ := h
 obtain ⟨h5, h6⟩ := natB_lim h1
 refine ⟨(vl xs).toNat, h5, by rw [← h5]; exact h6, ?_, h3, ?_, ?_⟩
 ·have := bl_len (m := (vl xs).toNat)
  rw [← h5] at this; omega
 ·rcases h4 with h4 | ⟨h4, h7⟩
  ·exact .inl h4
  ·have : xs = [] := List.length_eq_zero_iff.1 h4
   exact .inr ⟨by subst this; rfl, h7⟩
 ·intro e0
  rw [e0, lim_zero] at h5
  subst h5
  simpa using h2
end Go.Ab
namespace Go.Ab
set_option linter.unusedVariables false
def upsB (neg : Bool) (m k : Nat) (mode : Int) : Bool :=
 if mode = 1 then false else if mode = 2 then !neg else if mode = 3 then neg else if mode = 4 then decide (m / 2 ^ (k - 1) % 2 = 1)
 else decide (m / 2 ^ (k - 1) % 2 = 1) && (decide (tz m < k - 1) || decide (m / 2 ^ k % 2 = 1))
theorem half_bit {m k : Nat} (hk : 1 ≤ k) : m / 2 ^ (k - 1) % 2 = 1 ↔ 2 ^ k ≤ m % 2 ^ k * 2 := by
 obtain ⟨j, rfl⟩ : ∃ j, k = j + 1 := ⟨k - 1, by omega⟩
 rw [Nat.add_sub_cancel]
 have hp : 0 < 2 ^ j := Nat.pow_pos (by omega)
 have h1 : m % 2 ^ (j + 1) / 2 ^ j = m / 2 ^ j % 2 := by rw [Nat.pow_succ, Nat.mod_mul_right_div_self]
 have h2 : m % 2 ^ (j + 1) < 2 ^ (j + 1) := Nat.mod_lt _ (Nat.pow_pos (by omega))
 rw [← h1]
 generalize m % 2 ^ (j + 1) = r at *
 rw [Nat.pow_succ] at *
 constructor
 ·intro h
  have h3 := (Nat.le_div_iff_mul_le hp).1 (show 1 ≤ r / 2 ^ j by
   rcases Nat.eq_zero_or_pos (r / 2 ^ j) with e | e
   ·rw [e] at h; simp at h
   ·exact e)
  omega
 ·intro h
  have h3 : 1 ≤ r / 2 ^ j := (Nat.le_div_iff_mul_le hp).2 (by omega)
  have h4 : r / 2 ^ j < 2 := (Nat.div_lt_iff_lt_mul hp).2 (by omega)
  omega
theorem cmp_pos {a b : Int} : (0 < cmpI a b ↔ b < a) ∧ (cmpI a b = 0 ↔ a = b) ∧ (0 ≤ cmpI a b ↔ b ≤ a) := by
 unfold cmpI
 split
 ·omega
 ·split <;> omega
theorem tz_odd {m : Nat} (h : m % 2 = 1) : tz m = 0 := tz_uniq (a := m / 2) (by simp; omega)
theorem ups_eq {neg : Bool} {m k : Nat} {mode : Int} (hm : m % 2 = 1) (hk : 1 ≤ k) (h0 : 0 ≤ mode ∧ mode ≤ 4) :
  upsB neg m k mode = rup neg (decide (m / 2 ^ k % 2 = 1)) (cmpI ((m % 2 ^ k * 2 : Nat) : Int) ((2 ^ k : Nat) : Int)) mode := by
 have hb := half_bit (m := m) hk
 obtain ⟨c1, c2, c3⟩ := cmp_pos (a := ((m % 2 ^ k * 2 : Nat) : Int)) (b := ((2 ^ k : Nat) : Int))
 generalize cmpI ((m % 2 ^ k * 2 : Nat) : Int) ((2 ^ k : Nat) : Int) = c at *
 have ht := tz_odd hm
 unfold upsB rup
 rcases (by omega : mode = 0 ∨ mode = 1 ∨ mode = 2 ∨ mode = 3 ∨ mode = 4) with rfl | rfl | rfl | rfl | rfl
 ·rw [if_neg (by omega), if_neg (by omega), if_neg (by omega), if_neg (by omega), if_neg (by omega), if_neg (by omega), if_pos rfl, ht]
  rw [Bool.eq_iff_iff]
  simp only [Bool.and_eq_true, Bool.or_eq_true, decide_eq_true_eq, c1, c2]
  rw [hb]
  rcases (by omega : k = 1 ∨ 1 < k) with rfl | h
  ·have : m % 2 ^ 1 = 1 := by rw [Nat.pow_one]; exact hm
   rw [this]; simp
  ·have hodd : m % 2 ^ k % 2 = 1 := by
    obtain ⟨j, rfl⟩ : ∃ j, k = j + 1 := ⟨k - 1, by omega⟩
    rw [Nat.pow_succ, Nat.mul_comm, Nat.mod_mul_right_mod]; exact hm
   have h4 : 2 ^ k % 4 = 0 := by
    obtain ⟨j, rfl⟩ : ∃ j, k = j + 2 := ⟨k - 2, by omega⟩
    rw [Nat.pow_add]; omega
   omega
 ·simp
 ·simp
 ·simp
 ·rw [if_neg (by omega), if_neg (by omega), if_neg (by omega), if_pos rfl, if_neg (by omega), if_neg (by omega), if_neg (by omega), if_pos rfl]
  rw [decide_eq_decide, hb, c3]; omega
theorem odd_mod {m k : Nat} (hm : m % 2 = 1) (hk : 1 ≤ k) : m % 2 ^ k ≠ 0 := by
 obtain ⟨j, rfl⟩ : ∃ j, k = j + 1 := ⟨k - 1, by omega⟩
 intro h
 have : m % 2 ^ (j + 1) % 2 = 1 := by rw [Nat.pow_succ, Nat.mul_comm, Nat.mod_mul_right_mod]; exact hm
 omega
/-! ### The normal form and rounding -/
theorem oM_pow {m k : Nat} : oM (m * 2 ^ k) = oM m := by
 by_cases h : m = 0
 ·subst h; simp
 ·unfold oM
  rw [tz_mul_pow h, Nat.pow_add, Nat.mul_comm (2 ^ tz m), ← Nat.div_div_eq_div_mul, Nat.mul_div_cancel _ (Nat.pow_pos (by omega))]
theorem rq_scale {s : Bool} {a b k : Nat} {mode : Int} : rq s (a * 2 ^ k) (b * 2 ^ k) mode = rq s a b mode := by
 have hp : 0 < 2 ^ k := Nat.pow_pos (by omega)
 have h1 : a * 2 ^ k / (b * 2 ^ k) = a / b := Nat.mul_div_mul_right _ _ hp
 have h2 : a * 2 ^ k % (b * 2 ^ k) = a % b * 2 ^ k := Nat.mul_mod_mul_right _ _ _
 have h3 : cmpI ((a % b * 2 ^ k * 2 : Nat) : Int) ((b * 2 ^ k : Nat) : Int) = cmpI ((a % b * 2 : Nat) : Int) (b : Int) := by
  have e1 : a % b * 2 ^ k * 2 = a % b * 2 * 2 ^ k := by grind
  rw [e1]
  have h4 : ∀ x y : Nat, x * 2 ^ k < y * 2 ^ k ↔ x < y := fun x y => Nat.mul_lt_mul_right hp
  have key : ∀ x y X Y : Nat, (X < Y ↔ x < y) → (Y < X ↔ y < x) → cmpI (X : Int) (Y : Int) = cmpI (x : Int) (y : Int) := by
   intro x y X Y p q
   unfold cmpI
   rcases Nat.lt_trichotomy x y with h | h | h
   ·have := p.2 h
    rw [if_pos (by omega), if_pos (by omega)]
   ·have g1 : ¬ X < Y := fun g => by have := p.1 g; omega
    have g2 : ¬ Y < X := fun g => by have := q.1 g; omega
    rw [if_neg (by omega), if_neg (by omega), if_neg (by omega), if_neg (by omega)]
   ·have := q.2 h
    rw [if_neg (by omega), if_pos (by omega), if_neg (by omega), if_pos (by omega)]
  exact key _ _ _ _ (h4 _ _) (h4 _ _)
 unfold rq
 rw [h1, h2, h3]
 by_cases h : a % b = 0
 ·rw [if_pos h, if_pos (by rw [h]; simp)]
 ·rw [if_neg h, if_neg (by have := Nat.mul_pos (show 0 < a % b by omega) hp; omega)]
end Go.Ab
namespace Go.Ab
set_option linter.unusedVariables false
/-! ### Numbers with a sign -/
def sv (s : Bool) (m : Nat) : Int := if s = true then -(m : Int) else (m : Int)
theorem sv_abs (s : Bool) (m : Nat) : (sv s m).natAbs = m := by unfold sv; split <;> omega
theorem sv_zero (s : Bool) : sv s 0 = 0 := by unfold sv; split <;> rfl
theorem sv_mul (s : Bool) (m k : Nat) : sv s (m * k) = sv s m * (k : Int) := by
 unfold sv; split
 ·rw [Int.natCast_mul, Int.neg_mul]
 ·rw [Int.natCast_mul]
theorem sv_and (s : Bool) (m : Nat) : sv (s && decide (m ≠ 0)) m = sv s m := by
 by_cases h : m = 0
 ·subst h; rw [sv_zero, sv_zero]
 ·rw [decide_eq_true h, Bool.and_true]
theorem sv_oS (s : Bool) (m : Nat) : sv (oS s m) m = sv s m := by
 unfold oS
 by_cases h : m = 0
 ·subst h; rw [sv_zero, sv_zero]
 ·rw [if_neg h]
theorem sv_ne (s1 : Bool) (m1 : Nat) (s2 : Bool) (m2 : Nat) : sv (s1 != s2) (m1 * m2) = sv s1 m1 * sv s2 m2 := by
 cases s1 <;> cases s2 <;> simp [sv, Int.natCast_mul, Int.neg_mul, Int.mul_neg]
theorem sv_lt {s : Bool} {m : Nat} (h : m ≠ 0) : decide (sv s m < 0) = s := by
 cases s <;> simp [sv] <;> omega
def dv (K : Nat) (s : Bool) (m : Nat) (e : Int) : Int := sv s m * 2 ^ (e + K).toNat
theorem dv_inj {K : Nat} {s : Bool} {m : Nat} {e : Int} {s' : Bool} {m' : Nat} {e' : Int} (h0 : m ≠ 0) (he : -(K : Int) ≤ e) (he' : -(K : Int) ≤ e') (h : dv K s m e = dv K s' m' e') :
  s = s' ∧ oM m = oM m' ∧ oE m e = oE m' e' ∧ m' ≠ 0 := by
 unfold dv at h
 obtain ⟨a, ha⟩ : ∃ a, a = (e + K).toNat := ⟨_, rfl⟩
 obtain ⟨a', ha'⟩ : ∃ a, a = (e' + K).toNat := ⟨_, rfl⟩
 rw [← ha, ← ha'] at h
 have habs : m * 2 ^ a = m' * 2 ^ a' := by
  have := congrArg Int.natAbs h
  rw [Int.natAbs_mul, Int.natAbs_mul, sv_abs, sv_abs, Int.natAbs_pow, Int.natAbs_pow] at this
  exact this
 have hp : 0 < 2 ^ a := Nat.pow_pos (by omega)
 have h1 : 0 < m * 2 ^ a := Nat.mul_pos (by omega) hp
 have h0' : m' ≠ 0 := fun e => by rw [habs, e, Nat.zero_mul] at h1; omega
 have hM : oM m = oM m' := by rw [← @oM_pow m a, habs, oM_pow]
 have hT : tz m + a = tz m' + a' := by rw [← tz_mul_pow h0, habs, tz_mul_pow h0']
 refine ⟨?_, hM, ?_, h0'⟩
 ·have e1 : sv s m * 2 ^ a = sv s (m * 2 ^ a) := by rw [sv_mul, Int.natCast_pow]; rfl
  have e2 : sv s' m' * 2 ^ a' = sv s' (m' * 2 ^ a') := by rw [sv_mul, Int.natCast_pow]; rfl
  rw [e1, e2, ← habs] at h
  rw [← sv_lt (s := s) (m := m * 2 ^ a) (by omega), h, sv_lt (by omega)]
 ·unfold oE; rw [if_neg h0, if_neg h0']; omega
theorem dv_zero {K : Nat} {s : Bool} {e : Int} : dv K s 0 e = 0 := by unfold dv; rw [sv_zero, Int.zero_mul]
theorem dv_eq_zero {K : Nat} {s : Bool} {m : Nat} {e : Int} : dv K s m e = 0 ↔ m = 0 := by
 refine ⟨fun h => ?_, fun h => by rw [h, dv_zero]⟩
 unfold dv at h
 rcases Int.mul_eq_zero.1 h with h | h
 ·rw [← sv_abs s m, h]; rfl
 ·have : (0 : Int) < 2 ^ (e + K).toNat := Int.pow_pos (by omega)
  omega
theorem dv_oS (K : Nat) (s : Bool) (m : Nat) (e : Int) : dv K (oS s m) m e = dv K s m e := by unfold dv; rw [sv_oS]
theorem dv_and (K : Nat) (s : Bool) (m : Nat) (e : Int) : dv K (s && decide (m ≠ 0)) m e = dv K s m e := by unfold dv; rw [sv_and]
theorem dv_norm {K : Nat} {s : Bool} {m : Nat} {e : Int} (he : -(K : Int) ≤ e) : dv K s (oM m) (oE m e) = dv K s m e := by
 by_cases h : m = 0
 ·subst h; rw [oM_zero, dv_zero, dv_zero]
 ·unfold dv oE
  rw [if_neg h]
  have e1 : (e + (tz m : Int) + K).toNat = tz m + (e + K).toNat := by omega
  conv => rhs; rw [← @oM_mul m]
  rw [e1, Int.pow_add, sv_mul, Int.natCast_pow, Int.mul_assoc]; rfl
theorem oE_ge {K : Int} {m : Nat} {e : Int} (h : -K ≤ e) (h0 : 0 ≤ K) : -K ≤ oE m e := by unfold oE; split <;> omega
theorem dv_mul {K K' : Nat} {s s' : Bool} {m m' : Nat} {e e' : Int} (he : -(K : Int) ≤ e) (he' : -(K' : Int) ≤ e') : dv (K + K') (s != s') (m * m') (e + e') = dv K s m e * dv K' s' m' e' := by
 unfold dv
 have e1 : (e + e' + ((K + K' : Nat) : Int)).toNat = (e + K).toNat + (e' + K').toNat := by omega
 rw [e1, Int.pow_add, sv_ne]
 simp only [Int.mul_assoc, Int.mul_left_comm]
/-! ### Sums -/
def suM (s1 : Bool) (m1 : Nat) (s2 : Bool) (m2 : Nat) : Nat := (sv s1 m1 + sv s2 m2).natAbs
def suS (s1 : Bool) (m1 : Nat) (s2 : Bool) (m2 : Nat) : Bool := decide (sv s1 m1 + sv s2 m2 < 0)
def sgS (s1 : Bool) (m1 : Nat) (s2 : Bool) (m2 : Nat) : Bool := if s1 = s2 then s1 else if m2 ≤ m1 then s1 else s2
theorem suM_same (s : Bool) (m1 m2 : Nat) : suM s m1 s m2 = m1 + m2 := by unfold suM sv; split <;> omega
theorem suM_ge {s1 s2 : Bool} {m1 m2 : Nat} (h : s1 ≠ s2) (hm : m2 ≤ m1) : suM s1 m1 s2 m2 = m1 - m2 := by
 cases s1 <;> cases s2 <;> simp [suM, sv] at * <;> omega
theorem suM_lt {s1 s2 : Bool} {m1 m2 : Nat} (h : s1 ≠ s2) (hm : ¬ m2 ≤ m1) : suM s1 m1 s2 m2 = m2 - m1 := by
 cases s1 <;> cases s2 <;> simp [suM, sv] at * <;> omega
theorem sgS_same (s : Bool) (m1 m2 : Nat) : sgS s m1 s m2 = s := by unfold sgS; rw [if_pos rfl]
theorem sgS_ge {s1 s2 : Bool} {m1 m2 : Nat} (h : s1 ≠ s2) (hm : m2 ≤ m1) : sgS s1 m1 s2 m2 = s1 := by unfold sgS; rw [if_neg h, if_pos hm]
theorem sgS_lt {s1 s2 : Bool} {m1 m2 : Nat} (h : s1 ≠ s2) (hm : ¬ m2 ≤ m1) : sgS s1 m1 s2 m2 = s2 := by unfold sgS; rw [if_neg h, if_neg hm]
theorem sgS_and (s1 : Bool) (m1 : Nat) (s2 : Bool) (m2 : Nat) : (sgS s1 m1 s2 m2 && decide (suM s1 m1 s2 m2 ≠ 0)) = suS s1 m1 s2 m2 := by
 rw [Bool.eq_iff_iff]
 simp only [Bool.and_eq_true, decide_eq_true_eq, suS]
 unfold sgS suM
 cases s1 <;> cases s2 <;> simp [sv]
 all_goals omega
theorem suM_le (s1 : Bool) (m1 : Nat) (s2 : Bool) (m2 : Nat) : suM s1 m1 s2 m2 ≤ m1 + m2 := by unfold suM sv; split <;> split <;> omega
theorem bl_add {a b B : Nat} (ha : bl a ≤ B) (hb : bl b ≤ B) : bl (a + b) ≤ B + 1 := by
 have h1 := bl_le.1 ha
 have h2 := bl_le.1 hb
 refine bl_le.2 ?_
 rw [Nat.pow_succ]; omega
theorem bl_suM {s1 : Bool} {m1 : Nat} {s2 : Bool} {m2 B : Nat} (h1 : bl m1 ≤ B) (h2 : bl m2 ≤ B) : bl (suM s1 m1 s2 m2) ≤ B + 1 :=
 Nat.le_trans (bl_mono (suM_le _ _ _ _)) (bl_add h1 h2)
def alE (m1 : Nat) (e1 : Int) (m2 : Nat) (e2 : Int) : Int := if m2 = 0 then e1 else if m1 = 0 then e2 else if e2 < e1 then e2 else e1
def alA (m : Nat) (e E : Int) : Nat := m * 2 ^ (e - E).toNat
def adM (s1 : Bool) (m1 : Nat) (e1 : Int) (s2 : Bool) (m2 : Nat) (e2 : Int) : Nat := suM s1 (alA m1 e1 (alE m1 e1 m2 e2)) s2 (alA m2 e2 (alE m1 e1 m2 e2))
def adS (s1 : Bool) (m1 : Nat) (e1 : Int) (s2 : Bool) (m2 : Nat) (e2 : Int) : Bool := suS s1 (alA m1 e1 (alE m1 e1 m2 e2)) s2 (alA m2 e2 (alE m1 e1 m2 e2))
theorem alE_ge {K : Int} {m1 : Nat} {e1 : Int} {m2 : Nat} {e2 : Int} (h1 : K ≤ e1) (h2 : K ≤ e2) : K ≤ alE m1 e1 m2 e2 := by
 unfold alE
 repeat' split
 all_goals omega
theorem alE_le {K : Int} {m1 : Nat} {e1 : Int} {m2 : Nat} {e2 : Int} (h1 : e1 ≤ K) (h2 : e2 ≤ K) : alE m1 e1 m2 e2 ≤ K := by
 unfold alE
 repeat' split
 all_goals omega
theorem alA_dv {K : Nat} {s : Bool} {m : Nat} {e E : Int} (hE : -(K : Int) ≤ E) (h : m ≠ 0 → E ≤ e) : sv s (alA m e E) * 2 ^ (E + K).toNat = dv K s m e := by
 by_cases h0 : m = 0
 ·subst h0; unfold alA; rw [Nat.zero_mul, sv_zero, dv_zero, Int.zero_mul]
 ·have := h h0
  unfold alA dv
  have e1 : (e + K).toNat = (e - E).toNat + (E + K).toNat := by omega
  rw [e1, Int.pow_add, sv_mul, Int.natCast_pow, Int.mul_assoc]; rfl
theorem bl_alA {m B : Nat} {e E : Int} {C : Nat} (h : bl m ≤ B) (hk : e - E ≤ C) : bl (alA m e E) ≤ B + C := by
 have := bl_up m (e - E).toNat
 unfold alA; omega
end Go.Ab
namespace Go.Ab
open Go Go.Proofs
set_option linter.unusedVariables false
set_option linter.unusedSimpArgs false
theorem con_minusN (a b : Nat) (h : b ≤ a) (la : (lim a).length ≤ 1000000) : Con Tryz.prog 284 false [.sl (lim (a)).length (ints (lim (a))), .sl (lim (b)).length (ints (lim (b)))] [] (numF (lim (a - b))) := by
 have := (con_minus false (lim a) (lim b) (gd_lim a) (gd_lim b) la (lim_mono h) (by rw [vl_lim, vl_lim]; omega)).num
 rwa [toN_sub] at this
theorem con_signedSum (s1 : Bool) (m1 : Nat) (s2 : Bool) (m2 : Nat) (l1 : (lim m1).length ≤ 1000000) (l2 : (lim m2).length ≤ 1000000) :
  Con Tryz.prog 239 false [.v (.bool s1), .sl (lim (m1)).length (ints (lim (m1))), .v (.bool s2), .sl (lim (m2)).length (ints (lim (m2)))] [] (isA (.tu [.v (.bool (sgS s1 m1 s2 m2)), .sl (lim (suM s1 m1 s2 m2)).length (ints (lim (suM s1 m1 s2 m2)))])) := by
 refine Con.frzA ?_
 have hge : (0 ≤ cmpI (m1 : Int) (m2 : Int)) ↔ m2 ≤ m1 := by rw [cmp_pos.2.2]; omega
 refine Con.of_aw Tryz.func239 rfl Tryz.ntmps239 (by simp) (by simp) (by simp) (W.sound ?_)
 show @W Tryz.prog 31 ⟨_⟩ ⟨fun x σ => @retW _ _ _ ⟨_⟩ _ ⟨_⟩ x σ⟩ _ _
 simp (disch := omega) only [go_sem]
 refine ifW_b (fun h1 => ?_) (fun h1 => ?_)
 ·have h1' : s1 = s2 := by simpa using h1
  simp (disch := omega) only [go_sem, h1]
  subst h1'
  refine call_oI (con_plusN m1 m2 (by omega) (by omega)) ?_
  simp (disch := omega) only [go_sem]
  refine fin_val (by simp (disch := omega) only [go_sem]) ?_
  show snap _ 6 _ = _
  rw [sgS_same, suM_same]
  simp (disch := omega) only [go_sem]
 ·have h1' : s1 ≠ s2 := by simpa using h1
  simp (disch := omega) only [go_sem, h1]
  refine call_cI (con_compare m1 m2 (by omega) (by omega)) ?_
  simp (disch := omega) only [go_sem]
  refine ifW_dec (fun h2 => ?_) (fun h2 => ?_)
  ·have h2' : m2 ≤ m1 := hge.1 (by omega)
   simp (disch := omega) only [go_sem, h2]
   refine call_oI (con_minusN m1 m2 h2' (by omega)) ?_
   simp (disch := omega) only [go_sem]
   refine fin_val (by simp (disch := omega) only [go_sem]) ?_
   show snap _ 6 _ = _
   rw [sgS_ge h1' h2', suM_ge h1' h2']
   simp (disch := omega) only [go_sem]
  ·have h2' : ¬ m2 ≤ m1 := fun h => h2 (by have := hge.2 h; omega)
   simp (disch := omega) only [go_sem, h2]
   refine call_oI (con_minusN m2 m1 (by omega) (by omega)) ?_
   simp (disch := omega) only [go_sem]
   refine fin_val (by simp (disch := omega) only [go_sem]) ?_
   show snap _ 6 _ = _
   rw [sgS_lt h1' h2', suM_lt h1' h2']
   simp (disch := omega) only [go_sem]
theorem con_aligned (s1 : Bool) (m1 : Nat) (e1 : Int) (s2 : Bool) (m2 : Nat) (e2 : Int) (h1 : bl m1 ≤ 4000000) (h2 : bl m2 ≤ 4000000) (he1 : -1000000 ≤ e1 ∧ e1 ≤ 1000000) (he2 : -1000000 ≤ e2 ∧ e2 ≤ 1000000) :
  Con Tryz.prog 183 false [.ag [.v (.bool (s1)), .sl (lim (m1)).length (ints (lim (m1))), .v (.int .i64 (e1))], .ag [.v (.bool (s2)), .sl (lim (m2)).length (ints (lim (m2))), .v (.int .i64 (e2))]] [] (isA (.tu [.sl (lim (alA m1 e1 (alE m1 e1 m2 e2))).length (ints (lim (alA m1 e1 (alE m1 e1 m2 e2)))), .sl (lim (alA m2 e2 (alE m1 e1 m2 e2))).length (ints (lim (alA m2 e2 (alE m1 e1 m2 e2)))), .v (.int .i64 (alE m1 e1 m2 e2))])) := by
 refine Con.frzA ?_
 have l1 := len_bl h1
 have l2 := len_bl h2
 have hE := alE_ge (m1 := m1) (m2 := m2) he1.1 he2.1
 have hE2 := alE_le (m1 := m1) (m2 := m2) he1.2 he2.2
 have x1 : ∀ d : Int, (if 0 > d then 0 else d) = ((d.toNat : Nat) : Int) := fun d => by split <;> omega
 refine Con.of_aw Tryz.func183 rfl Tryz.ntmps183 (by simp) (by simp) (by simp) (W.sound ?_)
 show @W Tryz.prog 42 ⟨_⟩ ⟨fun x σ => @retW _ _ _ ⟨_⟩ _ ⟨_⟩ x σ⟩ _ _
 simp (disch := omega) only [go_sem]
 refine ifW_dec (fun c1 => ?_) (fun c1 => ?_)
 ·have z1 : m1 = 0 := lim_eq_nil.1 (List.length_eq_zero_iff.1 (by omega))
  simp (disch := omega) only [go_sem, c1]
  refine ifW_dec (fun c2 => ?_) (fun c2 => ?_)
  ·have z2 : m2 = 0 := lim_eq_nil.1 (List.length_eq_zero_iff.1 (by omega))
   have eE : alE m1 e1 m2 e2 = e1 := by unfold alE; rw [if_pos z2]
   simp (disch := omega) only [go_sem, c2]
   refine draw_of rfl [⟨0, [], []⟩, ⟨1, [], []⟩, ⟨2, [1], []⟩, ⟨3, [1], []⟩, ⟨4, [1, 3], []⟩, ⟨5, [1], []⟩, ⟨6, [1], []⟩, ⟨8, [1, 3], []⟩, ⟨9, [1, 3], []⟩, ⟨10, [1, 3, 9], []⟩, ⟨11, [1, 3, 9], []⟩, ⟨12, [1, 3, 9, 11], []⟩, ⟨13, [1, 3, 9], []⟩, ⟨14, [1, 3, 9], []⟩, ⟨16, [1, 3, 9, 11], []⟩, ⟨7, [9, 11], []⟩, ⟨15, [], []⟩, ⟨17, [], []⟩, ⟨18, [], []⟩, ⟨19, [], []⟩] (by kernel_rfl) ?_
   simp (disch := omega) only [go_sem, x1]
   refine call_oI (con_upN m1 (e1 - e1).toNat (by omega) (by omega)) ?_ (by simp (disch := omega) only [go_sem, x1])
   simp (disch := omega) only [go_sem]
   refine call_oI (con_upN m2 (e2 - e1).toNat (by omega) (by omega)) ?_ (by simp (disch := omega) only [go_sem, x1])
   simp (disch := omega) only [go_sem]
   refine fin_val (by simp (disch := omega) only [go_sem]) ?_
   show snap _ 6 _ = _
   rw [eE]; unfold alA
   simp (disch := omega) only [go_sem]
  ·have z2 : m2 ≠ 0 := fun e => c2 (by rw [e, lim_zero]; rfl)
   have eE : alE m1 e1 m2 e2 = e2 := by unfold alE; rw [if_neg z2, if_pos z1]
   simp (disch := omega) only [go_sem, c2]
   refine draw_of rfl [⟨0, [], []⟩, ⟨1, [], []⟩, ⟨2, [1], []⟩, ⟨3, [1], []⟩, ⟨4, [1, 3], []⟩, ⟨5, [1], []⟩, ⟨6, [1], []⟩, ⟨8, [1, 3], []⟩, ⟨9, [1, 3], []⟩, ⟨10, [1, 3, 9], []⟩, ⟨11, [1, 3, 9], []⟩, ⟨12, [1, 3, 9, 11], []⟩, ⟨13, [1, 3, 9], []⟩, ⟨14, [1, 3, 9], []⟩, ⟨16, [1, 3, 9, 11], []⟩, ⟨7, [9, 11], []⟩, ⟨15, [], []⟩, ⟨17, [], []⟩, ⟨18, [], []⟩, ⟨19, [], []⟩] (by kernel_rfl) ?_
   simp (disch := omega) only [go_sem, x1]
   refine call_oI (con_upN m1 (e1 - e2).toNat (by omega) (by omega)) ?_ (by simp (disch := omega) only [go_sem, x1])
   simp (disch := omega) only [go_sem]
   refine call_oI (con_upN m2 (e2 - e2).toNat (by omega) (by omega)) ?_ (by simp (disch := omega) only [go_sem, x1])
   simp (disch := omega) only [go_sem]
   refine fin_val (by simp (disch := omega) only [go_sem]) ?_
   show snap _ 6 _ = _
   rw [eE]; unfold alA
   simp (disch := omega) only [go_sem]
 ·have z1 : m1 ≠ 0 := fun e => c1 (by rw [e, lim_zero]; rfl)
  simp (disch := omega) only [go_sem, c1]
  refine ifW_dec (fun c2 => ?_) (fun c2 => ?_)
  ·have z2 : m2 = 0 := lim_eq_nil.1 (List.length_eq_zero_iff.1 (by omega))
   have eE : alE m1 e1 m2 e2 = e1 := by unfold alE; rw [if_pos z2]
   simp (disch := omega) only [go_sem, c2]
   refine draw_of rfl [⟨0, [], []⟩, ⟨1, [], []⟩, ⟨2, [1], []⟩, ⟨3, [1], []⟩, ⟨4, [1, 3], []⟩, ⟨5, [1], []⟩, ⟨6, [1], []⟩, ⟨8, [1, 3], []⟩, ⟨9, [1, 3], []⟩, ⟨10, [1, 3, 9], []⟩, ⟨11, [1, 3, 9], []⟩, ⟨12, [1, 3, 9, 11], []⟩, ⟨13, [1, 3, 9], []⟩, ⟨14, [1, 3, 9], []⟩, ⟨16, [1, 3, 9, 11], []⟩, ⟨7, [9, 11], []⟩, ⟨15, [], []⟩, ⟨17, [], []⟩, ⟨18, [], []⟩, ⟨19, [], []⟩] (by kernel_rfl) ?_
   simp (disch := omega) only [go_sem, x1]
   refine call_oI (con_upN m1 (e1 - e1).toNat (by omega) (by omega)) ?_ (by simp (disch := omega) only [go_sem, x1])
   simp (disch := omega) only [go_sem]
   refine call_oI (con_upN m2 (e2 - e1).toNat (by omega) (by omega)) ?_ (by simp (disch := omega) only [go_sem, x1])
   simp (disch := omega) only [go_sem]
   refine fin_val (by simp (disch := omega) only [go_sem]) ?_
   show snap _ 6 _ = _
   rw [eE]; unfold alA
   simp (disch := omega) only [go_sem]
  ·have z2 : m2 ≠ 0 := fun e => c2 (by rw [e, lim_zero]; rfl)
   have eE : (if e2 < e1 then e2 else e1) = alE m1 e1 m2 e2 := by unfold alE; rw [if_neg z2, if_neg z1]
   simp (disch := omega) only [go_sem, c2, eE]
   refine draw_of rfl [⟨0, [], []⟩, ⟨1, [], []⟩, ⟨2, [1], []⟩, ⟨3, [1], []⟩, ⟨4, [1, 3], []⟩, ⟨5, [1], []⟩, ⟨6, [1], []⟩, ⟨8, [1, 3], []⟩, ⟨9, [1, 3], []⟩, ⟨10, [1, 3, 9], []⟩, ⟨11, [1, 3, 9], []⟩, ⟨12, [1, 3, 9, 11], []⟩, ⟨13, [1, 3, 9], []⟩, ⟨14, [1, 3, 9], []⟩, ⟨16, [1, 3, 9, 11], []⟩, ⟨7, [9, 11], []⟩, ⟨15, [], []⟩, ⟨17, [], []⟩, ⟨18, [], []⟩, ⟨19, [], []⟩] (by kernel_rfl) ?_
   simp (disch := omega) only [go_sem, x1, eE]
   refine call_oI (con_upN m1 (e1 - alE m1 e1 m2 e2).toNat (by omega) (by omega)) ?_ (by simp (disch := omega) only [go_sem, x1, eE])
   simp (disch := omega) only [go_sem]
   refine call_oI (con_upN m2 (e2 - alE m1 e1 m2 e2).toNat (by omega) (by omega)) ?_ (by simp (disch := omega) only [go_sem, x1, eE])
   simp (disch := omega) only [go_sem]
   refine fin_val (by simp (disch := omega) only [go_sem]) ?_
   show snap _ 6 _ = _
   unfold alA
   simp (disch := omega) only [go_sem]
theorem con_plusX (s1 : Bool) (m1 : Nat) (e1 : Int) (s2 : Bool) (m2 : Nat) (e2 : Int) (h1 : bl m1 ≤ 4000000) (h2 : bl m2 ≤ 4000000) (he1 : -1000000 ≤ e1 ∧ e1 ≤ 1000000) (he2 : -1000000 ≤ e2 ∧ e2 ≤ 1000000) :
  Con Tryz.prog 162 false [.ag [.v (.bool (s1)), .sl (lim (m1)).length (ints (lim (m1))), .v (.int .i64 (e1))], .ag [.v (.bool (s2)), .sl (lim (m2)).length (ints (lim (m2))), .v (.int .i64 (e2))]] [] (isA (.ag [.v (.bool (adS s1 m1 e1 s2 m2 e2)), .sl (lim (adM s1 m1 e1 s2 m2 e2)).length (ints (lim (adM s1 m1 e1 s2 m2 e2))), .v (.int .i64 (alE m1 e1 m2 e2))])) := by
 refine Con.frzA ?_
 have hE := alE_ge (m1 := m1) (m2 := m2) he1.1 he2.1
 have b1 := bl_alA (e := e1) (E := alE m1 e1 m2 e2) (C := 2000000) h1 (by omega)
 have b2 := bl_alA (e := e2) (E := alE m1 e1 m2 e2) (C := 2000000) h2 (by omega)
 have l1 := len_bl b1
 have l2 := len_bl b2
 refine Con.of_w (rs := [.cell 4 90]) Tryz.func162 rfl Tryz.ntmps162 rfl ?_
 simp (disch := omega) only [go_sem]
 refine call_oI (con_aligned s1 m1 e1 s2 m2 e2 h1 h2 he1 he2) ?_
 simp (disch := omega) only [go_sem]
 unfold adS adM
 generalize alA m1 e1 (alE m1 e1 m2 e2) = A at *
 generalize alA m2 e2 (alE m1 e1 m2 e2) = B at *
 generalize alE m1 e1 m2 e2 = E at *
 refine call_oI (con_signedSum s1 A s2 B (by omega) (by omega)) ?_
 simp (disch := omega) only [go_sem]
 have hb := bl_suM (s1 := s1) (s2 := s2) b1 b2
 have hl : (lim (suM s1 A s2 B)).length ≤ 2000000 := by have := len_bl hb; omega
 have hq : decide ((0 : Int) < ((lim (suM s1 A s2 B)).length : Int)) = decide (suM s1 A s2 B ≠ 0) := by
  rw [decide_eq_decide]
  exact ⟨fun h e => by rw [e, lim_zero] at h; simp at h, fun h => by have := lim_ne h; omega⟩
 rw [← sgS_and]
 refine ifW_b (fun h3 => ?_) (fun h3 => ?_)
 ·simp (disch := omega) only [go_sem, h3, hq]
  exact fin_frz (hp := by simp (disch := omega) only [go_sem, h3, Bool.true_and])
 ·simp (disch := omega) only [go_sem, h3]
  exact fin_frz (hp := by simp (disch := omega) only [go_sem, h3, Bool.false_and])
end Go.Ab
namespace Go.Ab
open Go Go.Proofs
set_option linter.unusedVariables false
set_option linter.unusedSimpArgs false
def boolR (b : Bool) : AV → List Ob → List Ob → Prop := fun r hs bs => r = .v (.bool b) ∧ hs = []
theorem con_natok1 (x : Int) : Con Tryz.prog 267 true [.v (.int .i64 x)] [] (boolR (decide (0 ≤ x) && decide (x ≤ 65535))) := by
 refine Con.of_aw Tryz.func267 rfl Tryz.ntmps267 (by simp) (by simp) (by simp) (W.sound ?_)
 show @W Tryz.prog 5 ⟨_⟩ ⟨fun x σ => @retW _ _ _ ⟨_⟩ _ ⟨_⟩ x σ⟩ _ _
 simp (disch := omega) only [go_sem]
 refine call_closed (con_within x 0 65535) (by simp (disch := omega) only [go_sem]) ?_
 rintro r hs ⟨rfl, rfl⟩
 refine ⟨by simp [freeN], ?_⟩
 simp (disch := omega) only [go_sem]
 refine fin_intro [] [] [] [.v (.bool (decide (0 ≤ x) && decide (x ≤ 65535)))] rfl (by simp (disch := omega) only [go_sem]) (by simp (disch := omega) only [go_sem]) (by simp) (by simp [AV.pu, tupA]) ⟨rfl, rfl⟩
theorem con_areall1 (g : Nat) (p : Int → Bool) (x : Int) (hf : Con Tryz.prog g true [.v (.int .i64 x)] [] (boolR (p x))) (hg : fnOk Tryz.prog g) :
  Con Tryz.prog 294 true [.v (.int .i64 x), .fp [.fn g []] 0] [] (boolR (!p x)) := by
 refine Con.of_aw Tryz.func294 rfl Tryz.ntmps294 (by simp) (by simp) (by simp) (W.sound ?_)
 show @W Tryz.prog 8 ⟨_⟩ ⟨fun x σ => @retW _ _ _ ⟨_⟩ _ ⟨_⟩ x σ⟩ _ _
 simp (disch := omega) only [go_sem]
 refine ⟨hg, call_closed hf (by simp (disch := omega) only [go_sem]) ?_⟩
 rintro r hs ⟨rfl, rfl⟩
 refine ⟨by simp [freeN], ?_⟩
 simp (disch := omega) only [go_sem]
 refine fin_intro [] [] [] [.v (.bool (!p x))] rfl (by simp (disch := omega) only [go_sem]) (by simp (disch := omega) only [go_sem]) (by simp) (by simp [AV.pu, tupA]) ⟨rfl, rfl⟩
theorem con_index1 (f : Nat) (caps : List AV) (p : Int → Bool) (xs : List Int) (hl : xs.length ≤ 2 ^ 40) (hf : ∀ x, Con Tryz.prog f true (.v (.int .i64 x) :: caps) [] (boolR (p x))) (hg : fnOk Tryz.prog f)
  (hc : ∀ h : Nat → Ob, caps.map (snap h 6) = caps) (hc5 : ∀ h : Nat → Ob, caps.map (snap h 5) = caps) (hn : ∀ ks, AllL (memK ks) caps) (hr : ∀ ρ, renL ρ caps = caps) :
  Con Tryz.prog 305 true [.sl xs.length (ints xs), .fn f caps] [] (fun r hs bs => ∃ i : Int, r = .v (.int .i64 i) ∧ hs = [] ∧ (0 ≤ i ↔ ∃ x ∈ xs, p x = true)) := by
 refine Con.of_aw Tryz.func305 rfl Tryz.ntmps305 (by simp) (by simp) (by simp) (W.sound ?_)
 show @W Tryz.prog 19 ⟨_⟩ ⟨fun x σ => @retW _ _ _ ⟨_⟩ _ ⟨_⟩ x σ⟩ _ _
 simp (disch := omega) only [go_sem]
 refine loop_intro (fun i : Nat => [(0, .sl xs.length (ints xs)), (1, .fn f caps), (6, .sl xs.length (ints xs)), (7, .v (.int .i64 xs.length)), (8, .v (.int .i64 i))])
  (fun _ => []) (fun i => i ≤ xs.length ∧ ∀ j, j < i → p (xs.getD j 0) = false) (fun i => xs.length - i) 0 ⟨by omega, fun j hj => by omega⟩ (Le.lst [] _ _ rfl (by simp (disch := omega) only [go_sem, hr, hn]) (by simp (disch := omega) only [go_sem])) ?_
 rintro i ⟨hi, hp⟩
 simp (disch := omega) only [go_sem]
 refine ifW_dec (fun h1 => ?_) (fun h1 => ?_)
 ·simp (disch := omega) only [go_sem, h1]
  refine ⟨by omega, by omega, hg, call_closed (hf (xs.getD i 0)) (by simp (disch := omega) only [go_sem, hc, hc5]) ?_⟩
  rintro r hs ⟨rfl, rfl⟩
  refine ⟨by simp [freeN], ?_⟩
  simp (disch := omega) only [go_sem]
  refine ifW_b (fun h2 => ?_) (fun h2 => ?_)
  ·simp (disch := omega) only [go_sem, h2]
   refine fin_intro [] [] [] [.v (.int .i64 i)] rfl (by simp (disch := omega) only [go_sem]) (by simp (disch := omega) only [go_sem]) (by simp) (by simp [AV.pu, tupA]) ⟨i, rfl, rfl, ?_⟩
   refine ⟨fun _ => ⟨xs.getD i 0, ?_, h2⟩, fun _ => by omega⟩
   rw [List.getD_eq_getElem?_getD, List.getElem?_eq_getElem (by omega)]; exact List.getElem_mem _
  ·simp (disch := omega) only [go_sem, h2]
   refine next_intro (i + 1) [] ⟨by omega, fun j hj => ?_⟩ (by show xs.length - (i + 1) < xs.length - i; omega) rfl (by simp (disch := omega) only [go_sem, hr, hn]; try omega) (by simp (disch := omega) only [go_sem])
   rcases (by omega : j < i ∨ j = i) with h | h
   ·exact hp j h
   ·subst h; exact h2
 ·simp (disch := omega) only [go_sem, h1]
  refine fin_intro [] [] [] [.v (.int .i64 (-1))] rfl (by simp (disch := omega) only [go_sem]) (by simp (disch := omega) only [go_sem]) (by simp) (by simp [AV.pu, tupA]) ⟨-1, rfl, rfl, ?_⟩
  refine ⟨fun h => by omega, fun ⟨x, hx, hpx⟩ => ?_⟩
  obtain ⟨j, hj, rfl⟩ := List.getElem_of_mem hx
  have := hp j (by omega)
  rw [List.getD_eq_getElem?_getD, List.getElem?_eq_getElem hj] at this
  simp only [Option.getD_some] at this
  rw [this] at hpx; cases hpx
theorem con_contains1 (f : Nat) (caps : List AV) (p : Int → Bool) (xs : List Int) (hl : xs.length ≤ 2 ^ 40) (hf : ∀ x, Con Tryz.prog f true (.v (.int .i64 x) :: caps) [] (boolR (p x))) (hg : fnOk Tryz.prog f)
  (hc : ∀ h : Nat → Ob, caps.map (snap h 6) = caps) (hc5 : ∀ h : Nat → Ob, caps.map (snap h 5) = caps) (hn : ∀ ks, AllL (memK ks) caps) (hr : ∀ ρ, renL ρ caps = caps) :
  Con Tryz.prog 293 true [.sl xs.length (ints xs), .fn f caps] [] (boolR (xs.any p)) := by
 refine Con.of_aw Tryz.func293 rfl Tryz.ntmps293 (by simp) (by simp) (by simp) (W.sound ?_)
 show @W Tryz.prog 9 ⟨_⟩ ⟨fun x σ => @retW _ _ _ ⟨_⟩ _ ⟨_⟩ x σ⟩ _ _
 simp (disch := omega) only [go_sem]
 refine call_closed (con_index1 f caps p xs hl hf hg hc hc5 hn hr) (by simp (disch := omega) only [go_sem, hc, hc5]) ?_
 rintro r hs ⟨i, rfl, rfl, hi⟩
 refine ⟨by simp [freeN], ?_⟩
 simp (disch := omega) only [go_sem]
 refine fin_intro [] [] [] [.v (.bool (decide (0 ≤ i)))] rfl (by simp (disch := omega) only [go_sem]) (by simp (disch := omega) only [go_sem]) (by simp) (by simp [AV.pu, tupA]) ⟨?_, rfl⟩
 have : decide (0 ≤ i) = xs.any p := by rw [Bool.eq_iff_iff, decide_eq_true_eq, hi, List.any_eq_true]
 rw [this]; rfl
theorem con_areall (g : Nat) (p : Int → Bool) (xs : List Int) (hl : xs.length ≤ 2 ^ 40) (hf : ∀ x, Con Tryz.prog g true [.v (.int .i64 x)] [] (boolR (p x))) (hg : fnOk Tryz.prog g) :
  Con Tryz.prog 266 true [.sl xs.length (ints xs), .fn g []] [] (boolR (xs.all p)) := by
 refine Con.of_aw Tryz.func266 rfl Tryz.ntmps266 (by simp) (by simp) (by simp) (W.sound ?_)
 show @W Tryz.prog 9 ⟨_⟩ ⟨fun x σ => @retW _ _ _ ⟨_⟩ _ ⟨_⟩ x σ⟩ _ _
 simp (disch := omega) only [go_sem]
 refine call_closed (con_contains1 294 [.fp [.fn g []] 0] (fun x => !p x) xs hl (fun x => con_areall1 g p x (hf x) hg) (by simp (disch := omega) only [go_sem]) (fun h => rfl) (fun h => rfl) (fun ks => by simp (disch := omega) only [go_sem]) (fun ρ => rfl)) (by simp (disch := omega) only [go_sem]) ?_
 rintro r hs ⟨rfl, rfl⟩
 refine ⟨by simp [freeN], ?_⟩
 simp (disch := omega) only [go_sem]
 refine fin_intro [] [] [] [.v (.bool (!xs.any fun x => !p x))] rfl (by simp (disch := omega) only [go_sem]) (by simp (disch := omega) only [go_sem]) (by simp) (by simp [AV.pu, tupA]) ⟨?_, rfl⟩
 have : (!xs.any fun x => !p x) = xs.all p := by rw [List.all_eq_not_any_not]
 rw [this]; rfl
end Go.Ab
namespace Go.Ab
open Go Go.Proofs
set_option linter.unusedVariables false
set_option linter.unusedSimpArgs false
theorem con_natok (xs : List Int) (hl : xs.length ≤ 2 ^ 40) : Con Tryz.prog 214 true [.ag [.sl xs.length (ints xs)]] [] (boolR (natB xs)) := by
 refine Con.of_aw Tryz.func214 rfl Tryz.ntmps214 (by simp) (by simp) (by simp) (W.sound ?_)
 show @W Tryz.prog 29 ⟨_⟩ ⟨fun x σ => @retW _ _ _ ⟨_⟩ _ ⟨_⟩ x σ⟩ _ _
 have en : ((xs.length : Int) - 1).toNat = xs.length - 1 := by omega
 simp (disch := omega) only [go_sem]
 refine ifW_dec (fun h1 => ?_) (fun h1 => ?_)
 ·simp (disch := omega) only [go_sem, h1]
  refine call_closed (con_areall 267 (fun x => decide (0 ≤ x) && decide (x ≤ 65535)) xs hl con_natok1 (by simp (disch := omega) only [go_sem])) (by simp (disch := omega) only [go_sem]) ?_
  rintro r hs ⟨rfl, rfl⟩
  refine ⟨by simp [freeN], ?_⟩
  simp (disch := omega) only [go_sem]
  refine ifW_b (fun h2 => ?_) (fun h2 => ?_)
  ·simp (disch := omega) only [go_sem, h2]
   refine ifW_not (fun h3 => ?_) (fun h3 => ?_)
   ·simp (disch := omega) only [go_sem, h3, en]
    refine ⟨by omega, by omega, ?_⟩
    refine fin_valc (by simp (disch := omega) only [go_sem]) (by simp (disch := omega) only [go_sem]) ⟨?_, rfl⟩
    have e1 : decide (xs.length ≤ 100) = true := by simp; omega
    have e2 : decide (xs.length = 0) = false := by simp; intro h; subst h; simp at h3
    show AV.v (.bool _) = AV.v (.bool _)
    unfold natB
    rw [e1, h2, e2]
    simp
   ·simp (disch := omega) only [go_sem, h3]
    refine fin_valc (by simp (disch := omega) only [go_sem]) (by simp (disch := omega) only [go_sem]) ⟨?_, rfl⟩
    have e1 : decide (xs.length ≤ 100) = true := by simp; omega
    have e2 : decide (xs.length = 0) = true := by simp; exact List.length_eq_zero_iff.1 (by omega)
    show AV.v (.bool _) = AV.v (.bool _)
    unfold natB
    rw [e1, h2, e2]
    simp
  ·simp (disch := omega) only [go_sem, h2]
   refine fin_valc (by simp (disch := omega) only [go_sem]) (by simp (disch := omega) only [go_sem]) ⟨?_, rfl⟩
   show AV.v (.bool _) = AV.v (.bool _)
   unfold natB
   rw [h2]; simp
 ·simp (disch := omega) only [go_sem, h1]
  exact fin_valc (by simp (disch := omega) only [go_sem]) (by simp (disch := omega) only [go_sem]) ⟨by simp [natB, tupA]; omega, rfl⟩
end Go.Ab
namespace Go.Ab
open Go Go.Proofs
set_option linter.unusedVariables false
set_option linter.unusedSimpArgs false
theorem Con.boolI {P : Program} {f : FuncId} {args : List AV} {b : Bool} (h : Con P f true args [] (boolR b)) : Con P f true args [] (isA (.v (.bool b))) :=
 (Con.len h).mono fun r hs bs ⟨⟨h1, h2⟩, h3⟩ => ⟨h1, h2, h3⟩
theorem con_withinI (n lo hi : Int) : Con Tryz.prog 100 true [.v (.int .i64 n), .v (.int .i64 lo), .v (.int .i64 hi)] [] (isA (.v (.bool (decide (lo ≤ n) && decide (n ≤ hi))))) :=
 Con.boolI (con_within n lo hi)
theorem con_natokI (xs : List Int) (hl : xs.length ≤ 2 ^ 40) : Con Tryz.prog 214 true [.ag [.sl xs.length (ints xs)]] [] (isA (.v (.bool (natB xs)))) := Con.boolI (con_natok xs hl)
theorem con_wholeok (s : Bool) (xs : List Int) (hl : xs.length ≤ 2 ^ 40) : Con Tryz.prog 141 true [.ag [.v (.bool s), .sl xs.length (ints xs)]] [] (isA (.v (.bool (wholeB s xs)))) := by
 refine Con.of_aw Tryz.func141 rfl Tryz.ntmps141 (by simp) (by simp) (by simp) (W.sound ?_)
 show @W Tryz.prog 18 ⟨_⟩ ⟨fun x σ => @retW _ _ _ ⟨_⟩ _ ⟨_⟩ x σ⟩ _ _
 simp (disch := omega) only [go_sem]
 refine call_cI (con_natokI xs hl) ?_
 simp (disch := omega) only [go_sem]
 repeat' first
  | simp (disch := omega) only [go_sem, *]
  | (with_reducible refine ifW_dec (fun _ => ?_) (fun _ => ?_))
  | (with_reducible refine ifW_not (fun _ => ?_) (fun _ => ?_))
  | (with_reducible refine ifW_nb (fun _ => ?_) (fun _ => ?_))
  | (with_reducible refine ifW_b (fun _ => ?_) (fun _ => ?_))
 all_goals exact fin_valc (by simp (disch := omega) only [go_sem]) (by simp (disch := omega) only [go_sem]) ⟨by simp_all [tupA, wholeB] <;> omega, rfl, rfl⟩
theorem con_hasKind (k ka ma ea kb mb eb : Int) (sa sb : Bool) : Con Tryz.prog 108 true [.v (.int .i64 k), .ag [.v (.int .i64 (ka)), .v (.bool (sa)), .v (.int .i64 (ma)), .v (.int .i64 (ea))], .ag [.v (.int .i64 (kb)), .v (.bool (sb)), .v (.int .i64 (mb)), .v (.int .i64 (eb))]] [] (isA (.v (.bool (decide (ka = k) || decide (kb = k))))) := by
 refine Con.of_aw Tryz.func108 rfl Tryz.ntmps108 (by simp) (by simp) (by simp) (W.sound ?_)
 show @W Tryz.prog 17 ⟨_⟩ ⟨fun x σ => @retW _ _ _ ⟨_⟩ _ ⟨_⟩ x σ⟩ _ _
 simp (disch := omega) only [go_sem]
 repeat' first
  | simp (disch := omega) only [go_sem, *]
  | (with_reducible refine ifW_dec (fun _ => ?_) (fun _ => ?_))
  | (with_reducible refine ifW_not (fun _ => ?_) (fun _ => ?_))
  | (with_reducible refine ifW_nb (fun _ => ?_) (fun _ => ?_))
  | (with_reducible refine ifW_b (fun _ => ?_) (fun _ => ?_))
 all_goals exact fin_valc (by simp (disch := omega) only [go_sem]) (by simp (disch := omega) only [go_sem]) ⟨by simp_all [tupA] <;> omega, rfl, rfl⟩
theorem con_nan : Con Tryz.prog 107 true [] [] (isA (.ag [.v (.int .i64 (3)), .v (.bool (false)), .v (.int .i64 (0)), .v (.int .i64 (0))])) := by
 refine Con.of_w (rs := [.cell 0 63]) Tryz.func107 rfl Tryz.ntmps107 rfl ?_
 simp (disch := omega) only [go_sem]
 exact fin_cI
theorem con_zero (s : Bool) : Con Tryz.prog 110 true [.v (.bool s)] [] (isA (.ag [.v (.int .i64 (0)), .v (.bool (s)), .v (.int .i64 (0)), .v (.int .i64 (0))])) := by
 refine Con.of_w (rs := [.cell 2 63]) Tryz.func110 rfl Tryz.ntmps110 rfl ?_
 simp (disch := omega) only [go_sem]
 exact fin_cI
theorem con_infinity (s : Bool) : Con Tryz.prog 109 true [.v (.bool s)] [] (isA (.ag [.v (.int .i64 (2)), .v (.bool (s)), .v (.int .i64 (0)), .v (.int .i64 (0))])) := by
 refine Con.of_w (rs := [.cell 2 63]) Tryz.func109 rfl Tryz.ntmps109 rfl ?_
 simp (disch := omega) only [go_sem]
 exact fin_cI
def ovB (s : Bool) (mode : Int) : Bool := decide (mode = 1) || ((decide (mode = 2) && s) || (decide (mode = 3) && !s))
theorem con_overflow (s : Bool) (mode : Int) : Con Tryz.prog 194 true [.v (.bool s), .v (.int .i64 mode)] [] (isA (.tu [.ag [.v (.int .i64 (if ovB s mode then 1 else 2)), .v (.bool s), .v (.int .i64 (if ovB s mode then 9007199254740991 else 0)), .v (.int .i64 (if ovB s mode then 971 else 0))], .v (.int .i64 3)])) := by
 refine Con.of_aw Tryz.func194 rfl Tryz.ntmps194 (by simp) (by simp) (by simp) (W.sound ?_)
 show @W Tryz.prog 29 ⟨_⟩ ⟨fun x σ => @retW _ _ _ ⟨_⟩ _ ⟨_⟩ x σ⟩ _ _
 simp (disch := omega) only [go_sem]
 refine call_cI (con_infinity s) ?_
 simp (disch := omega) only [go_sem]
 repeat' first
  | simp (disch := omega) only [go_sem, *]
  | (with_reducible refine ifW_dec (fun _ => ?_) (fun _ => ?_))
  | (with_reducible refine ifW_not (fun _ => ?_) (fun _ => ?_))
  | (with_reducible refine ifW_nb (fun _ => ?_) (fun _ => ?_))
  | (with_reducible refine ifW_b (fun _ => ?_) (fun _ => ?_))
 all_goals exact fin_valc (by simp (disch := omega) only [go_sem]) (by simp (disch := omega) only [go_sem]) ⟨by simp_all [tupA, ovB] <;> omega, rfl, rfl⟩
def flB (k : Int) (s : Bool) (m e : Int) : Bool :=
 if k = 1 then (decide (-1074 ≤ e) && decide (e ≤ 971)) && ((decide (4503599627370496 ≤ m) && decide (m ≤ 9007199254740991)) || ((decide (1 ≤ m) && decide (m ≤ 4503599627370495)) && decide (e = -1074)))
 else if k = 0 ∨ k = 2 then decide (m = 0) && decide (e = 0) else ((decide (k = 3) && decide (m = 0)) && decide (e = 0)) && !s
theorem con_flok (k : Int) (s : Bool) (m e : Int) : Con Tryz.prog 113 true [.ag [.v (.int .i64 (k)), .v (.bool (s)), .v (.int .i64 (m)), .v (.int .i64 (e))]] [] (isA (.v (.bool (flB k s m e)))) := by
 refine Con.of_aw Tryz.func113 rfl Tryz.ntmps113 (by simp) (by simp) (by simp) (W.sound ?_)
 show @W Tryz.prog 54 ⟨_⟩ ⟨fun x σ => @retW _ _ _ ⟨_⟩ _ ⟨_⟩ x σ⟩ _ _
 simp (disch := omega) only [go_sem]
 refine ifW_dec (fun h1 => ?_) (fun h1 => ?_)
 ·simp (disch := omega) only [go_sem, h1]
  refine call_cI (con_withinI e (-1074) 971) ?_
  simp (disch := omega) only [go_sem]
  refine ifW_b (fun h2 => ?_) (fun h2 => ?_)
  ·simp (disch := omega) only [go_sem, h2]
   refine call_cI (con_withinI m 4503599627370496 9007199254740991) ?_
   simp (disch := omega) only [go_sem]
   refine ifW_nb (fun h3 => ?_) (fun h3 => ?_)
   ·simp (disch := omega) only [go_sem, h3]
    refine call_cI (con_withinI m 1 4503599627370495) ?_
    simp (disch := omega) only [go_sem]
    refine ifW_b (fun h4 => ?_) (fun h4 => ?_)
    ·simp (disch := omega) only [go_sem, h4]
     refine fin_valc (by simp (disch := omega) only [go_sem]) (by simp (disch := omega) only [go_sem]) ⟨?_, rfl, rfl⟩
     show AV.v (.bool _) = AV.v (.bool _)
     unfold flB; rw [if_pos h1, h2, h3, h4]; rfl
    ·simp (disch := omega) only [go_sem, h4]
     refine fin_valc (by simp (disch := omega) only [go_sem]) (by simp (disch := omega) only [go_sem]) ⟨?_, rfl, rfl⟩
     show AV.v (.bool _) = AV.v (.bool _)
     unfold flB; rw [if_pos h1, h2, h3, h4]; rfl
   ·simp (disch := omega) only [go_sem, h3]
    refine fin_valc (by simp (disch := omega) only [go_sem]) (by simp (disch := omega) only [go_sem]) ⟨?_, rfl, rfl⟩
    show AV.v (.bool _) = AV.v (.bool _)
    unfold flB; rw [if_pos h1, h2, h3]; rfl
  ·simp (disch := omega) only [go_sem, h2]
   refine fin_valc (by simp (disch := omega) only [go_sem]) (by simp (disch := omega) only [go_sem]) ⟨?_, rfl, rfl⟩
   show AV.v (.bool _) = AV.v (.bool _)
   unfold flB; rw [if_pos h1, h2]; rfl
 ·repeat' first
   | simp (disch := omega) only [go_sem, *]
   | (with_reducible refine ifW_dec (fun _ => ?_) (fun _ => ?_))
   | (with_reducible refine ifW_not (fun _ => ?_) (fun _ => ?_))
   | (with_reducible refine ifW_nb (fun _ => ?_) (fun _ => ?_))
   | (with_reducible refine ifW_b (fun _ => ?_) (fun _ => ?_))
  all_goals exact fin_valc (by simp (disch := omega) only [go_sem]) (by simp (disch := omega) only [go_sem]) ⟨by simp_all [tupA, flB] <;> omega, rfl, rfl⟩
end Go.Ab
namespace Go.Ab
open Go Go.Proofs
set_option linter.unusedVariables false
set_option linter.unusedSimpArgs false
def flLow (top : Int) : Int := if -1074 > top - 53 then -1074 else top - 53
def flE (rm : Nat) (re : Int) : Int := flLow ((bl rm : Int) + re)
def flM (rm : Nat) (re : Int) : Nat := oM rm * 2 ^ (oE rm re - flE rm re).toNat
def flFlags (top : Int) (same : Bool) : Int := if same then 0 else if top ≤ -1022 then 5 else 1
def flK (s : Bool) (mode : Int) (rm : Nat) (re : Int) : Int := if rm = 0 then 0 else if 1024 < (bl rm : Int) + re then (if ovB s mode then 1 else 2) else 1
def flMm (s : Bool) (mode : Int) (rm : Nat) (re : Int) : Int := if rm = 0 then 0 else if 1024 < (bl rm : Int) + re then (if ovB s mode then 9007199254740991 else 0) else (flM rm re : Int)
def flEe (s : Bool) (mode : Int) (rm : Nat) (re : Int) : Int := if rm = 0 then 0 else if 1024 < (bl rm : Int) + re then (if ovB s mode then 971 else 0) else flE rm re
def flFl (top : Int) (same : Bool) (rm : Nat) (re : Int) : Int := if rm ≠ 0 ∧ 1024 < (bl rm : Int) + re then 3 else flFlags top same
theorem or_add {a b k : Nat} (h : a < 2 ^ k) : a ||| b * 2 ^ k = a + b * 2 ^ k := by
 have := Nat.two_pow_add_eq_or_of_lt h b
 rw [Nat.or_comm, Nat.mul_comm b, ← this, Nat.add_comm]
theorem flM_lt {rm : Nat} {re : Int} (h0 : rm ≠ 0) (he : flE rm re ≤ oE rm re) : bl (flM rm re) ≤ 53 := by
 have h1 : oM rm ≠ 0 := fun e => h0 (oM_eq_zero.1 e)
 have h2 := bl_oM h0
 unfold flM
 rw [bl_mul_pow h1]
 unfold flE flLow oE at *
 rw [if_neg h0] at *
 split at he <;> split <;> omega
set_option maxRecDepth 100000 in
theorem con_floatOf (s : Bool) (top mode : Int) (f : Nat) (caps : List AV) (rs same : Bool) (rm : Nat) (re : Int) (ht : -1000000 ≤ top ∧ top ≤ 1000000) (hf : Con Tryz.prog f false (.v (.int .i64 (flLow top)) :: caps) [] (isA (.tu [.ag [.v (.bool (rs)), .sl (lim (rm)).length (ints (lim (rm))), .v (.int .i64 (re))], .v (.bool same)]))) (hg : fnOk Tryz.prog f = True)
  (hc : ∀ h : Nat → Ob, caps.map (snap h 6) = caps) (hm : bl rm ≤ 4000000) (hre : -1000000 ≤ re ∧ re ≤ 1000000) (he : rm ≠ 0 → (bl rm : Int) + re ≤ 1024 → flE rm re ≤ oE rm re) :
  Con Tryz.prog 117 true [.v (.bool s), .v (.int .i64 top), .v (.int .i64 mode), .fn f caps] []
   (isA (.tu [.ag [.v (.int .i64 (flK s mode rm re)), .v (.bool (s)), .v (.int .i64 (flMm s mode rm re)), .v (.int .i64 (flEe s mode rm re))], .v (.int .i64 (flFl top same rm re))])) := by
 refine Con.of_aw Tryz.func117 rfl Tryz.ntmps117 (by simp) (by simp) (by simp) (W.sound ?_)
 show @W Tryz.prog 77 ⟨_⟩ ⟨fun x σ => @retW _ _ _ ⟨_⟩ _ ⟨_⟩ x σ⟩ _ _
 have elow : (if -1074 > top - 53 then (-1074 : Int) else top - 53) = flLow top := rfl
 have elow2 : -2000000 ≤ flLow top ∧ flLow top ≤ 2000000 := by unfold flLow; split <;> omega
 simp (disch := omega) only [go_sem, elow, hg]
 refine call_open hf (by simp (disch := omega) only [go_sem, hc]) ?_
 rintro r hs ⟨rfl, rfl, _⟩
 refine ⟨by simp [freeN], ?_⟩
 simp (disch := omega) only [go_sem]
 refine ifW_nb (fun h1 => ?_) (fun h1 => ?_)
 ·simp (disch := omega) only [go_sem, h1]
  refine ifW_dec (fun h2 => ?_) (fun h2 => ?_)
  ·have hfl : flFlags top same = 5 := by unfold flFlags; rw [h1, if_pos h2]; rfl
   have e5 : ((1 ||| 4 : Nat) : Int) = 5 := rfl
   simp (disch := omega) only [go_sem, h2, e5]
   refine call_oI (con_odd rs rm re (by omega) (by omega)) ?_
   simp (disch := omega) only [go_sem]
   refine call_cI (con_isZero (oS rs rm) (oM rm) (oE rm re)) ?_
   simp (disch := omega) only [go_sem]
   refine ifW_dec (fun h3 => ?_) (fun h3 => ?_)
   ·have h0 : rm = 0 := oM_eq_zero.1 h3
    simp (disch := omega) only [go_sem, h3]
    refine call_cI (con_zero s) ?_
    simp (disch := omega) only [go_sem]
    refine fin_valc (by simp (disch := omega) only [go_sem]) (by simp (disch := omega) only [go_sem]) ⟨?_, rfl, rfl⟩
    simp [tupA, flK, flMm, flEe, flFl, h0, hfl]
   ·have h0 : rm ≠ 0 := fun e => h3 (by rw [e]; exact oM_zero)
    have hlo : (lim (oM rm)).length ≤ 2 ^ 40 := by have := len_bl (Nat.le_trans (bl_mono (oM_le rm)) hm); omega
    have hblo := bl_oM h0
    have hoE : oE rm re = re + tz rm := by unfold oE; rw [if_neg h0]
    have etop : (if oM rm = 0 then (0 : Int) else (bl (oM rm) : Int) + oE rm re) = (bl rm : Int) + re := by rw [if_neg h3, hoE]; omega
    simp (disch := omega) only [go_sem, h3]
    refine call_cI (con_topX (oS rs rm) (oM rm) (oE rm re) hlo (by omega)) ?_
    simp (disch := omega) only [go_sem]
    refine ifW_dec (fun h4 => ?_) (fun h4 => ?_)
    ·simp (disch := omega) only [go_sem, h4, etop]
     refine call_cI (con_overflow s mode) ?_
     simp (disch := omega) only [go_sem]
     rw [etop] at h4
     refine fin_valc (by simp (disch := omega) only [go_sem]) (by simp (disch := omega) only [go_sem]) ⟨?_, rfl, rfl⟩
     simp [tupA, flK, flMm, flEe, flFl, h0, h4]
    ·rw [etop] at h4
     have he' := he h0 (by omega)
     have hM := flM_lt h0 he'
     have eE : (if -1074 > (bl rm : Int) + re - 53 then (-1074 : Int) else (bl rm : Int) + re - 53) = flE rm re := rfl
     have eE2 : -2000000 ≤ flE rm re ∧ flE rm re ≤ 2000000 := by unfold flE flLow; split <;> omega
     have ek : oE rm re - flE rm re = (((oE rm re - flE rm re).toNat : Nat) : Int) := by omega
     have hML := len_bl hM
     simp (disch := omega) only [go_sem, h4, etop]
     refine call_cI (con_topX (oS rs rm) (oM rm) (oE rm re) hlo (by omega)) ?_
     simp (disch := omega) only [go_sem]
     simp (disch := omega) only [go_sem, etop, eE]
     refine call_open (con_upN (oM rm) (oE rm re - flE rm re).toNat (by have := len_bl (Nat.le_trans (bl_mono (oM_le rm)) hm); omega) (by omega)) (by simp (disch := omega) only [go_sem, etop, eE, ← ek]) ?_
     rintro r hs ⟨rfl, rfl, _⟩
     refine ⟨by simp [freeN], ?_⟩
     simp (disch := omega) only [go_sem]
     generalize hLM : flM rm re = M at *
     have eM : oM rm * 2 ^ (oE rm re - flE rm re).toNat = M := hLM
     have hM6 : M < 2 ^ 53 := Nat.lt_of_lt_of_le (bl_lt M) (Nat.pow_le_pow_right (by omega) hM)
     have htk : ∀ i, i ≤ (lim M).length → 0 ≤ vl ((lim M).take i) ∧ vl ((lim M).take i) < 2 ^ 53 := fun i hi => by
      have h1 := vl_nonneg (gd_take (gd_lim M) i)
      have h2 := vl_take_drop (lim M) i hi
      have hp : (0 : Int) < 65536 ^ i := Int.pow_pos (by omega)
      have h3 := Int.mul_nonneg (Int.le_of_lt hp) (vl_nonneg (gd_drop (gd_lim M) i))
      rw [vl_lim] at h2
      omega
     refine loop_intro (fun i : Nat => [(0, .v (.bool s)), (8, .pt 100000000 0), (12, .v (.int .i64 5)), (13, .v (.int .i64 (flE rm re))), (14, .v (.int .i64 (vl ((lim M).take i)))), (58, .sl (lim M).length (ints (lim M))), (59, .v (.int .i64 (lim M).length)), (60, .v (.int .i64 i))])
      (fun _ => [(100000000, .own 0 [.v (.int .i64 0), .v (.bool false), .v (.int .i64 0), .v (.int .i64 0)])]) (fun i => i ≤ (lim M).length) (fun i => (lim M).length - i) 0 (by omega)
      (Le.lst [] _ _ rfl (by simp (disch := omega) only [go_sem, etop, eE, eM, vl, List.take_zero, e5]; try omega) (by simp (disch := omega) only [go_sem])) ?_
     intro i hi
     have hti := htk i hi
     simp (disch := omega) only [go_sem]
     refine ifW_dec (fun h5 => ?_) (fun h5 => ?_)
     ·have hti2 := htk (i + 1) (by omega)
      have hx := gd_getD (gd_lim M) i
      have hts := vl_take_succ (l := lim M) (i := i) (by omega)
      have hi3 : i ≤ 3 := by omega
      have es : (min ((16 : Int) * (i : Int)).toNat 64) = 16 * i := by omega
      have ep : (2 : Int) ^ (16 * i) = 65536 ^ i := by rw [Int.pow_mul]; rfl
      have hp : (0 : Int) < 65536 ^ i := Int.pow_pos (by omega)
      have hnn := Int.mul_nonneg (Int.le_of_lt hp) hx.1
      have hcm : (lim M).getD i 0 * 65536 ^ i = 65536 ^ i * (lim M).getD i 0 := Int.mul_comm _ _
      have hmul : 0 ≤ (lim M).getD i 0 * 65536 ^ i ∧ (lim M).getD i 0 * 65536 ^ i < 2 ^ 53 := by omega
      have eor : (((vl ((lim M).take i)).toNat ||| ((lim M).getD i 0 * 65536 ^ i).toNat : Nat) : Int) = vl ((lim M).take (i + 1)) := by
       obtain ⟨a, ha⟩ := Int.eq_ofNat_of_zero_le hti.1
       obtain ⟨b, hb⟩ := Int.eq_ofNat_of_zero_le hx.1
       have hlt := vl_lt (gd_take (gd_lim M) i)
       rw [List.length_take, Nat.min_eq_left hi] at hlt
       rw [hts, ← hcm, ha, hb]
       have e1 : (b : Int) * 65536 ^ i = ((b * 2 ^ (16 * i) : Nat) : Int) := by rw [← pow16, Int.natCast_mul, Int.natCast_pow]; rfl
       rw [e1, Int.toNat_natCast, Int.toNat_natCast, or_add, Int.natCast_add]
       rw [ha, show ((65536 : Int) ^ i) = ((2 ^ (16 * i) : Nat) : Int) by rw [← pow16, Int.natCast_pow]; rfl] at hlt
       omega
      simp (disch := omega) only [go_sem, h5]
      simp (disch := omega) only [go_sem, es, ep, wrap_id]
      simp (disch := omega) only [go_sem, eor]
      refine ⟨by omega, by omega, by omega, next_intro (i + 1) [] (by show i + 1 ≤ _; omega) (by show (lim M).length - (i + 1) < (lim M).length - i; omega) rfl (by simp (disch := omega) only [go_sem]; try omega) (by simp (disch := omega) only [go_sem])⟩
     ·have : i = (lim M).length := by omega
      subst this
      have evl : vl ((lim M).take (lim M).length) = (M : Int) := by rw [List.take_length, vl_lim]
      simp (disch := omega) only [go_sem, h5, evl]
      refine fin_valc (by simp (disch := omega) only [go_sem]) (by simp (disch := omega) only [go_sem]) ⟨?_, rfl, rfl⟩
      simp [tupA, flK, flMm, flEe, flFl, h0, h4, hfl, hLM, vl_lim]
  ·have hfl : flFlags top same = 1 := by unfold flFlags; rw [h1, if_neg h2]; rfl
   have e5 := (rfl : (0 : Nat) = 0)
   simp (disch := omega) only [go_sem, h2]
   refine call_oI (con_odd rs rm re (by omega) (by omega)) ?_
   simp (disch := omega) only [go_sem]
   refine call_cI (con_isZero (oS rs rm) (oM rm) (oE rm re)) ?_
   simp (disch := omega) only [go_sem]
   refine ifW_dec (fun h3 => ?_) (fun h3 => ?_)
   ·have h0 : rm = 0 := oM_eq_zero.1 h3
    simp (disch := omega) only [go_sem, h3]
    refine call_cI (con_zero s) ?_
    simp (disch := omega) only [go_sem]
    refine fin_valc (by simp (disch := omega) only [go_sem]) (by simp (disch := omega) only [go_sem]) ⟨?_, rfl, rfl⟩
    simp [tupA, flK, flMm, flEe, flFl, h0, hfl]
   ·have h0 : rm ≠ 0 := fun e => h3 (by rw [e]; exact oM_zero)
    have hlo : (lim (oM rm)).length ≤ 2 ^ 40 := by have := len_bl (Nat.le_trans (bl_mono (oM_le rm)) hm); omega
    have hblo := bl_oM h0
    have hoE : oE rm re = re + tz rm := by unfold oE; rw [if_neg h0]
    have etop : (if oM rm = 0 then (0 : Int) else (bl (oM rm) : Int) + oE rm re) = (bl rm : Int) + re := by rw [if_neg h3, hoE]; omega
    simp (disch := omega) only [go_sem, h3]
    refine call_cI (con_topX (oS rs rm) (oM rm) (oE rm re) hlo (by omega)) ?_
    simp (disch := omega) only [go_sem]
    refine ifW_dec (fun h4 => ?_) (fun h4 => ?_)
    ·simp (disch := omega) only [go_sem, h4, etop]
     refine call_cI (con_overflow s mode) ?_
     simp (disch := omega) only [go_sem]
     rw [etop] at h4
     refine fin_valc (by simp (disch := omega) only [go_sem]) (by simp (disch := omega) only [go_sem]) ⟨?_, rfl, rfl⟩
     simp [tupA, flK, flMm, flEe, flFl, h0, h4]
    ·rw [etop] at h4
     have he' := he h0 (by omega)
     have hM := flM_lt h0 he'
     have eE : (if -1074 > (bl rm : Int) + re - 53 then (-1074 : Int) else (bl rm : Int) + re - 53) = flE rm re := rfl
     have eE2 : -2000000 ≤ flE rm re ∧ flE rm re ≤ 2000000 := by unfold flE flLow; split <;> omega
     have ek : oE rm re - flE rm re = (((oE rm re - flE rm re).toNat : Nat) : Int) := by omega
     have hML := len_bl hM
     simp (disch := omega) only [go_sem, h4, etop]
     refine call_cI (con_topX (oS rs rm) (oM rm) (oE rm re) hlo (by omega)) ?_
     simp (disch := omega) only [go_sem]
     simp (disch := omega) only [go_sem, etop, eE]
     refine call_open (con_upN (oM rm) (oE rm re - flE rm re).toNat (by have := len_bl (Nat.le_trans (bl_mono (oM_le rm)) hm); omega) (by omega)) (by simp (disch := omega) only [go_sem, etop, eE, ← ek]) ?_
     rintro r hs ⟨rfl, rfl, _⟩
     refine ⟨by simp [freeN], ?_⟩
     simp (disch := omega) only [go_sem]
     generalize hLM : flM rm re = M at *
     have eM : oM rm * 2 ^ (oE rm re - flE rm re).toNat = M := hLM
     have hM6 : M < 2 ^ 53 := Nat.lt_of_lt_of_le (bl_lt M) (Nat.pow_le_pow_right (by omega) hM)
     have htk : ∀ i, i ≤ (lim M).length → 0 ≤ vl ((lim M).take i) ∧ vl ((lim M).take i) < 2 ^ 53 := fun i hi => by
      have h1 := vl_nonneg (gd_take (gd_lim M) i)
      have h2 := vl_take_drop (lim M) i hi
      have hp : (0 : Int) < 65536 ^ i := Int.pow_pos (by omega)
      have h3 := Int.mul_nonneg (Int.le_of_lt hp) (vl_nonneg (gd_drop (gd_lim M) i))
      rw [vl_lim] at h2
      omega
     refine loop_intro (fun i : Nat => [(0, .v (.bool s)), (8, .pt 100000000 0), (12, .v (.int .i64 1)), (13, .v (.int .i64 (flE rm re))), (14, .v (.int .i64 (vl ((lim M).take i)))), (58, .sl (lim M).length (ints (lim M))), (59, .v (.int .i64 (lim M).length)), (60, .v (.int .i64 i))])
      (fun _ => [(100000000, .own 0 [.v (.int .i64 0), .v (.bool false), .v (.int .i64 0), .v (.int .i64 0)])]) (fun i => i ≤ (lim M).length) (fun i => (lim M).length - i) 0 (by omega)
      (Le.lst [] _ _ rfl (by simp (disch := omega) only [go_sem, etop, eE, eM, vl, List.take_zero, e5]; try omega) (by simp (disch := omega) only [go_sem])) ?_
     intro i hi
     have hti := htk i hi
     simp (disch := omega) only [go_sem]
     refine ifW_dec (fun h5 => ?_) (fun h5 => ?_)
     ·have hti2 := htk (i + 1) (by omega)
      have hx := gd_getD (gd_lim M) i
      have hts := vl_take_succ (l := lim M) (i := i) (by omega)
      have hi3 : i ≤ 3 := by omega
      have es : (min ((16 : Int) * (i : Int)).toNat 64) = 16 * i := by omega
      have ep : (2 : Int) ^ (16 * i) = 65536 ^ i := by rw [Int.pow_mul]; rfl
      have hp : (0 : Int) < 65536 ^ i := Int.pow_pos (by omega)
      have hnn := Int.mul_nonneg (Int.le_of_lt hp) hx.1
      have hcm : (lim M).getD i 0 * 65536 ^ i = 65536 ^ i * (lim M).getD i 0 := Int.mul_comm _ _
      have hmul : 0 ≤ (lim M).getD i 0 * 65536 ^ i ∧ (lim M).getD i 0 * 65536 ^ i < 2 ^ 53 := by omega
      have eor : (((vl ((lim M).take i)).toNat ||| ((lim M).getD i 0 * 65536 ^ i).toNat : Nat) : Int) = vl ((lim M).take (i + 1)) := by
       obtain ⟨a, ha⟩ := Int.eq_ofNat_of_zero_le hti.1
       obtain ⟨b, hb⟩ := Int.eq_ofNat_of_zero_le hx.1
       have hlt := vl_lt (gd_take (gd_lim M) i)
       rw [List.length_take, Nat.min_eq_left hi] at hlt
       rw [hts, ← hcm, ha, hb]
       have e1 : (b : Int) * 65536 ^ i = ((b * 2 ^ (16 * i) : Nat) : Int) := by rw [← pow16, Int.natCast_mul, Int.natCast_pow]; rfl
       rw [e1, Int.toNat_natCast, Int.toNat_natCast, or_add, Int.natCast_add]
       rw [ha, show ((65536 : Int) ^ i) = ((2 ^ (16 * i) : Nat) : Int) by rw [← pow16, Int.natCast_pow]; rfl] at hlt
       omega
      simp (disch := omega) only [go_sem, h5]
      simp (disch := omega) only [go_sem, es, ep, wrap_id]
      simp (disch := omega) only [go_sem, eor]
      refine ⟨by omega, by omega, by omega, next_intro (i + 1) [] (by show i + 1 ≤ _; omega) (by show (lim M).length - (i + 1) < (lim M).length - i; omega) rfl (by simp (disch := omega) only [go_sem]; try omega) (by simp (disch := omega) only [go_sem])⟩
     ·have : i = (lim M).length := by omega
      subst this
      have evl : vl ((lim M).take (lim M).length) = (M : Int) := by rw [List.take_length, vl_lim]
      simp (disch := omega) only [go_sem, h5, evl]
      refine fin_valc (by simp (disch := omega) only [go_sem]) (by simp (disch := omega) only [go_sem]) ⟨?_, rfl, rfl⟩
      simp [tupA, flK, flMm, flEe, flFl, h0, h4, hfl, hLM, vl_lim]
 ·have hfl : flFlags top same = 0 := by unfold flFlags; rw [h1, if_pos rfl]
  have e5 := (rfl : (0 : Nat) = 0)
  simp (disch := omega) only [go_sem, h1]
  refine call_oI (con_odd rs rm re (by omega) (by omega)) ?_
  simp (disch := omega) only [go_sem]
  refine call_cI (con_isZero (oS rs rm) (oM rm) (oE rm re)) ?_
  simp (disch := omega) only [go_sem]
  refine ifW_dec (fun h3 => ?_) (fun h3 => ?_)
  ·have h0 : rm = 0 := oM_eq_zero.1 h3
   simp (disch := omega) only [go_sem, h3]
   refine call_cI (con_zero s) ?_
   simp (disch := omega) only [go_sem]
   refine fin_valc (by simp (disch := omega) only [go_sem]) (by simp (disch := omega) only [go_sem]) ⟨?_, rfl, rfl⟩
   simp [tupA, flK, flMm, flEe, flFl, h0, hfl]
  ·have h0 : rm ≠ 0 := fun e => h3 (by rw [e]; exact oM_zero)
   have hlo : (lim (oM rm)).length ≤ 2 ^ 40 := by have := len_bl (Nat.le_trans (bl_mono (oM_le rm)) hm); omega
   have hblo := bl_oM h0
   have hoE : oE rm re = re + tz rm := by unfold oE; rw [if_neg h0]
   have etop : (if oM rm = 0 then (0 : Int) else (bl (oM rm) : Int) + oE rm re) = (bl rm : Int) + re := by rw [if_neg h3, hoE]; omega
   simp (disch := omega) only [go_sem, h3]
   refine call_cI (con_topX (oS rs rm) (oM rm) (oE rm re) hlo (by omega)) ?_
   simp (disch := omega) only [go_sem]
   refine ifW_dec (fun h4 => ?_) (fun h4 => ?_)
   ·simp (disch := omega) only [go_sem, h4, etop]
    refine call_cI (con_overflow s mode) ?_
    simp (disch := omega) only [go_sem]
    rw [etop] at h4
    refine fin_valc (by simp (disch := omega) only [go_sem]) (by simp (disch := omega) only [go_sem]) ⟨?_, rfl, rfl⟩
    simp [tupA, flK, flMm, flEe, flFl, h0, h4]
   ·rw [etop] at h4
    have he' := he h0 (by omega)
    have hM := flM_lt h0 he'
    have eE : (if -1074 > (bl rm : Int) + re - 53 then (-1074 : Int) else (bl rm : Int) + re - 53) = flE rm re := rfl
    have eE2 : -2000000 ≤ flE rm re ∧ flE rm re ≤ 2000000 := by unfold flE flLow; split <;> omega
    have ek : oE rm re - flE rm re = (((oE rm re - flE rm re).toNat : Nat) : Int) := by omega
    have hML := len_bl hM
    simp (disch := omega) only [go_sem, h4, etop]
    refine call_cI (con_topX (oS rs rm) (oM rm) (oE rm re) hlo (by omega)) ?_
    simp (disch := omega) only [go_sem]
    simp (disch := omega) only [go_sem, etop, eE]
    refine call_open (con_upN (oM rm) (oE rm re - flE rm re).toNat (by have := len_bl (Nat.le_trans (bl_mono (oM_le rm)) hm); omega) (by omega)) (by simp (disch := omega) only [go_sem, etop, eE, ← ek]) ?_
    rintro r hs ⟨rfl, rfl, _⟩
    refine ⟨by simp [freeN], ?_⟩
    simp (disch := omega) only [go_sem]
    generalize hLM : flM rm re = M at *
    have eM : oM rm * 2 ^ (oE rm re - flE rm re).toNat = M := hLM
    have hM6 : M < 2 ^ 53 := Nat.lt_of_lt_of_le (bl_lt M) (Nat.pow_le_pow_right (by omega) hM)
    have htk : ∀ i, i ≤ (lim M).length → 0 ≤ vl ((lim M).take i) ∧ vl ((lim M).take i) < 2 ^ 53 := fun i hi => by
     have h1 := vl_nonneg (gd_take (gd_lim M) i)
     have h2 := vl_take_drop (lim M) i hi
     have hp : (0 : Int) < 65536 ^ i := Int.pow_pos (by omega)
     have h3 := Int.mul_nonneg (Int.le_of_lt hp) (vl_nonneg (gd_drop (gd_lim M) i))
     rw [vl_lim] at h2
     omega
    refine loop_intro (fun i : Nat => [(0, .v (.bool s)), (8, .pt 100000000 0), (12, .v (.int .i64 0)), (13, .v (.int .i64 (flE rm re))), (14, .v (.int .i64 (vl ((lim M).take i)))), (58, .sl (lim M).length (ints (lim M))), (59, .v (.int .i64 (lim M).length)), (60, .v (.int .i64 i))])
     (fun _ => [(100000000, .own 0 [.v (.int .i64 0), .v (.bool false), .v (.int .i64 0), .v (.int .i64 0)])]) (fun i => i ≤ (lim M).length) (fun i => (lim M).length - i) 0 (by omega)
     (Le.lst [] _ _ rfl (by simp (disch := omega) only [go_sem, etop, eE, eM, vl, List.take_zero, e5]; try omega) (by simp (disch := omega) only [go_sem])) ?_
    intro i hi
    have hti := htk i hi
    simp (disch := omega) only [go_sem]
    refine ifW_dec (fun h5 => ?_) (fun h5 => ?_)
    ·have hti2 := htk (i + 1) (by omega)
     have hx := gd_getD (gd_lim M) i
     have hts := vl_take_succ (l := lim M) (i := i) (by omega)
     have hi3 : i ≤ 3 := by omega
     have es : (min ((16 : Int) * (i : Int)).toNat 64) = 16 * i := by omega
     have ep : (2 : Int) ^ (16 * i) = 65536 ^ i := by rw [Int.pow_mul]; rfl
     have hp : (0 : Int) < 65536 ^ i := Int.pow_pos (by omega)
     have hnn := Int.mul_nonneg (Int.le_of_lt hp) hx.1
     have hcm : (lim M).getD i 0 * 65536 ^ i = 65536 ^ i * (lim M).getD i 0 := Int.mul_comm _ _
     have hmul : 0 ≤ (lim M).getD i 0 * 65536 ^ i ∧ (lim M).getD i 0 * 65536 ^ i < 2 ^ 53 := by omega
     have eor : (((vl ((lim M).take i)).toNat ||| ((lim M).getD i 0 * 65536 ^ i).toNat : Nat) : Int) = vl ((lim M).take (i + 1)) := by
      obtain ⟨a, ha⟩ := Int.eq_ofNat_of_zero_le hti.1
      obtain ⟨b, hb⟩ := Int.eq_ofNat_of_zero_le hx.1
      have hlt := vl_lt (gd_take (gd_lim M) i)
      rw [List.length_take, Nat.min_eq_left hi] at hlt
      rw [hts, ← hcm, ha, hb]
      have e1 : (b : Int) * 65536 ^ i = ((b * 2 ^ (16 * i) : Nat) : Int) := by rw [← pow16, Int.natCast_mul, Int.natCast_pow]; rfl
      rw [e1, Int.toNat_natCast, Int.toNat_natCast, or_add, Int.natCast_add]
      rw [ha, show ((65536 : Int) ^ i) = ((2 ^ (16 * i) : Nat) : Int) by rw [← pow16, Int.natCast_pow]; rfl] at hlt
      omega
     simp (disch := omega) only [go_sem, h5]
     simp (disch := omega) only [go_sem, es, ep, wrap_id]
     simp (disch := omega) only [go_sem, eor]
     refine ⟨by omega, by omega, by omega, next_intro (i + 1) [] (by show i + 1 ≤ _; omega) (by show (lim M).length - (i + 1) < (lim M).length - i; omega) rfl (by simp (disch := omega) only [go_sem]; try omega) (by simp (disch := omega) only [go_sem])⟩
    ·have : i = (lim M).length := by omega
     subst this
     have evl : vl ((lim M).take (lim M).length) = (M : Int) := by rw [List.take_length, vl_lim]
     simp (disch := omega) only [go_sem, h5, evl]
     refine fin_valc (by simp (disch := omega) only [go_sem]) (by simp (disch := omega) only [go_sem]) ⟨?_, rfl, rfl⟩
     simp [tupA, flK, flMm, flEe, flFl, h0, h4, hfl, hLM, vl_lim]
end Go.Ab
namespace Go.Ab
open Go
set_option linter.unusedVariables false
def rowA {X : Type} (f : X → List AV) (l : List X) : List AV := (l.map f).flatten
section
variable {X : Type} {f : X → List AV} {z : Nat} {l : List X}
theorem row_nil : rowA f [] = [] := by simp [rowA]
theorem row_cons {x : X} : rowA f (x :: l) = f x ++ rowA f l := by simp [rowA]
theorem row_len (hz : ∀ x, (f x).length = z) : (rowA f l).length = l.length * z := by
 induction l with
 | nil => simp [rowA]
 | cons x r ih => rw [row_cons, List.length_append, hz, ih, List.length_cons, Nat.add_mul, Nat.one_mul, Nat.add_comm]
theorem row_drop (hz : ∀ x, (f x).length = z) (i : Nat) : (rowA f l).drop (i * z) = rowA f (l.drop i) := by
 induction l generalizing i with
 | nil => simp [rowA]
 | cons x r ih =>
  cases i with
  | zero => simp
  | succ i =>
   rw [row_cons, List.drop_succ_cons, ← ih, Nat.add_mul, Nat.one_mul, Nat.add_comm, ← List.drop_drop, List.drop_left' (hz x)]
theorem row_take (hz : ∀ x, (f x).length = z) (i : Nat) : (rowA f l).take (i * z) = rowA f (l.take i) := by
 induction l generalizing i with
 | nil => simp [rowA]
 | cons x r ih =>
  cases i with
  | zero => simp [row_nil]
  | succ i =>
   rw [row_cons, List.take_succ_cons, row_cons, ← ih, Nat.add_mul, Nat.one_mul, Nat.add_comm, ← hz x, List.take_length_add_append]
theorem row_cut (hz : ∀ x, (f x).length = z) (o n : Nat) : cut (rowA f l) (o * z) (n * z) = rowA f ((l.drop o).take n) := by
 rw [cut, row_drop hz, row_take hz]
theorem row_get (hz : ∀ x, (f x).length = z) {i : Nat} (hi : i < l.length) (d : X) : cut (rowA f l) (i * z) z = f (l.getD i d) := by
 have h := row_cut (l := l) hz i 1
 rw [Nat.one_mul] at h
 have e : (l.drop i).take 1 = [l.getD i d] := by
  rw [List.drop_eq_getElem_cons hi, List.getD_eq_getElem?_getD, List.getElem?_eq_getElem hi]; rfl
 rw [h, e, row_cons, row_nil, List.append_nil]
theorem row_ren {ρ : Nat → Nat} (h : ∀ x, renL ρ (f x) = f x) : renL ρ (rowA f l) = rowA f l := by
 induction l with
 | nil => rfl
 | cons x r ih =>
  rw [row_cons]
  have : ∀ a b : List AV, renL ρ (a ++ b) = renL ρ a ++ renL ρ b := fun a b => by simp [renL_map]
  rw [this, h, ih]
theorem row_snap {hp : Nat → Ob} {k : Nat} (h : ∀ x, (f x).map (snap hp k) = f x) : (rowA f l).map (snap hp k) = rowA f l := by
 induction l with
 | nil => rfl
 | cons x r ih => rw [row_cons, List.map_append, h, ih]
theorem row_all {p : Nat → Prop} (h : ∀ x, AllL p (f x)) : AllL p (rowA f l) := by
 induction l with
 | nil => simp [rowA, AllL]
 | cons x r ih => rw [row_cons]; exact AllL.append (h x) ih
theorem load_row {h : Nat → Ob} {sz o : Nat} {K : AV → Prop} : @loadW true sz h (.fp (rowA f l) o) ⟨K⟩ = (o + sz ≤ (rowA f l).length ∧ K (.ag (cut (rowA f l) o sz))) := _root_.id rfl
theorem row_app {l' : List X} : rowA f l ++ rowA f l' = rowA f (l ++ l') := by simp [rowA]
end
structure FlV where
 k : Int
 s : Bool
 m : Int
 e : Int
def FlV.cs (x : FlV) : List AV := [.v (.int .i64 x.k), .v (.bool x.s), .v (.int .i64 x.m), .v (.int .i64 x.e)]
theorem fl_cs4 (x : FlV) : x.cs.length = 4 := rfl
theorem fl_ren {ρ : Nat → Nat} (x : FlV) : renL ρ x.cs = x.cs := rfl
theorem fl_snap {hp : Nat → Ob} {k : Nat} (x : FlV) : x.cs.map (snap hp (k + 1)) = x.cs := rfl
theorem fl_all {p : Nat → Prop} (x : FlV) : AllL p x.cs := by simp [FlV.cs, AllL, AV.All]
theorem fls_len {l : List FlV} : (rowA FlV.cs l).length = l.length * 4 := row_len fl_cs4
theorem fls_ren {ρ : Nat → Nat} {l : List FlV} : renL ρ (rowA FlV.cs l) = rowA FlV.cs l := row_ren fl_ren
theorem fls_snap {hp : Nat → Ob} {k : Nat} {l : List FlV} : (rowA FlV.cs l).map (snap hp (k + 1)) = rowA FlV.cs l := row_snap fl_snap
theorem fls_all {p : Nat → Prop} {l : List FlV} : AllL p (rowA FlV.cs l) = True := eq_true (row_all fl_all)
theorem fls_all' {p : Nat → Prop} {x : FlV} : AllL p x.cs = True := eq_true (fl_all x)
attribute [go_sem] load_row fls_len fls_ren fls_snap fls_all fls_all' fl_ren fl_snap
end Go.Ab
namespace Go.Ab
open Go Go.Proofs
set_option linter.unusedVariables false
set_option linter.unusedSimpArgs false
section
variable (g : Nat) (p : FlV → Bool)
theorem con_allFl1 (x : FlV) (hf : Con Tryz.prog g true [.ag x.cs] [] (isA (.v (.bool (p x))))) (hg : fnOk Tryz.prog g = True) :
  Con Tryz.prog 251 true [.ag x.cs, .fp [.fn g []] 0] [] (isA (.v (.bool (!p x)))) := by
 unfold FlV.cs at hf ⊢
 refine Con.of_w (rs := [.tmp 3]) Tryz.func251 rfl Tryz.ntmps251 rfl ?_
 simp (disch := omega) only [go_sem, hg]
 refine call_closed hf (by simp (disch := omega) only [go_sem]) ?_
 rintro r hs ⟨rfl, rfl, _⟩
 refine ⟨by simp [freeN], ?_⟩
 simp (disch := omega) only [go_sem]
 exact fin_cI
theorem con_indexFl (f : Nat) (caps : List AV) (xs : List FlV) (hl : xs.length ≤ 2 ^ 40) (hf : ∀ x : FlV, Con Tryz.prog f true (.ag x.cs :: caps) [] (isA (.v (.bool (p x))))) (hg : fnOk Tryz.prog f = True)
  (hc : ∀ h : Nat → Ob, caps.map (snap h 6) = caps) (hc5 : ∀ h : Nat → Ob, caps.map (snap h 5) = caps) (hn : ∀ ks, AllL (memK ks) caps) (hr : ∀ ρ, renL ρ caps = caps) :
  Con Tryz.prog 287 true [.sl xs.length (rowA FlV.cs xs), .fn f caps] [] (fun r hs bs => ∃ i : Int, r = .v (.int .i64 i) ∧ hs = [] ∧ (0 ≤ i ↔ ∃ x ∈ xs, p x = true)) := by
 refine Con.of_aw Tryz.func287 rfl Tryz.ntmps287 (by simp) (by simp) (by simp) (W.sound ?_)
 show @W Tryz.prog 19 ⟨_⟩ ⟨fun x σ => @retW _ _ _ ⟨_⟩ _ ⟨_⟩ x σ⟩ _ _
 simp (disch := omega) only [go_sem]
 refine loop_intro (fun i : Nat => [(0, .sl xs.length (rowA FlV.cs xs)), (1, .fn f caps), (6, .sl xs.length (rowA FlV.cs xs)), (7, .v (.int .i64 xs.length)), (8, .v (.int .i64 i))])
  (fun _ => []) (fun i => i ≤ xs.length ∧ ∀ j, j < i → p (xs.getD j ⟨0, false, 0, 0⟩) = false) (fun i => xs.length - i) 0 ⟨by omega, fun j hj => by omega⟩ (Le.lst [] _ _ rfl (by simp (disch := omega) only [go_sem, hr, hn]) (by simp (disch := omega) only [go_sem])) ?_
 rintro i ⟨hi, hp⟩
 simp (disch := omega) only [go_sem]
 refine ifW_dec (fun h1 => ?_) (fun h1 => ?_)
 ·have hcut := row_get (l := xs) fl_cs4 (i := i) (by omega) ⟨0, false, 0, 0⟩
  simp (disch := omega) only [go_sem, h1, hcut, hg]
  refine ⟨by omega, by omega, call_closed (hf (xs.getD i ⟨0, false, 0, 0⟩)) (by simp (disch := omega) only [go_sem, hc, hc5]) ?_⟩
  rintro r hs ⟨rfl, rfl, _⟩
  refine ⟨by simp [freeN], ?_⟩
  simp (disch := omega) only [go_sem]
  refine ifW_b (fun h2 => ?_) (fun h2 => ?_)
  ·simp (disch := omega) only [go_sem, h2]
   refine fin_valc (by simp (disch := omega) only [go_sem]) (by simp (disch := omega) only [go_sem]) ⟨i, rfl, rfl, ?_⟩
   refine ⟨fun _ => ⟨_, ?_, h2⟩, fun _ => by omega⟩
   rw [List.getD_eq_getElem?_getD, List.getElem?_eq_getElem (by omega)]; exact List.getElem_mem _
  ·simp (disch := omega) only [go_sem, h2]
   refine next_intro (i + 1) [] ⟨by omega, fun j hj => ?_⟩ (by show xs.length - (i + 1) < xs.length - i; omega) rfl (by simp (disch := omega) only [go_sem, hr, hn]; try omega) (by simp (disch := omega) only [go_sem])
   rcases (by omega : j < i ∨ j = i) with h | h
   ·exact hp j h
   ·subst h; exact h2
 ·simp (disch := omega) only [go_sem, h1]
  refine fin_valc (by simp (disch := omega) only [go_sem]) (by simp (disch := omega) only [go_sem]) ⟨-1, rfl, rfl, ?_⟩
  refine ⟨fun h => by omega, fun ⟨x, hx, hpx⟩ => ?_⟩
  obtain ⟨j, hj, rfl⟩ := List.getElem_of_mem hx
  have := hp j (by omega)
  rw [List.getD_eq_getElem?_getD, List.getElem?_eq_getElem hj] at this
  simp only [Option.getD_some] at this
  rw [this] at hpx; cases hpx
theorem con_containsFl (f : Nat) (caps : List AV) (xs : List FlV) (hl : xs.length ≤ 2 ^ 40) (hf : ∀ x : FlV, Con Tryz.prog f true (.ag x.cs :: caps) [] (isA (.v (.bool (p x))))) (hg : fnOk Tryz.prog f = True)
  (hc : ∀ h : Nat → Ob, caps.map (snap h 6) = caps) (hc5 : ∀ h : Nat → Ob, caps.map (snap h 5) = caps) (hn : ∀ ks, AllL (memK ks) caps) (hr : ∀ ρ, renL ρ caps = caps) :
  Con Tryz.prog 250 true [.sl xs.length (rowA FlV.cs xs), .fn f caps] [] (isA (.v (.bool (xs.any p)))) := by
 refine Con.of_aw Tryz.func250 rfl Tryz.ntmps250 (by simp) (by simp) (by simp) (W.sound ?_)
 show @W Tryz.prog 9 ⟨_⟩ ⟨fun x σ => @retW _ _ _ ⟨_⟩ _ ⟨_⟩ x σ⟩ _ _
 simp (disch := omega) only [go_sem]
 refine call_closed (con_indexFl p f caps xs hl hf hg hc hc5 hn hr) (by simp (disch := omega) only [go_sem, hc, hc5]) ?_
 rintro r hs ⟨i, rfl, rfl, hi⟩
 refine ⟨by simp [freeN], ?_⟩
 simp (disch := omega) only [go_sem]
 refine fin_valc (by simp (disch := omega) only [go_sem]) (by simp (disch := omega) only [go_sem]) ⟨?_, rfl, rfl⟩
 have : decide (0 ≤ i) = xs.any p := by rw [Bool.eq_iff_iff, decide_eq_true_eq, hi, List.any_eq_true]
 rw [this]; rfl
theorem con_allFl (xs : List FlV) (hl : xs.length ≤ 2 ^ 40) (hf : ∀ x : FlV, Con Tryz.prog g true [.ag x.cs] [] (isA (.v (.bool (p x))))) (hg : fnOk Tryz.prog g = True) :
  Con Tryz.prog 185 true [.sl xs.length (rowA FlV.cs xs), .fn g []] [] (isA (.v (.bool (xs.all p)))) := by
 refine Con.of_aw Tryz.func185 rfl Tryz.ntmps185 (by simp) (by simp) (by simp) (W.sound ?_)
 show @W Tryz.prog 9 ⟨_⟩ ⟨fun x σ => @retW _ _ _ ⟨_⟩ _ ⟨_⟩ x σ⟩ _ _
 simp (disch := omega) only [go_sem]
 refine call_closed (con_containsFl (fun x => !p x) 251 [.fp [.fn g []] 0] xs hl (fun x => con_allFl1 g p x (hf x) hg) (by simp (disch := omega) only [go_sem]) (fun h => rfl) (fun h => rfl) (fun ks => by simp (disch := omega) only [go_sem]) (fun ρ => rfl)) (by simp (disch := omega) only [go_sem]) ?_
 rintro r hs ⟨rfl, rfl, _⟩
 refine ⟨by simp [freeN], ?_⟩
 simp (disch := omega) only [go_sem]
 refine fin_valc (by simp (disch := omega) only [go_sem]) (by simp (disch := omega) only [go_sem]) ⟨?_, rfl, rfl⟩
 have : (!xs.any fun x => !p x) = xs.all p := by rw [List.all_eq_not_any_not]
 rw [this]; rfl
end
def flBV (x : FlV) : Bool := flB x.k x.s x.m x.e
theorem con_areFloats (mode : Int) (xs : List FlV) (hl : xs.length ≤ 2 ^ 40) :
  Con Tryz.prog 106 true [.v (.int .i64 mode), .sl xs.length (rowA FlV.cs xs)] [] (isA (.v (.bool ((decide (0 ≤ mode) && decide (mode ≤ 4)) && xs.all flBV)))) := by
 refine Con.of_aw Tryz.func106 rfl Tryz.ntmps106 (by simp) (by simp) (by simp) (W.sound ?_)
 show @W Tryz.prog 11 ⟨_⟩ ⟨fun x σ => @retW _ _ _ ⟨_⟩ _ ⟨_⟩ x σ⟩ _ _
 simp (disch := omega) only [go_sem]
 refine call_cI (con_isMode mode) ?_
 simp (disch := omega) only [go_sem]
 refine ifW_b (fun h1 => ?_) (fun h1 => ?_)
 ·simp (disch := omega) only [go_sem, h1]
  refine call_cI (con_allFl 113 flBV xs hl (fun x => con_flok x.k x.s x.m x.e) (by simp (disch := omega) only [go_sem])) ?_
  simp (disch := omega) only [go_sem]
  refine fin_valc (by simp (disch := omega) only [go_sem]) (by simp (disch := omega) only [go_sem]) ⟨?_, rfl, rfl⟩
  show AV.v (.bool _) = AV.v (.bool _)
  rw [h1]; rfl
 ·simp (disch := omega) only [go_sem, h1]
  refine fin_valc (by simp (disch := omega) only [go_sem]) (by simp (disch := omega) only [go_sem]) ⟨?_, rfl, rfl⟩
  show AV.v (.bool _) = AV.v (.bool _)
  rw [h1]; rfl
end Go.Ab
namespace Go.Ab
open Go Go.Proofs
set_option linter.unusedVariables false
set_option linter.unusedSimpArgs false
def flV (s : Bool) (m : Nat) (e mode : Int) (z : Bool) : FlV :=
 if m = 0 then ⟨0, z, 0, 0⟩ else
  ⟨flK s mode (roM s m e (flLow (bl m + e)) mode) (roE m e (flLow (bl m + e))), s, flMm s mode (roM s m e (flLow (bl m + e)) mode) (roE m e (flLow (bl m + e))), flEe s mode (roM s m e (flLow (bl m + e)) mode) (roE m e (flLow (bl m + e)))⟩
def flG (s : Bool) (m : Nat) (e mode : Int) : Int :=
 if m = 0 then 0 else flFl (bl m + e) (roX m e (flLow (bl m + e))) (roM s m e (flLow (bl m + e)) mode) (roE m e (flLow (bl m + e)))
theorem ro_form {s : Bool} {m : Nat} {e mode : Int} (h0 : m ≠ 0) :
  roM s m e (flLow (bl m + e)) mode ≠ 0 → flE (roM s m e (flLow (bl m + e)) mode) (roE m e (flLow (bl m + e))) ≤ oE (roM s m e (flLow (bl m + e)) mode) (roE m e (flLow (bl m + e))) := by
 intro hr
 unfold oE
 rw [if_neg hr]
 unfold roM roE at *
 by_cases h : flLow (bl m + e) ≤ e ∨ m = 0
 ·rw [if_pos h, if_pos h]
  have : flLow (bl m + e) ≤ e := h.resolve_right h0
  unfold flE; omega
 ·rw [if_neg h, if_neg h]
  have hlt : e < flLow (bl m + e) := by omega
  have h1 : bl m ≤ 53 + (flLow (bl m + e) - e).toNat := by unfold flLow at *; split at hlt <;> split <;> omega
  have h2 := rnd_form (s := s) (mode := mode) h1
  generalize rq s m (2 ^ (flLow (bl m + e) - e).toNat) mode = q at *
  unfold flE flLow
  split
  ·split <;> omega
  ·split <;> omega
theorem ro_bl {s : Bool} {m : Nat} {e low mode : Int} {B : Nat} (h : bl m ≤ B) : bl (roM s m e low mode) ≤ B + 1 := by
 unfold roM
 split
 ·omega
 ·have h1 := bl_mono (rq_le s m (2 ^ (low - e).toNat) mode)
  have h2 := bl_succ (m / 2 ^ (low - e).toNat)
  have h3 := bl_divle m (2 ^ (low - e).toNat)
  omega
theorem con_timesX (s1 : Bool) (m1 : Nat) (e1 : Int) (s2 : Bool) (m2 : Nat) (e2 : Int) (h1 : bl m1 ≤ 4000000) (h2 : bl m2 ≤ 4000000) (he1 : -2 ^ 40 ≤ e1 ∧ e1 ≤ 2 ^ 40) (he2 : -2 ^ 40 ≤ e2 ∧ e2 ≤ 2 ^ 40) :
  Con Tryz.prog 168 false [.ag [.v (.bool (s1)), .sl (lim (m1)).length (ints (lim (m1))), .v (.int .i64 (e1))], .ag [.v (.bool (s2)), .sl (lim (m2)).length (ints (lim (m2))), .v (.int .i64 (e2))]] [] (isA (.ag [.v (.bool ((s1 != s2) && decide (m1 * m2 ≠ 0))), .sl (lim (m1 * m2)).length (ints (lim (m1 * m2))), .v (.int .i64 (e1 + e2))])) := by
 refine Con.frzA ?_
 refine Con.of_w (rs := [.cell 4 90]) Tryz.func168 rfl Tryz.ntmps168 rfl ?_
 simp (disch := omega) only [go_sem]
 have l1 := len_bl h1
 have l2 := len_bl h2
 refine call_oI (con_timesN m1 m2 (by omega) (by omega)) ?_
 simp (disch := omega) only [go_sem]
 have hl : (lim (m1 * m2)).length ≤ 2000000 := by have := len_bl (Nat.le_trans (bl_mulle m1 m2) (Nat.add_le_add h1 h2)); omega
 have hq : decide ((0 : Int) < ((lim (m1 * m2)).length : Int)) = decide (m1 * m2 ≠ 0) := by
  rw [decide_eq_decide]
  exact ⟨fun h e => by rw [e, lim_zero] at h; simp at h, fun h => by have := lim_ne h; omega⟩
 refine ifW_b (fun h3 => ?_) (fun h3 => ?_)
 ·simp (disch := omega) only [go_sem, h3, hq]
  exact fin_frz (hp := by simp (disch := omega) only [go_sem, h3, Bool.true_and])
 ·simp (disch := omega) only [go_sem, h3]
  exact fin_frz (hp := by simp (disch := omega) only [go_sem, h3, Bool.false_and])
theorem con_flexact (k : Int) (s : Bool) (m : Nat) (e : Int) (hm : m < 2 ^ 63) : Con Tryz.prog 112 false [.ag [.v (.int .i64 (k)), .v (.bool (s)), .v (.int .i64 ((m : Int))), .v (.int .i64 (e))]] [] (isA (.ag [.v (.bool (s && decide (k = 1))), .sl (lim (m)).length (ints (lim (m))), .v (.int .i64 (e))])) := by
 refine Con.frzA ?_
 refine Con.of_w (rs := [.cell 2 90]) Tryz.func112 rfl Tryz.ntmps112 rfl ?_
 simp (disch := omega) only [go_sem]
 refine draw_of rfl [⟨0, [], []⟩, ⟨1, [], []⟩, ⟨2, [], []⟩, ⟨3, [], []⟩, ⟨4, [], []⟩, ⟨5, [], []⟩, ⟨6, [], []⟩, ⟨7, [1, 4], []⟩, ⟨8, [1, 4], []⟩, ⟨10, [1, 4, 8], []⟩, ⟨11, [1, 4, 8], []⟩, ⟨9, [4, 11], []⟩, ⟨12, [], []⟩, ⟨13, [], []⟩] (by kernel_rfl) ?_
 simp (disch := omega) only [go_sem]
 refine ifW_b (fun h3 => ?_) (fun h3 => ?_)
 ·simp (disch := omega) only [go_sem, h3]
  refine call_oI (con_smallN m hm) ?_
  simp (disch := omega) only [go_sem]
  exact fin_frz (hp := by simp (disch := omega) only [go_sem, h3, Bool.true_and])
 ·simp (disch := omega) only [go_sem, h3]
  refine call_oI (con_smallN m hm) ?_
  simp (disch := omega) only [go_sem]
  exact fin_frz (hp := by simp (disch := omega) only [go_sem, h3, Bool.false_and])
end Go.Ab
namespace Go.Ab
open Go Go.Proofs
set_option linter.unusedVariables false
set_option linter.unusedSimpArgs false
theorem con_withinB (n lo hi : Int) : Con Tryz.prog 100 true [.v (.int .i64 n), .v (.int .i64 lo), .v (.int .i64 hi)] [] (isA (.v (.bool (decide (lo ≤ n) && decide (n ≤ hi))))) := con_withinI n lo hi
theorem con_dyok (s : Bool) (xs : List Int) (e : Int) (hl : xs.length ≤ 2 ^ 40) : Con Tryz.prog 63 true [.ag [.v (.bool s), .sl xs.length (ints xs), .v (.int .i64 e)]] [] (isA (.v (.bool (dyB s xs e)))) := by
 refine Con.of_aw Tryz.func63 rfl Tryz.ntmps63 (by simp) (by simp) (by simp) (W.sound ?_)
 show @W Tryz.prog 32 ⟨_⟩ ⟨fun x σ => @retW _ _ _ ⟨_⟩ _ ⟨_⟩ x σ⟩ _ _
 simp (disch := omega) only [go_sem]
 refine call_cI (con_wholeok s xs hl) ?_
 simp (disch := omega) only [go_sem]
 refine ifW_b (fun hw => ?_) (fun h1 => ?_)
 ·have h1 := hw
  simp only [wholeB, Bool.and_eq_true] at h1
  obtain ⟨hx, hll⟩ := natB_lim h1.1
  have hxs : xs = lim (vl xs).toNat := hx
  generalize hm : (vl xs).toNat = m at *
  subst hx
  simp (disch := omega) only [go_sem, hw]
  refine call_cI (con_withinB e (-3000) 3000) ?_
  simp (disch := omega) only [go_sem]
  refine ifW_nb (fun h2 => ?_) (fun h2 => ?_)
  ·simp (disch := omega) only [go_sem, h2]
   refine fin_valc (by simp (disch := omega) only [go_sem]) (by simp (disch := omega) only [go_sem]) ⟨?_, rfl, rfl⟩
   simp [tupA, dyB, hw, h2]
  ·simp (disch := omega) only [go_sem, h2]
   refine call_cI (con_bitOf m 0 (by omega) (by omega) (by omega)) ?_
   simp (disch := omega) only [go_sem]
   refine ifW_not (fun h3 => ?_) (fun h3 => ?_)
   ·have h3' : ¬ m % 2 = 1 := fun h => h3 (by simp; omega)
    simp (disch := omega) only [go_sem, h3]
    refine ifW_dec (fun h4 => ?_) (fun h4 => ?_)
    ·simp (disch := omega) only [go_sem, h4]
     refine fin_valc (by simp (disch := omega) only [go_sem]) (by simp (disch := omega) only [go_sem]) ⟨?_, rfl, rfl⟩
     have h4' : (lim m).length = 0 := by omega
     simp [tupA, dyB, hw, h2, hm, h3', h4']
    ·simp (disch := omega) only [go_sem, h4]
     refine fin_valc (by simp (disch := omega) only [go_sem]) (by simp (disch := omega) only [go_sem]) ⟨?_, rfl, rfl⟩
     have h4' : ¬ (lim m).length = 0 := by omega
     simp [tupA, dyB, hw, h2, hm, h3', h4']
   ·have h3' : m % 2 = 1 := by simp at h3; omega
    simp (disch := omega) only [go_sem, h3]
    refine fin_valc (by simp (disch := omega) only [go_sem]) (by simp (disch := omega) only [go_sem]) ⟨?_, rfl, rfl⟩
    simp [tupA, dyB, hw, h2, hm, h3']
 ·simp (disch := omega) only [go_sem, h1]
  refine fin_valc (by simp (disch := omega) only [go_sem]) (by simp (disch := omega) only [go_sem]) ⟨?_, rfl, rfl⟩
  simp [tupA, dyB, h1]
end Go.Ab
namespace Go.Ab
open Go Go.Proofs
set_option linter.unusedVariables false
set_option linter.unusedSimpArgs false
theorem con_dyexact (s : Bool) (m : Nat) (e : Int) : Con Tryz.prog 66 false [.ag [.v (.bool (s)), .sl (lim (m)).length (ints (lim (m))), .v (.int .i64 (e))]] [] (isA (.ag [.v (.bool (s)), .sl (lim (m)).length (ints (lim (m))), .v (.int .i64 (e))])) := by
 refine Con.frzA ?_
 refine Con.of_w (rs := [.cell 2 90]) Tryz.func66 rfl Tryz.ntmps66 rfl ?_
 simp (disch := omega) only [go_sem]
 exact fin_frz
def modeB (mode : Int) : Bool := decide (0 ≤ mode) && decide (mode ≤ 4)
def dyV : AV → AV := id
end Go.Ab
namespace Go.Ab
open Go Go.Proofs
set_option linter.unusedVariables false
set_option linter.unusedSimpArgs false
theorem con_areFloats2 (mode k1 : Int) (s1 : Bool) (m1 e1 k2 : Int) (s2 : Bool) (m2 e2 : Int) :
  Con Tryz.prog 106 true [.v (.int .i64 mode), .sl 2 [.v (.int .i64 k1), .v (.bool s1), .v (.int .i64 m1), .v (.int .i64 e1), .v (.int .i64 k2), .v (.bool s2), .v (.int .i64 m2), .v (.int .i64 e2)]] []
   (isA (.v (.bool (modeB mode && (flB k1 s1 m1 e1 && flB k2 s2 m2 e2))))) := by
 have := con_areFloats mode [⟨k1, s1, m1, e1⟩, ⟨k2, s2, m2, e2⟩] (by simp)
 simp only [List.all_cons, List.all_nil, Bool.and_true] at this
 exact this
end Go.Ab
namespace Go.Ab
open Go Go.Proofs
set_option linter.unusedVariables false
set_option linter.unusedSimpArgs false
theorem flB_rng {k : Int} {s : Bool} {m e : Int} (h : flB k s m e = true) : (0 ≤ m ∧ m ≤ 9007199254740991) ∧ (-1074 ≤ e ∧ e ≤ 971) ∧ (0 ≤ k ∧ k ≤ 3) ∧ (k ≠ 1 → m = 0 ∧ e = 0) ∧ (k = 1 → 1 ≤ m) ∧ (k = 3 → s = false) := by
 unfold flB at h
 split at h
 ·simp only [Bool.and_eq_true, Bool.or_eq_true, decide_eq_true_eq] at h
  omega
 ·split at h
  ·simp only [Bool.and_eq_true, decide_eq_true_eq] at h
   omega
  ·simp only [Bool.and_eq_true, decide_eq_true_eq, Bool.not_eq_true'] at h
   refine ⟨by omega, by omega, by omega, by omega, by omega, fun _ => h.2⟩
def muS (k1 : Int) (s1 : Bool) (m1 : Int) (k2 : Int) (s2 : Bool) (m2 : Int) : Bool := ((s1 && decide (k1 = 1)) != (s2 && decide (k2 = 1))) && decide (m1.toNat * m2.toNat ≠ 0)
def mulV (k1 : Int) (s1 : Bool) (m1 e1 k2 : Int) (s2 : Bool) (m2 e2 mode : Int) : FlV :=
 if (decide (k1 = 3) || decide (k2 = 3)) = true then ⟨3, false, 0, 0⟩
 else if (decide (k1 = 2) || decide (k2 = 2)) = true then (if (decide (k1 = 0) || decide (k2 = 0)) = true then ⟨3, false, 0, 0⟩ else ⟨2, s1 != s2, 0, 0⟩)
 else flV (muS k1 s1 m1 k2 s2 m2) (m1.toNat * m2.toNat) (e1 + e2) mode (s1 != s2)
def mulG (k1 : Int) (s1 : Bool) (m1 e1 k2 : Int) (s2 : Bool) (m2 e2 mode : Int) : Int :=
 if (decide (k1 = 3) || decide (k2 = 3)) = true then 0
 else if (decide (k1 = 2) || decide (k2 = 2)) = true then (if (decide (k1 = 0) || decide (k2 = 0)) = true then 16 else 0)
 else flG (muS k1 s1 m1 k2 s2 m2) (m1.toNat * m2.toNat) (e1 + e2) mode
end Go.Ab
namespace Go.Ab
open Go Go.Proofs
set_option linter.unusedVariables false
set_option linter.unusedSimpArgs false
section
variable {k1 : Int} {s1 : Bool} {m1 e1 k2 : Int} {s2 : Bool} {m2 e2 mode : Int}
end
theorem con_isFinite (k : Int) (s : Bool) (m e : Int) : Con Tryz.prog 114 true [.ag [.v (.int .i64 (k)), .v (.bool (s)), .v (.int .i64 (m)), .v (.int .i64 (e))]] [] (isA (.v (.bool (decide (k = 0) || decide (k = 1))))) := by
 refine Con.of_aw Tryz.func114 rfl Tryz.ntmps114 (by simp) (by simp) (by simp) (W.sound ?_)
 show @W Tryz.prog 11 ⟨_⟩ ⟨fun x σ => @retW _ _ _ ⟨_⟩ _ ⟨_⟩ x σ⟩ _ _
 simp (disch := omega) only [go_sem]
 repeat' first
  | simp (disch := omega) only [go_sem, *]
  | (with_reducible refine ifW_dec (fun _ => ?_) (fun _ => ?_))
  | (with_reducible refine ifW_not (fun _ => ?_) (fun _ => ?_))
  | (with_reducible refine ifW_nb (fun _ => ?_) (fun _ => ?_))
  | (with_reducible refine ifW_b (fun _ => ?_) (fun _ => ?_))
 all_goals exact fin_valc (by simp (disch := omega) only [go_sem]) (by simp (disch := omega) only [go_sem]) ⟨by simp_all [tupA] <;> omega, rfl, rfl⟩
end Go.Ab
namespace Go.Ab
set_option linter.unusedVariables false
theorem oE_rng {m : Nat} {e lo hi : Int} {B : Nat} (h : bl m ≤ B) (h1 : lo ≤ 0) (h2 : 0 ≤ hi) (he : lo ≤ e ∧ e ≤ hi) : lo ≤ oE m e ∧ oE m e ≤ hi + B := by
 unfold oE
 by_cases h0 : m = 0
 ·rw [if_pos h0]; omega
 ·rw [if_neg h0]; have := tz_lt_bl h0; omega
theorem oM_odd (m : Nat) : oM m % 2 = 1 ∨ oM m = 0 := by
 by_cases h0 : m = 0
 ·exact .inr (oM_eq_zero.2 h0)
 ·exact .inl (odd_part h0).1
theorem oS_z (s : Bool) (m : Nat) : oM m = 0 → oS s m = false := fun h => by unfold oS; rw [if_pos (oM_eq_zero.1 h)]
end Go.Ab
namespace Go.Ab
open Go
theorem bhp_nil (m : Nat) : bhp [] m = .free := by unfold bhp; split <;> simp
theorem Con.enter {P : Program} {f : FuncId} {cl : Bool} {args : List AV} {x : Value} (h : Con P f cl args [] (isA (.v x))) (R : Nat → Prop) (w : World) (vs : Array Value)
  (hlt : ∀ b, R b → b < w.heap.size) (hr : RepA R (fun _ => none) w vs args) (ha : AllL (fun m => bhp [] m ≠ .free) args) (hg : Gd w) :
  Calls P f vs w fun e w' => e = .returned x ∧ Ext (fun _ => False) w w' := by
 have hno : ∀ b, ¬ OwnB (bhp []) (fun _ => none) b := fun b ⟨nm, z, cs, B, e, _⟩ => by rw [bhp_nil] at e; cases e
 have hh : HpOk R (fun _ => none) w (bhp []) :=
  ⟨fun nm => (by rw [bhp_nil]; trivial), fun nm z cs B e => absurd e (by rw [bhp_nil]; simp), fun nm nm' z z' cs cs' B B' e => absurd e (by rw [bhp_nil]; simp), fun nm z cs e => absurd e (by rw [bhp_nil]; simp)⟩
 refine (h R (fun _ => none) w vs hlt hr ha hh ⟨hg, fun g l _ => hno g⟩).mono ?_
 rintro e w' ⟨y, r, hs, bs', R', ι', rfl, ⟨rfl, rfl, rfl⟩, hf⟩
 refine ⟨?_, hf.ext.os, hf.ext.tape, hf.ext.output, hf.ext.size, fun b hb _ => hf.ext.block b hb (hno b)⟩
 cases hf.rep with
 | fr _ _ h => cases h; rfl
theorem Ext.kept {w w' : World} (h : Ext (fun _ => False) w w') (may : MemPlace → Prop) : w.keptBut w' may := by
 refine ⟨h.os, h.output, fun i hi => ?_⟩
 rw [h.block i hi (fun h => h)]
 cases w.heap[i]? with
 | none => trivial
 | some o => cases o with
  | cells c t fr => exact ⟨rfl, rfl, rfl, fun _ _ => rfl⟩
  | map es cl => exact .inr ⟨rfl, rfl⟩
  | _ => rfl
theorem Ext.below {w w' : World} (h : Ext (fun _ => False) w w') : RowKit.Below w.heap.size w w' := ⟨h.os, h.tape, h.output, h.size, fun k hk => h.block k hk (fun h => h)⟩
theorem Ext.trod {H : Type} {enc : TypeId × Value → H} {P : Program} {t : TypeId} {W W' : World} (hw : Ext (fun _ => False) W W') (hl : laidOutB P = true) (hr : P.readableRec t = true) (hrow : t < P.types.size) {v : Value} {d : DataW H} {ps : List MemPlace}
  (h : DataW.Trod enc P W 0 (fun _ => true) true t v d ps) (hlt : ∀ x ∈ ps, x.block < W.heap.size) : DataW.Trod enc P W' 0 (fun b => decide (b < W.heap.size)) true t v d ps :=
 RowKit.Below.trod hl hr hrow h hw.below hlt
theorem cell_blk {w : World} {a : Addr} {v : Value} (h : w.cell? a = some v) : a.block < w.heap.size := by
 rcases Nat.lt_or_ge a.block w.heap.size with h' | h'
 ·exact h'
 ·simp [World.cell?, Array.getElem?_eq_none h'] at h
theorem add_at (b o i : Nat) : (⟨b, o, none⟩ : Addr).add i = ⟨b, o + i, none⟩ := by
 unfold Addr.add
 split
 ·subst_vars; rfl
 ·rfl
theorem frep_nil {R : Nat → Prop} {W : World} : FRep R W (.slice none 0 0) (.sl 0 []) :=
 .sl none 0 0 [] (fun _ => undef) 0 0 (Nat.le_refl _) (fun h => absurd h (by simp)) (fun i h => absurd h (by simp)) (fun i h => absurd h (by simp))
end Go.Ab
namespace Go.Ab
open Go
set_option linter.unusedVariables false
structure DyV where
 s : Bool
 xs : List Int
 e : Int
def DyV.cs (x : DyV) : List AV := [.v (.bool x.s), .sl x.xs.length (ints x.xs), .v (.int .i64 x.e)]
theorem dy_cs3 (x : DyV) : x.cs.length = 3 := rfl
theorem dy_ren {ρ : Nat → Nat} (x : DyV) : renL ρ x.cs = x.cs := rfl
theorem dy_snap {hp : Nat → Ob} {k : Nat} (x : DyV) : x.cs.map (snap hp (k + 1)) = x.cs := rfl
theorem dy_all {p : Nat → Prop} (x : DyV) : AllL p x.cs := by simp [DyV.cs, AllL, AV.All]
theorem dys_len {l : List DyV} : (rowA DyV.cs l).length = l.length * 3 := row_len dy_cs3
theorem dys_ren {ρ : Nat → Nat} {l : List DyV} : renL ρ (rowA DyV.cs l) = rowA DyV.cs l := row_ren dy_ren
theorem dys_snap {hp : Nat → Ob} {k : Nat} {l : List DyV} : (rowA DyV.cs l).map (snap hp (k + 1)) = rowA DyV.cs l := row_snap dy_snap
theorem dys_all {p : Nat → Prop} {l : List DyV} : AllL p (rowA DyV.cs l) = True := eq_true (row_all dy_all)
theorem dys_all' {p : Nat → Prop} {x : DyV} : AllL p x.cs = True := eq_true (dy_all x)
attribute [go_sem] dys_len dys_ren dys_snap dys_all dys_all' dy_ren dy_snap
end Go.Ab
namespace Go.Ab
open Go
/-! ### The simplifier's words for truth values -/
theorem b_tt : (true == true) = true := _root_.id rfl
theorem b_ff : (false == false) = true := _root_.id rfl
theorem b_tf : (true == false) = false := _root_.id rfl
theorem b_ft : (false == true) = false := _root_.id rfl
theorem n_tt : (true != true) = false := _root_.id rfl
theorem n_ff : (false != false) = false := _root_.id rfl
theorem n_tf : (true != false) = true := _root_.id rfl
theorem n_ft : (false != true) = true := _root_.id rfl
theorem o_t (b : Bool) : (true || b) = true := _root_.id rfl
theorem o_f (b : Bool) : (false || b) = b := _root_.id rfl
theorem o_t' (b : Bool) : (b || true) = true := by cases b <;> rfl
theorem o_f' (b : Bool) : (b || false) = b := by cases b <;> rfl
theorem a_t (b : Bool) : (true && b) = b := _root_.id rfl
theorem a_f (b : Bool) : (false && b) = false := _root_.id rfl
theorem a_t' (b : Bool) : (b && true) = b := by cases b <;> rfl
theorem a_f' (b : Bool) : (b && false) = false := by cases b <;> rfl
attribute [go_sem] b_tt b_ff b_tf b_ft n_tt n_ff n_tf n_ft o_t o_f
attribute [go_sem] o_t' o_f' a_t a_f a_t' a_f'
theorem bin_fle {P : Program} {t : TypeId} [h : FlE P t] {k m e k' m' e' : Int} {s s' : Bool} {K : AV → Prop} :
  @binW P .eql t (.ag [.v (.int .i64 k), .v (.bool s), .v (.int .i64 m), .v (.int .i64 e)]) (.ag [.v (.int .i64 k'), .v (.bool s'), .v (.int .i64 m'), .v (.int .i64 e')]) ⟨K⟩ = K (.v (.bool (flEq k s m e k' s' m' e'))) :=
 propext ⟨fun g => g.2, fun g => ⟨h, g⟩⟩
theorem bin_fln {P : Program} {t : TypeId} [h : FlE P t] {k m e k' m' e' : Int} {s s' : Bool} {K : AV → Prop} :
  @binW P .neq t (.ag [.v (.int .i64 k), .v (.bool s), .v (.int .i64 m), .v (.int .i64 e)]) (.ag [.v (.int .i64 k'), .v (.bool s'), .v (.int .i64 m'), .v (.int .i64 e')]) ⟨K⟩ = K (.v (.bool (!flEq k s m e k' s' m' e'))) :=
 propext ⟨fun g => g.2, fun g => ⟨h, g⟩⟩
attribute [go_sem] bin_fle bin_fln
/-! ### Bits of any numbers -/
def xorI (x y : Int) : Int := IntKind.i64.wrap (BitVec.ofInt IntKind.i64.bits x ^^^ BitVec.ofInt IntKind.i64.bits y).toNat
theorem bin_xor {x y : Int} {P : Program} {t : Nat} {K : AV → Prop} : @binW P .xor t (.v (.int .i64 x)) (.v (.int .i64 y)) ⟨K⟩ = K (.v (.int .i64 (xorI x y))) := by
 simp only [binW, binA, intA, true_and]; rfl
theorem ofInt_toNat (x : Int) : ((BitVec.ofInt 64 x).toNat : Int) = x % 18446744073709551616 := by
 rw [BitVec.toNat_ofInt]; omega
theorem bin_and255 {x : Int} {P : Program} {t : Nat} {K : AV → Prop} : @binW P .and t (.v (.int .i64 x)) (.v (.int .i64 255)) ⟨K⟩ = K (.v (.int .i64 (x % 256))) := by
 have e : IntKind.i64.wrap (BitVec.ofInt 64 x &&& BitVec.ofInt 64 255).toNat = x % 256 := by
  have h1 := ofInt_toNat x
  have h2 : (BitVec.ofInt 64 255).toNat = 2 ^ 8 - 1 := by decide
  rw [BitVec.toNat_and, h2, Nat.and_two_pow_sub_one_eq_mod, wrap_nat (by omega)]
  omega
 rw [← e]; simp only [binW, binA, intA, true_and]; rfl
theorem bin_and30 {x : Int} {P : Program} {t : Nat} {K : AV → Prop} : @binW P .and t (.v (.int .i64 x)) (.v (.int .i64 1073741823)) ⟨K⟩ = K (.v (.int .i64 (x % 1073741824))) := by
 have e : IntKind.i64.wrap (BitVec.ofInt 64 x &&& BitVec.ofInt 64 1073741823).toNat = x % 1073741824 := by
  have h1 := ofInt_toNat x
  have h2 : (BitVec.ofInt 64 1073741823).toNat = 2 ^ 30 - 1 := by decide
  rw [BitVec.toNat_and, h2, Nat.and_two_pow_sub_one_eq_mod, wrap_nat (by omega)]
  omega
 rw [← e]; simp only [binW, binA, intA, true_and]; rfl
attribute [go_sem] bin_xor bin_and255 bin_and30
theorem lend_two {h : Nat → Ob} {n n' z z' : Nat} {cs cs' : List AV} (hn : h n = .own z cs) (hc : AllL (fun _ => False) cs) (hn' : h n' = .own z' cs') (hc' : AllL (fun _ => False) cs') : lendOk h [n, n'] := by
 intro m hm
 rw [List.mem_cons, List.mem_singleton] at hm
 rcases hm with rfl | rfl
 ·exact ⟨z, cs, hn, hc.mono fun _ h => h.elim⟩
 ·exact ⟨z', cs', hn', hc'.mono fun _ h => h.elim⟩
def lentB (h : Nat → Ob) (nms : List Nat) : List Nat → List Ob
 | [] => []
 | n :: r => (h n).ren (back nms) :: lentB h nms r
theorem lentB_map {h : Nat → Ob} {nms : List Nat} : ∀ r : List Nat, lentB h nms r = r.map (fun n => (h n).ren (back nms))
 | [] => rfl
 | n :: r => by rw [lentB, List.map_cons, lentB_map r]
theorem lentB_nil {h : Nat → Ob} {nms : List Nat} : lentB h nms [] = [] := _root_.id rfl
theorem lentB_cons {h : Nat → Ob} {nms : List Nat} {n : Nat} {r : List Nat} : lentB h nms (n :: r) = (h n).ren (back nms) :: lentB h nms r := _root_.id rfl
attribute [go_sem] lentB_nil lentB_cons
theorem call_lent {P : Program} {f : FuncId} {aa0 : List AV} {h : Nat → Ob} {c : Nat} {K : KV} (cl : Bool) (nms : List Nat) {args : List AV} {bs : List Ob} {post : AV → List Ob → List Ob → Prop} (hc : Con P f cl args bs post) (ha : aa0.map (snp (hpx cl nms h) (idx nms) 6) = args)
  (hb : lentB h nms nms = bs) (hnd : nodupB nms = true) (hl : lendOk h nms) (hin : ∀ n ∈ nms, ∃ a ∈ aa0, a.top = some n)
  (hk : ∀ r hs bs', post r hs bs' → bs'.length = bs.length → (hs.length ≤ 10000000 ∧ freeN h c hs ∧ (cl = true → ∀ ob ∈ bs', ob.plain)) ∧ K (r.ren (rho c nms)) (updB (addH (rho c nms) h c hs) nms (bs'.map (Ob.ren (rho c nms))))) : @callW P f aa0 h c ⟨K⟩ :=
 call_lend cl nms hc ha ((lentB_map nms).symm.trans hb) hnd hl hin hk
end Go.Ab
namespace Go.Ab
open Go Go.Proofs
set_option linter.unusedVariables false
set_option linter.unusedSimpArgs false
def natFit (m : Nat) : Bool := decide ((lim m).length ≤ 100)
def dyFit (m : Nat) (e : Int) : Bool := natFit (oM m) && (decide (-3000 ≤ oE m e) && decide (oE m e ≤ 3000))
theorem dyFit_fl {n : Nat} {e : Int} (hn : n < 2 ^ 53) (he : -1074 ≤ e ∧ e ≤ 971) : dyFit n e = true := by
 have hb : bl n ≤ 53 := bl_le.2 hn
 have q4 := bl_mono (oM_le n)
 have q5 := oE_rng (m := n) (e := e) (lo := -1074) (hi := 971) (Nat.le_refl _) (by omega) (by omega) (by omega)
 have l1 := len_bl (m := oM n) (B := 53) (by omega)
 unfold dyFit natFit
 simp only [Bool.and_eq_true, decide_eq_true_eq]
 omega
theorem con_natOf (m : Nat) (hl : (lim m).length ≤ 2 ^ 40) : Con Tryz.prog 222 false [.sl (lim (m)).length (ints (lim (m)))] [] (isA (if natFit m = true then .tu [.ag [.sl (lim (m)).length (ints (lim (m)))], .v (.bool true)] else .tu [.ag [.sl (lim (0)).length (ints (lim (0)))], .v (.bool false)])) := by
 refine Con.frzA ?_
 refine Con.of_w (rs := [.cell 2 25, .tmp 3]) Tryz.func222 rfl Tryz.ntmps222 rfl ?_
 simp (disch := omega) only [go_sem]
 refine ifW_dec (fun c1 => ?_) (fun c1 => ?_)
 ·have hf : natFit m = false := by unfold natFit; simp; omega
  simp (disch := omega) only [go_sem, c1]
  rw [hf, if_neg (by simp), lim_zero]
  exact fin_frz
 ·have hf : natFit m = true := by unfold natFit; simp; omega
  simp (disch := omega) only [go_sem, c1]
  rw [hf, if_pos rfl]
  refine call_oI ((con_clone false (lim m) (by omega)).num) ?_
  simp (disch := omega) only [go_sem]
  exact fin_frz
theorem con_wholeOf (s : Bool) (m : Nat) (hl : (lim m).length ≤ 2 ^ 40) : Con Tryz.prog 145 false [.v (.bool s), .sl (lim (m)).length (ints (lim (m)))] [] (isA (if natFit m = true then .tu [.ag [.v (.bool (s && decide (m ≠ 0))), .sl (lim (m)).length (ints (lim (m)))], .v (.bool true)] else .tu [.ag [.v (.bool (false)), .sl (lim (0)).length (ints (lim (0)))], .v (.bool false)])) := by
 refine Con.frzA ?_
 have cn := con_natOf m hl
 have hq : decide ((0 : Int) < ((lim m).length : Int)) = decide (m ≠ 0) := by
  rw [decide_eq_decide]
  exact ⟨fun h e => by rw [e, lim_zero] at h; simp at h, fun h => by have := lim_ne h; omega⟩
 cases hf : natFit m
 ·rw [hf, if_neg (by simp)] at cn
  rw [if_neg (by simp), lim_zero]
  refine Con.of_w (rs := [.cell 4 27, .tmp 5]) Tryz.func145 rfl Tryz.ntmps145 rfl ?_
  simp (disch := omega) only [go_sem]
  refine call_oI (cn) ?_
  simp (disch := omega) only [go_sem]
  exact fin_frz
 ·rw [hf, if_pos rfl] at cn
  rw [if_pos rfl]
  refine Con.of_w (rs := [.cell 4 27, .tmp 5]) Tryz.func145 rfl Tryz.ntmps145 rfl ?_
  simp (disch := omega) only [go_sem]
  refine call_oI (cn) ?_
  simp (disch := omega) only [go_sem]
  cases s
  ·simp (disch := omega) only [go_sem]
   exact fin_frz
  ·simp (disch := omega) only [go_sem, hq]
   exact fin_frz
theorem con_dyX (s : Bool) (m : Nat) (e : Int) (hm : bl m ≤ 10000000) (he : -2 ^ 39 ≤ e ∧ e ≤ 2 ^ 39) : Con Tryz.prog 68 false [.ag [.v (.bool (s)), .sl (lim (m)).length (ints (lim (m))), .v (.int .i64 (e))]] [] (isA (if dyFit m e = true then .tu [.ag [.v (.bool (oS s m)), .sl (lim (oM m)).length (ints (lim (oM m))), .v (.int .i64 (oE m e))], .v (.bool true)] else .tu [.ag [.v (.bool (false)), .sl (lim (0)).length (ints (lim (0))), .v (.int .i64 (0))], .v (.bool false)])) := by
 refine Con.frzA ?_
 have hb := Nat.le_trans (bl_mono (oM_le m)) hm
 have hl := len_bl hb
 have cw := con_wholeOf (oS s m) (oM m) (by omega)
 have hs : (oS s m && decide (oM m ≠ 0)) = oS s m := by
  unfold oS
  by_cases h : m = 0
  ·rw [if_pos h]; rfl
  ·rw [if_neg h, decide_eq_true (show oM m ≠ 0 from fun e => h (oM_eq_zero.1 e)), Bool.and_true]
 rw [hs] at cw
 cases hf : natFit (oM m)
 ·rw [hf, if_neg (by simp)] at cw
  have hd : dyFit m e = false := by unfold dyFit; rw [hf]; rfl
  rw [hd, if_neg (by simp), lim_zero]
  rw [lim_zero] at cw
  refine Con.of_w (rs := [.cell 2 29, .tmp 3]) Tryz.func68 rfl Tryz.ntmps68 rfl ?_
  simp (disch := omega) only [go_sem]
  refine call_oI (con_odd s m e hm (by omega)) ?_
  simp (disch := omega) only [go_sem]
  refine call_oI (cw) ?_
  simp (disch := omega) only [go_sem]
  exact fin_frz
 ·rw [hf, if_pos rfl] at cw
  have hd : dyFit m e = (decide (-3000 ≤ oE m e) && decide (oE m e ≤ 3000)) := by unfold dyFit; rw [hf]; rfl
  rw [hd]
  refine Con.of_w (rs := [.cell 2 29, .tmp 3]) Tryz.func68 rfl Tryz.ntmps68 rfl ?_
  simp (disch := omega) only [go_sem]
  refine call_oI (con_odd s m e hm (by omega)) ?_
  simp (disch := omega) only [go_sem]
  refine call_oI (cw) ?_
  simp (disch := omega) only [go_sem]
  refine call_cI (con_withinI (oE m e) (-3000) 3000) ?_
  simp (disch := omega) only [go_sem]
  refine ifW_nb (fun h => ?_) (fun h => ?_)
  ·simp (disch := omega) only [go_sem, h]
   rw [h, if_neg (by simp), lim_zero]
   exact fin_frz
  ·simp (disch := omega) only [go_sem, h]
   rw [h, if_pos rfl]
   exact fin_frz
theorem con_FlDy (k : Int) (s : Bool) (m e : Int) : Con Tryz.prog 41 false [.ag [.v (.int .i64 (k)), .v (.bool (s)), .v (.int .i64 (m)), .v (.int .i64 (e))]] []
  (isA (if (flB k s m e && (decide (k = 0) || decide (k = 1))) = true then .tu [.ag [.v (.bool (oS (s && decide (k = 1)) m.toNat)), .sl (lim (oM m.toNat)).length (ints (lim (oM m.toNat))), .v (.int .i64 (oE m.toNat e))], .v (.bool true)] else .tu [.ag [.v (.bool (false)), .sl (lim (0)).length (ints (lim (0))), .v (.int .i64 (0))], .v (.bool false)])) := by
 refine Con.frzA ?_
 cases hv : flB k s m e
 ·rw [if_neg (by simp), lim_zero]
  refine Con.of_aw Tryz.func41 rfl Tryz.ntmps41 (by simp) (by simp) (by simp) (W.sound ?_)
  show @W Tryz.prog 18 ⟨_⟩ ⟨fun x σ => @retW _ _ _ ⟨_⟩ _ ⟨_⟩ x σ⟩ _ _
  simp (disch := omega) only [go_sem]
  refine call_cI (con_flok k s m e) ?_
  simp (disch := omega) only [go_sem]
  simp (disch := omega) only [go_sem, hv]
  exact fin_frz
 ·cases hf : (decide (k = 0) || decide (k = 1))
  ·rw [if_neg (by simp), lim_zero]
   refine Con.of_aw Tryz.func41 rfl Tryz.ntmps41 (by simp) (by simp) (by simp) (W.sound ?_)
   show @W Tryz.prog 18 ⟨_⟩ ⟨fun x σ => @retW _ _ _ ⟨_⟩ _ ⟨_⟩ x σ⟩ _ _
   simp (disch := omega) only [go_sem]
   refine call_cI (con_flok k s m e) ?_
   simp (disch := omega) only [go_sem]
   simp (disch := omega) only [go_sem, hv]
   refine call_cI (con_isFinite k s m e) ?_
   simp (disch := omega) only [go_sem]
   simp (disch := omega) only [go_sem, hf]
   exact fin_frz
  ·rw [if_pos (by simp)]
   obtain ⟨a1, a2, a3, a4⟩ := flB_rng hv
   obtain ⟨n, rfl⟩ := Int.eq_ofNat_of_zero_le a1.1
   have hb : bl n ≤ 53 := bl_le.2 (by omega)
   have cd := con_dyX (s && decide (k = 1)) n e (by omega) (by omega)
   have hd : dyFit n e = true := dyFit_fl (by omega) (by omega)
   rw [if_pos hd] at cd
   refine Con.of_aw Tryz.func41 rfl Tryz.ntmps41 (by simp) (by simp) (by simp) (W.sound ?_)
   show @W Tryz.prog 18 ⟨_⟩ ⟨fun x σ => @retW _ _ _ ⟨_⟩ _ ⟨_⟩ x σ⟩ _ _
   simp (disch := omega) only [go_sem]
   refine call_cI (con_flok k s (n : Int) e) ?_
   simp (disch := omega) only [go_sem]
   simp (disch := omega) only [go_sem, hv]
   refine call_cI (con_isFinite k s (n : Int) e) ?_
   simp (disch := omega) only [go_sem]
   simp (disch := omega) only [go_sem, hf]
   refine call_oI (con_flexact k s n e (by omega)) ?_
   simp (disch := omega) only [go_sem]
   refine call_oI (cd) ?_
   simp (disch := omega) only [go_sem]
   refine fin_val (by simp (disch := omega) only [go_sem]) ?_
   show snap _ 6 _ = _
   rw [Int.toNat_natCast]
   simp (disch := omega) only [go_sem]
end Go.Ab
namespace Go.Ab
set_option linter.unusedVariables false
set_option linter.unusedSimpArgs false
end Go.Ab
namespace Go.Ab
set_option linter.unusedVariables false
/-! ### Sums of floats -/
def ngS (k : Int) (s : Bool) : Bool := if k = 3 then s else !s
def xS (k : Int) (s : Bool) : Bool := s && decide (k = 1)
def adZ (k1 : Int) (s1 : Bool) (k2 : Int) (s2 : Bool) (mode : Int) : Bool := if k1 = 0 ∧ k2 = 0 ∧ s1 = s2 then s1 else decide (mode = 3)
def addV (k1 : Int) (s1 : Bool) (m1 e1 k2 : Int) (s2 : Bool) (m2 e2 mode : Int) : FlV :=
 if k1 = 3 ∨ k2 = 3 then ⟨3, false, 0, 0⟩
 else if k1 = 2 ∧ k2 = 2 ∧ s1 ≠ s2 then ⟨3, false, 0, 0⟩
 else if k1 = 2 then ⟨k1, s1, m1, e1⟩
 else if k2 = 2 then ⟨k2, s2, m2, e2⟩
 else flV (adS (xS k1 s1) m1.toNat e1 (xS k2 s2) m2.toNat e2) (adM (xS k1 s1) m1.toNat e1 (xS k2 s2) m2.toNat e2) (alE m1.toNat e1 m2.toNat e2) mode (adZ k1 s1 k2 s2 mode)
def addG (k1 : Int) (s1 : Bool) (m1 e1 k2 : Int) (s2 : Bool) (m2 e2 mode : Int) : Int :=
 if k1 = 3 ∨ k2 = 3 then 0
 else if k1 = 2 ∧ k2 = 2 ∧ s1 ≠ s2 then 16
 else if k1 = 2 then 0
 else if k2 = 2 then 0
 else flG (adS (xS k1 s1) m1.toNat e1 (xS k2 s2) m2.toNat e2) (adM (xS k1 s1) m1.toNat e1 (xS k2 s2) m2.toNat e2) (alE m1.toNat e1 m2.toNat e2) mode
section
variable {k1 : Int} {s1 : Bool} {m1 e1 k2 : Int} {s2 : Bool} {m2 e2 mode : Int}
end
/-! ### A product and a sum -/
def fmZ (k1 : Int) (s1 : Bool) (k2 : Int) (s2 : Bool) (k3 : Int) (s3 : Bool) (mode : Int) : Bool := if (k1 = 0 ∨ k2 = 0) ∧ k3 = 0 ∧ s3 = (s1 != s2) then s3 else decide (mode = 3)
def fmaV (k1 : Int) (s1 : Bool) (m1 e1 k2 : Int) (s2 : Bool) (m2 e2 k3 : Int) (s3 : Bool) (m3 e3 mode : Int) : FlV :=
 if k1 = 3 ∨ k2 = 3 then ⟨3, false, 0, 0⟩
 else if k1 = 2 ∨ k2 = 2 then (if k1 = 0 ∨ k2 = 0 then ⟨3, false, 0, 0⟩ else addV 2 (s1 != s2) 0 0 k3 s3 m3 e3 mode)
 else if k3 = 2 ∨ k3 = 3 then ⟨k3, s3, m3, e3⟩
 else flV (adS (muS k1 s1 m1 k2 s2 m2) (m1.toNat * m2.toNat) (e1 + e2) (xS k3 s3) m3.toNat e3) (adM (muS k1 s1 m1 k2 s2 m2) (m1.toNat * m2.toNat) (e1 + e2) (xS k3 s3) m3.toNat e3) (alE (m1.toNat * m2.toNat) (e1 + e2) m3.toNat e3) mode (fmZ k1 s1 k2 s2 k3 s3 mode)
def fmaG (k1 : Int) (s1 : Bool) (m1 e1 k2 : Int) (s2 : Bool) (m2 e2 k3 : Int) (s3 : Bool) (m3 e3 mode : Int) : Int :=
 if k1 = 3 ∨ k2 = 3 then 0
 else if k1 = 2 ∨ k2 = 2 then (if k1 = 0 ∨ k2 = 0 then 16 else addG 2 (s1 != s2) 0 0 k3 s3 m3 e3 mode)
 else if k3 = 2 ∨ k3 = 3 then 0
 else flG (adS (muS k1 s1 m1 k2 s2 m2) (m1.toNat * m2.toNat) (e1 + e2) (xS k3 s3) m3.toNat e3) (adM (muS k1 s1 m1 k2 s2 m2) (m1.toNat * m2.toNat) (e1 + e2) (xS k3 s3) m3.toNat e3) (alE (m1.toNat * m2.toNat) (e1 + e2) m3.toNat e3) mode
section
variable {k1 : Int} {s1 : Bool} {m1 e1 k2 : Int} {s2 : Bool} {m2 e2 k3 : Int} {s3 : Bool} {m3 e3 mode : Int}
end
end Go.Ab
namespace Go.Ab
set_option linter.unusedVariables false
theorem cmpI_mul (x y p : Int) (hp : 0 < p) : cmpI (x * p) (y * p) = cmpI x y := by
 unfold cmpI
 have h1 : x * p < y * p ↔ x < y := ⟨fun h => Int.lt_of_mul_lt_mul_right h (Int.le_of_lt hp), fun h => Int.mul_lt_mul_of_pos_right h hp⟩
 have h2 : y * p < x * p ↔ y < x := ⟨fun h => Int.lt_of_mul_lt_mul_right h (Int.le_of_lt hp), fun h => Int.mul_lt_mul_of_pos_right h hp⟩
 simp only [h1, h2]
theorem alA_zero {m : Nat} {e E : Int} : alA m e E = 0 ↔ m = 0 := by
 unfold alA
 have : 0 < 2 ^ (e - E).toNat := Nat.pow_pos (by omega)
 constructor
 ·intro h
  rcases Nat.mul_eq_zero.1 h with h | h
  ·exact h
  ·omega
 ·intro h; rw [h, Nat.zero_mul]
theorem cmp_dv {K : Nat} {s1 : Bool} {m1 : Nat} {e1 : Int} {s2 : Bool} {m2 : Nat} {e2 : Int} (h1 : -(K : Int) ≤ e1) (h2 : -(K : Int) ≤ e2) :
  cmpI (sv s1 (alA m1 e1 (alE m1 e1 m2 e2))) (sv s2 (alA m2 e2 (alE m1 e1 m2 e2))) = cmpI (dv K s1 m1 e1) (dv K s2 m2 e2) := by
 have hE : -(K : Int) ≤ alE m1 e1 m2 e2 := alE_ge h1 h2
 have g1 : m1 ≠ 0 → alE m1 e1 m2 e2 ≤ e1 := fun h => by
  unfold alE
  repeat' split
  all_goals omega
 have g2 : m2 ≠ 0 → alE m1 e1 m2 e2 ≤ e2 := fun h => by
  unfold alE
  repeat' split
  all_goals omega
 rw [← alA_dv hE g1, ← alA_dv hE g2, cmpI_mul _ _ _ (Int.pow_pos (by omega))]
theorem cmp_signs {s1 : Bool} {m1 : Nat} {s2 : Bool} {m2 : Nat} (z1 : m1 = 0 → s1 = false) (z2 : m2 = 0 → s2 = false) :
  cmpI (sv s1 m1) (sv s2 m2) = if s1 = true then (if s2 = true then cmpI (m2 : Int) (m1 : Int) else -1) else (if s2 = true then 1 else cmpI (m1 : Int) (m2 : Int)) := by
 cases s1 <;> cases s2 <;> simp only [sv, if_true, Bool.false_eq_true, if_false]
 ·have : m2 ≠ 0 := fun h => by have := z2 h; cases this
  unfold cmpI; rw [if_neg (by omega), if_pos (by omega)]
 ·have : m1 ≠ 0 := fun h => by have := z1 h; cases this
  unfold cmpI; rw [if_pos (by omega)]
 ·unfold cmpI
  rcases Int.lt_trichotomy (m1 : Int) m2 with h | h | h
  ·rw [if_neg (by omega), if_pos (by omega), if_neg (by omega), if_pos (by omega)]
  ·rw [if_neg (by omega), if_neg (by omega), if_neg (by omega), if_neg (by omega)]
  ·rw [if_pos (by omega), if_pos (by omega)]
theorem cmpI_le (x y : Int) : (cmpI x y ≤ 0 ↔ x ≤ y) ∧ (cmpI x y < 0 ↔ x < y) ∧ (cmpI x y = 0 ↔ x = y) := by
 unfold cmpI
 split
 ·omega
 ·split <;> omega
end Go.Ab
namespace Go.Ab
open Go Go.Proofs
set_option linter.unusedVariables false
set_option linter.unusedSimpArgs false
theorem con_signedCompare (s1 : Bool) (m1 : Nat) (s2 : Bool) (m2 : Nat) (l1 : (lim m1).length ≤ 2 ^ 40) (l2 : (lim m2).length ≤ 2 ^ 40) (z1 : m1 = 0 → s1 = false) (z2 : m2 = 0 → s2 = false) :
  Con Tryz.prog 184 true [.v (.bool s1), .sl (lim (m1)).length (ints (lim (m1))), .v (.bool s2), .sl (lim (m2)).length (ints (lim (m2)))] [] (isA (.v (.int .i64 (cmpI (sv s1 m1) (sv s2 m2))))) := by
 rw [cmp_signs z1 z2]
 cases s1 <;> cases s2
 ·refine Con.of_w (rs := [.tmp 8]) Tryz.func184 rfl Tryz.ntmps184 rfl ?_
  simp (disch := omega) only [go_sem]
  refine call_cI (con_compare m1 m2 l1 l2) ?_
  simp (disch := omega) only [go_sem]
  exact fin_cI
 ·refine Con.of_w (rs := [.tmp 8]) Tryz.func184 rfl Tryz.ntmps184 rfl ?_
  simp (disch := omega) only [go_sem]
  exact fin_cI
 ·refine Con.of_w (rs := [.tmp 8]) Tryz.func184 rfl Tryz.ntmps184 rfl ?_
  simp (disch := omega) only [go_sem]
  exact fin_cI
 ·refine Con.of_w (rs := [.tmp 8]) Tryz.func184 rfl Tryz.ntmps184 rfl ?_
  simp (disch := omega) only [go_sem]
  refine call_cI (con_compare m2 m1 l2 l1) ?_
  simp (disch := omega) only [go_sem]
  exact fin_cI
theorem con_compareX (K : Nat) (s1 : Bool) (m1 : Nat) (e1 : Int) (s2 : Bool) (m2 : Nat) (e2 : Int) (h1 : bl m1 ≤ 4000000) (h2 : bl m2 ≤ 4000000) (he1 : -1000000 ≤ e1 ∧ e1 ≤ 1000000) (he2 : -1000000 ≤ e2 ∧ e2 ≤ 1000000) (k1 : -(K : Int) ≤ e1) (k2 : -(K : Int) ≤ e2) (z1 : m1 = 0 → s1 = false) (z2 : m2 = 0 → s2 = false) :
  Con Tryz.prog 105 true [.ag [.v (.bool (s1)), .sl (lim (m1)).length (ints (lim (m1))), .v (.int .i64 (e1))], .ag [.v (.bool (s2)), .sl (lim (m2)).length (ints (lim (m2))), .v (.int .i64 (e2))]] [] (isA (.v (.int .i64 (cmpI (dv K s1 m1 e1) (dv K s2 m2 e2))))) := by
 have hE := alE_ge (m1 := m1) (m2 := m2) he1.1 he2.1
 have b1 := len_bl (bl_alA (e := e1) (E := alE m1 e1 m2 e2) (C := 2000000) h1 (by omega))
 have b2 := len_bl (bl_alA (e := e2) (E := alE m1 e1 m2 e2) (C := 2000000) h2 (by omega))
 rw [← cmp_dv k1 k2]
 have y1 : alA m1 e1 (alE m1 e1 m2 e2) = 0 → s1 = false := fun h => z1 (alA_zero.1 h)
 have y2 : alA m2 e2 (alE m1 e1 m2 e2) = 0 → s2 = false := fun h => z2 (alA_zero.1 h)
 refine Con.of_w (rs := [.tmp 4]) Tryz.func105 rfl Tryz.ntmps105 rfl ?_
 simp (disch := omega) only [go_sem]
 refine call_oI (con_aligned s1 m1 e1 s2 m2 e2 h1 h2 he1 he2) ?_
 simp (disch := omega) only [go_sem]
 refine call_cI (con_signedCompare s1 (alA m1 e1 (alE m1 e1 m2 e2)) s2 (alA m2 e2 (alE m1 e1 m2 e2)) (by omega) (by omega) y1 y2) ?_
 simp (disch := omega) only [go_sem]
 exact fin_cI
def rkF (k : Int) (s : Bool) : Int := if k = 2 then (if s = true then -1 else 1) else 0
def cmpF (k1 : Int) (s1 : Bool) (m1 e1 k2 : Int) (s2 : Bool) (m2 e2 : Int) : Int :=
 if rkF k1 s1 ≠ rkF k2 s2 ∨ rkF k1 s1 ≠ 0 then cmpI (rkF k1 s1) (rkF k2 s2) else cmpI (dv 3000 (xS k1 s1) m1.toNat e1) (dv 3000 (xS k2 s2) m2.toNat e2)
end Go.Ab
namespace Go.Ab
open Go
set_option linter.unusedVariables false
theorem frep_bytes {R : Nat → Prop} {W : World} {a : Addr} {len cap : Nat} {zs : List Int} (hle : len ≤ cap) (hz : zs.length = cap) (hc : ∀ i, i < zs.length → W.cell? (a.add i) = some (.int .u8 (zs.getD i 0))) (hw : ∀ n ∈ zs, 0 ≤ n ∧ n < 256) (hR : ∀ b, b < W.heap.size → R b) :
  FRep R W (.slice (some a) len cap) (.sl ((zs.take len).map fun n => UInt8.ofNat n.toNat).length (bytesA ((zs.take len).map fun n => UInt8.ofNat n.toNat))) := by
 have hl : ((zs.take len).map fun n => UInt8.ofNat n.toNat).length = len := by rw [List.length_map, List.length_take]; omega
 have hil : (bytesA ((zs.take len).map fun n => UInt8.ofNat n.toNat)).length = len := by unfold bytesA; rw [List.length_map, hl]
 rw [hl]
 obtain ⟨b, o, sp⟩ := a
 have hsp : 0 < len → sp = none := fun h0 => by
  have h1 := World.cell?_spot (hc 0 (by omega))
  simpa [Addr.add] using h1
 refine .sl _ len cap _ (fun i => .int .u8 (zs.getD i 0)) b o hle (fun h0 => ?_) (fun i hi => ?_) (fun i hi => ?_)
 ·have hs := hsp (by omega)
  subst hs
  exact ⟨rfl, hR _ (cell_blk (hc 0 (by omega)))⟩
 ·have hs := hsp (by omega)
  subst hs
  have h1 := hc i (by omega)
  rw [add_at] at h1
  exact h1
 ·have : (bytesA ((zs.take len).map fun n => UInt8.ofNat n.toNat))[i] = .v (.int .u8 (zs.getD i 0)) := by
   have hi2 : i < zs.length := by omega
   have hm := hw zs[i] (List.getElem_mem hi2)
   simp only [bytesA, List.getElem_map, List.getElem_take, List.getD_eq_getElem?_getD]
   rw [List.getElem?_eq_getElem hi2]
   simp only [Option.getD_some]
   congr 2
   rw [UInt8.toNat_ofNat']
   omega
  rw [this]
  exact .v _
theorem lit_u8 {n : Int} (h : (Lit.int .u8 n).wf = true) : 0 ≤ n ∧ n < 256 := by
 have h' : IntKind.u8.min ≤ n ∧ n ≤ IntKind.u8.max := by simpa [Lit.wf] using h
 have h1 : IntKind.u8.min = 0 := rfl
 have h2 : IntKind.u8.max = 255 := rfl
 omega
theorem open_bs {H : Type} {enc : TypeId × Value → H} {P : Program} {W : World} {t e fuel : Nat} {cs : List Value} {x : DataW H × List MemPlace} (ht : P.underlying t = some (.slice e)) (he : P.underlying e = some (.int .u8)) (hc : P.cellsOf e = 1)
  (h : DataW.trod enc P W 0 (fun _ => true) true fuel t cs = some x) :
  ∃ (v : Value) (l : List UInt8), cs = [v] ∧ l.length ≤ maxLen ∧ FRep (fun b => b < W.heap.size) W v (.sl l.length (bytesA l)) := by
 rcases ChangeShapes.open_ints ht he hc h with ⟨rfl, _⟩ | ⟨a, len, cap, zs, rfl, _, hl, hm, hz, _, hcell, hwf⟩
 ·exact ⟨_, [], rfl, Nat.zero_le _, frep_nil⟩
 ·rw [if_pos rfl] at hz
  refine ⟨_, _, rfl, ?_, frep_bytes hl hz hcell (fun n hn => lit_u8 (hwf n hn)) (fun _ h => h)⟩
  rw [List.length_map, List.length_take]; omega
theorem repA_one {R : Nat → Prop} {ι : Nat → Option Blk} {w : World} {x : Value} {a : AV} (h1 : Rep R ι w x a) : RepA R ι w #[x] [a] :=
 ⟨rfl, fun i h => match i, h with
  | 0, _ => h1⟩
end Go.Ab
namespace Go.Ab
open Go
set_option linter.unusedVariables false
section
variable {P : Program} {f : FuncId} {args : List AV} {post : AV → List Ob → List Ob → Prop}
end
end Go.Ab
