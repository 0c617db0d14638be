/- What the proof of this claim stands on: the walks of the functions and the plain laws, part 4. -/
import Derived.Test.YthlmpjafbjhafaaDoorFlRoundLib3
import Derived.Shelf.Spec.TrailingZeros
import Derived.Shelf.Small.Bits
import Derived.Shelf.Strconv.Itoa0
namespace Go.Ab
open Go Go.Proofs
set_option linter.unusedVariables false
set_option linter.unusedSimpArgs false

set_option maxRecDepth 100000 in
theorem con_l2mulL (cl : Bool) (A : List Int) (hA : gd A) (b : Nat) (lA : A.length ≤ 1000000) (lB : (lim b).length ≤ 1000000) (m : Nat) (hm : vl A * (b : Int) = (m : Int)) :
    Con Tryd.prog 74 cl [.ag [.sl A.length (ints A)], .ag [.sl (lim (b)).length (ints (lim (b)))]] [] (natR m) := by
  refine Con.of_aw Tryd.func74 rfl Tryd.ntmps74 (by simp) (by simp) (by simp) (W.sound ?_)
  show @W Tryd.prog 80 ⟨_⟩ ⟨fun x σ => @retW _ _ _ ⟨_⟩ _ ⟨_⟩ x σ⟩ _ _
  have hvb := vl_lim b
  have hB := gd_lim b
  generalize lim b = B at *
  simp (disch := omega) only [go_sem, ↓reduceIte, Int.reduceToNat, Nat.reduceEqDiff, Nat.reduceAdd, Nat.reduceMul, Nat.reduceSub, Nat.reducePow, Nat.reduceLT, Nat.reduceLeDiff, Int.reduceNeg, Int.reduceEq, Int.reduceLT, Int.reduceLE, reduceCtorEq]
  refine ⟨by omega, ?_⟩
  refine loop_intro (fun x : Nat × List Int => [(2, .pt 0 0), (3, .pt 1 0), (4, .pt 2 0), (5, .rf 3 0 (A.length + B.length)), (6, .v (.int .i64 x.1))])
    (fun x => [(0, .own 0 [.sl A.length (ints A)]), (1, .own 0 [.sl B.length (ints B)]), (2, .own 0 [.v (.slice none 0 0)]), (3, .own 1 (ints x.2))])
    (fun x => x.1 ≤ A.length ∧ x.2.length = A.length + B.length ∧ gd x.2 ∧ vl x.2 = vl (A.take x.1) * vl B ∧ ∀ j, x.1 + B.length ≤ j → x.2.getD j 0 = 0)
    (fun x => A.length - x.1) (0, List.replicate (A.length + B.length) 0) ⟨by simp, by simp, gd_replicate _, by simp [vl_replicate, vl], fun j _ => by
      rw [List.getD_eq_getElem?_getD, List.getElem?_replicate]; split <;> rfl⟩
    (Le.lst [(0, 40000000), (1, 50000000), (2, 60000000), (3, 190000000)] _ _ rfl (by simp (disch := omega) only [go_sem, ↓reduceIte, Int.reduceToNat, Nat.reduceEqDiff, Nat.reduceAdd, Nat.reduceMul, Nat.reduceSub, Nat.reducePow, Nat.reduceLT, Nat.reduceLeDiff, Int.reduceNeg, Int.reduceEq, Int.reduceLT, Int.reduceLE, reduceCtorEq]; try omega) (by simp (disch := omega) only [go_sem, ↓reduceIte, Int.reduceToNat, Nat.reduceEqDiff, Nat.reduceAdd, Nat.reduceMul, Nat.reduceSub, Nat.reducePow, Nat.reduceLT, Nat.reduceLeDiff, Int.reduceNeg, Int.reduceEq, Int.reduceLT, Int.reduceLE, reduceCtorEq, show ((A.length : Int) + (B.length : Int)).toNat = A.length + B.length by omega])) ?_
  rintro ⟨i, out⟩ ⟨hi, hol, hog, hov, hoz⟩
  dsimp only at hi hol hog hov hoz ⊢
  simp (disch := omega) only [go_sem, ↓reduceIte, Int.reduceToNat, Nat.reduceEqDiff, Nat.reduceAdd, Nat.reduceMul, Nat.reduceSub, Nat.reducePow, Nat.reduceLT, Nat.reduceLeDiff, Int.reduceNeg, Int.reduceEq, Int.reduceLT, Int.reduceLE, reduceCtorEq]
  refine ifW_dec (fun h1 => ?_) (fun h1 => ?_)
  · have hx := gd_getD hA i
    simp (disch := omega) only [go_sem, ↓reduceIte, Int.reduceToNat, Nat.reduceEqDiff, Nat.reduceAdd, Nat.reduceMul, Nat.reduceSub, Nat.reducePow, Nat.reduceLT, Nat.reduceLeDiff, Int.reduceNeg, Int.reduceEq, Int.reduceLT, Int.reduceLE, reduceCtorEq, h1]
    refine loop_intro (fun x : Nat × List Int × Int => [(2, .pt 0 0), (3, .pt 1 0), (4, .pt 2 0), (5, .rf 3 0 (A.length + B.length)), (6, .v (.int .i64 i)), (7, .v (.int .i64 x.2.2)), (8, .v (.int .i64 x.1))])
      (fun x => [(0, .own 0 [.sl A.length (ints A)]), (1, .own 0 [.sl B.length (ints B)]), (2, .own 0 [.v (.slice none 0 0)]), (3, .own 1 (ints x.2.1))])
      (fun x => x.1 ≤ B.length ∧ x.2.1.length = A.length + B.length ∧ gd x.2.1 ∧ (0 ≤ x.2.2 ∧ x.2.2 < 65536) ∧ vl x.2.1 + 65536 ^ (i + x.1) * x.2.2 = vl out + 65536 ^ i * (A.getD i 0 * vl (B.take x.1)) ∧ ∀ j, i + B.length ≤ j → x.2.1.getD j 0 = 0)
      (fun x => B.length - x.1) (0, out, 0) ⟨by simp, hol, hog, by simp, by simp [vl], hoz⟩
      (Le.lst [] _ _ rfl (by simp (disch := omega) only [go_sem, ↓reduceIte, Int.reduceToNat, Nat.reduceEqDiff, Nat.reduceAdd, Nat.reduceMul, Nat.reduceSub, Nat.reducePow, Nat.reduceLT, Nat.reduceLeDiff, Int.reduceNeg, Int.reduceEq, Int.reduceLT, Int.reduceLE, reduceCtorEq]; try omega) (by simp (disch := omega) only [go_sem, ↓reduceIte, Int.reduceToNat, Nat.reduceEqDiff, Nat.reduceAdd, Nat.reduceMul, Nat.reduceSub, Nat.reducePow, Nat.reduceLT, Nat.reduceLeDiff, Int.reduceNeg, Int.reduceEq, Int.reduceLT, Int.reduceLE, reduceCtorEq])) ?_
    rintro ⟨j, o2, cy⟩ ⟨hj, hol2, hog2, hcy, hov2, hoz2⟩
    dsimp only at hj hol2 hog2 hcy hov2 hoz2 ⊢
    simp (disch := omega) only [go_sem, ↓reduceIte, Int.reduceToNat, Nat.reduceEqDiff, Nat.reduceAdd, Nat.reduceMul, Nat.reduceSub, Nat.reducePow, Nat.reduceLT, Nat.reduceLeDiff, Int.reduceNeg, Int.reduceEq, Int.reduceLT, Int.reduceLE, reduceCtorEq]
    refine ifW_dec (fun h2 => ?_) (fun h2 => ?_)
    · have hy := gd_getD hB j
      have ho := gd_getD hog2 (i + j)
      have hxy := mul_lim hx hy
      have e1 : ((i : Int) + (j : Int)).toNat = i + j := by omega
      simp (disch := omega) only [go_sem, ↓reduceIte, Int.reduceToNat, Nat.reduceEqDiff, Nat.reduceAdd, Nat.reduceMul, Nat.reduceSub, Nat.reducePow, Nat.reduceLT, Nat.reduceLeDiff, Int.reduceNeg, Int.reduceEq, Int.reduceLT, Int.reduceLE, reduceCtorEq, h2]
      refine draw_of rfl [⟨0, [], []⟩, ⟨1, [], []⟩, ⟨2, [], []⟩, ⟨3, [], []⟩, ⟨4, [], []⟩, ⟨5, [], []⟩, ⟨6, [5], []⟩, ⟨7, [5], []⟩, ⟨8, [5, 7], []⟩, ⟨9, [5], []⟩, ⟨10, [5], []⟩, ⟨11, [5, 7, 10], []⟩, ⟨12, [5, 7, 10], []⟩, ⟨13, [5, 7, 10, 12], []⟩, ⟨14, [5, 7, 10], []⟩, ⟨15, [5, 7, 10], []⟩, ⟨16, [5], []⟩, ⟨17, [], []⟩, ⟨18, [5, 7, 10, 12, 15], []⟩, ⟨19, [], []⟩, ⟨20, [], []⟩] (by kernel_rfl) ?_
      simp (disch := omega) only [go_sem, ↓reduceIte, Int.reduceToNat, Nat.reduceEqDiff, Nat.reduceAdd, Nat.reduceMul, Nat.reduceSub, Nat.reducePow, Nat.reduceLT, Nat.reduceLeDiff, Int.reduceNeg, Int.reduceEq, Int.reduceLT, Int.reduceLE, reduceCtorEq, e1]
      generalize hq : o2.getD (i + j) 0 + A.getD i 0 * B.getD j 0 + cy = q
      refine ⟨by omega, by omega, by omega, by omega, by omega, by omega, by omega, by omega, next_intro (j + 1, o2.set (i + j) (q % 65536), q / 65536) [] ⟨by show j + 1 ≤ _; omega, by simp [hol2], gd_set hog2 (by omega), by show 0 ≤ q / 65536 ∧ q / 65536 < 65536; omega, ?_, fun k hk => ?_⟩
        (by show B.length - (j + 1) < B.length - j; omega) rfl (by simp (disch := omega) only [go_sem, ↓reduceIte, Int.reduceToNat, Nat.reduceEqDiff, Nat.reduceAdd, Nat.reduceMul, Nat.reduceSub, Nat.reducePow, Nat.reduceLT, Nat.reduceLeDiff, Int.reduceNeg, Int.reduceEq, Int.reduceLT, Int.reduceLE, reduceCtorEq]; try omega) (by simp (disch := omega) only [go_sem, ↓reduceIte, Int.reduceToNat, Nat.reduceEqDiff, Nat.reduceAdd, Nat.reduceMul, Nat.reduceSub, Nat.reducePow, Nat.reduceLT, Nat.reduceLeDiff, Int.reduceNeg, Int.reduceEq, Int.reduceLT, Int.reduceLE, reduceCtorEq])⟩
      · show vl (o2.set (i + j) (q % 65536)) + 65536 ^ (i + (j + 1)) * (q / 65536) = vl out + 65536 ^ i * (A.getD i 0 * vl (B.take (j + 1)))
        rw [vl_set (by omega), vl_take_succ (by omega), ← Nat.add_assoc, Int.pow_succ]
        have e2 : (65536 : Int) ^ (i + j) = 65536 ^ i * 65536 ^ j := Int.pow_add _ _ _
        have e3 : q % 65536 + 65536 * (q / 65536) = q := Int.emod_add_mul_ediv q 65536
        rw [e2] at hov2 ⊢
        generalize (65536 : Int) ^ i = Pi at *
        generalize (65536 : Int) ^ j = Pj at *
        grind
      · show (o2.set (i + j) (q % 65536)).getD k 0 = 0
        rw [List.getD_eq_getElem?_getD, List.getElem?_set_ne (by omega), ← List.getD_eq_getElem?_getD]
        exact hoz2 k hk
    · simp (disch := omega) only [go_sem, ↓reduceIte, Int.reduceToNat, Nat.reduceEqDiff, Nat.reduceAdd, Nat.reduceMul, Nat.reduceSub, Nat.reducePow, Nat.reduceLT, Nat.reduceLeDiff, Int.reduceNeg, Int.reduceEq, Int.reduceLT, Int.reduceLE, reduceCtorEq, h2]
      have e1 : ((i : Int) + (B.length : Int)).toNat = i + B.length := by omega
      have hjB : j = B.length := by omega
      subst hjB
      rw [List.take_length] at hov2
      have hz := hoz2 (i + B.length) (Nat.le_refl _)
      refine draw_of rfl [⟨0, [], []⟩, ⟨1, [], []⟩, ⟨2, [], []⟩, ⟨3, [], []⟩, ⟨4, [], []⟩, ⟨5, [], []⟩, ⟨6, [3], []⟩, ⟨7, [3], []⟩, ⟨8, [3], []⟩, ⟨9, [3], []⟩, ⟨10, [3], []⟩, ⟨11, [3], []⟩, ⟨12, [3], []⟩, ⟨13, [3], []⟩, ⟨14, [3, 9, 13], []⟩, ⟨15, [3], []⟩, ⟨16, [], []⟩, ⟨17, [], []⟩] (by kernel_rfl) ?_
      simp (disch := omega) only [go_sem, ↓reduceIte, Int.reduceToNat, Nat.reduceEqDiff, Nat.reduceAdd, Nat.reduceMul, Nat.reduceSub, Nat.reducePow, Nat.reduceLT, Nat.reduceLeDiff, Int.reduceNeg, Int.reduceEq, Int.reduceLT, Int.reduceLE, reduceCtorEq, e1, hz]
      have e0 : (0 : Int) + cy = cy := by omega
      refine ⟨by omega, by omega, by omega, by omega, next_intro (i + 1, o2.set (i + B.length) cy) [] ⟨by show i + 1 ≤ _; omega, by simp [hol2], gd_set hog2 hcy, ?_, fun k hk => ?_⟩ (by show A.length - (i + 1) < A.length - i; omega) rfl (by simp (disch := omega) only [go_sem, ↓reduceIte, Int.reduceToNat, Nat.reduceEqDiff, Nat.reduceAdd, Nat.reduceMul, Nat.reduceSub, Nat.reducePow, Nat.reduceLT, Nat.reduceLeDiff, Int.reduceNeg, Int.reduceEq, Int.reduceLT, Int.reduceLE, reduceCtorEq]; try omega) (by simp (disch := omega) only [go_sem, ↓reduceIte, Int.reduceToNat, Nat.reduceEqDiff, Nat.reduceAdd, Nat.reduceMul, Nat.reduceSub, Nat.reducePow, Nat.reduceLT, Nat.reduceLeDiff, Int.reduceNeg, Int.reduceEq, Int.reduceLT, Int.reduceLE, reduceCtorEq, e0])⟩
      · show vl (o2.set (i + B.length) cy) = vl (A.take (i + 1)) * vl B
        rw [vl_set (by omega), hz, vl_take_succ (by omega)]
        generalize (65536 : Int) ^ i = Pi at *
        grind
      · show (o2.set (i + B.length) cy).getD k 0 = 0
        rw [List.getD_eq_getElem?_getD, List.getElem?_set_ne (by show i + B.length ≠ k; omega), ← List.getD_eq_getElem?_getD]
        exact hoz2 k (by omega)
  · simp (disch := omega) only [go_sem, ↓reduceIte, Int.reduceToNat, Nat.reduceEqDiff, Nat.reduceAdd, Nat.reduceMul, Nat.reduceSub, Nat.reducePow, Nat.reduceLT, Nat.reduceLeDiff, Int.reduceNeg, Int.reduceEq, Int.reduceLT, Int.reduceLE, reduceCtorEq, h1]
    have hiA : i = A.length := by omega
    subst hiA
    rw [List.take_length, hvb, hm] at hov
    rw [← hol]
    refine call_closed (con_l2norm true (out) (m) (by omega) (hog) (hov)) (by simp (disch := omega) only [go_sem, ↓reduceIte, Int.reduceToNat, Nat.reduceEqDiff, Nat.reduceAdd, Nat.reduceMul, Nat.reduceSub, Nat.reducePow, Nat.reduceLT, Nat.reduceLeDiff, Int.reduceNeg, Int.reduceEq, Int.reduceLT, Int.reduceLE, reduceCtorEq]) ?_
    rintro r hs (⟨h0, rfl, rfl⟩ | ⟨zs, rfl, rfl⟩)
    · refine ⟨⟨by simp, by simp (disch := omega) only [go_sem, ↓reduceIte, Int.reduceToNat, Nat.reduceEqDiff, Nat.reduceAdd, Nat.reduceMul, Nat.reduceSub, Nat.reducePow, Nat.reduceLT, Nat.reduceLeDiff, Int.reduceNeg, Int.reduceEq, Int.reduceLT, Int.reduceLE, reduceCtorEq]⟩, ?_⟩
      simp (disch := omega) only [go_sem, ↓reduceIte, Int.reduceToNat, Nat.reduceEqDiff, Nat.reduceAdd, Nat.reduceMul, Nat.reduceSub, Nat.reducePow, Nat.reduceLT, Nat.reduceLeDiff, Int.reduceNeg, Int.reduceEq, Int.reduceLT, Int.reduceLE, reduceCtorEq]
      refine fin_intro [] [] [] [.ag [.v (.slice none 0 0)]] rfl (by simp (disch := omega) only [go_sem, ↓reduceIte, Int.reduceToNat, Nat.reduceEqDiff, Nat.reduceAdd, Nat.reduceMul, Nat.reduceSub, Nat.reducePow, Nat.reduceLT, Nat.reduceLeDiff, Int.reduceNeg, Int.reduceEq, Int.reduceLT, Int.reduceLE, reduceCtorEq]) (by simp (disch := omega) only [go_sem, ↓reduceIte, Int.reduceToNat, Nat.reduceEqDiff, Nat.reduceAdd, Nat.reduceMul, Nat.reduceSub, Nat.reducePow, Nat.reduceLT, Nat.reduceLeDiff, Int.reduceNeg, Int.reduceEq, Int.reduceLT, Int.reduceLE, reduceCtorEq]) (by simp) (by intro _; simp [tupA, AV.pu, AV.pu.puL, Ob.pu, pu_ints]) (.inl ⟨h0, rfl, rfl⟩)
    · refine ⟨⟨by simp, by simp (disch := omega) only [go_sem, ↓reduceIte, Int.reduceToNat, Nat.reduceEqDiff, Nat.reduceAdd, Nat.reduceMul, Nat.reduceSub, Nat.reducePow, Nat.reduceLT, Nat.reduceLeDiff, Int.reduceNeg, Int.reduceEq, Int.reduceLT, Int.reduceLE, reduceCtorEq]⟩, ?_⟩
      simp (disch := omega) only [go_sem, ↓reduceIte, Int.reduceToNat, Nat.reduceEqDiff, Nat.reduceAdd, Nat.reduceMul, Nat.reduceSub, Nat.reducePow, Nat.reduceLT, Nat.reduceLeDiff, Int.reduceNeg, Int.reduceEq, Int.reduceLT, Int.reduceLE, reduceCtorEq]
      refine fin_intro [(0, 810000000)] [.own 1 (ints (lim (m) ++ zs))] [] [.ag [.rf 0 0 (lim (m)).length]] rfl (by simp (disch := omega) only [go_sem, ↓reduceIte, Int.reduceToNat, Nat.reduceEqDiff, Nat.reduceAdd, Nat.reduceMul, Nat.reduceSub, Nat.reducePow, Nat.reduceLT, Nat.reduceLeDiff, Int.reduceNeg, Int.reduceEq, Int.reduceLT, Int.reduceLE, reduceCtorEq]) (by simp (disch := omega) only [go_sem, ↓reduceIte, Int.reduceToNat, Nat.reduceEqDiff, Nat.reduceAdd, Nat.reduceMul, Nat.reduceSub, Nat.reducePow, Nat.reduceLT, Nat.reduceLeDiff, Int.reduceNeg, Int.reduceEq, Int.reduceLT, Int.reduceLE, reduceCtorEq]) (by simp) (by intro _; simp [tupA, AV.pu, AV.pu.puL, Ob.pu, pu_ints]) (.inr ⟨zs, rfl, rfl⟩)

theorem con_l2mul (cl : Bool) (a b : Nat) (la : (lim a).length ≤ 1000000) (lb : (lim b).length ≤ 1000000) : Con Tryd.prog 74 cl [.ag [.sl (lim (a)).length (ints (lim (a)))], .ag [.sl (lim (b)).length (ints (lim (b)))]] [] (natR (a * b)) :=
  con_l2mulL cl (lim a) (gd_lim a) b la lb (a * b) (by rw [vl_lim, Int.natCast_mul])
end Go.Ab
namespace Go.Ab
open Go Go.Proofs
set_option linter.unusedVariables false
set_option linter.unusedSimpArgs false

theorem pow_le_15 (k : Nat) (h : k < 16) : (0 : Int) < 2 ^ k ∧ (2 : Int) ^ k ≤ 32768 := by
  have : ∀ k, k < 16 → (0 : Int) < 2 ^ k ∧ (2 : Int) ^ k ≤ 32768 := by decide
  exact this k h

theorem mul_shift {x : Int} (hx : 0 ≤ x ∧ x < 65536) {k : Nat} (hk : k < 16) : 0 ≤ x * 2 ^ k ∧ x * 2 ^ k ≤ 2147450880 := by
  obtain ⟨h1, h2⟩ := pow_le_15 k hk
  have h3 := Int.mul_nonneg hx.1 (Int.le_of_lt h1)
  have h4 : x * 2 ^ k ≤ 65535 * 32768 := Int.mul_le_mul (by omega) h2 (by omega) (by omega)
  omega

theorem pow_split (k : Nat) : (65536 : Int) ^ (k / 16) * 2 ^ (k % 16) = 2 ^ k := by
  have e : (65536 : Int) = 2 ^ 16 := by decide
  rw [e, ← Int.pow_mul, ← Int.pow_add, Nat.div_add_mod]

theorem con_up (cl : Bool) (A : List Int) (k : Nat) (hA : gd A) (lA : A.length ≤ 1000000) (hk : k ≤ 100000000) :
    Con Tryd.prog 48 cl [.sl A.length (ints A), .v (.int .i64 k)] [] (numR (lim (vl A * 2 ^ k).toNat)) := by
  refine Con.of_aw Tryd.func48 rfl Tryd.ntmps48 (by simp) (by simp) (by simp) (W.sound ?_)
  show @W Tryd.prog 46 ⟨_⟩ ⟨fun x σ => @retW _ _ _ ⟨_⟩ _ ⟨_⟩ x σ⟩ _ _
  simp (disch := omega) only [go_sem, ↓reduceIte, Int.reduceToNat, Nat.reduceEqDiff, Nat.reduceAdd, Nat.reduceMul, Nat.reduceSub, Nat.reducePow, Nat.reduceLT, Nat.reduceLeDiff, Int.reduceNeg, Int.reduceEq, Int.reduceLT, Int.reduceLE, reduceCtorEq]
  refine ifW_dec (fun h0 => ?_) (fun h0 => ?_)
  · simp (disch := omega) only [go_sem, ↓reduceIte, Int.reduceToNat, Nat.reduceEqDiff, Nat.reduceAdd, Nat.reduceMul, Nat.reduceSub, Nat.reducePow, Nat.reduceLT, Nat.reduceLeDiff, Int.reduceNeg, Int.reduceEq, Int.reduceLT, Int.reduceLE, reduceCtorEq, h0]
    have : A = [] := List.length_eq_zero_iff.1 (by omega)
    subst this
    refine fin_intro [] [] [] [.v (.slice none 0 0)] rfl (by simp (disch := omega) only [go_sem, ↓reduceIte, Int.reduceToNat, Nat.reduceEqDiff, Nat.reduceAdd, Nat.reduceMul, Nat.reduceSub, Nat.reducePow, Nat.reduceLT, Nat.reduceLeDiff, Int.reduceNeg, Int.reduceEq, Int.reduceLT, Int.reduceLE, reduceCtorEq]) (by simp (disch := omega) only [go_sem, ↓reduceIte, Int.reduceToNat, Nat.reduceEqDiff, Nat.reduceAdd, Nat.reduceMul, Nat.reduceSub, Nat.reducePow, Nat.reduceLT, Nat.reduceLeDiff, Int.reduceNeg, Int.reduceEq, Int.reduceLT, Int.reduceLE, reduceCtorEq]) (by simp) (by intro _; simp [tupA, AV.pu, AV.pu.puL, Ob.pu, pu_ints]) (.inl ⟨by simp [vl, lim_zero], rfl, rfl⟩)
  · simp (disch := omega) only [go_sem, ↓reduceIte, Int.reduceToNat, Nat.reduceEqDiff, Nat.reduceAdd, Nat.reduceMul, Nat.reduceSub, Nat.reducePow, Nat.reduceLT, Nat.reduceLeDiff, Int.reduceNeg, Int.reduceEq, Int.reduceLT, Int.reduceLE, reduceCtorEq, h0]
    refine ⟨by omega, ?_⟩
    have e16 : ((k : Int) / 16).toNat = k / 16 := by omega
    refine loop_intro (fun x : Nat × List Int × Int => [(1, .v (.int .i64 k)), (5, .rf 1 0 x.2.1.length), (6, .v (.int .i64 x.2.2)), (21, .sl A.length (ints A)), (22, .v (.int .i64 A.length)), (23, .v (.int .i64 x.1))])
      (fun x => [(1, .own 1 (ints x.2.1))])
      (fun x => x.1 ≤ A.length ∧ x.2.1.length = k / 16 + x.1 ∧ gd x.2.1 ∧ (0 ≤ x.2.2 ∧ x.2.2 < 65536) ∧ vl x.2.1 + 65536 ^ (k / 16 + x.1) * x.2.2 = 65536 ^ (k / 16) * 2 ^ (k % 16) * vl (A.take x.1))
      (fun x => A.length - x.1) (0, List.replicate (k / 16) 0, 0) ⟨by simp, by simp, gd_replicate _, by simp, by simp [vl, vl_replicate]⟩
      (Le.lst [(1, 220000000)] _ _ rfl (by simp (disch := omega) only [go_sem, ↓reduceIte, Int.reduceToNat, Nat.reduceEqDiff, Nat.reduceAdd, Nat.reduceMul, Nat.reduceSub, Nat.reducePow, Nat.reduceLT, Nat.reduceLeDiff, Int.reduceNeg, Int.reduceEq, Int.reduceLT, Int.reduceLE, reduceCtorEq, List.length_replicate, e16]) (by simp (disch := omega) only [go_sem, ↓reduceIte, Int.reduceToNat, Nat.reduceEqDiff, Nat.reduceAdd, Nat.reduceMul, Nat.reduceSub, Nat.reducePow, Nat.reduceLT, Nat.reduceLeDiff, Int.reduceNeg, Int.reduceEq, Int.reduceLT, Int.reduceLE, reduceCtorEq, e16])) ?_
    rintro ⟨i, out, cy⟩ ⟨hi, hol, hog, hcy, hov⟩
    dsimp only at hi hol hog hcy hov ⊢
    simp (disch := omega) only [go_sem, ↓reduceIte, Int.reduceToNat, Nat.reduceEqDiff, Nat.reduceAdd, Nat.reduceMul, Nat.reduceSub, Nat.reducePow, Nat.reduceLT, Nat.reduceLeDiff, Int.reduceNeg, Int.reduceEq, Int.reduceLT, Int.reduceLE, reduceCtorEq]
    refine ifW_dec (fun h1 => ?_) (fun h1 => ?_)
    · have hx := gd_getD hA i
      have hxs := mul_shift hx (show k % 16 < 16 by omega)
      have em : min ((k : Int) % 16).toNat 64 = k % 16 := by omega
      simp (disch := omega) only [go_sem, ↓reduceIte, Int.reduceToNat, Nat.reduceEqDiff, Nat.reduceAdd, Nat.reduceMul, Nat.reduceSub, Nat.reducePow, Nat.reduceLT, Nat.reduceLeDiff, Int.reduceNeg, Int.reduceEq, Int.reduceLT, Int.reduceLE, reduceCtorEq, h1, em]
      generalize hq : cy + A.getD i 0 * 2 ^ (k % 16) = q
      refine ⟨by omega, by omega, by omega, by omega, next_intro (i + 1, out ++ [q % 65536], q / 65536) [(1, 390000000)] ⟨by show i + 1 ≤ _; omega, by simp [hol]; omega, gd_append.2 ⟨hog, gd_one.2 (by omega)⟩, by show 0 ≤ q / 65536 ∧ q / 65536 < 65536; omega, ?_⟩ (by show A.length - (i + 1) < A.length - i; omega) rfl (by simp (disch := omega) only [go_sem, ↓reduceIte, Int.reduceToNat, Nat.reduceEqDiff, Nat.reduceAdd, Nat.reduceMul, Nat.reduceSub, Nat.reducePow, Nat.reduceLT, Nat.reduceLeDiff, Int.reduceNeg, Int.reduceEq, Int.reduceLT, Int.reduceLE, reduceCtorEq, List.length_append]; try omega) (by simp (disch := omega) only [go_sem, ↓reduceIte, Int.reduceToNat, Nat.reduceEqDiff, Nat.reduceAdd, Nat.reduceMul, Nat.reduceSub, Nat.reducePow, Nat.reduceLT, Nat.reduceLeDiff, Int.reduceNeg, Int.reduceEq, Int.reduceLT, Int.reduceLE, reduceCtorEq])⟩
      show vl (out ++ [q % 65536]) + 65536 ^ (k / 16 + (i + 1)) * (q / 65536) = 65536 ^ (k / 16) * 2 ^ (k % 16) * vl (A.take (i + 1))
      rw [vl_snoc, vl_take_any, hol, ← Nat.add_assoc, Int.pow_succ]
      have e3 : q % 65536 + 65536 * (q / 65536) = q := Int.emod_add_mul_ediv q 65536
      rw [Int.pow_add] at hov ⊢
      generalize (65536 : Int) ^ i = Pi at *
      generalize (65536 : Int) ^ (k / 16) = Pk at *
      generalize (2 : Int) ^ (k % 16) = Pm at *
      grind
    · simp (disch := omega) only [go_sem, ↓reduceIte, Int.reduceToNat, Nat.reduceEqDiff, Nat.reduceAdd, Nat.reduceMul, Nat.reduceSub, Nat.reducePow, Nat.reduceLT, Nat.reduceLeDiff, Int.reduceNeg, Int.reduceEq, Int.reduceLT, Int.reduceLE, reduceCtorEq, h1]
      have hiA : i = A.length := by omega
      subst hiA
      rw [List.take_length, pow_split] at hov
      have hov2 : vl (out ++ [cy]) = vl A * 2 ^ k := by rw [vl_snoc, hol, hov]; grind
      have hog2 : gd (out ++ [cy]) := gd_append.2 ⟨hog, gd_one.2 hcy⟩
      refine ⟨by omega, ?_⟩
      have hl2 : out.length + 1 = (out ++ [cy]).length := by simp
      rw [hl2]
      refine call_lend false [460000000] (con_trim (out ++ [cy]) (by simp; omega)) (by simp (disch := omega) only [go_sem, ↓reduceIte, Int.reduceToNat, Nat.reduceEqDiff, Nat.reduceAdd, Nat.reduceMul, Nat.reduceSub, Nat.reducePow, Nat.reduceLT, Nat.reduceLeDiff, Int.reduceNeg, Int.reduceEq, Int.reduceLT, Int.reduceLE, reduceCtorEq]) (by simp (disch := omega) only [go_sem, ↓reduceIte, Int.reduceToNat, Nat.reduceEqDiff, Nat.reduceAdd, Nat.reduceMul, Nat.reduceSub, Nat.reducePow, Nat.reduceLT, Nat.reduceLeDiff, Int.reduceNeg, Int.reduceEq, Int.reduceLT, Int.reduceLE, reduceCtorEq]) rfl (lend_cons (z := 1) (cs := ints (out ++ [cy])) (by simp (disch := omega) only [go_sem, ↓reduceIte, Int.reduceToNat, Nat.reduceEqDiff, Nat.reduceAdd, Nat.reduceMul, Nat.reduceSub, Nat.reducePow, Nat.reduceLT, Nat.reduceLeDiff, Int.reduceNeg, Int.reduceEq, Int.reduceLT, Int.reduceLE, reduceCtorEq]) (by simp (disch := omega) only [go_sem, ↓reduceIte, Int.reduceToNat, Nat.reduceEqDiff, Nat.reduceAdd, Nat.reduceMul, Nat.reduceSub, Nat.reducePow, Nat.reduceLT, Nat.reduceLeDiff, Int.reduceNeg, Int.reduceEq, Int.reduceLT, Int.reduceLE, reduceCtorEq])) (by intro n hn; exact ⟨_, List.mem_singleton.2 rfl, by rw [List.mem_singleton.1 hn]; rfl⟩) ?_
      rintro r hs bs ⟨rfl, rfl, rfl⟩ _
      refine ⟨by simp [freeN], ?_⟩
      simp (disch := omega) only [go_sem, ↓reduceIte, Int.reduceToNat, Nat.reduceEqDiff, Nat.reduceAdd, Nat.reduceMul, Nat.reduceSub, Nat.reducePow, Nat.reduceLT, Nat.reduceLeDiff, Int.reduceNeg, Int.reduceEq, Int.reduceLT, Int.reduceLE, reduceCtorEq]
      obtain ⟨z, hz⟩ := cutZ_pre (out ++ [cy])
      have hc := cutZ_lim hog2
      rw [hov2] at hc
      rw [hc] at hz ⊢
      refine fin_intro [(0, 460000000)] [.own 1 (ints (out ++ [cy]))] [] [.rf 0 0 (lim (vl A * 2 ^ k).toNat).length] rfl (by simp (disch := omega) only [go_sem, ↓reduceIte, Int.reduceToNat, Nat.reduceEqDiff, Nat.reduceAdd, Nat.reduceMul, Nat.reduceSub, Nat.reducePow, Nat.reduceLT, Nat.reduceLeDiff, Int.reduceNeg, Int.reduceEq, Int.reduceLT, Int.reduceLE, reduceCtorEq]) (by simp (disch := omega) only [go_sem, ↓reduceIte, Int.reduceToNat, Nat.reduceEqDiff, Nat.reduceAdd, Nat.reduceMul, Nat.reduceSub, Nat.reducePow, Nat.reduceLT, Nat.reduceLeDiff, Int.reduceNeg, Int.reduceEq, Int.reduceLT, Int.reduceLE, reduceCtorEq]) (by simp) (by intro _; simp [tupA, AV.pu, AV.pu.puL, Ob.pu, pu_ints]) (.inr ⟨List.replicate z 0, rfl, by rw [← hz]⟩)
end Go.Ab
namespace Go.Ab
open Go Go.Proofs
set_option linter.unusedVariables false
set_option linter.unusedSimpArgs false

theorem drop_set {l : List Int} {i : Nat} (h : i < l.length) (z : Int) : (l.set i z).drop i = z :: l.drop (i + 1) := by
  rw [List.drop_eq_getElem_cons (by simpa using h)]
  simp [List.drop_set]

theorem con_divs (cl : Bool) (A : List Int) (d : Nat) (hA : gd A) (lA : A.length ≤ 1000000) (hd : 0 < d) (hd2 : d < 65536) :
    Con Tryd.prog 110 cl [.sl A.length (ints A), .v (.int .i64 d)] [] (fun r hs bs => ∃ zs, r = .tu [.rf 0 0 (lim (vl A / d).toNat).length, .v (.int .i64 (vl A % d))] ∧ hs = [.own 1 (ints (lim (vl A / d).toNat ++ zs))]) := by
  refine Con.of_aw Tryd.func110 rfl Tryd.ntmps110 (by simp) (by simp) (by simp) (W.sound ?_)
  show @W Tryd.prog 38 ⟨_⟩ ⟨fun x σ => @retW _ _ _ ⟨_⟩ _ ⟨_⟩ x σ⟩ _ _
  simp (disch := omega) only [go_sem, ↓reduceIte, Int.reduceToNat, Nat.reduceEqDiff, Nat.reduceAdd, Nat.reduceMul, Nat.reduceSub, Nat.reducePow, Nat.reduceLT, Nat.reduceLeDiff, Int.reduceNeg, Int.reduceEq, Int.reduceLT, Int.reduceLE, reduceCtorEq]
  refine ⟨by omega, ?_⟩
  refine loop_intro (fun x : Nat × List Int × Int => [(0, .sl A.length (ints A)), (1, .v (.int .i64 d)), (6, .rf 130000000 0 A.length), (7, .v (.int .i64 x.2.2)), (8, .v (.int .i64 ((x.1 : Int) - 1)))])
    (fun x => [(130000000, .own 1 (ints x.2.1))])
    (fun x => x.1 ≤ A.length ∧ x.2.1.length = A.length ∧ gd x.2.1 ∧ x.2.2 = vl (A.drop x.1) % d ∧ vl (x.2.1.drop x.1) = vl (A.drop x.1) / d)
    (fun x => x.1) (A.length, List.replicate A.length 0, 0) ⟨by simp, by simp, gd_replicate _, by simp [vl], by simp [vl]⟩
    (Le.lst [] _ _ rfl (by simp (disch := omega) only [go_sem, ↓reduceIte, Int.reduceToNat, Nat.reduceEqDiff, Nat.reduceAdd, Nat.reduceMul, Nat.reduceSub, Nat.reducePow, Nat.reduceLT, Nat.reduceLeDiff, Int.reduceNeg, Int.reduceEq, Int.reduceLT, Int.reduceLE, reduceCtorEq]; try omega) (by simp (disch := omega) only [go_sem, ↓reduceIte, Int.reduceToNat, Nat.reduceEqDiff, Nat.reduceAdd, Nat.reduceMul, Nat.reduceSub, Nat.reducePow, Nat.reduceLT, Nat.reduceLeDiff, Int.reduceNeg, Int.reduceEq, Int.reduceLT, Int.reduceLE, reduceCtorEq])) ?_
  rintro ⟨m, out, rest⟩ ⟨hm, hol, hog, hr, hov⟩
  dsimp only at hm hol hog hr hov ⊢
  simp (disch := omega) only [go_sem, ↓reduceIte, Int.reduceToNat, Nat.reduceEqDiff, Nat.reduceAdd, Nat.reduceMul, Nat.reduceSub, Nat.reducePow, Nat.reduceLT, Nat.reduceLeDiff, Int.reduceNeg, Int.reduceEq, Int.reduceLT, Int.reduceLE, reduceCtorEq]
  refine ifW_dec (fun h1 => ?_) (fun h1 => ?_)
  · obtain ⟨i, rfl⟩ : ∃ i, m = i + 1 := ⟨m - 1, by omega⟩
    have e1 : ((i + 1 : Nat) : Int) - 1 = (i : Nat) := by omega
    have hx := gd_getD hA i
    have hr2 : 0 ≤ rest ∧ rest < d := by rw [hr]; exact ⟨Int.emod_nonneg _ (by omega), Int.emod_lt_of_pos _ (by omega)⟩
    generalize hq : rest * 65536 + A.getD i 0 = q
    have hq0 : 0 ≤ q := by omega
    have hqd : 0 ≤ q / d ∧ q / d < 65536 := ⟨Int.ediv_nonneg hq0 (by omega), Int.ediv_lt_of_lt_mul (by omega) (by omega)⟩
    have hqm : 0 ≤ q % d ∧ q % d < d := ⟨Int.emod_nonneg _ (by omega), Int.emod_lt_of_pos _ (by omega)⟩
    simp (disch := omega) only [go_sem, ↓reduceIte, Int.reduceToNat, Nat.reduceEqDiff, Nat.reduceAdd, Nat.reduceMul, Nat.reduceSub, Nat.reducePow, Nat.reduceLT, Nat.reduceLeDiff, Int.reduceNeg, Int.reduceEq, Int.reduceLT, Int.reduceLE, reduceCtorEq, h1, e1, hq]
    refine ⟨by omega, by omega, by omega, by omega, by omega, by omega, next_intro (i, out.set i (q / d), q % d) [] ⟨by show i ≤ _; omega, by simp [hol], gd_set hog hqd, ?_, ?_⟩ (by show i < i + 1; omega) rfl (by simp (disch := omega) only [go_sem, ↓reduceIte, Int.reduceToNat, Nat.reduceEqDiff, Nat.reduceAdd, Nat.reduceMul, Nat.reduceSub, Nat.reducePow, Nat.reduceLT, Nat.reduceLeDiff, Int.reduceNeg, Int.reduceEq, Int.reduceLT, Int.reduceLE, reduceCtorEq]) (by simp (disch := omega) only [go_sem, ↓reduceIte, Int.reduceToNat, Nat.reduceEqDiff, Nat.reduceAdd, Nat.reduceMul, Nat.reduceSub, Nat.reducePow, Nat.reduceLT, Nat.reduceLeDiff, Int.reduceNeg, Int.reduceEq, Int.reduceLT, Int.reduceLE, reduceCtorEq])⟩
    · show q % d = vl (A.drop i) % d
      rw [vl_drop (l := A) (i := i) (by omega), ← hq, hr]
      have h3 := Int.emod_add_mul_ediv (vl (A.drop (i + 1))) d
      rw [show A.getD i 0 + 65536 * vl (A.drop (i + 1)) = vl (A.drop (i + 1)) % d * 65536 + A.getD i 0 + d * (65536 * (vl (A.drop (i + 1)) / d)) by grind, Int.add_mul_emod_self_left]
    · show vl ((out.set i (q / d)).drop i) = vl (A.drop i) / d
      rw [drop_set (by omega), vl, hov, vl_drop (l := A) (i := i) (by omega), ← hq, hr]
      have h3 := Int.emod_add_mul_ediv (vl (A.drop (i + 1))) d
      rw [show A.getD i 0 + 65536 * vl (A.drop (i + 1)) = vl (A.drop (i + 1)) % d * 65536 + A.getD i 0 + d * (65536 * (vl (A.drop (i + 1)) / d)) by grind, Int.add_mul_ediv_left _ _ (by omega)]
  · simp (disch := omega) only [go_sem, ↓reduceIte, Int.reduceToNat, Nat.reduceEqDiff, Nat.reduceAdd, Nat.reduceMul, Nat.reduceSub, Nat.reducePow, Nat.reduceLT, Nat.reduceLeDiff, Int.reduceNeg, Int.reduceEq, Int.reduceLT, Int.reduceLE, reduceCtorEq, h1]
    have : m = 0 := by omega
    subst this
    rw [List.drop_zero, List.drop_zero] at hov
    rw [List.drop_zero] at hr
    rw [← hol]
    refine call_lend false [130000000] (con_trim out (by omega)) (by simp (disch := omega) only [go_sem, ↓reduceIte, Int.reduceToNat, Nat.reduceEqDiff, Nat.reduceAdd, Nat.reduceMul, Nat.reduceSub, Nat.reducePow, Nat.reduceLT, Nat.reduceLeDiff, Int.reduceNeg, Int.reduceEq, Int.reduceLT, Int.reduceLE, reduceCtorEq]) (by simp (disch := omega) only [go_sem, ↓reduceIte, Int.reduceToNat, Nat.reduceEqDiff, Nat.reduceAdd, Nat.reduceMul, Nat.reduceSub, Nat.reducePow, Nat.reduceLT, Nat.reduceLeDiff, Int.reduceNeg, Int.reduceEq, Int.reduceLT, Int.reduceLE, reduceCtorEq]) rfl (lend_cons (z := 1) (cs := ints out) (by simp (disch := omega) only [go_sem, ↓reduceIte, Int.reduceToNat, Nat.reduceEqDiff, Nat.reduceAdd, Nat.reduceMul, Nat.reduceSub, Nat.reducePow, Nat.reduceLT, Nat.reduceLeDiff, Int.reduceNeg, Int.reduceEq, Int.reduceLT, Int.reduceLE, reduceCtorEq]) (by simp (disch := omega) only [go_sem, ↓reduceIte, Int.reduceToNat, Nat.reduceEqDiff, Nat.reduceAdd, Nat.reduceMul, Nat.reduceSub, Nat.reducePow, Nat.reduceLT, Nat.reduceLeDiff, Int.reduceNeg, Int.reduceEq, Int.reduceLT, Int.reduceLE, reduceCtorEq])) (by intro n hn; exact ⟨_, List.mem_singleton.2 rfl, by rw [List.mem_singleton.1 hn]; rfl⟩) ?_
    rintro r hs bs ⟨rfl, rfl, rfl⟩ _
    refine ⟨by simp [freeN], ?_⟩
    simp (disch := omega) only [go_sem, ↓reduceIte, Int.reduceToNat, Nat.reduceEqDiff, Nat.reduceAdd, Nat.reduceMul, Nat.reduceSub, Nat.reducePow, Nat.reduceLT, Nat.reduceLeDiff, Int.reduceNeg, Int.reduceEq, Int.reduceLT, Int.reduceLE, reduceCtorEq]
    obtain ⟨z, hz⟩ := cutZ_pre out
    have hc := cutZ_lim hog
    rw [hov] at hc
    rw [hc] at hz ⊢
    rw [hr]
    refine fin_intro [(0, 130000000)] [.own 1 (ints out)] [] [.rf 0 0 (lim (vl A / d).toNat).length, .v (.int .i64 (vl A % d))] rfl (by simp (disch := omega) only [go_sem, ↓reduceIte, Int.reduceToNat, Nat.reduceEqDiff, Nat.reduceAdd, Nat.reduceMul, Nat.reduceSub, Nat.reducePow, Nat.reduceLT, Nat.reduceLeDiff, Int.reduceNeg, Int.reduceEq, Int.reduceLT, Int.reduceLE, reduceCtorEq]) (by simp (disch := omega) only [go_sem, ↓reduceIte, Int.reduceToNat, Nat.reduceEqDiff, Nat.reduceAdd, Nat.reduceMul, Nat.reduceSub, Nat.reducePow, Nat.reduceLT, Nat.reduceLeDiff, Int.reduceNeg, Int.reduceEq, Int.reduceLT, Int.reduceLE, reduceCtorEq]) (by simp) (by intro _; simp [tupA, AV.pu, AV.pu.puL, Ob.pu, pu_ints]) ⟨List.replicate z 0, rfl, by rw [← hz]⟩
end Go.Ab
namespace Go.Ab
open Go Go.Proofs
set_option linter.unusedVariables false
set_option linter.unusedSimpArgs false

/-- A quotient by a small number, and the rest. -/
def natR2 (m : Nat) (r0 : Int) : AV → List Ob → List Ob → Prop := fun r hs bs =>
  (m = 0 ∧ r = .tu [.ag [.v (.slice none 0 0)], .v (.int .i64 r0)] ∧ hs = []) ∨ ∃ zs, r = .tu [.ag [.rf 0 0 (lim m).length], .v (.int .i64 r0)] ∧ hs = [.own 1 (ints (lim m ++ zs))]

theorem Con.natF2 {P : Program} {f : FuncId} {args : List AV} {m : Nat} {r0 : Int} (h : Con P f false args [] (natR2 m r0)) : Con P f false args [] (isA (.tu [.ag [.sl (lim (m)).length (ints (lim (m)))], .v (.int .i64 r0)])) :=
  Con.frzA <| h.mono fun r hs bs h => by
    rcases h with ⟨rfl, rfl, rfl⟩ | ⟨zs, rfl, rfl⟩
    · show snap _ 6 _ = _
      rw [lim_zero]; rfl
    · show snap _ 6 _ = _
      rw [snap_tu, List.map_cons, List.map_cons, List.map_nil, snap_ag, List.map_cons, List.map_nil, snap_num (k := 2) (l := lim m) (zs := zs) rhp_zero rfl]
      rfl

theorem con_l2smallL (cl : Bool) (A : List Int) (d : Nat) (hA : gd A) (lA : A.length ≤ 1000000) (hd : 0 < d) (hd2 : d < 65536) (m : Nat) (hm : vl A / (d : Int) = (m : Int)) :
    Con Tryd.prog 76 cl [.ag [.sl A.length (ints A)], .v (.int .i64 d)] [] (natR2 m (vl A % d)) := by
  refine Con.of_aw Tryd.func76 rfl Tryd.ntmps76 (by simp) (by simp) (by simp) (W.sound ?_)
  show @W Tryd.prog 42 ⟨_⟩ ⟨fun x σ => @retW _ _ _ ⟨_⟩ _ ⟨_⟩ x σ⟩ _ _
  simp (disch := omega) only [go_sem, ↓reduceIte, Int.reduceToNat, Nat.reduceEqDiff, Nat.reduceAdd, Nat.reduceMul, Nat.reduceSub, Nat.reducePow, Nat.reduceLT, Nat.reduceLeDiff, Int.reduceNeg, Int.reduceEq, Int.reduceLT, Int.reduceLE, reduceCtorEq]
  refine ⟨by omega, ?_⟩
  refine loop_intro (fun x : Nat × List Int × Int => [(1, .v (.int .i64 d)), (2, .pt 0 0), (4, .pt 1 0), (6, .rf 2 0 A.length), (7, .v (.int .i64 x.2.2)), (8, .v (.int .i64 ((x.1 : Int) - 1)))])
    (fun x => [(0, .own 0 [.sl A.length (ints A)]), (1, .own 0 [.v (.slice none 0 0)]), (2, .own 1 (ints x.2.1))])
    (fun x => x.1 ≤ A.length ∧ x.2.1.length = A.length ∧ gd x.2.1 ∧ x.2.2 = vl (A.drop x.1) % d ∧ vl (x.2.1.drop x.1) = vl (A.drop x.1) / d)
    (fun x => x.1) (A.length, List.replicate A.length 0, 0) ⟨Nat.le_refl _, by simp, gd_replicate _, by simp [vl], by simp [vl]⟩
    (Le.lst [(0, 40000000), (1, 60000000), (2, 150000000)] _ _ rfl (by simp (disch := omega) only [go_sem, ↓reduceIte, Int.reduceToNat, Nat.reduceEqDiff, Nat.reduceAdd, Nat.reduceMul, Nat.reduceSub, Nat.reducePow, Nat.reduceLT, Nat.reduceLeDiff, Int.reduceNeg, Int.reduceEq, Int.reduceLT, Int.reduceLE, reduceCtorEq, List.length_replicate]; try omega) (by simp (disch := omega) only [go_sem, ↓reduceIte, Int.reduceToNat, Nat.reduceEqDiff, Nat.reduceAdd, Nat.reduceMul, Nat.reduceSub, Nat.reducePow, Nat.reduceLT, Nat.reduceLeDiff, Int.reduceNeg, Int.reduceEq, Int.reduceLT, Int.reduceLE, reduceCtorEq])) ?_
  rintro ⟨k, out, rest⟩ ⟨hk, hol, hog, hr, hov⟩
  dsimp only at hk hol hog hr hov ⊢
  have hr0 : 0 ≤ rest ∧ rest < d := by rw [hr]; exact ⟨Int.emod_nonneg _ (by omega), Int.emod_lt_of_pos _ (by omega)⟩
  simp (disch := omega) only [go_sem, ↓reduceIte, Int.reduceToNat, Nat.reduceEqDiff, Nat.reduceAdd, Nat.reduceMul, Nat.reduceSub, Nat.reducePow, Nat.reduceLT, Nat.reduceLeDiff, Int.reduceNeg, Int.reduceEq, Int.reduceLT, Int.reduceLE, reduceCtorEq]
  refine ifW_dec (fun h1 => ?_) (fun h1 => ?_)
  · obtain ⟨i, rfl⟩ : ∃ i, k = i + 1 := ⟨k - 1, by omega⟩
    have ei : ((i + 1 : Nat) : Int) - 1 = (i : Nat) := by omega
    have hx := gd_getD hA i
    have hq6 : 0 ≤ (rest * 65536 + A.getD i 0) / d ∧ (rest * 65536 + A.getD i 0) / d < 65536 := by
      refine ⟨Int.ediv_nonneg (by omega) (by omega), Int.ediv_lt_of_lt_mul (by omega) ?_⟩
      have : rest + 1 ≤ (d : Int) := by omega
      have := Int.mul_le_mul_of_nonneg_left this (show (0 : Int) ≤ 65536 by omega)
      omega
    simp (disch := omega) only [go_sem, ↓reduceIte, Int.reduceToNat, Nat.reduceEqDiff, Nat.reduceAdd, Nat.reduceMul, Nat.reduceSub, Nat.reducePow, Nat.reduceLT, Nat.reduceLeDiff, Int.reduceNeg, Int.reduceEq, Int.reduceLT, Int.reduceLE, reduceCtorEq, h1, ei]
    generalize hq : rest * 65536 + A.getD i 0 = q at *
    refine ⟨by omega, by omega, by omega, by omega, by omega, by omega, next_intro (i, out.set i (q / d), q % d) [] ⟨by show i ≤ _; omega, by simp [hol], gd_set hog hq6, ?_, ?_⟩ (by show i < i + 1; omega) rfl (by simp (disch := omega) only [go_sem, ↓reduceIte, Int.reduceToNat, Nat.reduceEqDiff, Nat.reduceAdd, Nat.reduceMul, Nat.reduceSub, Nat.reducePow, Nat.reduceLT, Nat.reduceLeDiff, Int.reduceNeg, Int.reduceEq, Int.reduceLT, Int.reduceLE, reduceCtorEq]; try omega) (by simp (disch := omega) only [go_sem, ↓reduceIte, Int.reduceToNat, Nat.reduceEqDiff, Nat.reduceAdd, Nat.reduceMul, Nat.reduceSub, Nat.reducePow, Nat.reduceLT, Nat.reduceLeDiff, Int.reduceNeg, Int.reduceEq, Int.reduceLT, Int.reduceLE, reduceCtorEq])⟩
    · show q % d = vl (A.drop i) % d
      rw [vl_drop (l := A) (i := i) (by omega), ← hq, hr]
      have h3 := Int.emod_add_mul_ediv (vl (A.drop (i + 1))) d
      rw [show A.getD i 0 + 65536 * vl (A.drop (i + 1)) = vl (A.drop (i + 1)) % d * 65536 + A.getD i 0 + d * (65536 * (vl (A.drop (i + 1)) / d)) by grind, Int.add_mul_emod_self_left]
    · show vl ((out.set i (q / d)).drop i) = vl (A.drop i) / d
      rw [drop_set (by omega), vl, hov, vl_drop (l := A) (i := i) (by omega), ← hq, hr]
      have h3 := Int.emod_add_mul_ediv (vl (A.drop (i + 1))) d
      rw [show A.getD i 0 + 65536 * vl (A.drop (i + 1)) = vl (A.drop (i + 1)) % d * 65536 + A.getD i 0 + d * (65536 * (vl (A.drop (i + 1)) / d)) by grind, Int.add_mul_ediv_left _ _ (by omega)]
  · simp (disch := omega) only [go_sem, ↓reduceIte, Int.reduceToNat, Nat.reduceEqDiff, Nat.reduceAdd, Nat.reduceMul, Nat.reduceSub, Nat.reducePow, Nat.reduceLT, Nat.reduceLeDiff, Int.reduceNeg, Int.reduceEq, Int.reduceLT, Int.reduceLE, reduceCtorEq, h1]
    have : k = 0 := by omega
    subst this
    rw [List.drop_zero, List.drop_zero, hm] at hov
    rw [List.drop_zero] at hr
    rw [← hol]
    refine call_closed (con_l2norm true out m (by omega) hog hov) (by simp (disch := omega) only [go_sem, ↓reduceIte, Int.reduceToNat, Nat.reduceEqDiff, Nat.reduceAdd, Nat.reduceMul, Nat.reduceSub, Nat.reducePow, Nat.reduceLT, Nat.reduceLeDiff, Int.reduceNeg, Int.reduceEq, Int.reduceLT, Int.reduceLE, reduceCtorEq]) ?_
    rintro r hs (⟨h0, rfl, rfl⟩ | ⟨zs, rfl, rfl⟩)
    · refine ⟨⟨by simp, by simp (disch := omega) only [go_sem, ↓reduceIte, Int.reduceToNat, Nat.reduceEqDiff, Nat.reduceAdd, Nat.reduceMul, Nat.reduceSub, Nat.reducePow, Nat.reduceLT, Nat.reduceLeDiff, Int.reduceNeg, Int.reduceEq, Int.reduceLT, Int.reduceLE, reduceCtorEq]⟩, ?_⟩
      simp (disch := omega) only [go_sem, ↓reduceIte, Int.reduceToNat, Nat.reduceEqDiff, Nat.reduceAdd, Nat.reduceMul, Nat.reduceSub, Nat.reducePow, Nat.reduceLT, Nat.reduceLeDiff, Int.reduceNeg, Int.reduceEq, Int.reduceLT, Int.reduceLE, reduceCtorEq]
      rw [hr]
      refine fin_intro [] [] [] [.ag [.v (.slice none 0 0)], .v (.int .i64 (vl A % d))] rfl (by simp (disch := omega) only [go_sem, ↓reduceIte, Int.reduceToNat, Nat.reduceEqDiff, Nat.reduceAdd, Nat.reduceMul, Nat.reduceSub, Nat.reducePow, Nat.reduceLT, Nat.reduceLeDiff, Int.reduceNeg, Int.reduceEq, Int.reduceLT, Int.reduceLE, reduceCtorEq]) (by simp (disch := omega) only [go_sem, ↓reduceIte, Int.reduceToNat, Nat.reduceEqDiff, Nat.reduceAdd, Nat.reduceMul, Nat.reduceSub, Nat.reducePow, Nat.reduceLT, Nat.reduceLeDiff, Int.reduceNeg, Int.reduceEq, Int.reduceLT, Int.reduceLE, reduceCtorEq]) (by simp) (by intro _; simp [tupA, AV.pu, AV.pu.puL, Ob.pu, pu_ints]) (.inl ⟨h0, rfl, rfl⟩)
    · refine ⟨⟨by simp, by simp (disch := omega) only [go_sem, ↓reduceIte, Int.reduceToNat, Nat.reduceEqDiff, Nat.reduceAdd, Nat.reduceMul, Nat.reduceSub, Nat.reducePow, Nat.reduceLT, Nat.reduceLeDiff, Int.reduceNeg, Int.reduceEq, Int.reduceLT, Int.reduceLE, reduceCtorEq]⟩, ?_⟩
      simp (disch := omega) only [go_sem, ↓reduceIte, Int.reduceToNat, Nat.reduceEqDiff, Nat.reduceAdd, Nat.reduceMul, Nat.reduceSub, Nat.reducePow, Nat.reduceLT, Nat.reduceLeDiff, Int.reduceNeg, Int.reduceEq, Int.reduceLT, Int.reduceLE, reduceCtorEq]
      rw [hr]
      refine fin_intro [(0, 420000000)] [.own 1 (ints (lim m ++ zs))] [] [.ag [.rf 0 0 (lim m).length], .v (.int .i64 (vl A % d))] rfl (by simp (disch := omega) only [go_sem, ↓reduceIte, Int.reduceToNat, Nat.reduceEqDiff, Nat.reduceAdd, Nat.reduceMul, Nat.reduceSub, Nat.reducePow, Nat.reduceLT, Nat.reduceLeDiff, Int.reduceNeg, Int.reduceEq, Int.reduceLT, Int.reduceLE, reduceCtorEq]) (by simp (disch := omega) only [go_sem, ↓reduceIte, Int.reduceToNat, Nat.reduceEqDiff, Nat.reduceAdd, Nat.reduceMul, Nat.reduceSub, Nat.reducePow, Nat.reduceLT, Nat.reduceLeDiff, Int.reduceNeg, Int.reduceEq, Int.reduceLT, Int.reduceLE, reduceCtorEq]) (by simp) (by intro _; simp [tupA, AV.pu, AV.pu.puL, Ob.pu, pu_ints]) (.inr ⟨zs, rfl, rfl⟩)

theorem con_l2smallN (a d : Nat) (la : (lim a).length ≤ 1000000) (hd : 0 < d) (hd2 : d < 65536) :
    Con Tryd.prog 76 false [.ag [.sl (lim (a)).length (ints (lim (a)))], .v (.int .i64 d)] [] (isA (.tu [.ag [.sl (lim (a / d)).length (ints (lim (a / d)))], .v (.int .i64 ((a % d : Nat) : Int))])) := by
  have := (con_l2smallL false (lim a) d (gd_lim a) la hd hd2 (a / d) (by rw [vl_lim, Int.natCast_ediv])).natF2
  rwa [vl_lim, ← Int.natCast_emod] at this

/-! ### Shifts -/
theorem shl_one {k : Nat} (hk : k < 16) : IntKind.i64.wrap (1 * 2 ^ (min ((k : Int)).toNat 64)) = ((2 ^ k : Nat) : Int) := by
  have e : min ((k : Int)).toNat 64 = k := by omega
  rw [e, Int.one_mul]
  have h := pow_le_15 k hk
  rw [wrap_id (by omega) (by omega), Int.natCast_pow]; rfl

theorem con_l2shl (cl : Bool) (a k : Nat) (la : (lim a).length ≤ 400000) (hk : k ≤ 5000000) : Con Tryd.prog 41 cl [.ag [.sl (lim (a)).length (ints (lim (a)))], .v (.int .i64 k)] [] (natR (a * 2 ^ k)) := by
  refine Con.of_aw Tryd.func41 rfl Tryd.ntmps41 (by simp) (by simp) (by simp) (W.sound ?_)
  show @W Tryd.prog 22 ⟨_⟩ ⟨fun x σ => @retW _ _ _ ⟨_⟩ _ ⟨_⟩ x σ⟩ _ _
  have hz : ((lim a).length : Int) = 0 → a = 0 := fun h => lim_eq_nil.1 (List.length_eq_zero_iff.1 (by omega))
  have hvA := vl_lim a
  have gA := gd_lim a
  generalize hLA : lim a = A at *
  simp (disch := omega) only [go_sem, ↓reduceIte, Int.reduceToNat, Nat.reduceEqDiff, Nat.reduceAdd, Nat.reduceMul, Nat.reduceSub, Nat.reducePow, Nat.reduceLT, Nat.reduceLeDiff, Int.reduceNeg, Int.reduceEq, Int.reduceLT, Int.reduceLE, reduceCtorEq]
  refine ifW_dec (fun h1 => ?_) (fun h1 => ?_)
  · simp (disch := omega) only [go_sem, ↓reduceIte, Int.reduceToNat, Nat.reduceEqDiff, Nat.reduceAdd, Nat.reduceMul, Nat.reduceSub, Nat.reducePow, Nat.reduceLT, Nat.reduceLeDiff, Int.reduceNeg, Int.reduceEq, Int.reduceLT, Int.reduceLE, reduceCtorEq, h1]
    have h0 := hz h1
    subst h0
    refine fin_intro [] [] [] [.ag [.v (.slice none 0 0)]] rfl (by simp (disch := omega) only [go_sem, ↓reduceIte, Int.reduceToNat, Nat.reduceEqDiff, Nat.reduceAdd, Nat.reduceMul, Nat.reduceSub, Nat.reducePow, Nat.reduceLT, Nat.reduceLeDiff, Int.reduceNeg, Int.reduceEq, Int.reduceLT, Int.reduceLE, reduceCtorEq]) (by simp (disch := omega) only [go_sem, ↓reduceIte, Int.reduceToNat, Nat.reduceEqDiff, Nat.reduceAdd, Nat.reduceMul, Nat.reduceSub, Nat.reducePow, Nat.reduceLT, Nat.reduceLeDiff, Int.reduceNeg, Int.reduceEq, Int.reduceLT, Int.reduceLE, reduceCtorEq]) (by simp) (by intro _; simp [tupA, AV.pu, AV.pu.puL, Ob.pu, pu_ints]) (.inl ⟨by simp, rfl, rfl⟩)
  · simp (disch := omega) only [go_sem, ↓reduceIte, Int.reduceToNat, Nat.reduceEqDiff, Nat.reduceAdd, Nat.reduceMul, Nat.reduceSub, Nat.reducePow, Nat.reduceLT, Nat.reduceLeDiff, Int.reduceNeg, Int.reduceEq, Int.reduceLT, Int.reduceLE, reduceCtorEq, h1]
    refine draw_of rfl [⟨0, [], []⟩, ⟨1, [], []⟩, ⟨3, [], []⟩, ⟨4, [], []⟩, ⟨7, [4], []⟩, ⟨8, [4], []⟩, ⟨9, [4], []⟩, ⟨2, [4], []⟩, ⟨5, [], []⟩, ⟨6, [], []⟩, ⟨10, [], []⟩, ⟨11, [], []⟩, ⟨12, [], []⟩] (by kernel_rfl) ?_
    have e16 : ((k : Int) / 16).toNat = k / 16 := by omega
    have e17 : (k : Int) % 16 = ((k % 16 : Nat) : Int) := by omega
    have es : IntKind.i64.wrap (1 * 2 ^ (min ((k : Int) % 16).toNat 64)) = ((2 ^ (k % 16) : Nat) : Int) := by rw [e17]; exact shl_one (by omega)
    have hp15 : 2 ^ (k % 16) ≤ 2 ^ 15 := Nat.pow_le_pow_right (by omega) (by omega)
    have ecut : (List.replicate (k / 16) (0 : Int)).take (k / 16) = List.replicate (k / 16) 0 := List.take_of_length_le (by simp)
    simp (disch := omega) only [go_sem, ↓reduceIte, Int.reduceToNat, Nat.reduceEqDiff, Nat.reduceAdd, Nat.reduceMul, Nat.reduceSub, Nat.reducePow, Nat.reduceLT, Nat.reduceLeDiff, Int.reduceNeg, Int.reduceEq, Int.reduceLT, Int.reduceLE, reduceCtorEq, e16, ecut, es]
    refine ⟨by omega, by omega, by simp; omega, ?_⟩
    refine call_open ((con_l2of false (2 ^ (k % 16)) (by omega)).natF) (by simp (disch := omega) only [go_sem, ↓reduceIte, Int.reduceToNat, Nat.reduceEqDiff, Nat.reduceAdd, Nat.reduceMul, Nat.reduceSub, Nat.reducePow, Nat.reduceLT, Nat.reduceLeDiff, Int.reduceNeg, Int.reduceEq, Int.reduceLT, Int.reduceLE, reduceCtorEq]) ?_
    rintro r hs ⟨rfl, rfl, _⟩
    refine ⟨by simp [freeN], ?_⟩
    simp (disch := omega) only [go_sem, ↓reduceIte, Int.reduceToNat, Nat.reduceEqDiff, Nat.reduceAdd, Nat.reduceMul, Nat.reduceSub, Nat.reducePow, Nat.reduceLT, Nat.reduceLeDiff, Int.reduceNeg, Int.reduceEq, Int.reduceLT, Int.reduceLE, reduceCtorEq]
    have hvA2 : vl (List.replicate (k / 16) 0 ++ A) * ((2 ^ (k % 16) : Nat) : Int) = ((a * 2 ^ k : Nat) : Int) := by
      rw [vl_append, vl_replicate, hvA, List.length_replicate]
      have h2 : a * 2 ^ k = 65536 ^ (k / 16) * a * 2 ^ (k % 16) := by
        have : 2 ^ k = 65536 ^ (k / 16) * 2 ^ (k % 16) := by rw [pow16, ← Nat.pow_add, Nat.div_add_mod]
        rw [this]; grind
      rw [h2, Int.natCast_mul, Int.natCast_mul, Int.natCast_pow]
      simp
    have gA2 : gd (List.replicate (k / 16) 0 ++ A) := gd_append.2 ⟨gd_replicate _, gA⟩
    have lA2 : (List.replicate (k / 16) (0 : Int) ++ A).length = k / 16 + A.length := by simp
    have et : (List.replicate (k / 16) (0 : Int) ++ A).take (k / 16 + A.length) = List.replicate (k / 16) 0 ++ A := List.take_of_length_le (by simp)
    have l2s : (lim (2 ^ (k % 16))).length ≤ 1000000 := by
      have := len_bl (m := 2 ^ (k % 16)) (B := 16) (bl_le.2 (by omega)); omega
    refine call_closed (con_l2mulL true (List.replicate (k / 16) 0 ++ A) gA2 (2 ^ (k % 16)) (by omega) l2s (a * 2 ^ k) hvA2) (by simp (disch := omega) only [go_sem, ↓reduceIte, Int.reduceToNat, Nat.reduceEqDiff, Nat.reduceAdd, Nat.reduceMul, Nat.reduceSub, Nat.reducePow, Nat.reduceLT, Nat.reduceLeDiff, Int.reduceNeg, Int.reduceEq, Int.reduceLT, Int.reduceLE, reduceCtorEq, lA2, et]) ?_
    rintro r hs (⟨h0, rfl, rfl⟩ | ⟨zs, rfl, rfl⟩)
    · refine ⟨⟨by simp, by simp (disch := omega) only [go_sem, ↓reduceIte, Int.reduceToNat, Nat.reduceEqDiff, Nat.reduceAdd, Nat.reduceMul, Nat.reduceSub, Nat.reducePow, Nat.reduceLT, Nat.reduceLeDiff, Int.reduceNeg, Int.reduceEq, Int.reduceLT, Int.reduceLE, reduceCtorEq]⟩, ?_⟩
      simp (disch := omega) only [go_sem, ↓reduceIte, Int.reduceToNat, Nat.reduceEqDiff, Nat.reduceAdd, Nat.reduceMul, Nat.reduceSub, Nat.reducePow, Nat.reduceLT, Nat.reduceLeDiff, Int.reduceNeg, Int.reduceEq, Int.reduceLT, Int.reduceLE, reduceCtorEq]
      refine fin_intro [] [] [] [.ag [.v (.slice none 0 0)]] rfl (by simp (disch := omega) only [go_sem, ↓reduceIte, Int.reduceToNat, Nat.reduceEqDiff, Nat.reduceAdd, Nat.reduceMul, Nat.reduceSub, Nat.reducePow, Nat.reduceLT, Nat.reduceLeDiff, Int.reduceNeg, Int.reduceEq, Int.reduceLT, Int.reduceLE, reduceCtorEq]) (by simp (disch := omega) only [go_sem, ↓reduceIte, Int.reduceToNat, Nat.reduceEqDiff, Nat.reduceAdd, Nat.reduceMul, Nat.reduceSub, Nat.reducePow, Nat.reduceLT, Nat.reduceLeDiff, Int.reduceNeg, Int.reduceEq, Int.reduceLT, Int.reduceLE, reduceCtorEq]) (by simp) (by intro _; simp [tupA, AV.pu, AV.pu.puL, Ob.pu, pu_ints]) (.inl ⟨h0, rfl, rfl⟩)
    · refine ⟨⟨by simp, by simp (disch := omega) only [go_sem, ↓reduceIte, Int.reduceToNat, Nat.reduceEqDiff, Nat.reduceAdd, Nat.reduceMul, Nat.reduceSub, Nat.reducePow, Nat.reduceLT, Nat.reduceLeDiff, Int.reduceNeg, Int.reduceEq, Int.reduceLT, Int.reduceLE, reduceCtorEq]⟩, ?_⟩
      simp (disch := omega) only [go_sem, ↓reduceIte, Int.reduceToNat, Nat.reduceEqDiff, Nat.reduceAdd, Nat.reduceMul, Nat.reduceSub, Nat.reducePow, Nat.reduceLT, Nat.reduceLeDiff, Int.reduceNeg, Int.reduceEq, Int.reduceLT, Int.reduceLE, reduceCtorEq]
      refine fin_intro [(0, 230000000)] [.own 1 (ints (lim (a * 2 ^ k) ++ zs))] [] [.ag [.rf 0 0 (lim (a * 2 ^ k)).length]] rfl (by simp (disch := omega) only [go_sem, ↓reduceIte, Int.reduceToNat, Nat.reduceEqDiff, Nat.reduceAdd, Nat.reduceMul, Nat.reduceSub, Nat.reducePow, Nat.reduceLT, Nat.reduceLeDiff, Int.reduceNeg, Int.reduceEq, Int.reduceLT, Int.reduceLE, reduceCtorEq]) (by simp (disch := omega) only [go_sem, ↓reduceIte, Int.reduceToNat, Nat.reduceEqDiff, Nat.reduceAdd, Nat.reduceMul, Nat.reduceSub, Nat.reducePow, Nat.reduceLT, Nat.reduceLeDiff, Int.reduceNeg, Int.reduceEq, Int.reduceLT, Int.reduceLE, reduceCtorEq]) (by simp) (by intro _; simp [tupA, AV.pu, AV.pu.puL, Ob.pu, pu_ints]) (.inr ⟨zs, rfl, rfl⟩)
end Go.Ab
namespace Go.Ab
open Go Go.Proofs
set_option linter.unusedVariables false
set_option linter.unusedSimpArgs false

theorem con_l2shr (a k : Nat) (la : (lim a).length ≤ 1000000) (hk : k ≤ 100000000) : Con Tryd.prog 44 false [.ag [.sl (lim (a)).length (ints (lim (a)))], .v (.int .i64 k)] [] (isA (.ag [.sl (lim (a / 2 ^ k)).length (ints (lim (a / 2 ^ k)))])) := by
  refine Con.frzA ?_
  refine Con.of_aw Tryd.func44 rfl Tryd.ntmps44 (by simp) (by simp) (by simp) (W.sound ?_)
  show @W Tryd.prog 28 ⟨_⟩ ⟨fun x σ => @retW _ _ _ ⟨_⟩ _ ⟨_⟩ x σ⟩ _ _
  simp (disch := omega) only [go_sem, ↓reduceIte, Int.reduceToNat, Nat.reduceEqDiff, Nat.reduceAdd, Nat.reduceMul, Nat.reduceSub, Nat.reducePow, Nat.reduceLT, Nat.reduceLeDiff, Int.reduceNeg, Int.reduceEq, Int.reduceLT, Int.reduceLE, reduceCtorEq]
  refine ifW_dec (fun h1 => ?_) (fun h1 => ?_)
  · simp (disch := omega) only [go_sem, ↓reduceIte, Int.reduceToNat, Nat.reduceEqDiff, Nat.reduceAdd, Nat.reduceMul, Nat.reduceSub, Nat.reducePow, Nat.reduceLT, Nat.reduceLeDiff, Int.reduceNeg, Int.reduceEq, Int.reduceLT, Int.reduceLE, reduceCtorEq, h1]
    have h0 : a / 2 ^ k = 0 := by
      refine Nat.div_eq_of_lt (Nat.lt_of_lt_of_le (lim_lt a) ?_)
      rw [pow16]; exact Nat.pow_le_pow_right (by omega) (by omega)
    rw [h0, lim_zero]
    refine fin_val (by simp (disch := omega) only [go_sem, ↓reduceIte, Int.reduceToNat, Nat.reduceEqDiff, Nat.reduceAdd, Nat.reduceMul, Nat.reduceSub, Nat.reducePow, Nat.reduceLT, Nat.reduceLeDiff, Int.reduceNeg, Int.reduceEq, Int.reduceLT, Int.reduceLE, reduceCtorEq]) ?_
    show snap _ 6 _ = _
    simp (disch := omega) only [go_sem, ↓reduceIte, Int.reduceToNat, Nat.reduceEqDiff, Nat.reduceAdd, Nat.reduceMul, Nat.reduceSub, Nat.reducePow, Nat.reduceLT, Nat.reduceLeDiff, Int.reduceNeg, Int.reduceEq, Int.reduceLT, Int.reduceLE, reduceCtorEq]
  · simp (disch := omega) only [go_sem, ↓reduceIte, Int.reduceToNat, Nat.reduceEqDiff, Nat.reduceAdd, Nat.reduceMul, Nat.reduceSub, Nat.reducePow, Nat.reduceLT, Nat.reduceLeDiff, Int.reduceNeg, Int.reduceEq, Int.reduceLT, Int.reduceLE, reduceCtorEq, h1]
    refine draw_of rfl [⟨0, [], []⟩, ⟨1, [], []⟩, ⟨2, [1], []⟩, ⟨3, [1], []⟩, ⟨4, [], []⟩, ⟨5, [], []⟩, ⟨6, [1, 4], []⟩, ⟨7, [1, 4], []⟩, ⟨8, [1, 4], []⟩, ⟨13, [1, 4], []⟩, ⟨9, [], [70000000]⟩, ⟨10, [], [70000000]⟩, ⟨11, [], [70000000]⟩, ⟨12, [], [70000000]⟩, ⟨14, [], []⟩, ⟨15, [], []⟩] (by kernel_rfl) ?_
    have e16 : ((k : Int) / 16).toNat = k / 16 := by omega
    have e17 : (k : Int) % 16 = ((k % 16 : Nat) : Int) := by omega
    have e18 : (((lim a).length : Int) - (k : Int) / 16).toNat = ((lim a).drop (k / 16)).length := by simp; omega
    have es : IntKind.i64.wrap (1 * 2 ^ (min ((k : Int) % 16).toNat 64)) = ((2 ^ (k % 16) : Nat) : Int) := by rw [e17]; exact shl_one (by omega)
    have hp15 : 2 ^ (k % 16) ≤ 2 ^ 15 := Nat.pow_le_pow_right (by omega) (by omega)
    have hp0 : 0 < 2 ^ (k % 16) := Nat.pow_pos (by omega)
    have hvD := vl_div (gd_lim a) (i := k / 16) (by omega)
    have gD := gd_drop (gd_lim a) (k / 16)
    have hlD : ((lim a).drop (k / 16)).length ≤ 1000000 := by simp; omega
    have hm : vl ((lim a).drop (k / 16)) / ((2 ^ (k % 16) : Nat) : Int) = ((a / 2 ^ k : Nat) : Int) := by
      rw [← hvD, vl_lim]
      have : a / 2 ^ k = a / 65536 ^ (k / 16) / 2 ^ (k % 16) := by rw [Nat.div_div_eq_div_mul, pow16, ← Nat.pow_add, Nat.div_add_mod]
      rw [this, Int.natCast_ediv, Int.natCast_ediv, Int.natCast_pow 65536]; rfl
    have et : ((lim a).drop (k / 16)).take ((lim a).drop (k / 16)).length = (lim a).drop (k / 16) := List.take_length
    simp (disch := omega) only [go_sem, ↓reduceIte, Int.reduceToNat, Nat.reduceEqDiff, Nat.reduceAdd, Nat.reduceMul, Nat.reduceSub, Nat.reducePow, Nat.reduceLT, Nat.reduceLeDiff, Int.reduceNeg, Int.reduceEq, Int.reduceLT, Int.reduceLE, reduceCtorEq, e16, e18, et, es]
    generalize (lim a).drop (k / 16) = D at *
    refine ⟨by omega, by omega, ?_⟩
    refine call_open ((con_l2smallL false D (2 ^ (k % 16)) gD hlD hp0 (by omega) (a / 2 ^ k) hm).natF2) (by simp (disch := omega) only [go_sem, ↓reduceIte, Int.reduceToNat, Nat.reduceEqDiff, Nat.reduceAdd, Nat.reduceMul, Nat.reduceSub, Nat.reducePow, Nat.reduceLT, Nat.reduceLeDiff, Int.reduceNeg, Int.reduceEq, Int.reduceLT, Int.reduceLE, reduceCtorEq]) ?_
    rintro r hs ⟨rfl, rfl, _⟩
    refine ⟨by simp [freeN], ?_⟩
    simp (disch := omega) only [go_sem, ↓reduceIte, Int.reduceToNat, Nat.reduceEqDiff, Nat.reduceAdd, Nat.reduceMul, Nat.reduceSub, Nat.reducePow, Nat.reduceLT, Nat.reduceLeDiff, Int.reduceNeg, Int.reduceEq, Int.reduceLT, Int.reduceLE, reduceCtorEq]
    refine fin_val (by simp (disch := omega) only [go_sem, ↓reduceIte, Int.reduceToNat, Nat.reduceEqDiff, Nat.reduceAdd, Nat.reduceMul, Nat.reduceSub, Nat.reducePow, Nat.reduceLT, Nat.reduceLeDiff, Int.reduceNeg, Int.reduceEq, Int.reduceLT, Int.reduceLE, reduceCtorEq]) ?_
    show snap _ 6 _ = _
    simp (disch := omega) only [go_sem, ↓reduceIte, Int.reduceToNat, Nat.reduceEqDiff, Nat.reduceAdd, Nat.reduceMul, Nat.reduceSub, Nat.reducePow, Nat.reduceLT, Nat.reduceLeDiff, Int.reduceNeg, Int.reduceEq, Int.reduceLT, Int.reduceLE, reduceCtorEq]

theorem con_l2bits (a : Nat) (la : (lim a).length ≤ 2 ^ 40) : Con Tryd.prog 72 true [.ag [.sl (lim (a)).length (ints (lim (a)))]] [] (isA (.v (.int .i64 (bl a)))) := by
  refine Con.of_aw Tryd.func72 rfl Tryd.ntmps72 (by simp) (by simp) (by simp) (W.sound ?_)
  show @W Tryd.prog 29 ⟨_⟩ ⟨fun x σ => @retW _ _ _ ⟨_⟩ _ ⟨_⟩ x σ⟩ _ _
  simp (disch := omega) only [go_sem, ↓reduceIte, Int.reduceToNat, Nat.reduceEqDiff, Nat.reduceAdd, Nat.reduceMul, Nat.reduceSub, Nat.reducePow, Nat.reduceLT, Nat.reduceLeDiff, Int.reduceNeg, Int.reduceEq, Int.reduceLT, Int.reduceLE, reduceCtorEq]
  refine ifW_dec (fun h1 => ?_) (fun h1 => ?_)
  · simp (disch := omega) only [go_sem, ↓reduceIte, Int.reduceToNat, Nat.reduceEqDiff, Nat.reduceAdd, Nat.reduceMul, Nat.reduceSub, Nat.reducePow, Nat.reduceLT, Nat.reduceLeDiff, Int.reduceNeg, Int.reduceEq, Int.reduceLT, Int.reduceLE, reduceCtorEq, h1]
    have : a = 0 := lim_eq_nil.1 (List.length_eq_zero_iff.1 (by omega))
    subst this
    rw [bl_zero]
    exact fin_valc (by simp (disch := omega) only [go_sem, ↓reduceIte, Int.reduceToNat, Nat.reduceEqDiff, Nat.reduceAdd, Nat.reduceMul, Nat.reduceSub, Nat.reducePow, Nat.reduceLT, Nat.reduceLeDiff, Int.reduceNeg, Int.reduceEq, Int.reduceLT, Int.reduceLE, reduceCtorEq]) (by simp (disch := omega) only [go_sem, ↓reduceIte, Int.reduceToNat, Nat.reduceEqDiff, Nat.reduceAdd, Nat.reduceMul, Nat.reduceSub, Nat.reducePow, Nat.reduceLT, Nat.reduceLeDiff, Int.reduceNeg, Int.reduceEq, Int.reduceLT, Int.reduceLE, reduceCtorEq]) isA_mk
  · have hm : a ≠ 0 := fun e => by rw [e, lim_zero] at h1; simp at h1
    have e2 : (((lim a).length : Int) - 1).toNat = (lim a).length - 1 := by omega
    have ht := len_top hm
    have hb := bl_lim hm
    have eq : (lim a).getD ((lim a).length - 1) 0 = ((a / 65536 ^ ((lim a).length - 1) : Nat) : Int) := by rw [lim_get, Nat.mod_eq_of_lt ht.2]
    generalize a / 65536 ^ ((lim a).length - 1) = q at *
    simp (disch := omega) only [go_sem, ↓reduceIte, Int.reduceToNat, Nat.reduceEqDiff, Nat.reduceAdd, Nat.reduceMul, Nat.reduceSub, Nat.reducePow, Nat.reduceLT, Nat.reduceLeDiff, Int.reduceNeg, Int.reduceEq, Int.reduceLT, Int.reduceLE, reduceCtorEq, h1, e2, eq]
    refine ⟨by omega, by omega, ?_⟩
    refine loop_intro (fun x : Nat × Nat => [(3, .v (.int .i64 x.1)), (4, .v (.int .i64 x.2))]) (fun _ => []) (fun x => x.1 + bl x.2 = bl a ∧ x.2 < 65536 ∧ x.1 ≤ 2 ^ 45) (fun x => x.2) (16 * ((lim a).length - 1), q) ⟨hb.symm, ht.2, by show 16 * ((lim a).length - 1) ≤ 2 ^ 45; omega⟩ (Le.lst [] _ _ rfl (by simp (disch := omega) only [go_sem, ↓reduceIte, Int.reduceToNat, Nat.reduceEqDiff, Nat.reduceAdd, Nat.reduceMul, Nat.reduceSub, Nat.reducePow, Nat.reduceLT, Nat.reduceLeDiff, Int.reduceNeg, Int.reduceEq, Int.reduceLT, Int.reduceLE, reduceCtorEq]; try omega) (by simp (disch := omega) only [go_sem, ↓reduceIte, Int.reduceToNat, Nat.reduceEqDiff, Nat.reduceAdd, Nat.reduceMul, Nat.reduceSub, Nat.reducePow, Nat.reduceLT, Nat.reduceLeDiff, Int.reduceNeg, Int.reduceEq, Int.reduceLT, Int.reduceLE, reduceCtorEq])) ?_
    rintro ⟨n, x⟩ ⟨hn, hx, hn2⟩
    dsimp only at hn hx hn2 ⊢
    simp (disch := omega) only [go_sem, ↓reduceIte, Int.reduceToNat, Nat.reduceEqDiff, Nat.reduceAdd, Nat.reduceMul, Nat.reduceSub, Nat.reducePow, Nat.reduceLT, Nat.reduceLeDiff, Int.reduceNeg, Int.reduceEq, Int.reduceLT, Int.reduceLE, reduceCtorEq]
    refine ifW_dec (fun h2 => ?_) (fun h2 => ?_)
    · simp (disch := omega) only [go_sem, ↓reduceIte, Int.reduceToNat, Nat.reduceEqDiff, Nat.reduceAdd, Nat.reduceMul, Nat.reduceSub, Nat.reducePow, Nat.reduceLT, Nat.reduceLeDiff, Int.reduceNeg, Int.reduceEq, Int.reduceLT, Int.reduceLE, reduceCtorEq, h2]
      have hd := bl_dbl (x := x) (by omega)
      have hp := bl_le.2 (show x < 2 ^ 16 by omega)
      refine next_intro (n + 1, x / 2) [] ⟨by show n + 1 + bl (x / 2) = bl a; omega, by show x / 2 < 65536; omega, ?_⟩ (by show x / 2 < x; omega) rfl (by simp (disch := omega) only [go_sem, ↓reduceIte, Int.reduceToNat, Nat.reduceEqDiff, Nat.reduceAdd, Nat.reduceMul, Nat.reduceSub, Nat.reducePow, Nat.reduceLT, Nat.reduceLeDiff, Int.reduceNeg, Int.reduceEq, Int.reduceLT, Int.reduceLE, reduceCtorEq]; try omega) (by simp (disch := omega) only [go_sem, ↓reduceIte, Int.reduceToNat, Nat.reduceEqDiff, Nat.reduceAdd, Nat.reduceMul, Nat.reduceSub, Nat.reducePow, Nat.reduceLT, Nat.reduceLeDiff, Int.reduceNeg, Int.reduceEq, Int.reduceLT, Int.reduceLE, reduceCtorEq])
      show n + 1 ≤ 2 ^ 45
      have := bl_len (m := a)
      omega
    · simp (disch := omega) only [go_sem, ↓reduceIte, Int.reduceToNat, Nat.reduceEqDiff, Nat.reduceAdd, Nat.reduceMul, Nat.reduceSub, Nat.reducePow, Nat.reduceLT, Nat.reduceLeDiff, Int.reduceNeg, Int.reduceEq, Int.reduceLT, Int.reduceLE, reduceCtorEq, h2]
      have : x = 0 := by omega
      subst this
      rw [bl_zero] at hn
      refine fin_valc (by simp (disch := omega) only [go_sem, ↓reduceIte, Int.reduceToNat, Nat.reduceEqDiff, Nat.reduceAdd, Nat.reduceMul, Nat.reduceSub, Nat.reducePow, Nat.reduceLT, Nat.reduceLeDiff, Int.reduceNeg, Int.reduceEq, Int.reduceLT, Int.reduceLE, reduceCtorEq]) (by simp (disch := omega) only [go_sem, ↓reduceIte, Int.reduceToNat, Nat.reduceEqDiff, Nat.reduceAdd, Nat.reduceMul, Nat.reduceSub, Nat.reducePow, Nat.reduceLT, Nat.reduceLeDiff, Int.reduceNeg, Int.reduceEq, Int.reduceLT, Int.reduceLE, reduceCtorEq]) ⟨?_, rfl, rfl⟩
      simp [tupA]; omega

theorem con_l2bit (m : Nat) (i : Int) (hl : (lim m).length ≤ 2 ^ 40) (hi : 0 ≤ i) (hi2 : i < 2 ^ 62) : Con Tryd.prog 67 true [.ag [.sl (lim (m)).length (ints (lim (m)))], .v (.int .i64 i)] [] (isA (.v (.int .i64 ((m / 2 ^ i.toNat % 2 : Nat) : Int)))) := by
  refine Con.of_aw Tryd.func67 rfl Tryd.ntmps67 (by simp) (by simp) (by simp) (W.sound ?_)
  show @W Tryd.prog 25 ⟨_⟩ ⟨fun x σ => @retW _ _ _ ⟨_⟩ _ ⟨_⟩ x σ⟩ _ _
  obtain ⟨k, rfl⟩ := Int.eq_ofNat_of_zero_le hi
  rw [Int.toNat_natCast]
  have h0 : ¬ ((k : Int) < 0) := by omega
  have e16 : ((k : Int) / 16).toNat = k / 16 := by omega
  have em : min ((k : Int) % 16).toNat 64 = k % 16 := by omega
  have hb := bit_div m k
  simp (disch := omega) only [go_sem, ↓reduceIte, Int.reduceToNat, Nat.reduceEqDiff, Nat.reduceAdd, Nat.reduceMul, Nat.reduceSub, Nat.reducePow, Nat.reduceLT, Nat.reduceLeDiff, Int.reduceNeg, Int.reduceEq, Int.reduceLT, Int.reduceLE, reduceCtorEq, h0]
  refine ifW_dec (fun h1 => ?_) (fun h1 => ?_)
  · simp (disch := omega) only [go_sem, ↓reduceIte, Int.reduceToNat, Nat.reduceEqDiff, Nat.reduceAdd, Nat.reduceMul, Nat.reduceSub, Nat.reducePow, Nat.reduceLT, Nat.reduceLeDiff, Int.reduceNeg, Int.reduceEq, Int.reduceLT, Int.reduceLE, reduceCtorEq, h1]
    have : m / 2 ^ k % 2 = 0 := by
      rw [← hb]
      have h2 := lim_get m (k / 16)
      rw [List.getD_eq_getElem?_getD, List.getElem?_eq_none (by omega)] at h2
      have h3 : m / 65536 ^ (k / 16) % 65536 = 0 := by simp only [Option.getD_none] at h2; omega
      rw [h3]; simp
    rw [this]
    exact fin_valc (by simp (disch := omega) only [go_sem, ↓reduceIte, Int.reduceToNat, Nat.reduceEqDiff, Nat.reduceAdd, Nat.reduceMul, Nat.reduceSub, Nat.reducePow, Nat.reduceLT, Nat.reduceLeDiff, Int.reduceNeg, Int.reduceEq, Int.reduceLT, Int.reduceLE, reduceCtorEq]) (by simp (disch := omega) only [go_sem, ↓reduceIte, Int.reduceToNat, Nat.reduceEqDiff, Nat.reduceAdd, Nat.reduceMul, Nat.reduceSub, Nat.reducePow, Nat.reduceLT, Nat.reduceLeDiff, Int.reduceNeg, Int.reduceEq, Int.reduceLT, Int.reduceLE, reduceCtorEq]) isA_mk
  · have hx := gd_getD (gd_lim m) (k / 16)
    have hp : (0 : Int) < 2 ^ (k % 16) := Int.pow_pos (by omega)
    have efd : ∀ x : Int, x.fdiv (2 ^ (k % 16)) = x / 2 ^ (k % 16) := fun x => Int.fdiv_eq_ediv_of_nonneg _ (Int.le_of_lt hp)
    have hq : 0 ≤ (lim m).getD (k / 16) 0 / 2 ^ (k % 16) ∧ (lim m).getD (k / 16) 0 / 2 ^ (k % 16) < 65536 := by
      refine ⟨Int.ediv_nonneg hx.1 (Int.le_of_lt hp), Int.lt_of_le_of_lt (Int.ediv_le_self _ hx.1) hx.2⟩
    have hr : (lim m).getD (k / 16) 0 / 2 ^ (k % 16) % 2 = ((m / 2 ^ k % 2 : Nat) : Int) := by
      rw [← hb, lim_get]
      generalize m / 65536 ^ (k / 16) % 65536 = x
      rw [Int.natCast_emod, Int.natCast_ediv, Int.natCast_pow]; rfl
    simp (disch := omega) only [go_sem, ↓reduceIte, Int.reduceToNat, Nat.reduceEqDiff, Nat.reduceAdd, Nat.reduceMul, Nat.reduceSub, Nat.reducePow, Nat.reduceLT, Nat.reduceLeDiff, Int.reduceNeg, Int.reduceEq, Int.reduceLT, Int.reduceLE, reduceCtorEq, h1, e16, em, efd, hr]
    refine ⟨by omega, by omega, by omega, ?_⟩
    exact fin_valc (by simp (disch := omega) only [go_sem, ↓reduceIte, Int.reduceToNat, Nat.reduceEqDiff, Nat.reduceAdd, Nat.reduceMul, Nat.reduceSub, Nat.reducePow, Nat.reduceLT, Nat.reduceLeDiff, Int.reduceNeg, Int.reduceEq, Int.reduceLT, Int.reduceLE, reduceCtorEq]) (by simp (disch := omega) only [go_sem, ↓reduceIte, Int.reduceToNat, Nat.reduceEqDiff, Nat.reduceAdd, Nat.reduceMul, Nat.reduceSub, Nat.reducePow, Nat.reduceLT, Nat.reduceLeDiff, Int.reduceNeg, Int.reduceEq, Int.reduceLT, Int.reduceLE, reduceCtorEq]) isA_mk

theorem tz_first {m i : Nat} (hz : ∀ j, j < i → m / 2 ^ j % 2 = 0) (h1 : m / 2 ^ i % 2 = 1) : tz m = i := by
  have key : ∀ k, k ≤ i → 2 ^ k * (m / 2 ^ k) = m := by
    intro k
    induction k with
    | zero => intro _; simp
    | succ k ih =>
      intro hk
      have h2 := ih (by omega)
      have h3 := hz k (by omega)
      have h4 : m / 2 ^ (k + 1) = m / 2 ^ k / 2 := by rw [Nat.pow_succ, Nat.div_div_eq_div_mul]
      rw [h4, Nat.pow_succ, Nat.mul_assoc, show 2 * (m / 2 ^ k / 2) = m / 2 ^ k by omega]; exact h2
  refine tz_uniq (a := m / 2 ^ i / 2) ?_
  have := key i (Nat.le_refl _)
  rw [show 2 * (m / 2 ^ i / 2) + 1 = m / 2 ^ i by omega]; exact this.symm

theorem con_l2trail (m : Nat) (hl : (lim m).length ≤ 2 ^ 40) : Con Tryd.prog 42 true [.ag [.sl (lim (m)).length (ints (lim (m)))]] [] (isA (.v (.int .i64 (tz m)))) := by
  refine Con.of_aw Tryd.func42 rfl Tryd.ntmps42 (by simp) (by simp) (by simp) (W.sound ?_)
  show @W Tryd.prog 17 ⟨_⟩ ⟨fun x σ => @retW _ _ _ ⟨_⟩ _ ⟨_⟩ x σ⟩ _ _
  simp (disch := omega) only [go_sem, ↓reduceIte, Int.reduceToNat, Nat.reduceEqDiff, Nat.reduceAdd, Nat.reduceMul, Nat.reduceSub, Nat.reducePow, Nat.reduceLT, Nat.reduceLeDiff, Int.reduceNeg, Int.reduceEq, Int.reduceLT, Int.reduceLE, reduceCtorEq]
  refine loop_intro (fun i : Nat => [(1, .pt 0 0), (3, .v (.int .i64 i))]) (fun _ => [(0, .own 0 [.sl (lim (m)).length (ints (lim (m)))])]) (fun i => i ≤ 16 * (lim m).length ∧ ∀ j, j < i → m / 2 ^ j % 2 = 0) (fun i => 16 * (lim m).length - i) 0 ⟨by omega, fun j hj => by omega⟩ (Le.lst [(0, 30000000)] _ _ rfl (by simp (disch := omega) only [go_sem, ↓reduceIte, Int.reduceToNat, Nat.reduceEqDiff, Nat.reduceAdd, Nat.reduceMul, Nat.reduceSub, Nat.reducePow, Nat.reduceLT, Nat.reduceLeDiff, Int.reduceNeg, Int.reduceEq, Int.reduceLT, Int.reduceLE, reduceCtorEq]; try omega) (by simp (disch := omega) only [go_sem, ↓reduceIte, Int.reduceToNat, Nat.reduceEqDiff, Nat.reduceAdd, Nat.reduceMul, Nat.reduceSub, Nat.reducePow, Nat.reduceLT, Nat.reduceLeDiff, Int.reduceNeg, Int.reduceEq, Int.reduceLT, Int.reduceLE, reduceCtorEq])) ?_
  rintro i ⟨hi, hz⟩
  simp (disch := omega) only [go_sem, ↓reduceIte, Int.reduceToNat, Nat.reduceEqDiff, Nat.reduceAdd, Nat.reduceMul, Nat.reduceSub, Nat.reducePow, Nat.reduceLT, Nat.reduceLeDiff, Int.reduceNeg, Int.reduceEq, Int.reduceLT, Int.reduceLE, reduceCtorEq]
  refine ifW_dec (fun h1 => ?_) (fun h1 => ?_)
  · simp (disch := omega) only [go_sem, ↓reduceIte, Int.reduceToNat, Nat.reduceEqDiff, Nat.reduceAdd, Nat.reduceMul, Nat.reduceSub, Nat.reducePow, Nat.reduceLT, Nat.reduceLeDiff, Int.reduceNeg, Int.reduceEq, Int.reduceLT, Int.reduceLE, reduceCtorEq, h1]
    refine call_closed (con_l2bit m i hl (by omega) (by omega)) (by simp (disch := omega) only [go_sem, ↓reduceIte, Int.reduceToNat, Nat.reduceEqDiff, Nat.reduceAdd, Nat.reduceMul, Nat.reduceSub, Nat.reducePow, Nat.reduceLT, Nat.reduceLeDiff, Int.reduceNeg, Int.reduceEq, Int.reduceLT, Int.reduceLE, reduceCtorEq]) ?_
    rintro r hs ⟨rfl, rfl, _⟩
    refine ⟨by simp [freeN], ?_⟩
    simp (disch := omega) only [go_sem, ↓reduceIte, Int.reduceToNat, Nat.reduceEqDiff, Nat.reduceAdd, Nat.reduceMul, Nat.reduceSub, Nat.reducePow, Nat.reduceLT, Nat.reduceLeDiff, Int.reduceNeg, Int.reduceEq, Int.reduceLT, Int.reduceLE, reduceCtorEq]
    refine ifW_dec (fun h2 => ?_) (fun h2 => ?_)
    · simp (disch := omega) only [go_sem, ↓reduceIte, Int.reduceToNat, Nat.reduceEqDiff, Nat.reduceAdd, Nat.reduceMul, Nat.reduceSub, Nat.reducePow, Nat.reduceLT, Nat.reduceLeDiff, Int.reduceNeg, Int.reduceEq, Int.reduceLT, Int.reduceLE, reduceCtorEq, h2]
      have := tz_first hz (by omega)
      rw [this]
      exact fin_valc (by simp (disch := omega) only [go_sem, ↓reduceIte, Int.reduceToNat, Nat.reduceEqDiff, Nat.reduceAdd, Nat.reduceMul, Nat.reduceSub, Nat.reducePow, Nat.reduceLT, Nat.reduceLeDiff, Int.reduceNeg, Int.reduceEq, Int.reduceLT, Int.reduceLE, reduceCtorEq]) (by simp (disch := omega) only [go_sem, ↓reduceIte, Int.reduceToNat, Nat.reduceEqDiff, Nat.reduceAdd, Nat.reduceMul, Nat.reduceSub, Nat.reducePow, Nat.reduceLT, Nat.reduceLeDiff, Int.reduceNeg, Int.reduceEq, Int.reduceLT, Int.reduceLE, reduceCtorEq]) isA_mk
    · simp (disch := omega) only [go_sem, ↓reduceIte, Int.reduceToNat, Nat.reduceEqDiff, Nat.reduceAdd, Nat.reduceMul, Nat.reduceSub, Nat.reducePow, Nat.reduceLT, Nat.reduceLeDiff, Int.reduceNeg, Int.reduceEq, Int.reduceLT, Int.reduceLE, reduceCtorEq, h2]
      refine next_intro (i + 1) [] ⟨by omega, fun j hj => ?_⟩ (by show 16 * (lim m).length - (i + 1) < 16 * (lim m).length - i; omega) rfl (by simp (disch := omega) only [go_sem, ↓reduceIte, Int.reduceToNat, Nat.reduceEqDiff, Nat.reduceAdd, Nat.reduceMul, Nat.reduceSub, Nat.reducePow, Nat.reduceLT, Nat.reduceLeDiff, Int.reduceNeg, Int.reduceEq, Int.reduceLT, Int.reduceLE, reduceCtorEq]; try omega) (by simp (disch := omega) only [go_sem, ↓reduceIte, Int.reduceToNat, Nat.reduceEqDiff, Nat.reduceAdd, Nat.reduceMul, Nat.reduceSub, Nat.reducePow, Nat.reduceLT, Nat.reduceLeDiff, Int.reduceNeg, Int.reduceEq, Int.reduceLT, Int.reduceLE, reduceCtorEq])
      rcases (by omega : j < i ∨ j = i) with h | h
      · exact hz j h
      · subst h; omega
  · simp (disch := omega) only [go_sem, ↓reduceIte, Int.reduceToNat, Nat.reduceEqDiff, Nat.reduceAdd, Nat.reduceMul, Nat.reduceSub, Nat.reducePow, Nat.reduceLT, Nat.reduceLeDiff, Int.reduceNeg, Int.reduceEq, Int.reduceLT, Int.reduceLE, reduceCtorEq, h1]
    have hm : m = 0 := by
      have h3 := bl_len (m := m)
      rcases Nat.eq_zero_or_pos m with h | h
      · exact h
      · have h4 := tz_lt_bl (n := m) (by omega)
        have h5 := (odd_part (n := m) (by omega)).1
        have := hz (tz m) (by omega)
        omega
    subst hm
    rw [tz_zero]
    exact fin_valc (by simp (disch := omega) only [go_sem, ↓reduceIte, Int.reduceToNat, Nat.reduceEqDiff, Nat.reduceAdd, Nat.reduceMul, Nat.reduceSub, Nat.reducePow, Nat.reduceLT, Nat.reduceLeDiff, Int.reduceNeg, Int.reduceEq, Int.reduceLT, Int.reduceLE, reduceCtorEq]) (by simp (disch := omega) only [go_sem, ↓reduceIte, Int.reduceToNat, Nat.reduceEqDiff, Nat.reduceAdd, Nat.reduceMul, Nat.reduceSub, Nat.reducePow, Nat.reduceLT, Nat.reduceLeDiff, Int.reduceNeg, Int.reduceEq, Int.reduceLT, Int.reduceLE, reduceCtorEq]) isA_mk

theorem con_l2int (m : Nat) (hm : m < 2 ^ 63) : Con Tryd.prog 40 true [.ag [.sl (lim (m)).length (ints (lim (m)))]] [] (isA (.v (.int .i64 m))) := by
  refine Con.of_aw Tryd.func40 rfl Tryd.ntmps40 (by simp) (by simp) (by simp) (W.sound ?_)
  show @W Tryd.prog 22 ⟨_⟩ ⟨fun x σ => @retW _ _ _ ⟨_⟩ _ ⟨_⟩ x σ⟩ _ _
  simp (disch := omega) only [go_sem, ↓reduceIte, Int.reduceToNat, Nat.reduceEqDiff, Nat.reduceAdd, Nat.reduceMul, Nat.reduceSub, Nat.reducePow, Nat.reduceLT, Nat.reduceLeDiff, Int.reduceNeg, Int.reduceEq, Int.reduceLT, Int.reduceLE, reduceCtorEq]
  have hl : (lim m).length ≤ 4 := lim_len.2 (by omega)
  have hb : ∀ i, i ≤ (lim m).length → 0 ≤ vl ((lim m).drop i) ∧ vl ((lim m).drop i) < 2 ^ 63 := fun i hi => by
    have h1 := vl_nonneg (gd_drop (gd_lim m) i)
    have h2 := vl_take_drop (lim m) i hi
    have h3 := vl_nonneg (gd_take (gd_lim m) i)
    have hp : (0 : Int) < 65536 ^ i := Int.pow_pos (by omega)
    rw [vl_lim] at h2
    have h4 := Int.mul_le_mul_of_nonneg_right (show (1 : Int) ≤ 65536 ^ i by omega) h1
    omega
  refine loop_intro (fun k : Nat => [(1, .pt 0 0), (3, .v (.int .i64 (vl ((lim m).drop k)))), (4, .v (.int .i64 ((k : Int) - 1)))]) (fun _ => [(0, .own 0 [.sl (lim (m)).length (ints (lim (m)))])]) (fun k => k ≤ (lim m).length) (fun k => k) (lim m).length (Nat.le_refl _) (Le.lst [(0, 30000000)] _ _ rfl (by simp (disch := omega) only [go_sem, ↓reduceIte, Int.reduceToNat, Nat.reduceEqDiff, Nat.reduceAdd, Nat.reduceMul, Nat.reduceSub, Nat.reducePow, Nat.reduceLT, Nat.reduceLeDiff, Int.reduceNeg, Int.reduceEq, Int.reduceLT, Int.reduceLE, reduceCtorEq, List.drop_length, vl]; try omega) (by simp (disch := omega) only [go_sem, ↓reduceIte, Int.reduceToNat, Nat.reduceEqDiff, Nat.reduceAdd, Nat.reduceMul, Nat.reduceSub, Nat.reducePow, Nat.reduceLT, Nat.reduceLeDiff, Int.reduceNeg, Int.reduceEq, Int.reduceLT, Int.reduceLE, reduceCtorEq])) ?_
  intro k hk
  have hbk := hb k hk
  simp (disch := omega) only [go_sem, ↓reduceIte, Int.reduceToNat, Nat.reduceEqDiff, Nat.reduceAdd, Nat.reduceMul, Nat.reduceSub, Nat.reducePow, Nat.reduceLT, Nat.reduceLeDiff, Int.reduceNeg, Int.reduceEq, Int.reduceLT, Int.reduceLE, reduceCtorEq]
  refine ifW_dec (fun h1 => ?_) (fun h1 => ?_)
  · obtain ⟨i, rfl⟩ : ∃ i, k = i + 1 := ⟨k - 1, by omega⟩
    have ei : ((i + 1 : Nat) : Int) - 1 = (i : Nat) := by omega
    have hx := gd_getD (gd_lim m) i
    have hbi := hb i (by omega)
    have hd := vl_drop (l := lim m) (i := i) (by omega)
    have e2 : vl ((lim m).drop (i + 1)) * 65536 + (lim m).getD i 0 = vl ((lim m).drop i) := by omega
    simp (disch := omega) only [go_sem, ↓reduceIte, Int.reduceToNat, Nat.reduceEqDiff, Nat.reduceAdd, Nat.reduceMul, Nat.reduceSub, Nat.reducePow, Nat.reduceLT, Nat.reduceLeDiff, Int.reduceNeg, Int.reduceEq, Int.reduceLT, Int.reduceLE, reduceCtorEq, h1, ei, e2]
    refine ⟨by omega, by omega, next_intro i [] (by show i ≤ _; omega) (by show i < i + 1; omega) rfl (by simp (disch := omega) only [go_sem, ↓reduceIte, Int.reduceToNat, Nat.reduceEqDiff, Nat.reduceAdd, Nat.reduceMul, Nat.reduceSub, Nat.reducePow, Nat.reduceLT, Nat.reduceLeDiff, Int.reduceNeg, Int.reduceEq, Int.reduceLT, Int.reduceLE, reduceCtorEq]; try omega) (by simp (disch := omega) only [go_sem, ↓reduceIte, Int.reduceToNat, Nat.reduceEqDiff, Nat.reduceAdd, Nat.reduceMul, Nat.reduceSub, Nat.reducePow, Nat.reduceLT, Nat.reduceLeDiff, Int.reduceNeg, Int.reduceEq, Int.reduceLT, Int.reduceLE, reduceCtorEq])⟩
  · have : k = 0 := by omega
    subst this
    have e2 : vl ((lim m).drop 0) = (m : Int) := by rw [List.drop_zero, vl_lim]
    simp (disch := omega) only [go_sem, ↓reduceIte, Int.reduceToNat, Nat.reduceEqDiff, Nat.reduceAdd, Nat.reduceMul, Nat.reduceSub, Nat.reducePow, Nat.reduceLT, Nat.reduceLeDiff, Int.reduceNeg, Int.reduceEq, Int.reduceLT, Int.reduceLE, reduceCtorEq, h1, e2]
    exact fin_valc (by simp (disch := omega) only [go_sem, ↓reduceIte, Int.reduceToNat, Nat.reduceEqDiff, Nat.reduceAdd, Nat.reduceMul, Nat.reduceSub, Nat.reducePow, Nat.reduceLT, Nat.reduceLeDiff, Int.reduceNeg, Int.reduceEq, Int.reduceLT, Int.reduceLE, reduceCtorEq]) (by simp (disch := omega) only [go_sem, ↓reduceIte, Int.reduceToNat, Nat.reduceEqDiff, Nat.reduceAdd, Nat.reduceMul, Nat.reduceSub, Nat.reducePow, Nat.reduceLT, Nat.reduceLeDiff, Int.reduceNeg, Int.reduceEq, Int.reduceLT, Int.reduceLE, reduceCtorEq]) ⟨by simp [tupA, vl_lim], rfl, rfl⟩
end Go.Ab
namespace Go.Ab
open Go Go.Proofs
set_option linter.unusedVariables false
set_option linter.unusedSimpArgs false

set_option maxRecDepth 100000 in
theorem con_digitOf (U V : List Int) (j : Nat) (hU : gd U) (hV : gd V) (lU : U.length ≤ 2000000) (h2 : 2 ≤ V.length) (hj : j + V.length < U.length) (hv1 : 32768 ≤ V.getD (V.length - 1) 0) (hW : vl (U.drop j) < 65536 * vl V) :
    Con Tryd.prog 111 true [.sl U.length (ints U), .sl V.length (ints V), .v (.int .i64 j)] [] (fun r hs bs => ∃ q : Int, r = .v (.int .i64 q) ∧ hs = [] ∧ bs = [] ∧ (0 ≤ q ∧ q < 65536) ∧ vl (U.drop j) < (q + 1) * vl V ∧ q * vl V < vl (U.drop j) + vl V) := by
  refine Con.of_aw Tryd.func111 rfl Tryd.ntmps111 (by simp) (by simp) (by simp) (W.sound ?_)
  show @W Tryd.prog 76 ⟨_⟩ ⟨fun x σ => @retW _ _ _ ⟨_⟩ _ ⟨_⟩ x σ⟩ _ _
  have hDl : V.length < (U.drop j).length := by simp; omega
  have hz := vl_above (gd_drop hU j) hV hDl hW
  have hw := vl_win hDl h2 hz
  have hvv := vl_top2 h2
  rw [getD_drop0, getD_drop0, getD_drop0] at hw
  have hx0 := vl_nonneg (gd_take (gd_drop hU j) (V.length - 2))
  have hx1 := vl_lt (gd_take (gd_drop hU j) (V.length - 2))
  have hy0 := vl_nonneg (gd_take hV (V.length - 2))
  have hy1 := vl_lt (gd_take hV (V.length - 2))
  rw [List.length_take, Nat.min_eq_left (by omega)] at hx1 hy1
  have gu0 := gd_getD hU (j + V.length)
  have gu1 := gd_getD hU (j + (V.length - 1))
  have gu2 := gd_getD hU (j + (V.length - 2))
  have gv1 := gd_getD hV (V.length - 1)
  have gv2 := gd_getD hV (V.length - 2)
  have htop := kn_top hw hvv ⟨hx0, hx1⟩ ⟨hy0, hy1⟩ gu2.1 gu1.1 gv2.2 hW
  have e0 : ((j : Int) + (V.length : Int)).toNat = j + V.length := by omega
  have e1 : ((j : Int) + (V.length : Int) - 1).toNat = j + (V.length - 1) := by omega
  have e2 : ((j : Int) + (V.length : Int) - 2).toNat = j + (V.length - 2) := by omega
  have f1 : ((V.length : Int) - 1).toNat = V.length - 1 := by omega
  have f2 : ((V.length : Int) - 2).toNat = V.length - 2 := by omega
  simp (disch := omega) only [go_sem, ↓reduceIte, Int.reduceToNat, Nat.reduceEqDiff, Nat.reduceAdd, Nat.reduceMul, Nat.reduceSub, Nat.reducePow, Nat.reduceLT, Nat.reduceLeDiff, Int.reduceNeg, Int.reduceEq, Int.reduceLT, Int.reduceLE, reduceCtorEq]
  refine draw_of rfl [⟨0, [], []⟩, ⟨1, [], []⟩, ⟨2, [], []⟩, ⟨3, [], []⟩, ⟨4, [], []⟩, ⟨5, [], []⟩, ⟨6, [], []⟩, ⟨7, [5], []⟩, ⟨8, [5], []⟩, ⟨9, [5], []⟩, ⟨10, [5], []⟩, ⟨11, [5], []⟩, ⟨12, [5], []⟩, ⟨13, [5], []⟩, ⟨14, [], []⟩, ⟨15, [], []⟩] (by kernel_rfl) ?_
  simp (disch := omega) only [go_sem, ↓reduceIte, Int.reduceToNat, Nat.reduceEqDiff, Nat.reduceAdd, Nat.reduceMul, Nat.reduceSub, Nat.reducePow, Nat.reduceLT, Nat.reduceLeDiff, Int.reduceNeg, Int.reduceEq, Int.reduceLT, Int.reduceLE, reduceCtorEq, e0, e1]
  generalize hu0 : U.getD (j + V.length) 0 = u0 at *
  generalize hu1 : U.getD (j + (V.length - 1)) 0 = u1 at *
  generalize hu2 : U.getD (j + (V.length - 2)) 0 = u2 at *
  refine ⟨by omega, by omega, by omega, by omega, ?_⟩
  refine draw_of rfl [⟨0, [], []⟩, ⟨1, [], []⟩, ⟨2, [], []⟩, ⟨3, [], []⟩, ⟨4, [], []⟩, ⟨5, [], []⟩, ⟨6, [], []⟩, ⟨7, [5], []⟩, ⟨8, [5], []⟩, ⟨9, [5], []⟩, ⟨10, [5], []⟩, ⟨11, [5], []⟩, ⟨12, [5], []⟩, ⟨13, [5], []⟩, ⟨14, [12], []⟩, ⟨15, [], []⟩] (by kernel_rfl) ?_
  simp (disch := omega) only [go_sem, ↓reduceIte, Int.reduceToNat, Nat.reduceEqDiff, Nat.reduceAdd, Nat.reduceMul, Nat.reduceSub, Nat.reducePow, Nat.reduceLT, Nat.reduceLeDiff, Int.reduceNeg, Int.reduceEq, Int.reduceLT, Int.reduceLE, reduceCtorEq, f1]
  generalize hvv1 : V.getD (V.length - 1) 0 = v1 at *
  generalize hvv2 : V.getD (V.length - 2) 0 = v2 at *
  generalize htt : u0 * 65536 + u1 = top at *
  refine ⟨by omega, by omega, by omega, by omega, by omega, by omega, ?_⟩
  have hq0 : 0 ≤ top / v1 := Int.ediv_nonneg (by omega) (by omega)
  have hq1 : top / v1 ≤ 65537 := by
    have : top / v1 < 65538 := Int.ediv_lt_of_lt_mul (by omega) (by omega)
    omega
  have hr0 := Int.emod_nonneg top (show v1 ≠ 0 by omega)
  have hr1 := Int.emod_lt_of_pos top (show 0 < v1 by omega)
  have hqr := Int.emod_add_mul_ediv top v1
  have hini := kn_init hw hvv ⟨hx0, hx1⟩ ⟨hy0, hy1⟩ gu2 gv2.1 hq0 (show top < (top / v1 + 1) * v1 by rw [Int.add_mul, Int.mul_comm (top / v1)]; omega)
  have hqr' : top / v1 * v1 + top % v1 = top := by rw [Int.mul_comm]; omega
  generalize top / v1 = q0 at *
  generalize top % v1 = r0 at *
  refine loop_intro (fun x : Int × Int => [(0, .sl U.length (ints U)), (1, .sl V.length (ints V)), (2, .v (.int .i64 j)), (7, .v (.int .i64 V.length)), (9, .v (.int .i64 x.1)), (10, .v (.int .i64 x.2))])
    (fun _ => []) (fun x => (0 ≤ x.1 ∧ x.1 ≤ 65537) ∧ (0 ≤ x.2 ∧ x.2 < 65536) ∧ x.1 * v1 + x.2 = top ∧ vl (U.drop j) < (x.1 + 1) * vl V) (fun x => x.1.toNat) (q0, r0) ⟨⟨hq0, hq1⟩, ⟨hr0, by omega⟩, hqr', hini⟩
    (Le.lst [] _ _ rfl (by simp (disch := omega) only [go_sem, ↓reduceIte, Int.reduceToNat, Nat.reduceEqDiff, Nat.reduceAdd, Nat.reduceMul, Nat.reduceSub, Nat.reducePow, Nat.reduceLT, Nat.reduceLeDiff, Int.reduceNeg, Int.reduceEq, Int.reduceLT, Int.reduceLE, reduceCtorEq]; try omega) (by simp (disch := omega) only [go_sem, ↓reduceIte, Int.reduceToNat, Nat.reduceEqDiff, Nat.reduceAdd, Nat.reduceMul, Nat.reduceSub, Nat.reducePow, Nat.reduceLT, Nat.reduceLeDiff, Int.reduceNeg, Int.reduceEq, Int.reduceLT, Int.reduceLE, reduceCtorEq])) ?_
  rintro ⟨q, r⟩ ⟨hq, hr, hqr2, hlt⟩
  dsimp only at hq hr hqr2 hlt ⊢
  have hqv : 0 ≤ q * v2 ∧ q * v2 ≤ 65537 * 65535 := ⟨Int.mul_nonneg hq.1 gv2.1, Int.mul_le_mul hq.2 (by omega) gv2.1 (by omega)⟩
  simp (disch := omega) only [go_sem, ↓reduceIte, Int.reduceToNat, Nat.reduceEqDiff, Nat.reduceAdd, Nat.reduceMul, Nat.reduceSub, Nat.reducePow, Nat.reduceLT, Nat.reduceLeDiff, Int.reduceNeg, Int.reduceEq, Int.reduceLT, Int.reduceLE, reduceCtorEq]
  refine draw_of rfl [⟨0, [], []⟩, ⟨1, [], []⟩, ⟨2, [], []⟩, ⟨3, [], []⟩, ⟨4, [], []⟩, ⟨5, [], []⟩, ⟨6, [], []⟩, ⟨7, [], []⟩, ⟨8, [], []⟩, ⟨9, [], []⟩, ⟨10, [8], []⟩, ⟨11, [8], []⟩, ⟨12, [8], []⟩, ⟨13, [8], []⟩, ⟨14, [8], []⟩, ⟨15, [8], []⟩, ⟨16, [8], []⟩, ⟨17, [8], []⟩, ⟨18, [8], []⟩, ⟨19, [8], []⟩, ⟨20, [], []⟩, ⟨21, [], []⟩] (by kernel_rfl) ?_
  simp (disch := omega) only [go_sem, ↓reduceIte, Int.reduceToNat, Nat.reduceEqDiff, Nat.reduceAdd, Nat.reduceMul, Nat.reduceSub, Nat.reducePow, Nat.reduceLT, Nat.reduceLeDiff, Int.reduceNeg, Int.reduceEq, Int.reduceLT, Int.reduceLE, reduceCtorEq]
  refine ifW_not (fun h1 => ?_) (fun h1 => ?_)
  · simp (disch := omega) only [go_sem, ↓reduceIte, Int.reduceToNat, Nat.reduceEqDiff, Nat.reduceAdd, Nat.reduceMul, Nat.reduceSub, Nat.reducePow, Nat.reduceLT, Nat.reduceLeDiff, Int.reduceNeg, Int.reduceEq, Int.reduceLT, Int.reduceLE, reduceCtorEq, h1, e2, f2, hu2, hvv2]
    refine ⟨by omega, by omega, by omega, by omega, ifW_dec (fun h2 => ?_) (fun h2 => ?_)⟩
    · simp (disch := omega) only [go_sem, ↓reduceIte, Int.reduceToNat, Nat.reduceEqDiff, Nat.reduceAdd, Nat.reduceMul, Nat.reduceSub, Nat.reducePow, Nat.reduceLT, Nat.reduceLeDiff, Int.reduceNeg, Int.reduceEq, Int.reduceLT, Int.reduceLE, reduceCtorEq, h2, f1, hvv1]
      have hst := kn_step hw hvv ⟨hx0, hx1⟩ ⟨hy0, hy1⟩ hW gv2.1 (by omega) hq.1 hqr2 (.inr h2)
      have hqp : 0 < q := by
        rcases (by omega : 0 < q ∨ q = 0) with h | h
        · exact h
        · subst h; omega
      have hm : (q - 1) * v1 + (r + v1) = top := by rw [Int.sub_mul]; omega
      refine ⟨by omega, by omega, ifW_dec (fun h3 => ?_) (fun h3 => ?_)⟩
      · simp (disch := omega) only [go_sem, ↓reduceIte, Int.reduceToNat, Nat.reduceEqDiff, Nat.reduceAdd, Nat.reduceMul, Nat.reduceSub, Nat.reducePow, Nat.reduceLT, Nat.reduceLeDiff, Int.reduceNeg, Int.reduceEq, Int.reduceLT, Int.reduceLE, reduceCtorEq, h3]
        have h4 : q - 1 < 65536 := by
          rcases (by omega : q - 1 < 65536 ∨ 65536 ≤ q - 1) with h | h
          · exact h
          · have := Int.mul_le_mul_of_nonneg_right h (show 0 ≤ v1 by omega)
            omega
        have h5 : (q - 1) * v2 ≤ (r + v1) * 65536 + u2 := by
          have : (q - 1) * v2 ≤ 65535 * 65535 := Int.mul_le_mul (by omega) (by omega) gv2.1 (by omega)
          omega
        have h6 := kn_exit hw hvv ⟨hx0, hx1⟩ ⟨hy0, hy1⟩ gv2.1 (by omega) ⟨by omega, h4⟩ hm h5
        exact fin_valc (by simp (disch := omega) only [go_sem, ↓reduceIte, Int.reduceToNat, Nat.reduceEqDiff, Nat.reduceAdd, Nat.reduceMul, Nat.reduceSub, Nat.reducePow, Nat.reduceLT, Nat.reduceLeDiff, Int.reduceNeg, Int.reduceEq, Int.reduceLT, Int.reduceLE, reduceCtorEq]) (by simp (disch := omega) only [go_sem, ↓reduceIte, Int.reduceToNat, Nat.reduceEqDiff, Nat.reduceAdd, Nat.reduceMul, Nat.reduceSub, Nat.reducePow, Nat.reduceLT, Nat.reduceLeDiff, Int.reduceNeg, Int.reduceEq, Int.reduceLT, Int.reduceLE, reduceCtorEq]) ⟨q - 1, rfl, rfl, rfl, ⟨by omega, h4⟩, by rw [show q - 1 + 1 = q by omega]; exact hst, h6⟩
      · simp (disch := omega) only [go_sem, ↓reduceIte, Int.reduceToNat, Nat.reduceEqDiff, Nat.reduceAdd, Nat.reduceMul, Nat.reduceSub, Nat.reducePow, Nat.reduceLT, Nat.reduceLeDiff, Int.reduceNeg, Int.reduceEq, Int.reduceLT, Int.reduceLE, reduceCtorEq, h3]
        refine next_intro (q - 1, r + v1) [] ⟨by show 0 ≤ q - 1 ∧ q - 1 ≤ 65537; omega, by show 0 ≤ r + v1 ∧ r + v1 < 65536; omega, hm, by show _ < (q - 1 + 1) * vl V; rw [show q - 1 + 1 = q by omega]; exact hst⟩ (by show (q - 1).toNat < q.toNat; omega) rfl (by simp (disch := omega) only [go_sem, ↓reduceIte, Int.reduceToNat, Nat.reduceEqDiff, Nat.reduceAdd, Nat.reduceMul, Nat.reduceSub, Nat.reducePow, Nat.reduceLT, Nat.reduceLeDiff, Int.reduceNeg, Int.reduceEq, Int.reduceLT, Int.reduceLE, reduceCtorEq]; try omega) (by simp (disch := omega) only [go_sem, ↓reduceIte, Int.reduceToNat, Nat.reduceEqDiff, Nat.reduceAdd, Nat.reduceMul, Nat.reduceSub, Nat.reducePow, Nat.reduceLT, Nat.reduceLeDiff, Int.reduceNeg, Int.reduceEq, Int.reduceLT, Int.reduceLE, reduceCtorEq])

    · simp (disch := omega) only [go_sem, ↓reduceIte, Int.reduceToNat, Nat.reduceEqDiff, Nat.reduceAdd, Nat.reduceMul, Nat.reduceSub, Nat.reducePow, Nat.reduceLT, Nat.reduceLeDiff, Int.reduceNeg, Int.reduceEq, Int.reduceLT, Int.reduceLE, reduceCtorEq, h2]
      have h6 := kn_exit hw hvv ⟨hx0, hx1⟩ ⟨hy0, hy1⟩ gv2.1 (by omega) ⟨hq.1, by omega⟩ hqr2 (by omega)
      exact fin_valc (by simp (disch := omega) only [go_sem, ↓reduceIte, Int.reduceToNat, Nat.reduceEqDiff, Nat.reduceAdd, Nat.reduceMul, Nat.reduceSub, Nat.reducePow, Nat.reduceLT, Nat.reduceLeDiff, Int.reduceNeg, Int.reduceEq, Int.reduceLT, Int.reduceLE, reduceCtorEq]) (by simp (disch := omega) only [go_sem, ↓reduceIte, Int.reduceToNat, Nat.reduceEqDiff, Nat.reduceAdd, Nat.reduceMul, Nat.reduceSub, Nat.reducePow, Nat.reduceLT, Nat.reduceLeDiff, Int.reduceNeg, Int.reduceEq, Int.reduceLT, Int.reduceLE, reduceCtorEq]) ⟨q, rfl, rfl, rfl, ⟨hq.1, by omega⟩, hlt, h6⟩
  · simp (disch := omega) only [go_sem, ↓reduceIte, Int.reduceToNat, Nat.reduceEqDiff, Nat.reduceAdd, Nat.reduceMul, Nat.reduceSub, Nat.reducePow, Nat.reduceLT, Nat.reduceLeDiff, Int.reduceNeg, Int.reduceEq, Int.reduceLT, Int.reduceLE, reduceCtorEq, h1, f1, hvv1]
    have hst := kn_step hw hvv ⟨hx0, hx1⟩ ⟨hy0, hy1⟩ hW gv2.1 (by omega) hq.1 hqr2 (.inl h1)
    have hqp : 0 < q := by omega
    have hm : (q - 1) * v1 + (r + v1) = top := by rw [Int.sub_mul]; omega
    refine ⟨by omega, by omega, ifW_dec (fun h3 => ?_) (fun h3 => ?_)⟩
    · simp (disch := omega) only [go_sem, ↓reduceIte, Int.reduceToNat, Nat.reduceEqDiff, Nat.reduceAdd, Nat.reduceMul, Nat.reduceSub, Nat.reducePow, Nat.reduceLT, Nat.reduceLeDiff, Int.reduceNeg, Int.reduceEq, Int.reduceLT, Int.reduceLE, reduceCtorEq, h3]
      have h4 : q - 1 < 65536 := by
        rcases (by omega : q - 1 < 65536 ∨ 65536 ≤ q - 1) with h | h
        · exact h
        · have := Int.mul_le_mul_of_nonneg_right h (show 0 ≤ v1 by omega)
          omega
      have h5 : (q - 1) * v2 ≤ (r + v1) * 65536 + u2 := by
        have : (q - 1) * v2 ≤ 65535 * 65535 := Int.mul_le_mul (by omega) (by omega) gv2.1 (by omega)
        omega
      have h6 := kn_exit hw hvv ⟨hx0, hx1⟩ ⟨hy0, hy1⟩ gv2.1 (by omega) ⟨by omega, h4⟩ hm h5
      exact fin_valc (by simp (disch := omega) only [go_sem, ↓reduceIte, Int.reduceToNat, Nat.reduceEqDiff, Nat.reduceAdd, Nat.reduceMul, Nat.reduceSub, Nat.reducePow, Nat.reduceLT, Nat.reduceLeDiff, Int.reduceNeg, Int.reduceEq, Int.reduceLT, Int.reduceLE, reduceCtorEq]) (by simp (disch := omega) only [go_sem, ↓reduceIte, Int.reduceToNat, Nat.reduceEqDiff, Nat.reduceAdd, Nat.reduceMul, Nat.reduceSub, Nat.reducePow, Nat.reduceLT, Nat.reduceLeDiff, Int.reduceNeg, Int.reduceEq, Int.reduceLT, Int.reduceLE, reduceCtorEq]) ⟨q - 1, rfl, rfl, rfl, ⟨by omega, h4⟩, by rw [show q - 1 + 1 = q by omega]; exact hst, h6⟩
    · simp (disch := omega) only [go_sem, ↓reduceIte, Int.reduceToNat, Nat.reduceEqDiff, Nat.reduceAdd, Nat.reduceMul, Nat.reduceSub, Nat.reducePow, Nat.reduceLT, Nat.reduceLeDiff, Int.reduceNeg, Int.reduceEq, Int.reduceLT, Int.reduceLE, reduceCtorEq, h3]
      refine next_intro (q - 1, r + v1) [] ⟨by show 0 ≤ q - 1 ∧ q - 1 ≤ 65537; omega, by show 0 ≤ r + v1 ∧ r + v1 < 65536; omega, hm, by show _ < (q - 1 + 1) * vl V; rw [show q - 1 + 1 = q by omega]; exact hst⟩ (by show (q - 1).toNat < q.toNat; omega) rfl (by simp (disch := omega) only [go_sem, ↓reduceIte, Int.reduceToNat, Nat.reduceEqDiff, Nat.reduceAdd, Nat.reduceMul, Nat.reduceSub, Nat.reducePow, Nat.reduceLT, Nat.reduceLeDiff, Int.reduceNeg, Int.reduceEq, Int.reduceLT, Int.reduceLE, reduceCtorEq]; try omega) (by simp (disch := omega) only [go_sem, ↓reduceIte, Int.reduceToNat, Nat.reduceEqDiff, Nat.reduceAdd, Nat.reduceMul, Nat.reduceSub, Nat.reducePow, Nat.reduceLT, Nat.reduceLeDiff, Int.reduceNeg, Int.reduceEq, Int.reduceLT, Int.reduceLE, reduceCtorEq])
end Go.Ab
namespace Go.Ab
open Go Go.Proofs
set_option linter.unusedVariables false
set_option linter.unusedSimpArgs false

theorem con_takeAway (U V : List Int) (j : Nat) (q : Int) (hU : gd U) (hV : gd V) (lU : U.length ≤ 2000000) (hj : j + V.length < U.length) (hq : 0 ≤ q ∧ q < 65536) :
    Con Tryd.prog 112 false [.rf 10000000 0 U.length, .sl V.length (ints V), .v (.int .i64 j), .v (.int .i64 q)] [.own 1 (ints U)]
      (fun r hs bs => ∃ (U' : List Int) (bo : Int), r = .v (.bool (decide (U.getD (j + V.length) 0 - bo < 0))) ∧ hs = [] ∧ bs = [.own 1 (ints (U'.set (j + V.length) (U.getD (j + V.length) 0 - bo)))] ∧
        U'.length = U.length ∧ gd U' ∧ (0 ≤ bo ∧ bo < 65536) ∧ (∀ t, t < j ∨ j + V.length ≤ t → U'.getD t 0 = U.getD t 0) ∧ vl U' - 65536 ^ (j + V.length) * bo = vl U - 65536 ^ j * (q * vl V)) := by
  refine Con.of_aw Tryd.func112 rfl Tryd.ntmps112 (by simp) (by simp) (by simp) (W.sound ?_)
  show @W Tryd.prog 68 ⟨_⟩ ⟨fun x σ => @retW _ _ _ ⟨_⟩ _ ⟨_⟩ x σ⟩ _ _
  simp (disch := omega) only [go_sem, ↓reduceIte, Int.reduceToNat, Nat.reduceEqDiff, Nat.reduceAdd, Nat.reduceMul, Nat.reduceSub, Nat.reducePow, Nat.reduceLT, Nat.reduceLeDiff, Int.reduceNeg, Int.reduceEq, Int.reduceLT, Int.reduceLE, reduceCtorEq]
  refine loop_intro (fun x : Nat × List Int × Int => [(0, .rf 10000000 0 U.length), (1, .sl V.length (ints V)), (2, .v (.int .i64 j)), (3, .v (.int .i64 q)), (9, .v (.int .i64 x.2.2)), (13, .sl V.length (ints V)), (14, .v (.int .i64 V.length)), (15, .v (.int .i64 x.1))])
    (fun x => [(10000000, .own 1 (ints x.2.1))])
    (fun x => x.1 ≤ V.length ∧ x.2.1.length = U.length ∧ gd x.2.1 ∧ (0 ≤ x.2.2 ∧ x.2.2 < 65536) ∧ (∀ t, t < j ∨ j + x.1 ≤ t → x.2.1.getD t 0 = U.getD t 0) ∧ vl x.2.1 - 65536 ^ (j + x.1) * x.2.2 = vl U - 65536 ^ j * (q * vl (V.take x.1)))
    (fun x => V.length - x.1) (0, U, 0) ⟨by simp, rfl, hU, by simp, fun _ _ => rfl, by simp [vl]⟩
    (Le.lst [] _ _ rfl (by simp (disch := omega) only [go_sem, ↓reduceIte, Int.reduceToNat, Nat.reduceEqDiff, Nat.reduceAdd, Nat.reduceMul, Nat.reduceSub, Nat.reducePow, Nat.reduceLT, Nat.reduceLeDiff, Int.reduceNeg, Int.reduceEq, Int.reduceLT, Int.reduceLE, reduceCtorEq]; try omega) (by simp (disch := omega) only [go_sem, ↓reduceIte, Int.reduceToNat, Nat.reduceEqDiff, Nat.reduceAdd, Nat.reduceMul, Nat.reduceSub, Nat.reducePow, Nat.reduceLT, Nat.reduceLeDiff, Int.reduceNeg, Int.reduceEq, Int.reduceLT, Int.reduceLE, reduceCtorEq])) ?_
  rintro ⟨i, U1, bo⟩ ⟨hi, hl1, hg1, hbo, hsame, hval⟩
  dsimp only at hi hl1 hg1 hbo hsame hval ⊢
  simp (disch := omega) only [go_sem, ↓reduceIte, Int.reduceToNat, Nat.reduceEqDiff, Nat.reduceAdd, Nat.reduceMul, Nat.reduceSub, Nat.reducePow, Nat.reduceLT, Nat.reduceLeDiff, Int.reduceNeg, Int.reduceEq, Int.reduceLT, Int.reduceLE, reduceCtorEq]
  refine ifW_dec (fun h1 => ?_) (fun h1 => ?_)
  · have hx := gd_getD hV i
    have hu := gd_getD hg1 (j + i)
    have hqx : 0 ≤ q * V.getD i 0 ∧ q * V.getD i 0 ≤ 65535 * 65535 := ⟨Int.mul_nonneg hq.1 hx.1, Int.mul_le_mul (by omega) (by omega) hx.1 (by omega)⟩
    have e1 : ((j : Int) + (i : Int)).toNat = j + i := by omega
    have hstep : ∀ d b : Int, d - 65536 * b = U1.getD (j + i) 0 - q * V.getD i 0 - bo → vl (U1.set (j + i) d) - 65536 ^ (j + (i + 1)) * b = vl U - 65536 ^ j * (q * vl (V.take (i + 1))) := by
      intro d b hd
      rw [vl_set (by omega), vl_take_any, ← Nat.add_assoc, Int.pow_succ]
      have e3 : (65536 : Int) ^ (j + i) = 65536 ^ j * 65536 ^ i := Int.pow_add _ _ _
      rw [e3] at hval ⊢
      generalize (65536 : Int) ^ i = Pi at *
      generalize (65536 : Int) ^ j = Pj at *
      grind
    have hsm : ∀ d : Int, ∀ t, t < j ∨ j + (i + 1) ≤ t → (U1.set (j + i) d).getD t 0 = U.getD t 0 := fun d t ht => by
      rw [getD_set (by omega), if_neg (by omega)]; exact hsame t (by omega)
    simp (disch := omega) only [go_sem, ↓reduceIte, Int.reduceToNat, Nat.reduceEqDiff, Nat.reduceAdd, Nat.reduceMul, Nat.reduceSub, Nat.reducePow, Nat.reduceLT, Nat.reduceLeDiff, Int.reduceNeg, Int.reduceEq, Int.reduceLT, Int.reduceLE, reduceCtorEq, h1, e1]
    refine ⟨by omega, by omega, by omega, by omega, ifW_dec (fun h2 => ?_) (fun h2 => ?_)⟩
    · simp (disch := omega) only [go_sem, ↓reduceIte, Int.reduceToNat, Nat.reduceEqDiff, Nat.reduceAdd, Nat.reduceMul, Nat.reduceSub, Nat.reducePow, Nat.reduceLT, Nat.reduceLeDiff, Int.reduceNeg, Int.reduceEq, Int.reduceLT, Int.reduceLE, reduceCtorEq, h2, e1]
      generalize hb : (0 - (U1.getD (j + i) 0 - q * V.getD i 0 - bo) + 65536 - 1) / 65536 = b
      refine ⟨by omega, by omega, next_intro (i + 1, U1.set (j + i) (U1.getD (j + i) 0 - q * V.getD i 0 - bo + b * 65536), b) [] ⟨by show i + 1 ≤ _; omega, by simp [hl1], gd_set hg1 (by omega), by show 0 ≤ b ∧ b < 65536; omega, hsm _, hstep (U1.getD (j + i) 0 - q * V.getD i 0 - bo + b * 65536) b (by omega)⟩
        (by show V.length - (i + 1) < V.length - i; omega) rfl (by simp (disch := omega) only [go_sem, ↓reduceIte, Int.reduceToNat, Nat.reduceEqDiff, Nat.reduceAdd, Nat.reduceMul, Nat.reduceSub, Nat.reducePow, Nat.reduceLT, Nat.reduceLeDiff, Int.reduceNeg, Int.reduceEq, Int.reduceLT, Int.reduceLE, reduceCtorEq]; try omega) (by simp (disch := omega) only [go_sem, ↓reduceIte, Int.reduceToNat, Nat.reduceEqDiff, Nat.reduceAdd, Nat.reduceMul, Nat.reduceSub, Nat.reducePow, Nat.reduceLT, Nat.reduceLeDiff, Int.reduceNeg, Int.reduceEq, Int.reduceLT, Int.reduceLE, reduceCtorEq])⟩
    · simp (disch := omega) only [go_sem, ↓reduceIte, Int.reduceToNat, Nat.reduceEqDiff, Nat.reduceAdd, Nat.reduceMul, Nat.reduceSub, Nat.reducePow, Nat.reduceLT, Nat.reduceLeDiff, Int.reduceNeg, Int.reduceEq, Int.reduceLT, Int.reduceLE, reduceCtorEq, h2, e1]
      refine ⟨by omega, by omega, next_intro (i + 1, U1.set (j + i) (U1.getD (j + i) 0 - q * V.getD i 0 - bo), 0) [] ⟨by show i + 1 ≤ _; omega, by simp [hl1], gd_set hg1 (by omega), by simp, hsm _, hstep (U1.getD (j + i) 0 - q * V.getD i 0 - bo) 0 (by omega)⟩
        (by show V.length - (i + 1) < V.length - i; omega) rfl (by simp (disch := omega) only [go_sem, ↓reduceIte, Int.reduceToNat, Nat.reduceEqDiff, Nat.reduceAdd, Nat.reduceMul, Nat.reduceSub, Nat.reducePow, Nat.reduceLT, Nat.reduceLeDiff, Int.reduceNeg, Int.reduceEq, Int.reduceLT, Int.reduceLE, reduceCtorEq]; try omega) (by simp (disch := omega) only [go_sem, ↓reduceIte, Int.reduceToNat, Nat.reduceEqDiff, Nat.reduceAdd, Nat.reduceMul, Nat.reduceSub, Nat.reducePow, Nat.reduceLT, Nat.reduceLeDiff, Int.reduceNeg, Int.reduceEq, Int.reduceLT, Int.reduceLE, reduceCtorEq])⟩
  · have hiA : i = V.length := by omega
    subst hiA
    rw [List.take_length] at hval
    have e1 : ((j : Int) + (V.length : Int)).toNat = j + V.length := by omega
    have hu := gd_getD hg1 (j + V.length)
    have es := hsame (j + V.length) (by omega)
    have eg : (U1.set (j + V.length) (U.getD (j + V.length) 0 - bo)).getD (j + V.length) 0 = U.getD (j + V.length) 0 - bo := by rw [getD_set (by omega), if_pos rfl]
    simp (disch := omega) only [go_sem, ↓reduceIte, Int.reduceToNat, Nat.reduceEqDiff, Nat.reduceAdd, Nat.reduceMul, Nat.reduceSub, Nat.reducePow, Nat.reduceLT, Nat.reduceLeDiff, Int.reduceNeg, Int.reduceEq, Int.reduceLT, Int.reduceLE, reduceCtorEq, h1, e1, es]
    refine ⟨by omega, by omega, by omega, by omega, by omega, by simp; omega, ?_⟩
    simp (disch := omega) only [go_sem, ↓reduceIte, Int.reduceToNat, Nat.reduceEqDiff, Nat.reduceAdd, Nat.reduceMul, Nat.reduceSub, Nat.reducePow, Nat.reduceLT, Nat.reduceLeDiff, Int.reduceNeg, Int.reduceEq, Int.reduceLT, Int.reduceLE, reduceCtorEq, eg]
    refine fin_intro [] [] [.own 1 (ints (U1.set (j + V.length) (U.getD (j + V.length) 0 - bo)))] [.v (.bool (decide (U.getD (j + V.length) 0 - bo < 0)))] rfl (by simp (disch := omega) only [go_sem, ↓reduceIte, Int.reduceToNat, Nat.reduceEqDiff, Nat.reduceAdd, Nat.reduceMul, Nat.reduceSub, Nat.reducePow, Nat.reduceLT, Nat.reduceLeDiff, Int.reduceNeg, Int.reduceEq, Int.reduceLT, Int.reduceLE, reduceCtorEq]) (by simp (disch := omega) only [go_sem, ↓reduceIte, Int.reduceToNat, Nat.reduceEqDiff, Nat.reduceAdd, Nat.reduceMul, Nat.reduceSub, Nat.reducePow, Nat.reduceLT, Nat.reduceLeDiff, Int.reduceNeg, Int.reduceEq, Int.reduceLT, Int.reduceLE, reduceCtorEq]) (by simp) (by simp) ⟨U1, bo, rfl, rfl, rfl, hl1, hg1, hbo, hsame, hval⟩

theorem con_addBack (U V : List Int) (j : Nat) (hU : ∀ t, t ≠ j + V.length → 0 ≤ U.getD t 0 ∧ U.getD t 0 < 65536) (hUt : -65536 ≤ U.getD (j + V.length) 0 ∧ U.getD (j + V.length) 0 < 65536) (hV : gd V) (lU : U.length ≤ 2000000) (hj : j + V.length < U.length) :
    Con Tryd.prog 113 false [.rf 10000000 0 U.length, .sl V.length (ints V), .v (.int .i64 j)] [.own 1 (ints U)]
      (fun r hs bs => ∃ (U' : List Int), r = .tu [] ∧ hs = [] ∧ bs = [.own 1 (ints U')] ∧
        U'.length = U.length ∧ (∀ t, t ≠ j + V.length → 0 ≤ U'.getD t 0 ∧ U'.getD t 0 < 65536) ∧ (∀ t, t < j ∨ j + V.length < t → U'.getD t 0 = U.getD t 0) ∧ vl U' = vl U + 65536 ^ j * vl V) := by
  refine Con.of_aw Tryd.func113 rfl Tryd.ntmps113 (by simp) (by simp) (by simp) (W.sound ?_)
  show @W Tryd.prog 46 ⟨_⟩ ⟨fun x σ => @retW _ _ _ ⟨_⟩ _ ⟨_⟩ x σ⟩ _ _
  simp (disch := omega) only [go_sem, ↓reduceIte, Int.reduceToNat, Nat.reduceEqDiff, Nat.reduceAdd, Nat.reduceMul, Nat.reduceSub, Nat.reducePow, Nat.reduceLT, Nat.reduceLeDiff, Int.reduceNeg, Int.reduceEq, Int.reduceLT, Int.reduceLE, reduceCtorEq]
  refine loop_intro (fun x : Nat × List Int × Int => [(0, .rf 10000000 0 U.length), (1, .sl V.length (ints V)), (2, .v (.int .i64 j)), (6, .v (.int .i64 x.2.2)), (9, .sl V.length (ints V)), (10, .v (.int .i64 V.length)), (11, .v (.int .i64 x.1))])
    (fun x => [(10000000, .own 1 (ints x.2.1))])
    (fun x => x.1 ≤ V.length ∧ x.2.1.length = U.length ∧ (∀ t, t ≠ j + V.length → 0 ≤ x.2.1.getD t 0 ∧ x.2.1.getD t 0 < 65536) ∧ (0 ≤ x.2.2 ∧ x.2.2 ≤ 1) ∧ (∀ t, t < j ∨ j + x.1 ≤ t → x.2.1.getD t 0 = U.getD t 0) ∧ vl x.2.1 + 65536 ^ (j + x.1) * x.2.2 = vl U + 65536 ^ j * vl (V.take x.1))
    (fun x => V.length - x.1) (0, U, 0) ⟨by simp, rfl, hU, by simp, fun _ _ => rfl, by simp [vl]⟩
    (Le.lst [] _ _ rfl (by simp (disch := omega) only [go_sem, ↓reduceIte, Int.reduceToNat, Nat.reduceEqDiff, Nat.reduceAdd, Nat.reduceMul, Nat.reduceSub, Nat.reducePow, Nat.reduceLT, Nat.reduceLeDiff, Int.reduceNeg, Int.reduceEq, Int.reduceLT, Int.reduceLE, reduceCtorEq]; try omega) (by simp (disch := omega) only [go_sem, ↓reduceIte, Int.reduceToNat, Nat.reduceEqDiff, Nat.reduceAdd, Nat.reduceMul, Nat.reduceSub, Nat.reducePow, Nat.reduceLT, Nat.reduceLeDiff, Int.reduceNeg, Int.reduceEq, Int.reduceLT, Int.reduceLE, reduceCtorEq])) ?_
  rintro ⟨i, U1, cy⟩ ⟨hi, hl1, hg1, hcy, hsame, hval⟩
  dsimp only at hi hl1 hg1 hcy hsame hval ⊢
  simp (disch := omega) only [go_sem, ↓reduceIte, Int.reduceToNat, Nat.reduceEqDiff, Nat.reduceAdd, Nat.reduceMul, Nat.reduceSub, Nat.reducePow, Nat.reduceLT, Nat.reduceLeDiff, Int.reduceNeg, Int.reduceEq, Int.reduceLT, Int.reduceLE, reduceCtorEq]
  refine ifW_dec (fun h1 => ?_) (fun h1 => ?_)
  · have hx := gd_getD hV i
    have hu := hg1 (j + i) (by omega)
    have e1 : ((j : Int) + (i : Int)).toNat = j + i := by omega
    simp (disch := omega) only [go_sem, ↓reduceIte, Int.reduceToNat, Nat.reduceEqDiff, Nat.reduceAdd, Nat.reduceMul, Nat.reduceSub, Nat.reducePow, Nat.reduceLT, Nat.reduceLeDiff, Int.reduceNeg, Int.reduceEq, Int.reduceLT, Int.reduceLE, reduceCtorEq, h1, e1]
    generalize hb : cy + (U1.getD (j + i) 0 + V.getD i 0) = b
    have hg2 : ∀ t, t ≠ j + V.length → 0 ≤ (U1.set (j + i) (b % 65536)).getD t 0 ∧ (U1.set (j + i) (b % 65536)).getD t 0 < 65536 := fun t ht => by
      rw [getD_set (by omega)]
      split
      · omega
      · exact hg1 t ht
    refine ⟨by omega, by omega, by omega, by omega, by omega, by omega, next_intro (i + 1, U1.set (j + i) (b % 65536), b / 65536) [] ⟨by show i + 1 ≤ _; omega, by simp [hl1], hg2, by show 0 ≤ b / 65536 ∧ b / 65536 ≤ 1; omega, fun t ht => ?_, ?_⟩
      (by show V.length - (i + 1) < V.length - i; omega) rfl (by simp (disch := omega) only [go_sem, ↓reduceIte, Int.reduceToNat, Nat.reduceEqDiff, Nat.reduceAdd, Nat.reduceMul, Nat.reduceSub, Nat.reducePow, Nat.reduceLT, Nat.reduceLeDiff, Int.reduceNeg, Int.reduceEq, Int.reduceLT, Int.reduceLE, reduceCtorEq]; try omega) (by simp (disch := omega) only [go_sem, ↓reduceIte, Int.reduceToNat, Nat.reduceEqDiff, Nat.reduceAdd, Nat.reduceMul, Nat.reduceSub, Nat.reducePow, Nat.reduceLT, Nat.reduceLeDiff, Int.reduceNeg, Int.reduceEq, Int.reduceLT, Int.reduceLE, reduceCtorEq])⟩
    · show (U1.set (j + i) (b % 65536)).getD t 0 = _
      have ht : t < j ∨ j + (i + 1) ≤ t := ht
      rw [getD_set (by omega), if_neg (by omega)]; exact hsame t (by omega)
    · show vl (U1.set (j + i) (b % 65536)) + 65536 ^ (j + (i + 1)) * (b / 65536) = vl U + 65536 ^ j * vl (V.take (i + 1))
      rw [vl_set (by omega), vl_take_any, ← Nat.add_assoc, Int.pow_succ]
      have e3 : (65536 : Int) ^ (j + i) = 65536 ^ j * 65536 ^ i := Int.pow_add _ _ _
      have e4 : b % 65536 + 65536 * (b / 65536) = b := Int.emod_add_mul_ediv b 65536
      rw [e3] at hval ⊢
      generalize (65536 : Int) ^ i = Pi at *
      generalize (65536 : Int) ^ j = Pj at *
      grind
  · have hiA : i = V.length := by omega
    subst hiA
    rw [List.take_length] at hval
    have e1 : ((j : Int) + (V.length : Int)).toNat = j + V.length := by omega
    have es := hsame (j + V.length) (by omega)
    simp (disch := omega) only [go_sem, ↓reduceIte, Int.reduceToNat, Nat.reduceEqDiff, Nat.reduceAdd, Nat.reduceMul, Nat.reduceSub, Nat.reducePow, Nat.reduceLT, Nat.reduceLeDiff, Int.reduceNeg, Int.reduceEq, Int.reduceLT, Int.reduceLE, reduceCtorEq, h1, e1, es]
    refine ⟨by omega, by omega, by omega, by omega, ?_⟩
    refine fin_intro [] [] [.own 1 (ints (U1.set (j + V.length) (U.getD (j + V.length) 0 + cy)))] [] rfl (by simp (disch := omega) only [go_sem, ↓reduceIte, Int.reduceToNat, Nat.reduceEqDiff, Nat.reduceAdd, Nat.reduceMul, Nat.reduceSub, Nat.reducePow, Nat.reduceLT, Nat.reduceLeDiff, Int.reduceNeg, Int.reduceEq, Int.reduceLT, Int.reduceLE, reduceCtorEq]) (by simp (disch := omega) only [go_sem, ↓reduceIte, Int.reduceToNat, Nat.reduceEqDiff, Nat.reduceAdd, Nat.reduceMul, Nat.reduceSub, Nat.reducePow, Nat.reduceLT, Nat.reduceLeDiff, Int.reduceNeg, Int.reduceEq, Int.reduceLT, Int.reduceLE, reduceCtorEq]) (by simp) (by simp) ⟨_, rfl, rfl, rfl, by simp [hl1], fun t ht => ?_, fun t ht => ?_, ?_⟩
    · rw [getD_set (by omega), if_neg ht]; exact hg1 t ht
    · rw [getD_set (by omega), if_neg (by omega)]; exact hsame t (by omega)
    · rw [vl_set (by omega), es]
      generalize (65536 : Int) ^ (j + V.length) = Pj at *
      grind
end Go.Ab
namespace Go.Ab
open Go Go.Proofs
set_option linter.unusedVariables false
set_option linter.unusedSimpArgs false

theorem con_small (cl : Bool) (n : Nat) (hn : n < 2 ^ 63) : Con Tryd.prog 49 cl [.v (.int .i64 n)] [] (numR (lim n)) := by
  refine Con.of_aw Tryd.func49 rfl Tryd.ntmps49 (by simp) (by simp) (by simp) (W.sound ?_)
  show @W Tryd.prog 14 ⟨_⟩ ⟨fun x σ => @retW _ _ _ ⟨_⟩ _ ⟨_⟩ x σ⟩ _ _
  simp (disch := omega) only [go_sem, ↓reduceIte, Int.reduceToNat, Nat.reduceEqDiff, Nat.reduceAdd, Nat.reduceMul, Nat.reduceSub, Nat.reducePow, Nat.reduceLT, Nat.reduceLeDiff, Int.reduceNeg, Int.reduceEq, Int.reduceLT, Int.reduceLE, reduceCtorEq]
  refine loop_intro (fun x : Nat × List Int => [(0, .v (.int .i64 x.1)), (3, .rf 1 0 x.2.length)]) (fun x => [(1, .own 1 (ints x.2))]) (fun x => x.1 < 2 ^ 63 ∧ x.2 ++ lim x.1 = lim n) (fun x => x.1) (n, []) ⟨hn, rfl⟩
    ((Le.ghost 3 1 1 (by simp (disch := omega) only [go_sem, ↓reduceIte, Int.reduceToNat, Nat.reduceEqDiff, Nat.reduceAdd, Nat.reduceMul, Nat.reduceSub, Nat.reducePow, Nat.reduceLT, Nat.reduceLeDiff, Int.reduceNeg, Int.reduceEq, Int.reduceLT, Int.reduceLE, reduceCtorEq]) (by simp (disch := omega) only [go_sem, ↓reduceIte, Int.reduceToNat, Nat.reduceEqDiff, Nat.reduceAdd, Nat.reduceMul, Nat.reduceSub, Nat.reducePow, Nat.reduceLT, Nat.reduceLeDiff, Int.reduceNeg, Int.reduceEq, Int.reduceLT, Int.reduceLE, reduceCtorEq])).trans (Le.lst [] _ _ rfl (by simp (disch := omega) only [go_sem, ↓reduceIte, Int.reduceToNat, Nat.reduceEqDiff, Nat.reduceAdd, Nat.reduceMul, Nat.reduceSub, Nat.reducePow, Nat.reduceLT, Nat.reduceLeDiff, Int.reduceNeg, Int.reduceEq, Int.reduceLT, Int.reduceLE, reduceCtorEq]) (by simp (disch := omega) only [go_sem, ↓reduceIte, Int.reduceToNat, Nat.reduceEqDiff, Nat.reduceAdd, Nat.reduceMul, Nat.reduceSub, Nat.reducePow, Nat.reduceLT, Nat.reduceLeDiff, Int.reduceNeg, Int.reduceEq, Int.reduceLT, Int.reduceLE, reduceCtorEq]))) ?_
  rintro ⟨k, l⟩ ⟨hk, hl⟩
  dsimp only at hk hl ⊢
  have hlen : l.length ≤ 4 := by
    have h1 := congrArg List.length hl
    have h2 := lim_len (n := n) (k := 4) |>.2 (by omega)
    rw [List.length_append] at h1; omega
  simp (disch := omega) only [go_sem, ↓reduceIte, Int.reduceToNat, Nat.reduceEqDiff, Nat.reduceAdd, Nat.reduceMul, Nat.reduceSub, Nat.reducePow, Nat.reduceLT, Nat.reduceLeDiff, Int.reduceNeg, Int.reduceEq, Int.reduceLT, Int.reduceLE, reduceCtorEq]
  refine ifW_dec (fun h1 => ?_) (fun h1 => ?_)
  · simp (disch := omega) only [go_sem, ↓reduceIte, Int.reduceToNat, Nat.reduceEqDiff, Nat.reduceAdd, Nat.reduceMul, Nat.reduceSub, Nat.reducePow, Nat.reduceLT, Nat.reduceLeDiff, Int.reduceNeg, Int.reduceEq, Int.reduceLT, Int.reduceLE, reduceCtorEq, h1]
    have hk0 : k ≠ 0 := by omega
    refine ⟨by omega, next_intro (k / 65536, l ++ [(k : Int) % 65536]) [(1, 140000000)] ⟨by show k / 65536 < 2 ^ 63; omega, ?_⟩ (by show k / 65536 < k; omega) rfl (by simp (disch := omega) only [go_sem, ↓reduceIte, Int.reduceToNat, Nat.reduceEqDiff, Nat.reduceAdd, Nat.reduceMul, Nat.reduceSub, Nat.reducePow, Nat.reduceLT, Nat.reduceLeDiff, Int.reduceNeg, Int.reduceEq, Int.reduceLT, Int.reduceLE, reduceCtorEq, List.length_append]; omega) (by simp (disch := omega) only [go_sem, ↓reduceIte, Int.reduceToNat, Nat.reduceEqDiff, Nat.reduceAdd, Nat.reduceMul, Nat.reduceSub, Nat.reducePow, Nat.reduceLT, Nat.reduceLeDiff, Int.reduceNeg, Int.reduceEq, Int.reduceLT, Int.reduceLE, reduceCtorEq])⟩
    rw [lim_pos hk0] at hl
    rw [← hl, List.append_assoc]; rfl
  · simp (disch := omega) only [go_sem, ↓reduceIte, Int.reduceToNat, Nat.reduceEqDiff, Nat.reduceAdd, Nat.reduceMul, Nat.reduceSub, Nat.reducePow, Nat.reduceLT, Nat.reduceLeDiff, Int.reduceNeg, Int.reduceEq, Int.reduceLT, Int.reduceLE, reduceCtorEq, h1]
    have hk0 : k = 0 := by omega
    subst hk0
    rw [lim_zero, List.append_nil] at hl
    subst hl
    refine fin_intro [(0, 1)] [.own 1 (ints (lim n ++ []))] [] [.rf 0 0 (lim n).length] rfl (by simp (disch := omega) only [go_sem, ↓reduceIte, Int.reduceToNat, Nat.reduceEqDiff, Nat.reduceAdd, Nat.reduceMul, Nat.reduceSub, Nat.reducePow, Nat.reduceLT, Nat.reduceLeDiff, Int.reduceNeg, Int.reduceEq, Int.reduceLT, Int.reduceLE, reduceCtorEq]) (by simp (disch := omega) only [go_sem, ↓reduceIte, Int.reduceToNat, Nat.reduceEqDiff, Nat.reduceAdd, Nat.reduceMul, Nat.reduceSub, Nat.reducePow, Nat.reduceLT, Nat.reduceLeDiff, Int.reduceNeg, Int.reduceEq, Int.reduceLT, Int.reduceLE, reduceCtorEq]) (by simp) (by intro _; simp [tupA, AV.pu, AV.pu.puL, Ob.pu, pu_ints]) (.inr ⟨[], rfl, rfl⟩)
end Go.Ab
namespace Go.Ab
open Go Go.Proofs
set_option linter.unusedVariables false
set_option linter.unusedSimpArgs false

theorem mod_step (V P : Int) (hP : 0 < P) : V % (P * 65536) = V % P + P * (V / P % 65536) := by
  rw [Int.emod_def, Int.emod_def, Int.emod_def, ← Int.ediv_ediv_of_nonneg (Int.le_of_lt hP)]
  grind

theorem pow_rest {s : Nat} (hs : s < 16) : (65536 : Int) = 2 ^ s * 2 ^ (16 - s) := by
  rw [← Int.pow_add, show s + (16 - s) = 16 by omega]; decide

theorem digit_down {D : List Int} (hD : gd D) {i s : Nat} (hi : i < D.length) (hs : s < 16) :
    (vl D / 2 ^ s) / 65536 ^ i % 65536 = (D.getD i 0 + D.getD (i + 1) 0 * 65536) / 2 ^ s % 65536 := by
  have h2 := (pow_le_15 s hs).1
  rw [Int.ediv_ediv_of_nonneg (Int.le_of_lt h2), Int.mul_comm, ← Int.ediv_ediv_of_nonneg (Int.le_of_lt (Int.pow_pos (by omega))), vl_div hD (by omega), vl_drop hi]
  have h3 : vl (D.drop (i + 1)) = D.getD (i + 1) 0 + 65536 * vl (D.drop (i + 2)) := by
    rcases Nat.lt_or_ge (i + 1) D.length with h | h
    · exact vl_drop h
    · rw [List.drop_of_length_le h, List.drop_of_length_le (by omega), List.getD_eq_getElem?_getD, List.getElem?_eq_none h]; simp [vl]
  rw [h3]
  have e : D.getD i 0 + 65536 * (D.getD (i + 1) 0 + 65536 * vl (D.drop (i + 2))) = (D.getD i 0 + D.getD (i + 1) 0 * 65536) + 2 ^ s * (65536 * (2 ^ (16 - s) * vl (D.drop (i + 2)))) := by
    have := pow_rest hs
    generalize (2 : Int) ^ s = a at *
    generalize (2 : Int) ^ (16 - s) = b at *
    grind
  rw [e, Int.add_mul_ediv_left _ _ (by omega), Int.add_mul_emod_self_left]

theorem pow_mono' {a b : Nat} (h : a ≤ b) : (65536 : Int) ^ a ≤ 65536 ^ b := by
  obtain ⟨d, rfl⟩ := Nat.exists_eq_add_of_le h
  have h1 : (0 : Int) < 65536 ^ a := Int.pow_pos (by omega)
  have h2 : (0 : Int) < 65536 ^ d := Int.pow_pos (by omega)
  have h3 := Int.mul_le_mul_of_nonneg_left (show (1 : Int) ≤ 65536 ^ d by omega) (Int.le_of_lt h1)
  rw [Int.mul_one, ← Int.pow_add] at h3
  exact h3

theorem con_down (cl : Bool) (A : List Int) (k : Nat) (hA : gd A) (lA : A.length ≤ 1000000) (hk : k ≤ 100000000) :
    Con Tryd.prog 92 cl [.sl A.length (ints A), .v (.int .i64 k)] [] (numR (lim (vl A / 2 ^ k).toNat)) := by
  refine Con.of_aw Tryd.func92 rfl Tryd.ntmps92 (by simp) (by simp) (by simp) (W.sound ?_)
  show @W Tryd.prog 52 ⟨_⟩ ⟨fun x σ => @retW _ _ _ ⟨_⟩ _ ⟨_⟩ x σ⟩ _ _
  have hvk : vl A / 2 ^ k = vl A / 65536 ^ (k / 16) / 2 ^ (k % 16) := by
    rw [Int.ediv_ediv_of_nonneg (Int.le_of_lt (Int.pow_pos (by omega))), pow_split]
  simp (disch := omega) only [go_sem, ↓reduceIte, Int.reduceToNat, Nat.reduceEqDiff, Nat.reduceAdd, Nat.reduceMul, Nat.reduceSub, Nat.reducePow, Nat.reduceLT, Nat.reduceLeDiff, Int.reduceNeg, Int.reduceEq, Int.reduceLT, Int.reduceLE, reduceCtorEq]
  refine ifW_dec (fun h0 => ?_) (fun h0 => ?_)
  · simp (disch := omega) only [go_sem, ↓reduceIte, Int.reduceToNat, Nat.reduceEqDiff, Nat.reduceAdd, Nat.reduceMul, Nat.reduceSub, Nat.reducePow, Nat.reduceLT, Nat.reduceLeDiff, Int.reduceNeg, Int.reduceEq, Int.reduceLT, Int.reduceLE, reduceCtorEq, h0]
    have hz : vl A / 2 ^ k = 0 := by
      rw [hvk, Int.ediv_eq_zero_of_lt (vl_nonneg hA)]
      · simp
      · refine Int.lt_of_lt_of_le (vl_lt hA) ?_
        exact pow_mono' (by omega)
    rw [hz]
    refine fin_intro [] [] [] [.v (.slice none 0 0)] rfl (by simp (disch := omega) only [go_sem, ↓reduceIte, Int.reduceToNat, Nat.reduceEqDiff, Nat.reduceAdd, Nat.reduceMul, Nat.reduceSub, Nat.reducePow, Nat.reduceLT, Nat.reduceLeDiff, Int.reduceNeg, Int.reduceEq, Int.reduceLT, Int.reduceLE, reduceCtorEq]) (by simp (disch := omega) only [go_sem, ↓reduceIte, Int.reduceToNat, Nat.reduceEqDiff, Nat.reduceAdd, Nat.reduceMul, Nat.reduceSub, Nat.reducePow, Nat.reduceLT, Nat.reduceLeDiff, Int.reduceNeg, Int.reduceEq, Int.reduceLT, Int.reduceLE, reduceCtorEq]) (by simp) (by intro _; simp [tupA, AV.pu, AV.pu.puL, Ob.pu, pu_ints]) (.inl ⟨by simp [lim_zero], rfl, rfl⟩)
  · have e16 : ((k : Int) / 16).toNat = k / 16 := by omega
    have e17 : ((A.length : Int) - (k : Int) / 16).toNat = (A.drop (k / 16)).length := by simp; omega
    have e18 : (A.drop (k / 16)).take (A.drop (k / 16)).length = A.drop (k / 16) := List.take_length
    have hvD := vl_div hA (i := k / 16) (by omega)
    have hlD : (A.drop (k / 16)).length ≤ 1000000 := by simp; omega
    have hD := gd_drop hA (k / 16)
    simp (disch := omega) only [go_sem, ↓reduceIte, Int.reduceToNat, Nat.reduceEqDiff, Nat.reduceAdd, Nat.reduceMul, Nat.reduceSub, Nat.reducePow, Nat.reduceLT, Nat.reduceLeDiff, Int.reduceNeg, Int.reduceEq, Int.reduceLT, Int.reduceLE, reduceCtorEq, h0, e16, e17, e18]
    generalize A.drop (k / 16) = D at *
    refine ⟨by omega, by omega, ?_⟩
    refine loop_intro (fun x : Nat × List Int => [(1, .v (.int .i64 k)), (5, .sl D.length (ints D)), (6, .rf 1 0 x.2.length), (21, .sl D.length (ints D)), (22, .v (.int .i64 D.length)), (23, .v (.int .i64 x.1))])
      (fun x => [(1, .own 1 (ints x.2))])
      (fun x => x.1 ≤ D.length ∧ x.2.length = x.1 ∧ gd x.2 ∧ vl x.2 = vl D / 2 ^ (k % 16) % 65536 ^ x.1)
      (fun x => D.length - x.1) (0, []) ⟨by simp, rfl, gd_nil, by simp [vl]⟩
      (Le.lst [(1, 220000000)] _ _ rfl (by simp (disch := omega) only [go_sem, ↓reduceIte, Int.reduceToNat, Nat.reduceEqDiff, Nat.reduceAdd, Nat.reduceMul, Nat.reduceSub, Nat.reducePow, Nat.reduceLT, Nat.reduceLeDiff, Int.reduceNeg, Int.reduceEq, Int.reduceLT, Int.reduceLE, reduceCtorEq]) (by simp (disch := omega) only [go_sem, ↓reduceIte, Int.reduceToNat, Nat.reduceEqDiff, Nat.reduceAdd, Nat.reduceMul, Nat.reduceSub, Nat.reducePow, Nat.reduceLT, Nat.reduceLeDiff, Int.reduceNeg, Int.reduceEq, Int.reduceLT, Int.reduceLE, reduceCtorEq])) ?_
    rintro ⟨i, out⟩ ⟨hi, hol, hog, hov⟩
    dsimp only at hi hol hog hov ⊢
    simp (disch := omega) only [go_sem, ↓reduceIte, Int.reduceToNat, Nat.reduceEqDiff, Nat.reduceAdd, Nat.reduceMul, Nat.reduceSub, Nat.reducePow, Nat.reduceLT, Nat.reduceLeDiff, Int.reduceNeg, Int.reduceEq, Int.reduceLT, Int.reduceLE, reduceCtorEq]
    refine ifW_dec (fun h1 => ?_) (fun h1 => ?_)
    · have hx := gd_getD hD i
      have hy := gd_getD hD (i + 1)
      have em : min ((k : Int) % 16).toNat 64 = k % 16 := by omega
      have hm := pow_le_15 (k % 16) (by omega)
      have efd : ∀ x : Int, x.fdiv (2 ^ (k % 16)) = x / 2 ^ (k % 16) := fun x => Int.fdiv_eq_ediv_of_nonneg _ (Int.le_of_lt hm.1)
      have hdig := digit_down hD (i := i) (s := k % 16) (by omega) (by omega)
      have hnn : ∀ x : Int, 0 ≤ x → 0 ≤ x / 2 ^ (k % 16) := fun x hx => Int.ediv_nonneg hx (Int.le_of_lt hm.1)
      have ei : ((i : Int) + 1).toNat = i + 1 := by omega
      have hstep : ∀ z : Int, z = (D.getD i 0 + D.getD (i + 1) 0 * 65536) / 2 ^ (k % 16) % 65536 → vl (out ++ [z]) = vl D / 2 ^ (k % 16) % 65536 ^ (i + 1) := by
        intro z hz
        rw [vl_snoc, hov, hol, Int.pow_succ, mod_step _ _ (Int.pow_pos (by omega)), hdig, hz]
      simp (disch := omega) only [go_sem, ↓reduceIte, Int.reduceToNat, Nat.reduceEqDiff, Nat.reduceAdd, Nat.reduceMul, Nat.reduceSub, Nat.reducePow, Nat.reduceLT, Nat.reduceLeDiff, Int.reduceNeg, Int.reduceEq, Int.reduceLT, Int.reduceLE, reduceCtorEq, h1]
      refine ⟨by omega, by omega, ifW_dec (fun h2 => ?_) (fun h2 => ?_)⟩
      · have hn1 := hnn (D.getD i 0 + D.getD (i + 1) 0 * 65536) (by omega)
        simp (disch := omega) only [go_sem, ↓reduceIte, Int.reduceToNat, Nat.reduceEqDiff, Nat.reduceAdd, Nat.reduceMul, Nat.reduceSub, Nat.reducePow, Nat.reduceLT, Nat.reduceLeDiff, Int.reduceNeg, Int.reduceEq, Int.reduceLT, Int.reduceLE, reduceCtorEq, h2, em, efd, ei]
        refine ⟨by omega, by omega, by omega, by omega, next_intro (i + 1, out ++ [(D.getD i 0 + D.getD (i + 1) 0 * 65536) / 2 ^ (k % 16) % 65536]) [(1, 500000000)] ⟨by show i + 1 ≤ _; omega, by simp [hol], gd_append.2 ⟨hog, gd_one.2 (by omega)⟩, hstep _ rfl⟩ (by show D.length - (i + 1) < D.length - i; omega) rfl (by simp (disch := omega) only [go_sem, ↓reduceIte, Int.reduceToNat, Nat.reduceEqDiff, Nat.reduceAdd, Nat.reduceMul, Nat.reduceSub, Nat.reducePow, Nat.reduceLT, Nat.reduceLeDiff, Int.reduceNeg, Int.reduceEq, Int.reduceLT, Int.reduceLE, reduceCtorEq, List.length_append]; try omega) (by simp (disch := omega) only [go_sem, ↓reduceIte, Int.reduceToNat, Nat.reduceEqDiff, Nat.reduceAdd, Nat.reduceMul, Nat.reduceSub, Nat.reducePow, Nat.reduceLT, Nat.reduceLeDiff, Int.reduceNeg, Int.reduceEq, Int.reduceLT, Int.reduceLE, reduceCtorEq])⟩
      · have hn1 := hnn (D.getD i 0) (by omega)
        simp (disch := omega) only [go_sem, ↓reduceIte, Int.reduceToNat, Nat.reduceEqDiff, Nat.reduceAdd, Nat.reduceMul, Nat.reduceSub, Nat.reducePow, Nat.reduceLT, Nat.reduceLeDiff, Int.reduceNeg, Int.reduceEq, Int.reduceLT, Int.reduceLE, reduceCtorEq, h2, em, efd]
        have hy0 : D.getD (i + 1) 0 = 0 := by rw [List.getD_eq_getElem?_getD, List.getElem?_eq_none (by omega)]; rfl
        refine ⟨by omega, by omega, next_intro (i + 1, out ++ [D.getD i 0 / 2 ^ (k % 16) % 65536]) [(1, 500000000)] ⟨by show i + 1 ≤ _; omega, by simp [hol], gd_append.2 ⟨hog, gd_one.2 (by omega)⟩, hstep _ (by rw [hy0]; simp)⟩ (by show D.length - (i + 1) < D.length - i; omega) rfl (by simp (disch := omega) only [go_sem, ↓reduceIte, Int.reduceToNat, Nat.reduceEqDiff, Nat.reduceAdd, Nat.reduceMul, Nat.reduceSub, Nat.reducePow, Nat.reduceLT, Nat.reduceLeDiff, Int.reduceNeg, Int.reduceEq, Int.reduceLT, Int.reduceLE, reduceCtorEq, List.length_append]; try omega) (by simp (disch := omega) only [go_sem, ↓reduceIte, Int.reduceToNat, Nat.reduceEqDiff, Nat.reduceAdd, Nat.reduceMul, Nat.reduceSub, Nat.reducePow, Nat.reduceLT, Nat.reduceLeDiff, Int.reduceNeg, Int.reduceEq, Int.reduceLT, Int.reduceLE, reduceCtorEq])⟩
    · simp (disch := omega) only [go_sem, ↓reduceIte, Int.reduceToNat, Nat.reduceEqDiff, Nat.reduceAdd, Nat.reduceMul, Nat.reduceSub, Nat.reducePow, Nat.reduceLT, Nat.reduceLeDiff, Int.reduceNeg, Int.reduceEq, Int.reduceLT, Int.reduceLE, reduceCtorEq, h1]
      have hiD : i = D.length := by omega
      subst hiD
      have hV : vl out = vl A / 2 ^ k := by
        rw [hov, hvk, hvD]
        refine Int.emod_eq_of_lt (Int.ediv_nonneg (vl_nonneg hD) (Int.le_of_lt (pow_le_15 (k % 16) (by omega)).1)) ?_
        exact Int.lt_of_le_of_lt (Int.ediv_le_self _ (vl_nonneg hD)) (vl_lt hD)
      refine call_lend false [1] (con_trim out (by omega)) (by simp (disch := omega) only [go_sem, ↓reduceIte, Int.reduceToNat, Nat.reduceEqDiff, Nat.reduceAdd, Nat.reduceMul, Nat.reduceSub, Nat.reducePow, Nat.reduceLT, Nat.reduceLeDiff, Int.reduceNeg, Int.reduceEq, Int.reduceLT, Int.reduceLE, reduceCtorEq]) (by simp (disch := omega) only [go_sem, ↓reduceIte, Int.reduceToNat, Nat.reduceEqDiff, Nat.reduceAdd, Nat.reduceMul, Nat.reduceSub, Nat.reducePow, Nat.reduceLT, Nat.reduceLeDiff, Int.reduceNeg, Int.reduceEq, Int.reduceLT, Int.reduceLE, reduceCtorEq]) rfl (lend_cons (z := 1) (cs := ints out) (by simp (disch := omega) only [go_sem, ↓reduceIte, Int.reduceToNat, Nat.reduceEqDiff, Nat.reduceAdd, Nat.reduceMul, Nat.reduceSub, Nat.reducePow, Nat.reduceLT, Nat.reduceLeDiff, Int.reduceNeg, Int.reduceEq, Int.reduceLT, Int.reduceLE, reduceCtorEq]) (by simp (disch := omega) only [go_sem, ↓reduceIte, Int.reduceToNat, Nat.reduceEqDiff, Nat.reduceAdd, Nat.reduceMul, Nat.reduceSub, Nat.reducePow, Nat.reduceLT, Nat.reduceLeDiff, Int.reduceNeg, Int.reduceEq, Int.reduceLT, Int.reduceLE, reduceCtorEq])) (by intro n hn; exact ⟨_, List.mem_singleton.2 rfl, by rw [List.mem_singleton.1 hn]; rfl⟩) ?_
      rintro r hs bs ⟨rfl, rfl, rfl⟩ _
      refine ⟨by simp [freeN], ?_⟩
      simp (disch := omega) only [go_sem, ↓reduceIte, Int.reduceToNat, Nat.reduceEqDiff, Nat.reduceAdd, Nat.reduceMul, Nat.reduceSub, Nat.reducePow, Nat.reduceLT, Nat.reduceLeDiff, Int.reduceNeg, Int.reduceEq, Int.reduceLT, Int.reduceLE, reduceCtorEq]
      obtain ⟨z, hz⟩ := cutZ_pre out
      have hc := cutZ_lim hog
      rw [hV] at hc
      rw [hc] at hz ⊢
      refine fin_intro [(0, 1)] [.own 1 (ints out)] [] [.rf 0 0 (lim (vl A / 2 ^ k).toNat).length] rfl (by simp (disch := omega) only [go_sem, ↓reduceIte, Int.reduceToNat, Nat.reduceEqDiff, Nat.reduceAdd, Nat.reduceMul, Nat.reduceSub, Nat.reducePow, Nat.reduceLT, Nat.reduceLeDiff, Int.reduceNeg, Int.reduceEq, Int.reduceLT, Int.reduceLE, reduceCtorEq]) (by simp (disch := omega) only [go_sem, ↓reduceIte, Int.reduceToNat, Nat.reduceEqDiff, Nat.reduceAdd, Nat.reduceMul, Nat.reduceSub, Nat.reducePow, Nat.reduceLT, Nat.reduceLeDiff, Int.reduceNeg, Int.reduceEq, Int.reduceLT, Int.reduceLE, reduceCtorEq]) (by simp) (by intro _; simp [tupA, AV.pu, AV.pu.puL, Ob.pu, pu_ints]) (.inr ⟨List.replicate z 0, rfl, by rw [← hz]⟩)
end Go.Ab
namespace Go.Ab
open Go Go.Proofs
set_option linter.unusedVariables false
set_option linter.unusedSimpArgs false

theorem con_plus (cl : Bool) (A B : List Int) (hA : gd A) (hB : gd B) (lA : A.length ≤ 2000000) (lB : B.length ≤ 2000000) :
    Con Tryd.prog 104 cl [.sl A.length (ints A), .sl B.length (ints B)] [] (numR (lim (vl A + vl B).toNat)) := by
  refine Con.of_aw Tryd.func104 rfl Tryd.ntmps104 (by simp) (by simp) (by simp) (W.sound ?_)
  show @W Tryd.prog 53 ⟨_⟩ ⟨fun x σ => @retW _ _ _ ⟨_⟩ _ ⟨_⟩ x σ⟩ _ _
  simp (disch := omega) only [go_sem, ↓reduceIte, Int.reduceToNat, Nat.reduceEqDiff, Nat.reduceAdd, Nat.reduceMul, Nat.reduceSub, Nat.reducePow, Nat.reduceLT, Nat.reduceLeDiff, Int.reduceNeg, Int.reduceEq, Int.reduceLT, Int.reduceLE, reduceCtorEq]
  refine ifW_dec (fun h0 => ?_) (fun h0 => ?_)
  all_goals simp (disch := omega) only [go_sem, ↓reduceIte, Int.reduceToNat, Nat.reduceEqDiff, Nat.reduceAdd, Nat.reduceMul, Nat.reduceSub, Nat.reducePow, Nat.reduceLT, Nat.reduceLeDiff, Int.reduceNeg, Int.reduceEq, Int.reduceLT, Int.reduceLE, reduceCtorEq, h0]
  · revert A B
    intro Y X hY hX lY lX h0'
    have h00 : Y.length ≤ X.length := by omega
    have hcm : vl Y + vl X = vl X + vl Y := Int.add_comm _ _
    refine ⟨by omega, ?_⟩
    refine loop_intro (fun x : Nat × List Int × Int => [(1, .sl Y.length (ints Y)), (5, .rf 1 0 x.2.1.length), (6, .v (.int .i64 x.2.2)), (20, .sl X.length (ints X)), (21, .v (.int .i64 X.length)), (22, .v (.int .i64 x.1))])
      (fun x => [(1, .own 1 (ints x.2.1))])
      (fun x => x.1 ≤ X.length ∧ x.2.1.length = x.1 ∧ gd x.2.1 ∧ (0 ≤ x.2.2 ∧ x.2.2 ≤ 1) ∧ vl x.2.1 + 65536 ^ x.1 * x.2.2 = vl (X.take x.1) + vl (Y.take x.1))
      (fun x => X.length - x.1) (0, [], 0) ⟨by simp, rfl, gd_nil, by simp, by simp [vl]⟩
      (Le.lst [(1, 210000000)] _ _ rfl (by simp (disch := omega) only [go_sem, ↓reduceIte, Int.reduceToNat, Nat.reduceEqDiff, Nat.reduceAdd, Nat.reduceMul, Nat.reduceSub, Nat.reducePow, Nat.reduceLT, Nat.reduceLeDiff, Int.reduceNeg, Int.reduceEq, Int.reduceLT, Int.reduceLE, reduceCtorEq]) (by simp (disch := omega) only [go_sem, ↓reduceIte, Int.reduceToNat, Nat.reduceEqDiff, Nat.reduceAdd, Nat.reduceMul, Nat.reduceSub, Nat.reducePow, Nat.reduceLT, Nat.reduceLeDiff, Int.reduceNeg, Int.reduceEq, Int.reduceLT, Int.reduceLE, reduceCtorEq])) ?_
    rintro ⟨i, out, cy⟩ ⟨hi, hol, hog, hcy, hov⟩
    dsimp only at hi hol hog hcy hov ⊢
    simp (disch := omega) only [go_sem, ↓reduceIte, Int.reduceToNat, Nat.reduceEqDiff, Nat.reduceAdd, Nat.reduceMul, Nat.reduceSub, Nat.reducePow, Nat.reduceLT, Nat.reduceLeDiff, Int.reduceNeg, Int.reduceEq, Int.reduceLT, Int.reduceLE, reduceCtorEq]
    refine ifW_dec (fun h1 => ?_) (fun h1 => ?_)
    · have hx := gd_getD hX i
      have hy := gd_getD hY i
      have hstep : ∀ q : Int, q = cy + X.getD i 0 + Y.getD i 0 → vl (out ++ [q % 65536]) + 65536 ^ (i + 1) * (q / 65536) = vl (X.take (i + 1)) + vl (Y.take (i + 1)) := by
        intro q hq
        rw [vl_snoc, vl_take_any, vl_take_any, hol, Int.pow_succ]
        have e3 : q % 65536 + 65536 * (q / 65536) = q := Int.emod_add_mul_ediv q 65536
        generalize (65536 : Int) ^ i = Pi at *
        grind
      have hyz : ¬ i < Y.length → Y.getD i 0 = 0 := fun h => by rw [List.getD_eq_getElem?_getD, List.getElem?_eq_none (by omega)]; rfl
      simp (disch := omega) only [go_sem, ↓reduceIte, Int.reduceToNat, Nat.reduceEqDiff, Nat.reduceAdd, Nat.reduceMul, Nat.reduceSub, Nat.reducePow, Nat.reduceLT, Nat.reduceLeDiff, Int.reduceNeg, Int.reduceEq, Int.reduceLT, Int.reduceLE, reduceCtorEq, h1]
      refine ⟨by omega, by omega, ifW_dec (fun h2 => ?_) (fun h2 => ?_)⟩
      · simp (disch := omega) only [go_sem, ↓reduceIte, Int.reduceToNat, Nat.reduceEqDiff, Nat.reduceAdd, Nat.reduceMul, Nat.reduceSub, Nat.reducePow, Nat.reduceLT, Nat.reduceLeDiff, Int.reduceNeg, Int.reduceEq, Int.reduceLT, Int.reduceLE, reduceCtorEq, h2]
        generalize hq : cy + X.getD i 0 + Y.getD i 0 = q
        refine ⟨by omega, by omega, by omega, next_intro (i + 1, out ++ [q % 65536], q / 65536) [(1, 460000000)] ⟨by show i + 1 ≤ _; omega, by simp [hol], gd_append.2 ⟨hog, gd_one.2 (by omega)⟩, by show 0 ≤ q / 65536 ∧ q / 65536 ≤ 1; omega, hstep q hq.symm⟩ (by show X.length - (i + 1) < X.length - i; omega) rfl (by simp (disch := omega) only [go_sem, ↓reduceIte, Int.reduceToNat, Nat.reduceEqDiff, Nat.reduceAdd, Nat.reduceMul, Nat.reduceSub, Nat.reducePow, Nat.reduceLT, Nat.reduceLeDiff, Int.reduceNeg, Int.reduceEq, Int.reduceLT, Int.reduceLE, reduceCtorEq, List.length_append]; try omega) (by simp (disch := omega) only [go_sem, ↓reduceIte, Int.reduceToNat, Nat.reduceEqDiff, Nat.reduceAdd, Nat.reduceMul, Nat.reduceSub, Nat.reducePow, Nat.reduceLT, Nat.reduceLeDiff, Int.reduceNeg, Int.reduceEq, Int.reduceLT, Int.reduceLE, reduceCtorEq])⟩
      · simp (disch := omega) only [go_sem, ↓reduceIte, Int.reduceToNat, Nat.reduceEqDiff, Nat.reduceAdd, Nat.reduceMul, Nat.reduceSub, Nat.reducePow, Nat.reduceLT, Nat.reduceLeDiff, Int.reduceNeg, Int.reduceEq, Int.reduceLT, Int.reduceLE, reduceCtorEq, h2]
        have hy0 := hyz (by omega)
        generalize hq : cy + X.getD i 0 = q
        refine ⟨by omega, next_intro (i + 1, out ++ [q % 65536], q / 65536) [(1, 460000000)] ⟨by show i + 1 ≤ _; omega, by simp [hol], gd_append.2 ⟨hog, gd_one.2 (by omega)⟩, by show 0 ≤ q / 65536 ∧ q / 65536 ≤ 1; omega, hstep q (by omega)⟩ (by show X.length - (i + 1) < X.length - i; omega) rfl (by simp (disch := omega) only [go_sem, ↓reduceIte, Int.reduceToNat, Nat.reduceEqDiff, Nat.reduceAdd, Nat.reduceMul, Nat.reduceSub, Nat.reducePow, Nat.reduceLT, Nat.reduceLeDiff, Int.reduceNeg, Int.reduceEq, Int.reduceLT, Int.reduceLE, reduceCtorEq, List.length_append]; try omega) (by simp (disch := omega) only [go_sem, ↓reduceIte, Int.reduceToNat, Nat.reduceEqDiff, Nat.reduceAdd, Nat.reduceMul, Nat.reduceSub, Nat.reducePow, Nat.reduceLT, Nat.reduceLeDiff, Int.reduceNeg, Int.reduceEq, Int.reduceLT, Int.reduceLE, reduceCtorEq])⟩
    · simp (disch := omega) only [go_sem, ↓reduceIte, Int.reduceToNat, Nat.reduceEqDiff, Nat.reduceAdd, Nat.reduceMul, Nat.reduceSub, Nat.reducePow, Nat.reduceLT, Nat.reduceLeDiff, Int.reduceNeg, Int.reduceEq, Int.reduceLT, Int.reduceLE, reduceCtorEq, h1]
      have hiA : i = X.length := by omega
      subst hiA
      rw [List.take_length, List.take_of_length_le h00] at hov
      have hov2 : vl (out ++ [cy]) = vl X + vl Y := by rw [vl_snoc, hol]; exact hov
      have hog2 : gd (out ++ [cy]) := gd_append.2 ⟨hog, gd_one.2 (by omega)⟩
      refine ⟨by omega, ?_⟩
      have hl2 : out.length + 1 = (out ++ [cy]).length := by simp
      rw [hl2]
      refine call_lend false [530000000] (con_trim (out ++ [cy]) (by simp; omega)) (by simp (disch := omega) only [go_sem, ↓reduceIte, Int.reduceToNat, Nat.reduceEqDiff, Nat.reduceAdd, Nat.reduceMul, Nat.reduceSub, Nat.reducePow, Nat.reduceLT, Nat.reduceLeDiff, Int.reduceNeg, Int.reduceEq, Int.reduceLT, Int.reduceLE, reduceCtorEq]) (by simp (disch := omega) only [go_sem, ↓reduceIte, Int.reduceToNat, Nat.reduceEqDiff, Nat.reduceAdd, Nat.reduceMul, Nat.reduceSub, Nat.reducePow, Nat.reduceLT, Nat.reduceLeDiff, Int.reduceNeg, Int.reduceEq, Int.reduceLT, Int.reduceLE, reduceCtorEq]) rfl (lend_cons (z := 1) (cs := ints (out ++ [cy])) (by simp (disch := omega) only [go_sem, ↓reduceIte, Int.reduceToNat, Nat.reduceEqDiff, Nat.reduceAdd, Nat.reduceMul, Nat.reduceSub, Nat.reducePow, Nat.reduceLT, Nat.reduceLeDiff, Int.reduceNeg, Int.reduceEq, Int.reduceLT, Int.reduceLE, reduceCtorEq]) (by simp (disch := omega) only [go_sem, ↓reduceIte, Int.reduceToNat, Nat.reduceEqDiff, Nat.reduceAdd, Nat.reduceMul, Nat.reduceSub, Nat.reducePow, Nat.reduceLT, Nat.reduceLeDiff, Int.reduceNeg, Int.reduceEq, Int.reduceLT, Int.reduceLE, reduceCtorEq])) (by intro n hn; exact ⟨_, List.mem_singleton.2 rfl, by rw [List.mem_singleton.1 hn]; rfl⟩) ?_
      rintro r hs bs ⟨rfl, rfl, rfl⟩ _
      refine ⟨by simp [freeN], ?_⟩
      simp (disch := omega) only [go_sem, ↓reduceIte, Int.reduceToNat, Nat.reduceEqDiff, Nat.reduceAdd, Nat.reduceMul, Nat.reduceSub, Nat.reducePow, Nat.reduceLT, Nat.reduceLeDiff, Int.reduceNeg, Int.reduceEq, Int.reduceLT, Int.reduceLE, reduceCtorEq]
      obtain ⟨z, hz⟩ := cutZ_pre (out ++ [cy])
      have hc := cutZ_lim hog2
      rw [hov2] at hc
      rw [hc] at hz ⊢
      refine fin_intro [(0, 530000000)] [.own 1 (ints (out ++ [cy]))] [] [.rf 0 0 (lim (vl X + vl Y).toNat).length] rfl (by simp (disch := omega) only [go_sem, ↓reduceIte, Int.reduceToNat, Nat.reduceEqDiff, Nat.reduceAdd, Nat.reduceMul, Nat.reduceSub, Nat.reducePow, Nat.reduceLT, Nat.reduceLeDiff, Int.reduceNeg, Int.reduceEq, Int.reduceLT, Int.reduceLE, reduceCtorEq]) (by simp (disch := omega) only [go_sem, ↓reduceIte, Int.reduceToNat, Nat.reduceEqDiff, Nat.reduceAdd, Nat.reduceMul, Nat.reduceSub, Nat.reducePow, Nat.reduceLT, Nat.reduceLeDiff, Int.reduceNeg, Int.reduceEq, Int.reduceLT, Int.reduceLE, reduceCtorEq]) (by simp) (by intro _; simp [tupA, AV.pu, AV.pu.puL, Ob.pu, pu_ints]) (.inr ⟨List.replicate z 0, by rw [hcm]; rfl, by rw [hcm, ← hz]⟩)
  · revert A B
    intro X Y hX hY lX lY h0'
    have h00 : Y.length ≤ X.length := by omega
    have hcm : vl X + vl Y = vl X + vl Y := rfl
    refine ⟨by omega, ?_⟩
    refine loop_intro (fun x : Nat × List Int × Int => [(1, .sl Y.length (ints Y)), (5, .rf 1 0 x.2.1.length), (6, .v (.int .i64 x.2.2)), (20, .sl X.length (ints X)), (21, .v (.int .i64 X.length)), (22, .v (.int .i64 x.1))])
      (fun x => [(1, .own 1 (ints x.2.1))])
      (fun x => x.1 ≤ X.length ∧ x.2.1.length = x.1 ∧ gd x.2.1 ∧ (0 ≤ x.2.2 ∧ x.2.2 ≤ 1) ∧ vl x.2.1 + 65536 ^ x.1 * x.2.2 = vl (X.take x.1) + vl (Y.take x.1))
      (fun x => X.length - x.1) (0, [], 0) ⟨by simp, rfl, gd_nil, by simp, by simp [vl]⟩
      (Le.lst [(1, 210000000)] _ _ rfl (by simp (disch := omega) only [go_sem, ↓reduceIte, Int.reduceToNat, Nat.reduceEqDiff, Nat.reduceAdd, Nat.reduceMul, Nat.reduceSub, Nat.reducePow, Nat.reduceLT, Nat.reduceLeDiff, Int.reduceNeg, Int.reduceEq, Int.reduceLT, Int.reduceLE, reduceCtorEq]) (by simp (disch := omega) only [go_sem, ↓reduceIte, Int.reduceToNat, Nat.reduceEqDiff, Nat.reduceAdd, Nat.reduceMul, Nat.reduceSub, Nat.reducePow, Nat.reduceLT, Nat.reduceLeDiff, Int.reduceNeg, Int.reduceEq, Int.reduceLT, Int.reduceLE, reduceCtorEq])) ?_
    rintro ⟨i, out, cy⟩ ⟨hi, hol, hog, hcy, hov⟩
    dsimp only at hi hol hog hcy hov ⊢
    simp (disch := omega) only [go_sem, ↓reduceIte, Int.reduceToNat, Nat.reduceEqDiff, Nat.reduceAdd, Nat.reduceMul, Nat.reduceSub, Nat.reducePow, Nat.reduceLT, Nat.reduceLeDiff, Int.reduceNeg, Int.reduceEq, Int.reduceLT, Int.reduceLE, reduceCtorEq]
    refine ifW_dec (fun h1 => ?_) (fun h1 => ?_)
    · have hx := gd_getD hX i
      have hy := gd_getD hY i
      have hstep : ∀ q : Int, q = cy + X.getD i 0 + Y.getD i 0 → vl (out ++ [q % 65536]) + 65536 ^ (i + 1) * (q / 65536) = vl (X.take (i + 1)) + vl (Y.take (i + 1)) := by
        intro q hq
        rw [vl_snoc, vl_take_any, vl_take_any, hol, Int.pow_succ]
        have e3 : q % 65536 + 65536 * (q / 65536) = q := Int.emod_add_mul_ediv q 65536
        generalize (65536 : Int) ^ i = Pi at *
        grind
      have hyz : ¬ i < Y.length → Y.getD i 0 = 0 := fun h => by rw [List.getD_eq_getElem?_getD, List.getElem?_eq_none (by omega)]; rfl
      simp (disch := omega) only [go_sem, ↓reduceIte, Int.reduceToNat, Nat.reduceEqDiff, Nat.reduceAdd, Nat.reduceMul, Nat.reduceSub, Nat.reducePow, Nat.reduceLT, Nat.reduceLeDiff, Int.reduceNeg, Int.reduceEq, Int.reduceLT, Int.reduceLE, reduceCtorEq, h1]
      refine ⟨by omega, by omega, ifW_dec (fun h2 => ?_) (fun h2 => ?_)⟩
      · simp (disch := omega) only [go_sem, ↓reduceIte, Int.reduceToNat, Nat.reduceEqDiff, Nat.reduceAdd, Nat.reduceMul, Nat.reduceSub, Nat.reducePow, Nat.reduceLT, Nat.reduceLeDiff, Int.reduceNeg, Int.reduceEq, Int.reduceLT, Int.reduceLE, reduceCtorEq, h2]
        generalize hq : cy + X.getD i 0 + Y.getD i 0 = q
        refine ⟨by omega, by omega, by omega, next_intro (i + 1, out ++ [q % 65536], q / 65536) [(1, 460000000)] ⟨by show i + 1 ≤ _; omega, by simp [hol], gd_append.2 ⟨hog, gd_one.2 (by omega)⟩, by show 0 ≤ q / 65536 ∧ q / 65536 ≤ 1; omega, hstep q hq.symm⟩ (by show X.length - (i + 1) < X.length - i; omega) rfl (by simp (disch := omega) only [go_sem, ↓reduceIte, Int.reduceToNat, Nat.reduceEqDiff, Nat.reduceAdd, Nat.reduceMul, Nat.reduceSub, Nat.reducePow, Nat.reduceLT, Nat.reduceLeDiff, Int.reduceNeg, Int.reduceEq, Int.reduceLT, Int.reduceLE, reduceCtorEq, List.length_append]; try omega) (by simp (disch := omega) only [go_sem, ↓reduceIte, Int.reduceToNat, Nat.reduceEqDiff, Nat.reduceAdd, Nat.reduceMul, Nat.reduceSub, Nat.reducePow, Nat.reduceLT, Nat.reduceLeDiff, Int.reduceNeg, Int.reduceEq, Int.reduceLT, Int.reduceLE, reduceCtorEq])⟩
      · simp (disch := omega) only [go_sem, ↓reduceIte, Int.reduceToNat, Nat.reduceEqDiff, Nat.reduceAdd, Nat.reduceMul, Nat.reduceSub, Nat.reducePow, Nat.reduceLT, Nat.reduceLeDiff, Int.reduceNeg, Int.reduceEq, Int.reduceLT, Int.reduceLE, reduceCtorEq, h2]
        have hy0 := hyz (by omega)
        generalize hq : cy + X.getD i 0 = q
        refine ⟨by omega, next_intro (i + 1, out ++ [q % 65536], q / 65536) [(1, 460000000)] ⟨by show i + 1 ≤ _; omega, by simp [hol], gd_append.2 ⟨hog, gd_one.2 (by omega)⟩, by show 0 ≤ q / 65536 ∧ q / 65536 ≤ 1; omega, hstep q (by omega)⟩ (by show X.length - (i + 1) < X.length - i; omega) rfl (by simp (disch := omega) only [go_sem, ↓reduceIte, Int.reduceToNat, Nat.reduceEqDiff, Nat.reduceAdd, Nat.reduceMul, Nat.reduceSub, Nat.reducePow, Nat.reduceLT, Nat.reduceLeDiff, Int.reduceNeg, Int.reduceEq, Int.reduceLT, Int.reduceLE, reduceCtorEq, List.length_append]; try omega) (by simp (disch := omega) only [go_sem, ↓reduceIte, Int.reduceToNat, Nat.reduceEqDiff, Nat.reduceAdd, Nat.reduceMul, Nat.reduceSub, Nat.reducePow, Nat.reduceLT, Nat.reduceLeDiff, Int.reduceNeg, Int.reduceEq, Int.reduceLT, Int.reduceLE, reduceCtorEq])⟩
    · simp (disch := omega) only [go_sem, ↓reduceIte, Int.reduceToNat, Nat.reduceEqDiff, Nat.reduceAdd, Nat.reduceMul, Nat.reduceSub, Nat.reducePow, Nat.reduceLT, Nat.reduceLeDiff, Int.reduceNeg, Int.reduceEq, Int.reduceLT, Int.reduceLE, reduceCtorEq, h1]
      have hiA : i = X.length := by omega
      subst hiA
      rw [List.take_length, List.take_of_length_le h00] at hov
      have hov2 : vl (out ++ [cy]) = vl X + vl Y := by rw [vl_snoc, hol]; exact hov
      have hog2 : gd (out ++ [cy]) := gd_append.2 ⟨hog, gd_one.2 (by omega)⟩
      refine ⟨by omega, ?_⟩
      have hl2 : out.length + 1 = (out ++ [cy]).length := by simp
      rw [hl2]
      refine call_lend false [530000000] (con_trim (out ++ [cy]) (by simp; omega)) (by simp (disch := omega) only [go_sem, ↓reduceIte, Int.reduceToNat, Nat.reduceEqDiff, Nat.reduceAdd, Nat.reduceMul, Nat.reduceSub, Nat.reducePow, Nat.reduceLT, Nat.reduceLeDiff, Int.reduceNeg, Int.reduceEq, Int.reduceLT, Int.reduceLE, reduceCtorEq]) (by simp (disch := omega) only [go_sem, ↓reduceIte, Int.reduceToNat, Nat.reduceEqDiff, Nat.reduceAdd, Nat.reduceMul, Nat.reduceSub, Nat.reducePow, Nat.reduceLT, Nat.reduceLeDiff, Int.reduceNeg, Int.reduceEq, Int.reduceLT, Int.reduceLE, reduceCtorEq]) rfl (lend_cons (z := 1) (cs := ints (out ++ [cy])) (by simp (disch := omega) only [go_sem, ↓reduceIte, Int.reduceToNat, Nat.reduceEqDiff, Nat.reduceAdd, Nat.reduceMul, Nat.reduceSub, Nat.reducePow, Nat.reduceLT, Nat.reduceLeDiff, Int.reduceNeg, Int.reduceEq, Int.reduceLT, Int.reduceLE, reduceCtorEq]) (by simp (disch := omega) only [go_sem, ↓reduceIte, Int.reduceToNat, Nat.reduceEqDiff, Nat.reduceAdd, Nat.reduceMul, Nat.reduceSub, Nat.reducePow, Nat.reduceLT, Nat.reduceLeDiff, Int.reduceNeg, Int.reduceEq, Int.reduceLT, Int.reduceLE, reduceCtorEq])) (by intro n hn; exact ⟨_, List.mem_singleton.2 rfl, by rw [List.mem_singleton.1 hn]; rfl⟩) ?_
      rintro r hs bs ⟨rfl, rfl, rfl⟩ _
      refine ⟨by simp [freeN], ?_⟩
      simp (disch := omega) only [go_sem, ↓reduceIte, Int.reduceToNat, Nat.reduceEqDiff, Nat.reduceAdd, Nat.reduceMul, Nat.reduceSub, Nat.reducePow, Nat.reduceLT, Nat.reduceLeDiff, Int.reduceNeg, Int.reduceEq, Int.reduceLT, Int.reduceLE, reduceCtorEq]
      obtain ⟨z, hz⟩ := cutZ_pre (out ++ [cy])
      have hc := cutZ_lim hog2
      rw [hov2] at hc
      rw [hc] at hz ⊢
      refine fin_intro [(0, 530000000)] [.own 1 (ints (out ++ [cy]))] [] [.rf 0 0 (lim (vl X + vl Y).toNat).length] rfl (by simp (disch := omega) only [go_sem, ↓reduceIte, Int.reduceToNat, Nat.reduceEqDiff, Nat.reduceAdd, Nat.reduceMul, Nat.reduceSub, Nat.reducePow, Nat.reduceLT, Nat.reduceLeDiff, Int.reduceNeg, Int.reduceEq, Int.reduceLT, Int.reduceLE, reduceCtorEq]) (by simp (disch := omega) only [go_sem, ↓reduceIte, Int.reduceToNat, Nat.reduceEqDiff, Nat.reduceAdd, Nat.reduceMul, Nat.reduceSub, Nat.reducePow, Nat.reduceLT, Nat.reduceLeDiff, Int.reduceNeg, Int.reduceEq, Int.reduceLT, Int.reduceLE, reduceCtorEq]) (by simp) (by intro _; simp [tupA, AV.pu, AV.pu.puL, Ob.pu, pu_ints]) (.inr ⟨List.replicate z 0, by rw [hcm]; rfl, by rw [hcm, ← hz]⟩)

end Go.Ab
namespace Go.Ab
open Go Go.Proofs
set_option linter.unusedVariables false
set_option linter.unusedSimpArgs false

theorem con_clone (cl : Bool) (xs : List Int) (hl : xs.length ≤ 2 ^ 39) : Con Tryd.prog 109 cl [.sl xs.length (ints xs)] [] (numR xs) := by
  refine Con.of_aw Tryd.func109 rfl Tryd.ntmps109 (by simp) (by simp) (by simp) (W.sound ?_)
  show @W Tryd.prog 8 ⟨_⟩ ⟨fun x σ => @retW _ _ _ ⟨_⟩ _ ⟨_⟩ x σ⟩ _ _
  simp (disch := omega) only [go_sem, ↓reduceIte, Int.reduceToNat, Nat.reduceEqDiff, Nat.reduceAdd, Nat.reduceMul, Nat.reduceSub, Nat.reducePow, Nat.reduceLT, Nat.reduceLeDiff, Int.reduceNeg, Int.reduceEq, Int.reduceLT, Int.reduceLE, reduceCtorEq]
  refine ⟨fun h0 => ?_, ?_⟩
  · have : xs = [] := by cases xs with | nil => rfl | cons a r => cases h0
    subst this
    refine fin_intro [] [] [] [.v (.slice none 0 0)] rfl (by simp (disch := omega) only [go_sem, ↓reduceIte, Int.reduceToNat, Nat.reduceEqDiff, Nat.reduceAdd, Nat.reduceMul, Nat.reduceSub, Nat.reducePow, Nat.reduceLT, Nat.reduceLeDiff, Int.reduceNeg, Int.reduceEq, Int.reduceLT, Int.reduceLE, reduceCtorEq]) (by simp (disch := omega) only [go_sem, ↓reduceIte, Int.reduceToNat, Nat.reduceEqDiff, Nat.reduceAdd, Nat.reduceMul, Nat.reduceSub, Nat.reducePow, Nat.reduceLT, Nat.reduceLeDiff, Int.reduceNeg, Int.reduceEq, Int.reduceLT, Int.reduceLE, reduceCtorEq]) (by simp) (by intro _; simp [tupA, AV.pu]) (.inl ⟨rfl, rfl, rfl⟩)
  · refine ⟨by omega, ?_⟩
    refine fin_intro [(0, 90000000)] [.own 1 (ints xs)] [] [.rf 0 0 xs.length] rfl (by simp (disch := omega) only [go_sem, ↓reduceIte, Int.reduceToNat, Nat.reduceEqDiff, Nat.reduceAdd, Nat.reduceMul, Nat.reduceSub, Nat.reducePow, Nat.reduceLT, Nat.reduceLeDiff, Int.reduceNeg, Int.reduceEq, Int.reduceLT, Int.reduceLE, reduceCtorEq]) (by simp (disch := omega) only [go_sem, ↓reduceIte, Int.reduceToNat, Nat.reduceEqDiff, Nat.reduceAdd, Nat.reduceMul, Nat.reduceSub, Nat.reducePow, Nat.reduceLT, Nat.reduceLeDiff, Int.reduceNeg, Int.reduceEq, Int.reduceLT, Int.reduceLE, reduceCtorEq]) (by simp) (by intro _; simp [tupA, AV.pu, Ob.pu, pu_ints]) (.inr ⟨[], rfl, by rw [List.append_nil]⟩)
end Go.Ab
namespace Go.Ab
open Go Go.Proofs
set_option linter.unusedVariables false
set_option linter.unusedSimpArgs false

theorem con_isnan (x : Int) : Con Tryd.prog 116 true [.v (.int .i64 x)] [] (isA (.v (.bool false))) := by
  refine Con.of_aw Tryd.func116 rfl Tryd.ntmps116 (by simp) (by simp) (by simp) (W.sound ?_)
  show @W Tryd.prog 6 ⟨_⟩ ⟨fun x σ => @retW _ _ _ ⟨_⟩ _ ⟨_⟩ x σ⟩ _ _
  simp (disch := omega) only [go_sem, ↓reduceIte, Int.reduceToNat, Nat.reduceEqDiff, Nat.reduceAdd, Nat.reduceMul, Nat.reduceSub, Nat.reducePow, Nat.reduceLT, Nat.reduceLeDiff, Int.reduceNeg, Int.reduceEq, Int.reduceLT, Int.reduceLE, reduceCtorEq]
  exact fin_valc (by simp (disch := omega) only [go_sem, ↓reduceIte, Int.reduceToNat, Nat.reduceEqDiff, Nat.reduceAdd, Nat.reduceMul, Nat.reduceSub, Nat.reducePow, Nat.reduceLT, Nat.reduceLeDiff, Int.reduceNeg, Int.reduceEq, Int.reduceLT, Int.reduceLE, reduceCtorEq]) (by simp (disch := omega) only [go_sem, ↓reduceIte, Int.reduceToNat, Nat.reduceEqDiff, Nat.reduceAdd, Nat.reduceMul, Nat.reduceSub, Nat.reducePow, Nat.reduceLT, Nat.reduceLeDiff, Int.reduceNeg, Int.reduceEq, Int.reduceLT, Int.reduceLE, reduceCtorEq]) isA_mk

theorem con_cmp (x y : Int) : Con Tryd.prog 114 true [.v (.int .i64 x), .v (.int .i64 y)] [] (isA (.v (.int .i64 (cmpI x y)))) := by
  refine Con.of_aw Tryd.func114 rfl Tryd.ntmps114 (by simp) (by simp) (by simp) (W.sound ?_)
  show @W Tryd.prog 20 ⟨_⟩ ⟨fun x σ => @retW _ _ _ ⟨_⟩ _ ⟨_⟩ x σ⟩ _ _
  simp (disch := omega) only [go_sem, ↓reduceIte, Int.reduceToNat, Nat.reduceEqDiff, Nat.reduceAdd, Nat.reduceMul, Nat.reduceSub, Nat.reducePow, Nat.reduceLT, Nat.reduceLeDiff, Int.reduceNeg, Int.reduceEq, Int.reduceLT, Int.reduceLE, reduceCtorEq]
  refine call_closed (con_isnan x) (by simp (disch := omega) only [go_sem, ↓reduceIte, Int.reduceToNat, Nat.reduceEqDiff, Nat.reduceAdd, Nat.reduceMul, Nat.reduceSub, Nat.reducePow, Nat.reduceLT, Nat.reduceLeDiff, Int.reduceNeg, Int.reduceEq, Int.reduceLT, Int.reduceLE, reduceCtorEq]) ?_
  rintro r hs ⟨rfl, rfl, _⟩
  refine ⟨by simp [freeN], ?_⟩
  simp (disch := omega) only [go_sem, ↓reduceIte, Int.reduceToNat, Nat.reduceEqDiff, Nat.reduceAdd, Nat.reduceMul, Nat.reduceSub, Nat.reducePow, Nat.reduceLT, Nat.reduceLeDiff, Int.reduceNeg, Int.reduceEq, Int.reduceLT, Int.reduceLE, reduceCtorEq]
  refine call_closed (con_isnan y) (by simp (disch := omega) only [go_sem, ↓reduceIte, Int.reduceToNat, Nat.reduceEqDiff, Nat.reduceAdd, Nat.reduceMul, Nat.reduceSub, Nat.reducePow, Nat.reduceLT, Nat.reduceLeDiff, Int.reduceNeg, Int.reduceEq, Int.reduceLT, Int.reduceLE, reduceCtorEq]) ?_
  rintro r hs ⟨rfl, rfl, _⟩
  refine ⟨by simp [freeN], ?_⟩
  simp (disch := omega) only [go_sem, ↓reduceIte, Int.reduceToNat, Nat.reduceEqDiff, Nat.reduceAdd, Nat.reduceMul, Nat.reduceSub, Nat.reducePow, Nat.reduceLT, Nat.reduceLeDiff, Int.reduceNeg, Int.reduceEq, Int.reduceLT, Int.reduceLE, reduceCtorEq]
  refine ifW_dec (fun h1 => ?_) (fun h1 => ?_)
  · simp (disch := omega) only [go_sem, ↓reduceIte, Int.reduceToNat, Nat.reduceEqDiff, Nat.reduceAdd, Nat.reduceMul, Nat.reduceSub, Nat.reducePow, Nat.reduceLT, Nat.reduceLeDiff, Int.reduceNeg, Int.reduceEq, Int.reduceLT, Int.reduceLE, reduceCtorEq, h1]
    rw [show cmpI x y = -1 by simp [cmpI, h1]]
    exact fin_valc (by simp (disch := omega) only [go_sem, ↓reduceIte, Int.reduceToNat, Nat.reduceEqDiff, Nat.reduceAdd, Nat.reduceMul, Nat.reduceSub, Nat.reducePow, Nat.reduceLT, Nat.reduceLeDiff, Int.reduceNeg, Int.reduceEq, Int.reduceLT, Int.reduceLE, reduceCtorEq]) (by simp (disch := omega) only [go_sem, ↓reduceIte, Int.reduceToNat, Nat.reduceEqDiff, Nat.reduceAdd, Nat.reduceMul, Nat.reduceSub, Nat.reducePow, Nat.reduceLT, Nat.reduceLeDiff, Int.reduceNeg, Int.reduceEq, Int.reduceLT, Int.reduceLE, reduceCtorEq]) isA_mk
  · simp (disch := omega) only [go_sem, ↓reduceIte, Int.reduceToNat, Nat.reduceEqDiff, Nat.reduceAdd, Nat.reduceMul, Nat.reduceSub, Nat.reducePow, Nat.reduceLT, Nat.reduceLeDiff, Int.reduceNeg, Int.reduceEq, Int.reduceLT, Int.reduceLE, reduceCtorEq, h1]
    refine ifW_dec (fun h2 => ?_) (fun h2 => ?_)
    · simp (disch := omega) only [go_sem, ↓reduceIte, Int.reduceToNat, Nat.reduceEqDiff, Nat.reduceAdd, Nat.reduceMul, Nat.reduceSub, Nat.reducePow, Nat.reduceLT, Nat.reduceLeDiff, Int.reduceNeg, Int.reduceEq, Int.reduceLT, Int.reduceLE, reduceCtorEq, h2]
      rw [show cmpI x y = 1 by simp [cmpI, h1, h2]]
      exact fin_valc (by simp (disch := omega) only [go_sem, ↓reduceIte, Int.reduceToNat, Nat.reduceEqDiff, Nat.reduceAdd, Nat.reduceMul, Nat.reduceSub, Nat.reducePow, Nat.reduceLT, Nat.reduceLeDiff, Int.reduceNeg, Int.reduceEq, Int.reduceLT, Int.reduceLE, reduceCtorEq]) (by simp (disch := omega) only [go_sem, ↓reduceIte, Int.reduceToNat, Nat.reduceEqDiff, Nat.reduceAdd, Nat.reduceMul, Nat.reduceSub, Nat.reducePow, Nat.reduceLT, Nat.reduceLeDiff, Int.reduceNeg, Int.reduceEq, Int.reduceLT, Int.reduceLE, reduceCtorEq]) isA_mk
    · simp (disch := omega) only [go_sem, ↓reduceIte, Int.reduceToNat, Nat.reduceEqDiff, Nat.reduceAdd, Nat.reduceMul, Nat.reduceSub, Nat.reducePow, Nat.reduceLT, Nat.reduceLeDiff, Int.reduceNeg, Int.reduceEq, Int.reduceLT, Int.reduceLE, reduceCtorEq, h2]
      rw [show cmpI x y = 0 by simp [cmpI, h1, h2]]
      exact fin_valc (by simp (disch := omega) only [go_sem, ↓reduceIte, Int.reduceToNat, Nat.reduceEqDiff, Nat.reduceAdd, Nat.reduceMul, Nat.reduceSub, Nat.reducePow, Nat.reduceLT, Nat.reduceLeDiff, Int.reduceNeg, Int.reduceEq, Int.reduceLT, Int.reduceLE, reduceCtorEq]) (by simp (disch := omega) only [go_sem, ↓reduceIte, Int.reduceToNat, Nat.reduceEqDiff, Nat.reduceAdd, Nat.reduceMul, Nat.reduceSub, Nat.reducePow, Nat.reduceLT, Nat.reduceLeDiff, Int.reduceNeg, Int.reduceEq, Int.reduceLT, Int.reduceLE, reduceCtorEq]) isA_mk

theorem con_compare (a b : Nat) (la : (lim a).length ≤ 2 ^ 40) (lb : (lim b).length ≤ 2 ^ 40) :
    Con Tryd.prog 103 true [.sl (lim (a)).length (ints (lim (a))), .sl (lim (b)).length (ints (lim (b)))] [] (isA (.v (.int .i64 (cmpI a b)))) := by
  refine Con.of_aw Tryd.func103 rfl Tryd.ntmps103 (by simp) (by simp) (by simp) (W.sound ?_)
  show @W Tryd.prog 41 ⟨_⟩ ⟨fun x σ => @retW _ _ _ ⟨_⟩ _ ⟨_⟩ x σ⟩ _ _
  simp (disch := omega) only [go_sem, ↓reduceIte, Int.reduceToNat, Nat.reduceEqDiff, Nat.reduceAdd, Nat.reduceMul, Nat.reduceSub, Nat.reducePow, Nat.reduceLT, Nat.reduceLeDiff, Int.reduceNeg, Int.reduceEq, Int.reduceLT, Int.reduceLE, reduceCtorEq]
  refine ifW_not (fun h1 => ?_) (fun h1 => ?_)
  · simp (disch := omega) only [go_sem, ↓reduceIte, Int.reduceToNat, Nat.reduceEqDiff, Nat.reduceAdd, Nat.reduceMul, Nat.reduceSub, Nat.reducePow, Nat.reduceLT, Nat.reduceLeDiff, Int.reduceNeg, Int.reduceEq, Int.reduceLT, Int.reduceLE, reduceCtorEq, h1]
    refine call_closed (con_cmp (lim a).length (lim b).length) (by simp (disch := omega) only [go_sem, ↓reduceIte, Int.reduceToNat, Nat.reduceEqDiff, Nat.reduceAdd, Nat.reduceMul, Nat.reduceSub, Nat.reducePow, Nat.reduceLT, Nat.reduceLeDiff, Int.reduceNeg, Int.reduceEq, Int.reduceLT, Int.reduceLE, reduceCtorEq]) ?_
    rintro r hs ⟨rfl, rfl, _⟩
    refine ⟨by simp [freeN], ?_⟩
    simp (disch := omega) only [go_sem, ↓reduceIte, Int.reduceToNat, Nat.reduceEqDiff, Nat.reduceAdd, Nat.reduceMul, Nat.reduceSub, Nat.reducePow, Nat.reduceLT, Nat.reduceLeDiff, Int.reduceNeg, Int.reduceEq, Int.reduceLT, Int.reduceLE, reduceCtorEq]
    have : cmpI ((lim a).length : Int) ((lim b).length : Int) = cmpI a b := by
      unfold cmpI
      rcases (by omega : (lim a).length < (lim b).length ∨ (lim b).length < (lim a).length) with h | h
      · have := lim_lt_of h
        rw [if_pos (by omega), if_pos (by omega)]
      · have := lim_lt_of h
        rw [if_neg (by omega), if_pos (by omega), if_neg (by omega), if_pos (by omega)]
    rw [this]
    exact fin_valc (by simp (disch := omega) only [go_sem, ↓reduceIte, Int.reduceToNat, Nat.reduceEqDiff, Nat.reduceAdd, Nat.reduceMul, Nat.reduceSub, Nat.reducePow, Nat.reduceLT, Nat.reduceLeDiff, Int.reduceNeg, Int.reduceEq, Int.reduceLT, Int.reduceLE, reduceCtorEq]) (by simp (disch := omega) only [go_sem, ↓reduceIte, Int.reduceToNat, Nat.reduceEqDiff, Nat.reduceAdd, Nat.reduceMul, Nat.reduceSub, Nat.reducePow, Nat.reduceLT, Nat.reduceLeDiff, Int.reduceNeg, Int.reduceEq, Int.reduceLT, Int.reduceLE, reduceCtorEq]) isA_mk
  · simp (disch := omega) only [go_sem, ↓reduceIte, Int.reduceToNat, Nat.reduceEqDiff, Nat.reduceAdd, Nat.reduceMul, Nat.reduceSub, Nat.reducePow, Nat.reduceLT, Nat.reduceLeDiff, Int.reduceNeg, Int.reduceEq, Int.reduceLT, Int.reduceLE, reduceCtorEq, h1]
    have hl : (lim a).length = (lim b).length := by omega
    refine loop_intro (fun k : Nat => [(0, .sl (lim (a)).length (ints (lim (a)))), (1, .sl (lim (b)).length (ints (lim (b)))), (5, .v (.int .i64 ((k : Int) - 1)))])
      (fun _ => []) (fun k => k ≤ (lim a).length ∧ (lim a).drop k = (lim b).drop k) (fun k => k) (lim a).length ⟨Nat.le_refl _, by rw [List.drop_length, hl, List.drop_length]⟩ (Le.lst [] _ _ rfl (by simp (disch := omega) only [go_sem, ↓reduceIte, Int.reduceToNat, Nat.reduceEqDiff, Nat.reduceAdd, Nat.reduceMul, Nat.reduceSub, Nat.reducePow, Nat.reduceLT, Nat.reduceLeDiff, Int.reduceNeg, Int.reduceEq, Int.reduceLT, Int.reduceLE, reduceCtorEq]; try omega) (by simp (disch := omega) only [go_sem, ↓reduceIte, Int.reduceToNat, Nat.reduceEqDiff, Nat.reduceAdd, Nat.reduceMul, Nat.reduceSub, Nat.reducePow, Nat.reduceLT, Nat.reduceLeDiff, Int.reduceNeg, Int.reduceEq, Int.reduceLT, Int.reduceLE, reduceCtorEq])) ?_
    rintro k ⟨hk, hd⟩
    simp (disch := omega) only [go_sem, ↓reduceIte, Int.reduceToNat, Nat.reduceEqDiff, Nat.reduceAdd, Nat.reduceMul, Nat.reduceSub, Nat.reducePow, Nat.reduceLT, Nat.reduceLeDiff, Int.reduceNeg, Int.reduceEq, Int.reduceLT, Int.reduceLE, reduceCtorEq]
    refine ifW_dec (fun h2 => ?_) (fun h2 => ?_)
    · obtain ⟨i, rfl⟩ : ∃ i, k = i + 1 := ⟨k - 1, by omega⟩
      have ei : ((i + 1 : Nat) : Int) - 1 = (i : Nat) := by omega
      simp (disch := omega) only [go_sem, ↓reduceIte, Int.reduceToNat, Nat.reduceEqDiff, Nat.reduceAdd, Nat.reduceMul, Nat.reduceSub, Nat.reducePow, Nat.reduceLT, Nat.reduceLeDiff, Int.reduceNeg, Int.reduceEq, Int.reduceLT, Int.reduceLE, reduceCtorEq, h2, ei]
      refine draw_of rfl [⟨0, [], []⟩, ⟨1, [], []⟩, ⟨2, [], []⟩, ⟨3, [], []⟩, ⟨4, [3], []⟩, ⟨5, [3], []⟩, ⟨6, [3], []⟩, ⟨7, [3], []⟩, ⟨8, [], []⟩] (by kernel_rfl) ?_
      simp (disch := omega) only [go_sem, ↓reduceIte, Int.reduceToNat, Nat.reduceEqDiff, Nat.reduceAdd, Nat.reduceMul, Nat.reduceSub, Nat.reducePow, Nat.reduceLT, Nat.reduceLeDiff, Int.reduceNeg, Int.reduceEq, Int.reduceLT, Int.reduceLE, reduceCtorEq, ei]
      refine ⟨by omega, by omega, by omega, by omega, ?_⟩
      refine ifW_not (fun h3 => ?_) (fun h3 => ?_)
      · simp (disch := omega) only [go_sem, ↓reduceIte, Int.reduceToNat, Nat.reduceEqDiff, Nat.reduceAdd, Nat.reduceMul, Nat.reduceSub, Nat.reducePow, Nat.reduceLT, Nat.reduceLeDiff, Int.reduceNeg, Int.reduceEq, Int.reduceLT, Int.reduceLE, reduceCtorEq, h3]
        refine draw_of rfl [⟨0, [], []⟩, ⟨1, [], []⟩, ⟨2, [], []⟩, ⟨3, [], []⟩, ⟨4, [3], []⟩, ⟨5, [3], []⟩, ⟨6, [3], []⟩, ⟨7, [3], []⟩, ⟨8, [], []⟩, ⟨9, [], []⟩] (by kernel_rfl) ?_
        simp (disch := omega) only [go_sem, ↓reduceIte, Int.reduceToNat, Nat.reduceEqDiff, Nat.reduceAdd, Nat.reduceMul, Nat.reduceSub, Nat.reducePow, Nat.reduceLT, Nat.reduceLeDiff, Int.reduceNeg, Int.reduceEq, Int.reduceLT, Int.reduceLE, reduceCtorEq, ei]
        refine ⟨by omega, by omega, by omega, by omega, ?_⟩
        refine call_closed (con_cmp ((lim a).getD i 0) ((lim b).getD i 0)) (by simp (disch := omega) only [go_sem, ↓reduceIte, Int.reduceToNat, Nat.reduceEqDiff, Nat.reduceAdd, Nat.reduceMul, Nat.reduceSub, Nat.reducePow, Nat.reduceLT, Nat.reduceLeDiff, Int.reduceNeg, Int.reduceEq, Int.reduceLT, Int.reduceLE, reduceCtorEq]) ?_
        rintro r hs ⟨rfl, rfl, _⟩
        refine ⟨by simp [freeN], ?_⟩
        simp (disch := omega) only [go_sem, ↓reduceIte, Int.reduceToNat, Nat.reduceEqDiff, Nat.reduceAdd, Nat.reduceMul, Nat.reduceSub, Nat.reducePow, Nat.reduceLT, Nat.reduceLeDiff, Int.reduceNeg, Int.reduceEq, Int.reduceLT, Int.reduceLE, reduceCtorEq]
        have hva := vl_lim a
        have hvb := vl_lim b
        have : cmpI ((lim a).getD i 0) ((lim b).getD i 0) = cmpI a b := by
          unfold cmpI
          rcases (by omega : (lim a).getD i 0 < (lim b).getD i 0 ∨ (lim b).getD i 0 < (lim a).getD i 0) with h | h
          · have := vl_lt_of (gd_lim a) (gd_lim b) (by omega) hl hd h
            rw [if_pos (by omega), if_pos (by omega)]
          · have := vl_lt_of (gd_lim b) (gd_lim a) (by omega) hl.symm hd.symm h
            rw [if_neg (by omega), if_pos (by omega), if_neg (by omega), if_pos (by omega)]
        rw [this]
        exact fin_valc (by simp (disch := omega) only [go_sem, ↓reduceIte, Int.reduceToNat, Nat.reduceEqDiff, Nat.reduceAdd, Nat.reduceMul, Nat.reduceSub, Nat.reducePow, Nat.reduceLT, Nat.reduceLeDiff, Int.reduceNeg, Int.reduceEq, Int.reduceLT, Int.reduceLE, reduceCtorEq]) (by simp (disch := omega) only [go_sem, ↓reduceIte, Int.reduceToNat, Nat.reduceEqDiff, Nat.reduceAdd, Nat.reduceMul, Nat.reduceSub, Nat.reducePow, Nat.reduceLT, Nat.reduceLeDiff, Int.reduceNeg, Int.reduceEq, Int.reduceLT, Int.reduceLE, reduceCtorEq]) isA_mk
      · simp (disch := omega) only [go_sem, ↓reduceIte, Int.reduceToNat, Nat.reduceEqDiff, Nat.reduceAdd, Nat.reduceMul, Nat.reduceSub, Nat.reducePow, Nat.reduceLT, Nat.reduceLeDiff, Int.reduceNeg, Int.reduceEq, Int.reduceLT, Int.reduceLE, reduceCtorEq, h3]
        refine next_intro i [] ⟨by omega, ?_⟩ (by show i < i + 1; omega) rfl (by simp (disch := omega) only [go_sem, ↓reduceIte, Int.reduceToNat, Nat.reduceEqDiff, Nat.reduceAdd, Nat.reduceMul, Nat.reduceSub, Nat.reducePow, Nat.reduceLT, Nat.reduceLeDiff, Int.reduceNeg, Int.reduceEq, Int.reduceLT, Int.reduceLE, reduceCtorEq]; try omega) (by simp (disch := omega) only [go_sem, ↓reduceIte, Int.reduceToNat, Nat.reduceEqDiff, Nat.reduceAdd, Nat.reduceMul, Nat.reduceSub, Nat.reducePow, Nat.reduceLT, Nat.reduceLeDiff, Int.reduceNeg, Int.reduceEq, Int.reduceLT, Int.reduceLE, reduceCtorEq])
        rw [drop_getD (l := lim a) (by omega), drop_getD (l := lim b) (by omega), h3, hd]
    · simp (disch := omega) only [go_sem, ↓reduceIte, Int.reduceToNat, Nat.reduceEqDiff, Nat.reduceAdd, Nat.reduceMul, Nat.reduceSub, Nat.reducePow, Nat.reduceLT, Nat.reduceLeDiff, Int.reduceNeg, Int.reduceEq, Int.reduceLT, Int.reduceLE, reduceCtorEq, h2]
      have : k = 0 := by omega
      subst this
      rw [List.drop_zero, List.drop_zero] at hd
      have := lim_inj hd
      subst this
      rw [show cmpI (a : Int) (a : Int) = 0 by simp [cmpI]]
      exact fin_valc (by simp (disch := omega) only [go_sem, ↓reduceIte, Int.reduceToNat, Nat.reduceEqDiff, Nat.reduceAdd, Nat.reduceMul, Nat.reduceSub, Nat.reducePow, Nat.reduceLT, Nat.reduceLeDiff, Int.reduceNeg, Int.reduceEq, Int.reduceLT, Int.reduceLE, reduceCtorEq]) (by simp (disch := omega) only [go_sem, ↓reduceIte, Int.reduceToNat, Nat.reduceEqDiff, Nat.reduceAdd, Nat.reduceMul, Nat.reduceSub, Nat.reducePow, Nat.reduceLT, Nat.reduceLeDiff, Int.reduceNeg, Int.reduceEq, Int.reduceLT, Int.reduceLE, reduceCtorEq]) isA_mk
end Go.Ab
namespace Go.Proofs
open Go.Shelf
def Tryd.lays29_ren : Go.Shelf.Ren := ⟨fun | 29 => 108 | n => n, fun | 0 => 0 | 3 => 3 | 4 => 4 | 5 => 5 | 22 => 118 | 25 => 110 | 54 => 131 | n => n, fun | 1 => 1 | n => n⟩
theorem Tryd.lays29 : Go.Proofs.Lays7.n29 Tryd.prog Tryd.lays29_ren := {
  mixed := by kernel_rfl
  f29 := Tryd.func108.trans (congrArg some (by kernel_rfl))
  t0 := Tryd.underlying0
  a0 := Tryd.isAgg0
  z0 := Tryd.sizeOf0
  v0 := Tryd.zeroValue0
  i0 := by kernel_rfl
  t3 := Tryd.underlying3
  a3 := Tryd.isAgg3
  z3 := Tryd.sizeOf3
  v3 := Tryd.zeroValue3
  i3 := by kernel_rfl
  t4 := Tryd.underlying4
  a4 := Tryd.isAgg4
  z4 := Tryd.sizeOf4
  v4 := Tryd.zeroValue4
  i4 := by kernel_rfl
  t5 := Tryd.underlying5
  a5 := Tryd.isAgg5
  z5 := Tryd.sizeOf5
  v5 := Tryd.zeroValue5
  i5 := by kernel_rfl
  t22 := Tryd.underlying118
  a22 := Tryd.isAgg118
  z22 := Tryd.sizeOf118
  v22 := Tryd.zeroValue118
  i22 := by kernel_rfl
  t25 := Tryd.underlying110
  a25 := Tryd.isAgg110
  z25 := Tryd.sizeOf110
  v25 := Tryd.zeroValue110
  i25 := by kernel_rfl
  t54 := Tryd.underlying131
  a54 := Tryd.isAgg131
  z54 := Tryd.sizeOf131
  g1 := by kernel_rfl }
def Tryd.lays129_ren : Go.Shelf.Ren := ⟨fun | 129 => 100 | n => n, fun | 53 => 118 | 46 => 110 | 3 => 3 | 4 => 4 | 5 => 5 | 9 => 9 | n => n, fun | n => n⟩
theorem Tryd.lays129 : Go.Proofs.Lays.n129 Tryd.prog Tryd.lays129_ren := {
  mixed := by kernel_rfl
  f129 := Tryd.func100.trans (congrArg some (by kernel_rfl))
  t3 := Tryd.underlying3
  a3 := Tryd.isAgg3
  z3 := Tryd.sizeOf3
  v3 := Tryd.zeroValue3
  t4 := Tryd.underlying4
  a4 := Tryd.isAgg4
  z4 := Tryd.sizeOf4
  v4 := Tryd.zeroValue4
  t5 := Tryd.underlying5
  a5 := Tryd.isAgg5
  z5 := Tryd.sizeOf5
  v5 := Tryd.zeroValue5
  t9 := Tryd.underlying9
  a9 := Tryd.isAgg9
  z9 := Tryd.sizeOf9
  v9 := Tryd.zeroValue9
  t46 := Tryd.underlying110
  a46 := Tryd.isAgg110
  z46 := Tryd.sizeOf110
  v46 := Tryd.zeroValue110
  t53 := Tryd.underlying118
  a53 := Tryd.isAgg118
  z53 := Tryd.sizeOf118
  v53 := Tryd.zeroValue118 }
end Go.Proofs
namespace Go.Ab
open Go Go.Proofs
set_option linter.unusedVariables false
set_option linter.unusedSimpArgs false

theorem ctz_tz (x : Nat) (h0 : x ≠ 0) (h : x < 2 ^ 64) : Lib.ctz 64 x = tz x := by
  unfold Lib.ctz
  rw [if_neg h0]
  obtain ⟨m, hm, _⟩ := Lib.ctzFrom_spec 64 x (by omega) h
  exact (tz_uniq hm).symm

theorem bitLen_bl (x : Nat) (h : x < 2 ^ 64) : Lib.bitLen x = bl x := by
  induction x using Nat.strongRecOn with
  | _ x ih =>
    by_cases h0 : x = 0
    · subst h0; rfl
    · rw [Lib.bitLen_half x h0 h, ih (x / 2) (by omega) (by omega), bl_dbl h0, Nat.add_comm]

theorem con_tz64 (x : Nat) (h0 : x ≠ 0) (h : x < 2 ^ 64) : Con Tryd.prog 108 true [.v (.int .u64 x)] [] (isA (.v (.int .i64 (tz x)))) :=
  Con.scalar (xs := [.int .u64 x]) fun w hg => by
    rw [← ctz_tz x h0 h]
    exact Any7.bits_TrailingZeros64 Tryd.lays29 x h w fun _ j hj => (hg 1 Lib.deBruijn64tab rfl).2 j hj

theorem con_len64 (x : Nat) (h : x < 2 ^ 64) : Con Tryd.prog 100 true [.v (.int .u64 x)] [] (isA (.v (.int .i64 (bl x)))) :=
  Con.scalar (xs := [.int .u64 x]) fun w hg => by
    rw [← bitLen_bl x h]
    exact Any.bits_Len64 Tryd.lays129 x w (by omega) (by omega)

theorem con_tz (x : Nat) (h0 : x ≠ 0) (h : x < 2 ^ 64) : Con Tryd.prog 98 true [.v (.int .u64 x)] [] (isA (.v (.int .i64 (tz x)))) := by
  refine Con.of_aw Tryd.func98 rfl Tryd.ntmps98 (by simp) (by simp) (by simp) (W.sound ?_)
  show @W Tryd.prog 8 ⟨_⟩ ⟨fun x σ => @retW _ _ _ ⟨_⟩ _ ⟨_⟩ x σ⟩ _ _
  simp (disch := omega) only [go_sem, ↓reduceIte, Int.reduceToNat, Nat.reduceEqDiff, Nat.reduceAdd, Nat.reduceMul, Nat.reduceSub, Nat.reducePow, Nat.reduceLT, Nat.reduceLeDiff, Int.reduceNeg, Int.reduceEq, Int.reduceLT, Int.reduceLE, reduceCtorEq]
  refine call_closed (con_tz64 x h0 h) (by simp (disch := omega) only [go_sem, ↓reduceIte, Int.reduceToNat, Nat.reduceEqDiff, Nat.reduceAdd, Nat.reduceMul, Nat.reduceSub, Nat.reducePow, Nat.reduceLT, Nat.reduceLeDiff, Int.reduceNeg, Int.reduceEq, Int.reduceLT, Int.reduceLE, reduceCtorEq]) ?_
  rintro r hs ⟨rfl, rfl, _⟩
  refine ⟨by simp [freeN], ?_⟩
  simp (disch := omega) only [go_sem, ↓reduceIte, Int.reduceToNat, Nat.reduceEqDiff, Nat.reduceAdd, Nat.reduceMul, Nat.reduceSub, Nat.reducePow, Nat.reduceLT, Nat.reduceLeDiff, Int.reduceNeg, Int.reduceEq, Int.reduceLT, Int.reduceLE, reduceCtorEq]
  exact fin_valc (by simp (disch := omega) only [go_sem, ↓reduceIte, Int.reduceToNat, Nat.reduceEqDiff, Nat.reduceAdd, Nat.reduceMul, Nat.reduceSub, Nat.reducePow, Nat.reduceLT, Nat.reduceLeDiff, Int.reduceNeg, Int.reduceEq, Int.reduceLT, Int.reduceLE, reduceCtorEq]) (by simp (disch := omega) only [go_sem, ↓reduceIte, Int.reduceToNat, Nat.reduceEqDiff, Nat.reduceAdd, Nat.reduceMul, Nat.reduceSub, Nat.reducePow, Nat.reduceLT, Nat.reduceLeDiff, Int.reduceNeg, Int.reduceEq, Int.reduceLT, Int.reduceLE, reduceCtorEq]) isA_mk

theorem con_len (x : Nat) (h : x < 2 ^ 64) : Con Tryd.prog 93 true [.v (.int .u64 x)] [] (isA (.v (.int .i64 (bl x)))) := by
  refine Con.of_aw Tryd.func93 rfl Tryd.ntmps93 (by simp) (by simp) (by simp) (W.sound ?_)
  show @W Tryd.prog 8 ⟨_⟩ ⟨fun x σ => @retW _ _ _ ⟨_⟩ _ ⟨_⟩ x σ⟩ _ _
  simp (disch := omega) only [go_sem, ↓reduceIte, Int.reduceToNat, Nat.reduceEqDiff, Nat.reduceAdd, Nat.reduceMul, Nat.reduceSub, Nat.reducePow, Nat.reduceLT, Nat.reduceLeDiff, Int.reduceNeg, Int.reduceEq, Int.reduceLT, Int.reduceLE, reduceCtorEq]
  refine call_closed (con_len64 x h) (by simp (disch := omega) only [go_sem, ↓reduceIte, Int.reduceToNat, Nat.reduceEqDiff, Nat.reduceAdd, Nat.reduceMul, Nat.reduceSub, Nat.reducePow, Nat.reduceLT, Nat.reduceLeDiff, Int.reduceNeg, Int.reduceEq, Int.reduceLT, Int.reduceLE, reduceCtorEq]) ?_
  rintro r hs ⟨rfl, rfl, _⟩
  refine ⟨by simp [freeN], ?_⟩
  simp (disch := omega) only [go_sem, ↓reduceIte, Int.reduceToNat, Nat.reduceEqDiff, Nat.reduceAdd, Nat.reduceMul, Nat.reduceSub, Nat.reducePow, Nat.reduceLT, Nat.reduceLeDiff, Int.reduceNeg, Int.reduceEq, Int.reduceLT, Int.reduceLE, reduceCtorEq]
  exact fin_valc (by simp (disch := omega) only [go_sem, ↓reduceIte, Int.reduceToNat, Nat.reduceEqDiff, Nat.reduceAdd, Nat.reduceMul, Nat.reduceSub, Nat.reducePow, Nat.reduceLT, Nat.reduceLeDiff, Int.reduceNeg, Int.reduceEq, Int.reduceLT, Int.reduceLE, reduceCtorEq]) (by simp (disch := omega) only [go_sem, ↓reduceIte, Int.reduceToNat, Nat.reduceEqDiff, Nat.reduceAdd, Nat.reduceMul, Nat.reduceSub, Nat.reducePow, Nat.reduceLT, Nat.reduceLeDiff, Int.reduceNeg, Int.reduceEq, Int.reduceLT, Int.reduceLE, reduceCtorEq]) isA_mk

theorem wrap_u {x : Int} (h1 : 0 ≤ x) (h2 : x < 9223372036854775808) : IntKind.u64.wrap x = x := by
  simp only [IntKind.wrap, IntKind.signed, IntKind.bits]
  simp only [Bool.false_and, Bool.false_eq_true, if_false]
  omega

theorem con_bitsOf (m : Nat) (hl : (lim m).length ≤ 2 ^ 40) : Con Tryd.prog 80 true [.sl (lim (m)).length (ints (lim (m)))] [] (isA (.v (.int .i64 (bl m)))) := by
  refine Con.of_aw Tryd.func80 rfl Tryd.ntmps80 (by simp) (by simp) (by simp) (W.sound ?_)
  show @W Tryd.prog 19 ⟨_⟩ ⟨fun x σ => @retW _ _ _ ⟨_⟩ _ ⟨_⟩ x σ⟩ _ _
  simp (disch := omega) only [go_sem, ↓reduceIte, Int.reduceToNat, Nat.reduceEqDiff, Nat.reduceAdd, Nat.reduceMul, Nat.reduceSub, Nat.reducePow, Nat.reduceLT, Nat.reduceLeDiff, Int.reduceNeg, Int.reduceEq, Int.reduceLT, Int.reduceLE, reduceCtorEq]
  refine ifW_dec (fun h1 => ?_) (fun h1 => ?_)
  · simp (disch := omega) only [go_sem, ↓reduceIte, Int.reduceToNat, Nat.reduceEqDiff, Nat.reduceAdd, Nat.reduceMul, Nat.reduceSub, Nat.reducePow, Nat.reduceLT, Nat.reduceLeDiff, Int.reduceNeg, Int.reduceEq, Int.reduceLT, Int.reduceLE, reduceCtorEq, h1]
    have : m = 0 := lim_eq_nil.1 (List.length_eq_zero_iff.1 (by omega))
    subst this
    rw [bl_zero]
    exact fin_valc (by simp (disch := omega) only [go_sem, ↓reduceIte, Int.reduceToNat, Nat.reduceEqDiff, Nat.reduceAdd, Nat.reduceMul, Nat.reduceSub, Nat.reducePow, Nat.reduceLT, Nat.reduceLeDiff, Int.reduceNeg, Int.reduceEq, Int.reduceLT, Int.reduceLE, reduceCtorEq]) (by simp (disch := omega) only [go_sem, ↓reduceIte, Int.reduceToNat, Nat.reduceEqDiff, Nat.reduceAdd, Nat.reduceMul, Nat.reduceSub, Nat.reducePow, Nat.reduceLT, Nat.reduceLeDiff, Int.reduceNeg, Int.reduceEq, Int.reduceLT, Int.reduceLE, reduceCtorEq]) isA_mk
  · have hm : m ≠ 0 := fun e => by rw [e, lim_zero] at h1; simp at h1
    have e1 : ((lim m).length : Int).toNat - 1 = (lim m).length - 1 := by omega
    have e2 : (((lim m).length : Int) - 1).toNat = (lim m).length - 1 := by omega
    have ht := len_top hm
    have hb := bl_lim hm
    simp (disch := omega) only [go_sem, ↓reduceIte, Int.reduceToNat, Nat.reduceEqDiff, Nat.reduceAdd, Nat.reduceMul, Nat.reduceSub, Nat.reducePow, Nat.reduceLT, Nat.reduceLeDiff, Int.reduceNeg, Int.reduceEq, Int.reduceLT, Int.reduceLE, reduceCtorEq, h1, e2, lim_get]
    generalize m / 65536 ^ ((lim m).length - 1) = q at *
    have e3 : ((q % 65536 : Nat) : Int) = (q : Int) := by omega
    simp (disch := omega) only [go_sem, ↓reduceIte, Int.reduceToNat, Nat.reduceEqDiff, Nat.reduceAdd, Nat.reduceMul, Nat.reduceSub, Nat.reducePow, Nat.reduceLT, Nat.reduceLeDiff, Int.reduceNeg, Int.reduceEq, Int.reduceLT, Int.reduceLE, reduceCtorEq, e3, wrap_u]
    refine ⟨by omega, by omega, ?_⟩
    refine call_closed (con_len q (by omega)) (by simp (disch := omega) only [go_sem, ↓reduceIte, Int.reduceToNat, Nat.reduceEqDiff, Nat.reduceAdd, Nat.reduceMul, Nat.reduceSub, Nat.reducePow, Nat.reduceLT, Nat.reduceLeDiff, Int.reduceNeg, Int.reduceEq, Int.reduceLT, Int.reduceLE, reduceCtorEq]) ?_
    rintro r hs ⟨rfl, rfl, _⟩
    refine ⟨by simp [freeN], ?_⟩
    simp (disch := omega) only [go_sem, ↓reduceIte, Int.reduceToNat, Nat.reduceEqDiff, Nat.reduceAdd, Nat.reduceMul, Nat.reduceSub, Nat.reducePow, Nat.reduceLT, Nat.reduceLeDiff, Int.reduceNeg, Int.reduceEq, Int.reduceLT, Int.reduceLE, reduceCtorEq]
    have hq : bl q ≤ 16 := bl_le.2 (by omega)
    have e4 : (16 : Int) * (((lim m).length : Int) - 1) + (bl q : Int) = (bl m : Int) := by omega
    simp (disch := omega) only [go_sem, ↓reduceIte, Int.reduceToNat, Nat.reduceEqDiff, Nat.reduceAdd, Nat.reduceMul, Nat.reduceSub, Nat.reducePow, Nat.reduceLT, Nat.reduceLeDiff, Int.reduceNeg, Int.reduceEq, Int.reduceLT, Int.reduceLE, reduceCtorEq, e4]
    exact fin_valc (by simp (disch := omega) only [go_sem, ↓reduceIte, Int.reduceToNat, Nat.reduceEqDiff, Nat.reduceAdd, Nat.reduceMul, Nat.reduceSub, Nat.reducePow, Nat.reduceLT, Nat.reduceLeDiff, Int.reduceNeg, Int.reduceEq, Int.reduceLT, Int.reduceLE, reduceCtorEq]) (by simp (disch := omega) only [go_sem, ↓reduceIte, Int.reduceToNat, Nat.reduceEqDiff, Nat.reduceAdd, Nat.reduceMul, Nat.reduceSub, Nat.reducePow, Nat.reduceLT, Nat.reduceLeDiff, Int.reduceNeg, Int.reduceEq, Int.reduceLT, Int.reduceLE, reduceCtorEq]) isA_mk

theorem tz_limb {m i : Nat} (hz : ∀ j, j < i → (lim m).getD j 0 = 0) (hx : (lim m).getD i 0 ≠ 0) : tz m = 16 * i + tz (m / 65536 ^ i % 65536) := by
  rw [lim_get] at hx
  have hx' : m / 65536 ^ i % 65536 ≠ 0 := fun e => hx (by rw [e]; rfl)
  obtain ⟨a, ha⟩ := tz_spec hx'
  have hlow : 65536 ^ i * (m / 65536 ^ i) = m := by
    have key : ∀ k, k ≤ i → m % 65536 ^ k = 0 := by
      intro k
      induction k with
      | zero => intro _; simp [Nat.mod_one]
      | succ k ih =>
        intro hk
        have h1 := ih (by omega)
        have h2 := hz k (by omega)
        rw [lim_get] at h2
        have h3 : m / 65536 ^ k % 65536 = 0 := by omega
        rw [Nat.pow_succ, Nat.mod_mul, h1, h3]; omega
    have := Nat.div_add_mod m (65536 ^ i)
    rw [key i (Nat.le_refl _)] at this
    omega
  generalize hq : m / 65536 ^ i = q at *
  have ht : tz (q % 65536) < 16 := by
    have h1 := tz_lt_bl hx'
    have : bl (q % 65536) ≤ 16 := bl_le.2 (by omega)
    omega
  generalize hk : tz (q % 65536) = k at *
  have e16 : (65536 : Nat) = 2 ^ k * (2 * 2 ^ (15 - k)) := by rw [Nat.mul_left_comm, ← Nat.pow_add, show k + (15 - k) = 15 by omega]
  refine tz_uniq (a := a + 2 ^ (15 - k) * (q / 65536)) ?_
  have hd := Nat.div_add_mod q 65536
  rw [← hlow, Nat.pow_add, ← pow16]
  have h5 : q = 2 ^ k * (2 * (a + 2 ^ (15 - k) * (q / 65536)) + 1) := by
    have : q = 2 ^ k * (2 * 2 ^ (15 - k)) * (q / 65536) + 2 ^ k * (2 * a + 1) := by rw [← e16, ← ha]; omega
    generalize q / 65536 = y at *
    generalize 2 ^ (15 - k) = z at *
    grind
  generalize q / 65536 = y at *
  rw [Nat.mul_assoc, ← h5]

theorem con_trailOf (m : Nat) (hl : (lim m).length ≤ 2 ^ 40) : Con Tryd.prog 91 true [.sl (lim (m)).length (ints (lim (m)))] [] (isA (.v (.int .i64 (tz m)))) := by
  refine Con.of_aw Tryd.func91 rfl Tryd.ntmps91 (by simp) (by simp) (by simp) (W.sound ?_)
  show @W Tryd.prog 21 ⟨_⟩ ⟨fun x σ => @retW _ _ _ ⟨_⟩ _ ⟨_⟩ x σ⟩ _ _
  simp (disch := omega) only [go_sem, ↓reduceIte, Int.reduceToNat, Nat.reduceEqDiff, Nat.reduceAdd, Nat.reduceMul, Nat.reduceSub, Nat.reducePow, Nat.reduceLT, Nat.reduceLeDiff, Int.reduceNeg, Int.reduceEq, Int.reduceLT, Int.reduceLE, reduceCtorEq]
  refine loop_intro (fun i : Nat => [(0, .sl (lim (m)).length (ints (lim (m)))), (5, .sl (lim (m)).length (ints (lim (m)))), (6, .v (.int .i64 (lim m).length)), (7, .v (.int .i64 i))])
    (fun _ => []) (fun i => i ≤ (lim m).length ∧ ∀ j, j < i → (lim m).getD j 0 = 0) (fun i => (lim m).length - i) 0 ⟨by omega, fun j hj => by omega⟩ (Le.lst [] _ _ rfl (by simp (disch := omega) only [go_sem, ↓reduceIte, Int.reduceToNat, Nat.reduceEqDiff, Nat.reduceAdd, Nat.reduceMul, Nat.reduceSub, Nat.reducePow, Nat.reduceLT, Nat.reduceLeDiff, Int.reduceNeg, Int.reduceEq, Int.reduceLT, Int.reduceLE, reduceCtorEq]; try omega) (by simp (disch := omega) only [go_sem, ↓reduceIte, Int.reduceToNat, Nat.reduceEqDiff, Nat.reduceAdd, Nat.reduceMul, Nat.reduceSub, Nat.reducePow, Nat.reduceLT, Nat.reduceLeDiff, Int.reduceNeg, Int.reduceEq, Int.reduceLT, Int.reduceLE, reduceCtorEq])) ?_
  rintro i ⟨hi, hz⟩
  simp (disch := omega) only [go_sem, ↓reduceIte, Int.reduceToNat, Nat.reduceEqDiff, Nat.reduceAdd, Nat.reduceMul, Nat.reduceSub, Nat.reducePow, Nat.reduceLT, Nat.reduceLeDiff, Int.reduceNeg, Int.reduceEq, Int.reduceLT, Int.reduceLE, reduceCtorEq]
  refine ifW_dec (fun h1 => ?_) (fun h1 => ?_)
  · simp (disch := omega) only [go_sem, ↓reduceIte, Int.reduceToNat, Nat.reduceEqDiff, Nat.reduceAdd, Nat.reduceMul, Nat.reduceSub, Nat.reducePow, Nat.reduceLT, Nat.reduceLeDiff, Int.reduceNeg, Int.reduceEq, Int.reduceLT, Int.reduceLE, reduceCtorEq, h1]
    refine ⟨by omega, by omega, ifW_not (fun h2 => ?_) (fun h2 => ?_)⟩
    · have ht := tz_limb hz h2
      have hx : m / 65536 ^ i % 65536 ≠ 0 := fun e => h2 (by rw [lim_get, e]; rfl)
      have ht16 : tz (m / 65536 ^ i % 65536) < 16 := by
        have h1 := tz_lt_bl hx
        have : bl (m / 65536 ^ i % 65536) ≤ 16 := bl_le.2 (by omega)
        omega
      simp (disch := omega) only [go_sem, ↓reduceIte, Int.reduceToNat, Nat.reduceEqDiff, Nat.reduceAdd, Nat.reduceMul, Nat.reduceSub, Nat.reducePow, Nat.reduceLT, Nat.reduceLeDiff, Int.reduceNeg, Int.reduceEq, Int.reduceLT, Int.reduceLE, reduceCtorEq, h2, lim_get]
      generalize hq : m / 65536 ^ i % 65536 = q at *
      have hq6 : q < 65536 := by omega
      simp (disch := omega) only [go_sem, ↓reduceIte, Int.reduceToNat, Nat.reduceEqDiff, Nat.reduceAdd, Nat.reduceMul, Nat.reduceSub, Nat.reducePow, Nat.reduceLT, Nat.reduceLeDiff, Int.reduceNeg, Int.reduceEq, Int.reduceLT, Int.reduceLE, reduceCtorEq, wrap_u]
      refine call_closed (con_tz q hx (by omega)) (by simp (disch := omega) only [go_sem, ↓reduceIte, Int.reduceToNat, Nat.reduceEqDiff, Nat.reduceAdd, Nat.reduceMul, Nat.reduceSub, Nat.reducePow, Nat.reduceLT, Nat.reduceLeDiff, Int.reduceNeg, Int.reduceEq, Int.reduceLT, Int.reduceLE, reduceCtorEq]) ?_
      rintro r hs ⟨rfl, rfl, _⟩
      refine ⟨by simp [freeN], ?_⟩
      simp (disch := omega) only [go_sem, ↓reduceIte, Int.reduceToNat, Nat.reduceEqDiff, Nat.reduceAdd, Nat.reduceMul, Nat.reduceSub, Nat.reducePow, Nat.reduceLT, Nat.reduceLeDiff, Int.reduceNeg, Int.reduceEq, Int.reduceLT, Int.reduceLE, reduceCtorEq]
      have e4 : (16 : Int) * (i : Int) + (tz q : Int) = (tz m : Int) := by omega
      simp (disch := omega) only [go_sem, ↓reduceIte, Int.reduceToNat, Nat.reduceEqDiff, Nat.reduceAdd, Nat.reduceMul, Nat.reduceSub, Nat.reducePow, Nat.reduceLT, Nat.reduceLeDiff, Int.reduceNeg, Int.reduceEq, Int.reduceLT, Int.reduceLE, reduceCtorEq, e4]
      exact fin_valc (by simp (disch := omega) only [go_sem, ↓reduceIte, Int.reduceToNat, Nat.reduceEqDiff, Nat.reduceAdd, Nat.reduceMul, Nat.reduceSub, Nat.reducePow, Nat.reduceLT, Nat.reduceLeDiff, Int.reduceNeg, Int.reduceEq, Int.reduceLT, Int.reduceLE, reduceCtorEq]) (by simp (disch := omega) only [go_sem, ↓reduceIte, Int.reduceToNat, Nat.reduceEqDiff, Nat.reduceAdd, Nat.reduceMul, Nat.reduceSub, Nat.reducePow, Nat.reduceLT, Nat.reduceLeDiff, Int.reduceNeg, Int.reduceEq, Int.reduceLT, Int.reduceLE, reduceCtorEq]) isA_mk
    · simp (disch := omega) only [go_sem, ↓reduceIte, Int.reduceToNat, Nat.reduceEqDiff, Nat.reduceAdd, Nat.reduceMul, Nat.reduceSub, Nat.reducePow, Nat.reduceLT, Nat.reduceLeDiff, Int.reduceNeg, Int.reduceEq, Int.reduceLT, Int.reduceLE, reduceCtorEq, h2]
      refine next_intro (i + 1) [] ⟨by omega, fun j hj => ?_⟩ (by show (lim m).length - (i + 1) < (lim m).length - i; omega) rfl (by simp (disch := omega) only [go_sem, ↓reduceIte, Int.reduceToNat, Nat.reduceEqDiff, Nat.reduceAdd, Nat.reduceMul, Nat.reduceSub, Nat.reducePow, Nat.reduceLT, Nat.reduceLeDiff, Int.reduceNeg, Int.reduceEq, Int.reduceLT, Int.reduceLE, reduceCtorEq]; try omega) (by simp (disch := omega) only [go_sem, ↓reduceIte, Int.reduceToNat, Nat.reduceEqDiff, Nat.reduceAdd, Nat.reduceMul, Nat.reduceSub, Nat.reducePow, Nat.reduceLT, Nat.reduceLeDiff, Int.reduceNeg, Int.reduceEq, Int.reduceLT, Int.reduceLE, reduceCtorEq])
      rcases (by omega : j < i ∨ j = i) with h | h
      · exact hz j h
      · subst h; exact h2
  · simp (disch := omega) only [go_sem, ↓reduceIte, Int.reduceToNat, Nat.reduceEqDiff, Nat.reduceAdd, Nat.reduceMul, Nat.reduceSub, Nat.reducePow, Nat.reduceLT, Nat.reduceLeDiff, Int.reduceNeg, Int.reduceEq, Int.reduceLT, Int.reduceLE, reduceCtorEq, h1]
    have hm : m = 0 := by
      have := vl_lim m
      have h3 : lim m = List.replicate (lim m).length 0 := by
        apply List.ext_getElem
        · simp
        · intro j h1 h2
          have := hz j (by omega)
          rw [List.getD_eq_getElem?_getD, List.getElem?_eq_getElem h1] at this
          simpa using this
      rw [h3, vl_replicate] at this
      omega
    subst hm
    rw [tz_zero]
    exact fin_valc (by simp (disch := omega) only [go_sem, ↓reduceIte, Int.reduceToNat, Nat.reduceEqDiff, Nat.reduceAdd, Nat.reduceMul, Nat.reduceSub, Nat.reducePow, Nat.reduceLT, Nat.reduceLeDiff, Int.reduceNeg, Int.reduceEq, Int.reduceLT, Int.reduceLE, reduceCtorEq]) (by simp (disch := omega) only [go_sem, ↓reduceIte, Int.reduceToNat, Nat.reduceEqDiff, Nat.reduceAdd, Nat.reduceMul, Nat.reduceSub, Nat.reducePow, Nat.reduceLT, Nat.reduceLeDiff, Int.reduceNeg, Int.reduceEq, Int.reduceLT, Int.reduceLE, reduceCtorEq]) isA_mk

theorem con_bitOf (m : Nat) (i : Int) (hl : (lim m).length ≤ 2 ^ 40) (hi : 0 ≤ i) (hi2 : i < 2 ^ 62) : Con Tryd.prog 70 true [.sl (lim (m)).length (ints (lim (m))), .v (.int .i64 i)] [] (isA (.v (.int .i64 ((m / 2 ^ i.toNat % 2 : Nat) : Int)))) := by
  refine Con.of_aw Tryd.func70 rfl Tryd.ntmps70 (by simp) (by simp) (by simp) (W.sound ?_)
  show @W Tryd.prog 23 ⟨_⟩ ⟨fun x σ => @retW _ _ _ ⟨_⟩ _ ⟨_⟩ x σ⟩ _ _
  obtain ⟨k, rfl⟩ := Int.eq_ofNat_of_zero_le hi
  rw [Int.toNat_natCast]
  have h0 : ¬ ((k : Int) < 0) := by omega
  have e16 : ((k : Int) / 16).toNat = k / 16 := by omega
  have em : min ((k : Int) % 16).toNat 64 = k % 16 := by omega
  have hb := bit_div m k
  simp (disch := omega) only [go_sem, ↓reduceIte, Int.reduceToNat, Nat.reduceEqDiff, Nat.reduceAdd, Nat.reduceMul, Nat.reduceSub, Nat.reducePow, Nat.reduceLT, Nat.reduceLeDiff, Int.reduceNeg, Int.reduceEq, Int.reduceLT, Int.reduceLE, reduceCtorEq, h0]
  refine ifW_dec (fun h1 => ?_) (fun h1 => ?_)
  · simp (disch := omega) only [go_sem, ↓reduceIte, Int.reduceToNat, Nat.reduceEqDiff, Nat.reduceAdd, Nat.reduceMul, Nat.reduceSub, Nat.reducePow, Nat.reduceLT, Nat.reduceLeDiff, Int.reduceNeg, Int.reduceEq, Int.reduceLT, Int.reduceLE, reduceCtorEq, h1]
    have : m / 2 ^ k % 2 = 0 := by
      rw [← hb]
      have h2 := lim_get m (k / 16)
      rw [List.getD_eq_getElem?_getD, List.getElem?_eq_none (by omega)] at h2
      have h3 : m / 65536 ^ (k / 16) % 65536 = 0 := by simp only [Option.getD_none] at h2; omega
      rw [h3]; simp
    rw [this]
    exact fin_valc (by simp (disch := omega) only [go_sem, ↓reduceIte, Int.reduceToNat, Nat.reduceEqDiff, Nat.reduceAdd, Nat.reduceMul, Nat.reduceSub, Nat.reducePow, Nat.reduceLT, Nat.reduceLeDiff, Int.reduceNeg, Int.reduceEq, Int.reduceLT, Int.reduceLE, reduceCtorEq]) (by simp (disch := omega) only [go_sem, ↓reduceIte, Int.reduceToNat, Nat.reduceEqDiff, Nat.reduceAdd, Nat.reduceMul, Nat.reduceSub, Nat.reducePow, Nat.reduceLT, Nat.reduceLeDiff, Int.reduceNeg, Int.reduceEq, Int.reduceLT, Int.reduceLE, reduceCtorEq]) isA_mk
  · have hx := gd_getD (gd_lim m) (k / 16)
    have hp : (0 : Int) < 2 ^ (k % 16) := Int.pow_pos (by omega)
    have efd : ∀ x : Int, x.fdiv (2 ^ (k % 16)) = x / 2 ^ (k % 16) := fun x => Int.fdiv_eq_ediv_of_nonneg _ (Int.le_of_lt hp)
    have hq : 0 ≤ (lim m).getD (k / 16) 0 / 2 ^ (k % 16) ∧ (lim m).getD (k / 16) 0 / 2 ^ (k % 16) < 65536 := by
      refine ⟨Int.ediv_nonneg hx.1 (Int.le_of_lt hp), Int.lt_of_le_of_lt (Int.ediv_le_self _ hx.1) hx.2⟩
    have hr : (lim m).getD (k / 16) 0 / 2 ^ (k % 16) % 2 = ((m / 2 ^ k % 2 : Nat) : Int) := by
      rw [← hb, lim_get]
      generalize m / 65536 ^ (k / 16) % 65536 = x
      rw [Int.natCast_emod, Int.natCast_ediv, Int.natCast_pow]; rfl
    simp (disch := omega) only [go_sem, ↓reduceIte, Int.reduceToNat, Nat.reduceEqDiff, Nat.reduceAdd, Nat.reduceMul, Nat.reduceSub, Nat.reducePow, Nat.reduceLT, Nat.reduceLeDiff, Int.reduceNeg, Int.reduceEq, Int.reduceLT, Int.reduceLE, reduceCtorEq, h1, e16, em, efd, hr]
    refine ⟨by omega, by omega, by omega, ?_⟩
    exact fin_valc (by simp (disch := omega) only [go_sem, ↓reduceIte, Int.reduceToNat, Nat.reduceEqDiff, Nat.reduceAdd, Nat.reduceMul, Nat.reduceSub, Nat.reducePow, Nat.reduceLT, Nat.reduceLeDiff, Int.reduceNeg, Int.reduceEq, Int.reduceLT, Int.reduceLE, reduceCtorEq]) (by simp (disch := omega) only [go_sem, ↓reduceIte, Int.reduceToNat, Nat.reduceEqDiff, Nat.reduceAdd, Nat.reduceMul, Nat.reduceSub, Nat.reducePow, Nat.reduceLT, Nat.reduceLeDiff, Int.reduceNeg, Int.reduceEq, Int.reduceLT, Int.reduceLE, reduceCtorEq]) isA_mk
end Go.Ab
namespace Go.Ab
open Go Go.Proofs
set_option linter.unusedVariables false

theorem toN_mul_pow (a k : Nat) : (vl (lim a) * 2 ^ k).toNat = a * 2 ^ k := by
  rw [vl_lim]
  have : ((a : Int) * 2 ^ k) = ((a * 2 ^ k : Nat) : Int) := by rw [Int.natCast_mul, Int.natCast_pow]; rfl
  rw [this, Int.toNat_natCast]
theorem toN_div_pow (a k : Nat) : (vl (lim a) / 2 ^ k).toNat = a / 2 ^ k := by
  rw [vl_lim]
  have : ((a : Int) / 2 ^ k) = ((a / 2 ^ k : Nat) : Int) := by rw [Int.natCast_ediv, Int.natCast_pow]; rfl
  rw [this, Int.toNat_natCast]
theorem toN_mul (a b : Nat) : (vl (lim a) * vl (lim b)).toNat = a * b := by rw [vl_lim, vl_lim, ← Int.natCast_mul, Int.toNat_natCast]
theorem toN_add (a b : Nat) : (vl (lim a) + vl (lim b)).toNat = a + b := by rw [vl_lim, vl_lim]; omega
theorem toN_sub (a b : Nat) : (vl (lim a) - vl (lim b)).toNat = a - b := by rw [vl_lim, vl_lim]; omega

theorem con_smallN (n : Nat) (hn : n < 2 ^ 63) : Con Tryd.prog 49 false [.v (.int .i64 n)] [] (numF (lim n)) := (con_small false n hn).num
theorem con_upR (cl : Bool) (a k : Nat) (la : (lim a).length ≤ 1000000) (hk : k ≤ 100000000) : Con Tryd.prog 48 cl [.sl (lim (a)).length (ints (lim (a))), .v (.int .i64 k)] [] (numR (lim (a * 2 ^ k))) := by
  have := con_up cl (lim a) k (gd_lim a) la hk
  rwa [toN_mul_pow] at this
theorem con_upN (a k : Nat) (la : (lim a).length ≤ 1000000) (hk : k ≤ 100000000) : Con Tryd.prog 48 false [.sl (lim (a)).length (ints (lim (a))), .v (.int .i64 k)] [] (numF (lim (a * 2 ^ k))) := (con_upR false a k la hk).num
theorem con_downR (cl : Bool) (a k : Nat) (la : (lim a).length ≤ 1000000) (hk : k ≤ 100000000) : Con Tryd.prog 92 cl [.sl (lim (a)).length (ints (lim (a))), .v (.int .i64 k)] [] (numR (lim (a / 2 ^ k))) := by
  have := con_down cl (lim a) k (gd_lim a) la hk
  rwa [toN_div_pow] at this
theorem con_downN (a k : Nat) (la : (lim a).length ≤ 1000000) (hk : k ≤ 100000000) : Con Tryd.prog 92 false [.sl (lim (a)).length (ints (lim (a))), .v (.int .i64 k)] [] (numF (lim (a / 2 ^ k))) := (con_downR false a k la hk).num
theorem con_timesN (a b : Nat) (la : (lim a).length ≤ 1000000) (lb : (lim b).length ≤ 1000000) : Con Tryd.prog 85 false [.sl (lim (a)).length (ints (lim (a))), .sl (lim (b)).length (ints (lim (b)))] [] (numF (lim (a * b))) := by
  have := (con_times false (lim a) (lim b) (gd_lim a) (gd_lim b) la lb).num
  rwa [toN_mul] at this
theorem con_plusN (a b : Nat) (la : (lim a).length ≤ 2000000) (lb : (lim b).length ≤ 2000000) : Con Tryd.prog 104 false [.sl (lim (a)).length (ints (lim (a))), .sl (lim (b)).length (ints (lim (b)))] [] (numF (lim (a + b))) := by
  have := (con_plus false (lim a) (lim b) (gd_lim a) (gd_lim b) la lb).num
  rwa [toN_add] at this

theorem con_divsF (a d : Nat) (la : (lim a).length ≤ 1000000) (hd : 0 < d) (hd2 : d < 65536) :
    Con Tryd.prog 110 false [.sl (lim (a)).length (ints (lim (a))), .v (.int .i64 d)] [] (isA (.tu [.sl (lim (a / d)).length (ints (lim (a / d))), .v (.int .i64 ((a % d : Nat) : Int))])) :=
  Con.frzA <| (con_divs false (lim a) d (gd_lim a) la hd hd2).mono fun r hs bs ⟨zs, h1, h2⟩ => by
    rw [vl_lim] at h1 h2
    rw [h1, h2]
    have e : ((a : Int) / (d : Int)).toNat = a / d := by
      rw [← Int.natCast_ediv, Int.toNat_natCast]
    rw [e]
    show snap _ 6 _ = _
    unfold snap
    simp only [List.map_cons, List.map_nil]
    rw [snap_num (k := 3) (l := lim (a / d)) (zs := zs) rhp_zero rfl]
    rw [Int.natCast_emod]; rfl
end Go.Ab
namespace Go.Ab
open Go Go.Proofs
set_option linter.unusedVariables false
set_option linter.unusedSimpArgs false

set_option maxRecDepth 100000 in
theorem con_divide (a b : Nat) (hb : b ≠ 0) (la : (lim a).length ≤ 900000) (lb : (lim b).length ≤ 900000) :
    Con Tryd.prog 101 false [.sl (lim (a)).length (ints (lim (a))), .sl (lim (b)).length (ints (lim (b)))] [] (frzR (.tu [.sl (lim (a / b)).length (ints (lim (a / b))), .sl (lim (a % b)).length (ints (lim (a % b)))])) := by
  refine Con.of_aw Tryd.func101 rfl Tryd.ntmps101 (by simp) (by simp) (by simp) (W.sound ?_)
  show @W Tryd.prog 96 ⟨_⟩ ⟨fun x σ => @retW _ _ _ ⟨_⟩ _ ⟨_⟩ x σ⟩ _ _
  simp (disch := omega) only [go_sem, ↓reduceIte, Int.reduceToNat, Nat.reduceEqDiff, Nat.reduceAdd, Nat.reduceMul, Nat.reduceSub, Nat.reducePow, Nat.reduceLT, Nat.reduceLeDiff, Int.reduceNeg, Int.reduceEq, Int.reduceLT, Int.reduceLE, reduceCtorEq]
  refine call_closed (con_compare a b (by omega) (by omega)) (by simp (disch := omega) only [go_sem, ↓reduceIte, Int.reduceToNat, Nat.reduceEqDiff, Nat.reduceAdd, Nat.reduceMul, Nat.reduceSub, Nat.reducePow, Nat.reduceLT, Nat.reduceLeDiff, Int.reduceNeg, Int.reduceEq, Int.reduceLT, Int.reduceLE, reduceCtorEq]) ?_
  rintro r hs ⟨rfl, rfl, _⟩
  refine ⟨by simp [freeN], ?_⟩
  simp (disch := omega) only [go_sem, ↓reduceIte, Int.reduceToNat, Nat.reduceEqDiff, Nat.reduceAdd, Nat.reduceMul, Nat.reduceSub, Nat.reducePow, Nat.reduceLT, Nat.reduceLeDiff, Int.reduceNeg, Int.reduceEq, Int.reduceLT, Int.reduceLE, reduceCtorEq]
  refine ifW_dec (fun h1 => ?_) (fun h1 => ?_)
  · simp (disch := omega) only [go_sem, ↓reduceIte, Int.reduceToNat, Nat.reduceEqDiff, Nat.reduceAdd, Nat.reduceMul, Nat.reduceSub, Nat.reducePow, Nat.reduceLT, Nat.reduceLeDiff, Int.reduceNeg, Int.reduceEq, Int.reduceLT, Int.reduceLE, reduceCtorEq, h1]
    have hab : a < b := by
      unfold cmpI at h1; split at h1
      · omega
      · split at h1 <;> omega
    refine call_open (con_clone false (lim a) (by omega)).num (by simp (disch := omega) only [go_sem, ↓reduceIte, Int.reduceToNat, Nat.reduceEqDiff, Nat.reduceAdd, Nat.reduceMul, Nat.reduceSub, Nat.reducePow, Nat.reduceLT, Nat.reduceLeDiff, Int.reduceNeg, Int.reduceEq, Int.reduceLT, Int.reduceLE, reduceCtorEq]) ?_
    rintro r hs ⟨rfl, rfl, _⟩
    refine ⟨by simp [freeN], ?_⟩
    simp (disch := omega) only [go_sem, ↓reduceIte, Int.reduceToNat, Nat.reduceEqDiff, Nat.reduceAdd, Nat.reduceMul, Nat.reduceSub, Nat.reducePow, Nat.reduceLT, Nat.reduceLeDiff, Int.reduceNeg, Int.reduceEq, Int.reduceLT, Int.reduceLE, reduceCtorEq]
    refine fin_val (by simp (disch := omega) only [go_sem, ↓reduceIte, Int.reduceToNat, Nat.reduceEqDiff, Nat.reduceAdd, Nat.reduceMul, Nat.reduceSub, Nat.reducePow, Nat.reduceLT, Nat.reduceLeDiff, Int.reduceNeg, Int.reduceEq, Int.reduceLT, Int.reduceLE, reduceCtorEq]) ?_
    show snap _ 6 _ = _
    rw [Nat.div_eq_of_lt hab, Nat.mod_eq_of_lt hab]
    simp only [snap, lim_zero]; rfl
  · have hab : b ≤ a := by
      unfold cmpI at h1; split at h1
      · omega
      · omega
    have ha : a ≠ 0 := by omega
    have hlb := lim_ne hb
    simp (disch := omega) only [go_sem, ↓reduceIte, Int.reduceToNat, Nat.reduceEqDiff, Nat.reduceAdd, Nat.reduceMul, Nat.reduceSub, Nat.reducePow, Nat.reduceLT, Nat.reduceLeDiff, Int.reduceNeg, Int.reduceEq, Int.reduceLT, Int.reduceLE, reduceCtorEq, h1]
    refine ifW_dec (fun h2 => ?_) (fun h2 => ?_)
    · simp (disch := omega) only [go_sem, ↓reduceIte, Int.reduceToNat, Nat.reduceEqDiff, Nat.reduceAdd, Nat.reduceMul, Nat.reduceSub, Nat.reducePow, Nat.reduceLT, Nat.reduceLeDiff, Int.reduceNeg, Int.reduceEq, Int.reduceLT, Int.reduceLE, reduceCtorEq, h2]
      have hb6 : b < 65536 := by have := lim_lt b; rw [show (lim b).length = 1 by omega] at this; omega
      have e0 : (lim b).getD 0 0 = (b : Int) := by rw [lim_get]; simp; omega
      simp (disch := omega) only [go_sem, ↓reduceIte, Int.reduceToNat, Nat.reduceEqDiff, Nat.reduceAdd, Nat.reduceMul, Nat.reduceSub, Nat.reducePow, Nat.reduceLT, Nat.reduceLeDiff, Int.reduceNeg, Int.reduceEq, Int.reduceLT, Int.reduceLE, reduceCtorEq, e0]
      refine ⟨by omega, by omega, ?_⟩
      refine call_open (con_divsF a b (by omega) (by omega) hb6) (by simp (disch := omega) only [go_sem, ↓reduceIte, Int.reduceToNat, Nat.reduceEqDiff, Nat.reduceAdd, Nat.reduceMul, Nat.reduceSub, Nat.reducePow, Nat.reduceLT, Nat.reduceLeDiff, Int.reduceNeg, Int.reduceEq, Int.reduceLT, Int.reduceLE, reduceCtorEq]) ?_
      rintro r hs ⟨rfl, rfl, _⟩
      refine ⟨by simp [freeN], ?_⟩
      simp (disch := omega) only [go_sem, ↓reduceIte, Int.reduceToNat, Nat.reduceEqDiff, Nat.reduceAdd, Nat.reduceMul, Nat.reduceSub, Nat.reducePow, Nat.reduceLT, Nat.reduceLeDiff, Int.reduceNeg, Int.reduceEq, Int.reduceLT, Int.reduceLE, reduceCtorEq]
      have : a % b < b := Nat.mod_lt _ (by omega)
      refine call_open (con_smallN (a % b) (by omega)) (by simp (disch := omega) only [go_sem, ↓reduceIte, Int.reduceToNat, Nat.reduceEqDiff, Nat.reduceAdd, Nat.reduceMul, Nat.reduceSub, Nat.reducePow, Nat.reduceLT, Nat.reduceLeDiff, Int.reduceNeg, Int.reduceEq, Int.reduceLT, Int.reduceLE, reduceCtorEq]) ?_
      rintro r hs ⟨rfl, rfl, _⟩
      refine ⟨by simp [freeN], ?_⟩
      simp (disch := omega) only [go_sem, ↓reduceIte, Int.reduceToNat, Nat.reduceEqDiff, Nat.reduceAdd, Nat.reduceMul, Nat.reduceSub, Nat.reducePow, Nat.reduceLT, Nat.reduceLeDiff, Int.reduceNeg, Int.reduceEq, Int.reduceLT, Int.reduceLE, reduceCtorEq]
      exact fin_val (by simp (disch := omega) only [go_sem, ↓reduceIte, Int.reduceToNat, Nat.reduceEqDiff, Nat.reduceAdd, Nat.reduceMul, Nat.reduceSub, Nat.reducePow, Nat.reduceLT, Nat.reduceLeDiff, Int.reduceNeg, Int.reduceEq, Int.reduceLT, Int.reduceLE, reduceCtorEq]) (by rfl)
    · have hl2 : 2 ≤ (lim b).length := by omega
      have hll : (lim b).length ≤ (lim a).length := lim_mono hab
      have ht := len_top hb
      have eb : (((lim b).length : Int) - 1).toNat = (lim b).length - 1 := by omega
      have hnd := norm_div hb _ rfl
      simp (disch := omega) only [go_sem, ↓reduceIte, Int.reduceToNat, Nat.reduceEqDiff, Nat.reduceAdd, Nat.reduceMul, Nat.reduceSub, Nat.reducePow, Nat.reduceLT, Nat.reduceLeDiff, Int.reduceNeg, Int.reduceEq, Int.reduceLT, Int.reduceLE, reduceCtorEq, h2, eb, lim_get]
      have e3 : ((b / 65536 ^ ((lim b).length - 1) % 65536 : Nat) : Int) = ((b / 65536 ^ ((lim b).length - 1) : Nat) : Int) := by rw [Nat.mod_eq_of_lt ht.2]
      generalize hq : b / 65536 ^ ((lim b).length - 1) = q at *
      have hq16 : bl q ≤ 16 := bl_le.2 (by omega)
      simp (disch := omega) only [go_sem, ↓reduceIte, Int.reduceToNat, Nat.reduceEqDiff, Nat.reduceAdd, Nat.reduceMul, Nat.reduceSub, Nat.reducePow, Nat.reduceLT, Nat.reduceLeDiff, Int.reduceNeg, Int.reduceEq, Int.reduceLT, Int.reduceLE, reduceCtorEq, e3, wrap_u]
      refine ⟨by omega, by omega, ?_⟩
      refine call_closed (con_len q (by omega)) (by simp (disch := omega) only [go_sem, ↓reduceIte, Int.reduceToNat, Nat.reduceEqDiff, Nat.reduceAdd, Nat.reduceMul, Nat.reduceSub, Nat.reducePow, Nat.reduceLT, Nat.reduceLeDiff, Int.reduceNeg, Int.reduceEq, Int.reduceLT, Int.reduceLE, reduceCtorEq]) ?_
      rintro r hs ⟨rfl, rfl, _⟩
      refine ⟨by simp [freeN], ?_⟩
      simp (disch := omega) only [go_sem, ↓reduceIte, Int.reduceToNat, Nat.reduceEqDiff, Nat.reduceAdd, Nat.reduceMul, Nat.reduceSub, Nat.reducePow, Nat.reduceLT, Nat.reduceLeDiff, Int.reduceNeg, Int.reduceEq, Int.reduceLT, Int.reduceLE, reduceCtorEq]
      have e4 : (16 : Int) - (bl q : Int) = ((16 - bl q : Nat) : Int) := by omega
      simp (disch := omega) only [go_sem, ↓reduceIte, Int.reduceToNat, Nat.reduceEqDiff, Nat.reduceAdd, Nat.reduceMul, Nat.reduceSub, Nat.reducePow, Nat.reduceLT, Nat.reduceLeDiff, Int.reduceNeg, Int.reduceEq, Int.reduceLT, Int.reduceLE, reduceCtorEq, e4]
      generalize hs : 16 - bl q = s at *
      obtain ⟨hs16, hvl, hv1, hvge⟩ := hnd
      refine call_open (con_upN b s (by omega) (by omega)) (by simp (disch := omega) only [go_sem, ↓reduceIte, Int.reduceToNat, Nat.reduceEqDiff, Nat.reduceAdd, Nat.reduceMul, Nat.reduceSub, Nat.reducePow, Nat.reduceLT, Nat.reduceLeDiff, Int.reduceNeg, Int.reduceEq, Int.reduceLT, Int.reduceLE, reduceCtorEq, e4]) ?_
      rintro r hs0 ⟨rfl, rfl, _⟩
      refine ⟨by simp [freeN], ?_⟩
      simp (disch := omega) only [go_sem, ↓reduceIte, Int.reduceToNat, Nat.reduceEqDiff, Nat.reduceAdd, Nat.reduceMul, Nat.reduceSub, Nat.reducePow, Nat.reduceLT, Nat.reduceLeDiff, Int.reduceNeg, Int.reduceEq, Int.reduceLT, Int.reduceLE, reduceCtorEq]
      refine call_open (con_upR false a s (by omega) (by omega)) (by simp (disch := omega) only [go_sem, ↓reduceIte, Int.reduceToNat, Nat.reduceEqDiff, Nat.reduceAdd, Nat.reduceMul, Nat.reduceSub, Nat.reducePow, Nat.reduceLT, Nat.reduceLeDiff, Int.reduceNeg, Int.reduceEq, Int.reduceLT, Int.reduceLE, reduceCtorEq, e4]) ?_
      have hun : a * 2 ^ s ≠ 0 := by have : 0 < 2 ^ s := Nat.pow_pos (by omega); have := Nat.mul_pos (show 0 < a by omega) this; omega
      rintro r hs1 (⟨h, _, _⟩ | ⟨zs, rfl, rfl⟩)
      · exact absurd (lim_eq_nil.1 h) hun
      refine ⟨⟨by simp, by simp (disch := omega) only [go_sem, ↓reduceIte, Int.reduceToNat, Nat.reduceEqDiff, Nat.reduceAdd, Nat.reduceMul, Nat.reduceSub, Nat.reducePow, Nat.reduceLT, Nat.reduceLeDiff, Int.reduceNeg, Int.reduceEq, Int.reduceLT, Int.reduceLE, reduceCtorEq]⟩, ?_⟩
      have hul := lim_up_len a hs16
      have hug := lim_up_ge a s
      have ex : ((lim a).length : Int) + 1 - ((lim (a * 2 ^ s)).length : Int) = (((lim a).length + 1 - (lim (a * 2 ^ s)).length : Nat) : Int) := by omega
      have ecut : (lim (a * 2 ^ s) ++ zs).take (lim (a * 2 ^ s)).length = lim (a * 2 ^ s) := List.take_left' rfl
      have em : (((lim a).length : Int) - ((lim b).length : Int) + 1).toNat = (lim a).length - (lim b).length + 1 := by omega
      simp (disch := omega) only [go_sem, ↓reduceIte, Int.reduceToNat, Nat.reduceEqDiff, Nat.reduceAdd, Nat.reduceMul, Nat.reduceSub, Nat.reducePow, Nat.reduceLT, Nat.reduceLeDiff, Int.reduceNeg, Int.reduceEq, Int.reduceLT, Int.reduceLE, reduceCtorEq, ex, ecut, em]
      generalize hU0 : lim (a * 2 ^ s) ++ List.replicate ((lim a).length + 1 - (lim (a * 2 ^ s)).length) 0 = U0
      have lU0 : U0.length = (lim a).length + 1 := by rw [← hU0]; simp; omega
      have gU0 : gd U0 := by rw [← hU0]; exact gd_append.2 ⟨gd_lim _, gd_replicate _⟩
      have vU0 : vl U0 = ((a * 2 ^ s : Nat) : Int) := by rw [← hU0, vl_zeros, vl_lim]
      have hfw := first_win gU0 hll hlb hs16 lU0 vU0 hvge
      have elen : (lim (a * 2 ^ s)).length + ((lim a).length + 1 - (lim (a * 2 ^ s)).length) = U0.length := by omega
      refine ⟨by omega, ⟨by simp, by omega⟩, by omega, ?_⟩
      generalize hV : lim (b * 2 ^ s) = V at *
      have gV : gd V := by rw [← hV]; exact gd_lim _
      have vV : vl V = ((b * 2 ^ s : Nat) : Int) := by rw [← hV, vl_lim]
      generalize hm : (lim a).length - (lim b).length + 1 = m at *
      refine loop_intro (fun x : Nat × List Int × List Int => [(8, .v (.int .i64 s)), (9, .sl V.length (ints V)), (10, .rf 0 0 x.2.1.length), (11, .rf 1 0 x.2.2.length), (12, .v (.int .i64 ((x.1 : Int) - 1)))])
        (fun x => [(0, .own 1 (ints x.2.1)), (1, .own 1 (ints x.2.2))])
        (fun x => x.1 ≤ m ∧ x.2.1.length = U0.length ∧ gd x.2.1 ∧ x.2.2.length = m ∧ gd x.2.2 ∧ vl (x.2.1.drop x.1) < vl V ∧ vl x.2.1 + vl V * (65536 ^ x.1 * vl (x.2.2.drop x.1)) = ((a * 2 ^ s : Nat) : Int))
        (fun x => x.1) (m, U0, List.replicate m 0) ⟨Nat.le_refl _, rfl, gU0, by simp, gd_replicate _, by show vl (U0.drop m) < vl V; rw [vV]; exact hfw, by show vl U0 + vl V * (65536 ^ m * vl ((List.replicate m 0).drop m)) = _; rw [List.drop_of_length_le (by simp)]; simp [vl]; exact vU0⟩
        (Le.lst [(0, 580000000), (1, 650000000)] _ _ rfl (by simp (disch := omega) only [go_sem, ↓reduceIte, Int.reduceToNat, Nat.reduceEqDiff, Nat.reduceAdd, Nat.reduceMul, Nat.reduceSub, Nat.reducePow, Nat.reduceLT, Nat.reduceLeDiff, Int.reduceNeg, Int.reduceEq, Int.reduceLT, Int.reduceLE, reduceCtorEq, elen, e4, List.length_replicate]; try omega) (by simp (disch := omega) only [go_sem, ↓reduceIte, Int.reduceToNat, Nat.reduceEqDiff, Nat.reduceAdd, Nat.reduceMul, Nat.reduceSub, Nat.reducePow, Nat.reduceLT, Nat.reduceLeDiff, Int.reduceNeg, Int.reduceEq, Int.reduceLT, Int.reduceLE, reduceCtorEq, hU0, em])) ?_
      rintro ⟨k, U, O⟩ ⟨hk, lU, gU, lO, gO, hlt, hval⟩
      dsimp only at hk lU gU lO gO hlt hval ⊢
      simp (disch := omega) only [go_sem, ↓reduceIte, Int.reduceToNat, Nat.reduceEqDiff, Nat.reduceAdd, Nat.reduceMul, Nat.reduceSub, Nat.reducePow, Nat.reduceLT, Nat.reduceLeDiff, Int.reduceNeg, Int.reduceEq, Int.reduceLT, Int.reduceLE, reduceCtorEq]
      refine ifW_dec (fun g1 => ?_) (fun g1 => ?_)
      · obtain ⟨j, rfl⟩ : ∃ j, k = j + 1 := ⟨k - 1, by omega⟩
        have ej : ((j + 1 : Nat) : Int) - 1 = (j : Nat) := by omega
        have hWj : vl (U.drop j) < 65536 * vl V := by
          rw [vl_drop (by omega)]
          have := gd_getD gU j
          omega
        simp (disch := omega) only [go_sem, ↓reduceIte, Int.reduceToNat, Nat.reduceEqDiff, Nat.reduceAdd, Nat.reduceMul, Nat.reduceSub, Nat.reducePow, Nat.reduceLT, Nat.reduceLeDiff, Int.reduceNeg, Int.reduceEq, Int.reduceLT, Int.reduceLE, reduceCtorEq, g1, ej]
        refine call_closed (con_digitOf U V j gU gV (by omega) (by omega) (by omega) (by rw [hvl]; exact hv1) hWj) (by simp (disch := omega) only [go_sem, ↓reduceIte, Int.reduceToNat, Nat.reduceEqDiff, Nat.reduceAdd, Nat.reduceMul, Nat.reduceSub, Nat.reducePow, Nat.reduceLT, Nat.reduceLeDiff, Int.reduceNeg, Int.reduceEq, Int.reduceLT, Int.reduceLE, reduceCtorEq]) ?_
        rintro r hs ⟨qd, rfl, rfl, _, hq, hq1, hq2⟩
        refine ⟨by simp [freeN], ?_⟩
        simp (disch := omega) only [go_sem, ↓reduceIte, Int.reduceToNat, Nat.reduceEqDiff, Nat.reduceAdd, Nat.reduceMul, Nat.reduceSub, Nat.reducePow, Nat.reduceLT, Nat.reduceLeDiff, Int.reduceNeg, Int.reduceEq, Int.reduceLT, Int.reduceLE, reduceCtorEq]
        refine call_lend false [0] (con_takeAway U V j qd gU gV (by omega) (by omega) hq) (by simp (disch := omega) only [go_sem, ↓reduceIte, Int.reduceToNat, Nat.reduceEqDiff, Nat.reduceAdd, Nat.reduceMul, Nat.reduceSub, Nat.reducePow, Nat.reduceLT, Nat.reduceLeDiff, Int.reduceNeg, Int.reduceEq, Int.reduceLT, Int.reduceLE, reduceCtorEq]) (by simp (disch := omega) only [go_sem, ↓reduceIte, Int.reduceToNat, Nat.reduceEqDiff, Nat.reduceAdd, Nat.reduceMul, Nat.reduceSub, Nat.reducePow, Nat.reduceLT, Nat.reduceLeDiff, Int.reduceNeg, Int.reduceEq, Int.reduceLT, Int.reduceLE, reduceCtorEq]) rfl (lend_cons (z := 1) (cs := ints U) (by simp (disch := omega) only [go_sem, ↓reduceIte, Int.reduceToNat, Nat.reduceEqDiff, Nat.reduceAdd, Nat.reduceMul, Nat.reduceSub, Nat.reducePow, Nat.reduceLT, Nat.reduceLeDiff, Int.reduceNeg, Int.reduceEq, Int.reduceLT, Int.reduceLE, reduceCtorEq]) (by simp (disch := omega) only [go_sem, ↓reduceIte, Int.reduceToNat, Nat.reduceEqDiff, Nat.reduceAdd, Nat.reduceMul, Nat.reduceSub, Nat.reducePow, Nat.reduceLT, Nat.reduceLeDiff, Int.reduceNeg, Int.reduceEq, Int.reduceLT, Int.reduceLE, reduceCtorEq])) (by intro n hn; exact ⟨_, List.mem_cons_self .., by rw [List.mem_singleton.1 hn]; rfl⟩) ?_
        rintro r hs bs ⟨U', bo, rfl, rfl, rfl, hl', gU', hbo, hsm, hv'⟩ _
        refine ⟨by simp [freeN], ?_⟩
        generalize hT : U'.set (j + V.length) (U.getD (j + V.length) 0 - bo) = T at *
        obtain ⟨lT, vT, wT, tT, aT, pT, nT⟩ := take_step gU gV (by omega) hWj hq1 hq2 hl' gU' hsm hv' T hT.symm
        have hfin : ∀ (U2 : List Int) (qf : Int), vl U2 = vl U - 65536 ^ j * (qf * vl V) → vl U2 + vl V * (65536 ^ j * vl ((O.set j qf).drop j)) = ((a * 2 ^ s : Nat) : Int) := by
          intro U2 qf h2
          rw [set_drop_val (by omega), h2, ← hval, Int.pow_succ]
          generalize (65536 : Int) ^ j = Pj at *
          grind
        simp (disch := omega) only [go_sem, ↓reduceIte, Int.reduceToNat, Nat.reduceEqDiff, Nat.reduceAdd, Nat.reduceMul, Nat.reduceSub, Nat.reducePow, Nat.reduceLT, Nat.reduceLeDiff, Int.reduceNeg, Int.reduceEq, Int.reduceLT, Int.reduceLE, reduceCtorEq]
        refine ifW_dec (fun g2 => ?_) (fun g2 => ?_)
        · obtain ⟨⟨n1, n2⟩, n3⟩ := nT g2
          simp (disch := omega) only [go_sem, ↓reduceIte, Int.reduceToNat, Nat.reduceEqDiff, Nat.reduceAdd, Nat.reduceMul, Nat.reduceSub, Nat.reducePow, Nat.reduceLT, Nat.reduceLeDiff, Int.reduceNeg, Int.reduceEq, Int.reduceLT, Int.reduceLE, reduceCtorEq, g2]
          refine call_lend false [0] (con_addBack T V j n3 (by rw [tT]; omega) gV (by omega) (by omega)) (by simp (disch := omega) only [go_sem, ↓reduceIte, Int.reduceToNat, Nat.reduceEqDiff, Nat.reduceAdd, Nat.reduceMul, Nat.reduceSub, Nat.reducePow, Nat.reduceLT, Nat.reduceLeDiff, Int.reduceNeg, Int.reduceEq, Int.reduceLT, Int.reduceLE, reduceCtorEq, lT]) (by simp (disch := omega) only [go_sem, ↓reduceIte, Int.reduceToNat, Nat.reduceEqDiff, Nat.reduceAdd, Nat.reduceMul, Nat.reduceSub, Nat.reducePow, Nat.reduceLT, Nat.reduceLeDiff, Int.reduceNeg, Int.reduceEq, Int.reduceLT, Int.reduceLE, reduceCtorEq]) rfl (lend_cons (z := 1) (cs := ints T) (by simp (disch := omega) only [go_sem, ↓reduceIte, Int.reduceToNat, Nat.reduceEqDiff, Nat.reduceAdd, Nat.reduceMul, Nat.reduceSub, Nat.reducePow, Nat.reduceLT, Nat.reduceLeDiff, Int.reduceNeg, Int.reduceEq, Int.reduceLT, Int.reduceLE, reduceCtorEq]) (by simp (disch := omega) only [go_sem, ↓reduceIte, Int.reduceToNat, Nat.reduceEqDiff, Nat.reduceAdd, Nat.reduceMul, Nat.reduceSub, Nat.reducePow, Nat.reduceLT, Nat.reduceLeDiff, Int.reduceNeg, Int.reduceEq, Int.reduceLT, Int.reduceLE, reduceCtorEq])) (by intro n hn; exact ⟨_, List.mem_cons_self .., by rw [List.mem_singleton.1 hn]; rfl⟩) ?_
          rintro r hs bs ⟨T', rfl, rfl, rfl, lT', gT', sT', vT'⟩ _
          refine ⟨by simp [freeN], ?_⟩
          rw [Int.add_mul] at hq1
          obtain ⟨gT2, wT2⟩ := back_step gV (by omega) lT' gT' sT' aT vT' (by omega) (by omega)
          simp (disch := omega) only [go_sem, ↓reduceIte, Int.reduceToNat, Nat.reduceEqDiff, Nat.reduceAdd, Nat.reduceMul, Nat.reduceSub, Nat.reducePow, Nat.reduceLT, Nat.reduceLeDiff, Int.reduceNeg, Int.reduceEq, Int.reduceLT, Int.reduceLE, reduceCtorEq, lO]
          have hqp : 0 < qd := by
            have h3 := vl_nonneg (gd_drop gU j)
            rcases (by omega : 0 < qd ∨ qd = 0) with h | h
            · exact h
            · subst h; simp at n2; omega
          refine ⟨by omega, by omega, next_intro (j, T', O.set j (qd - 1)) [] ⟨by show j ≤ m; omega, by show T'.length = _; omega, gT2, by simp [lO], gd_set gO (by omega), by show vl (T'.drop j) < vl V; omega, hfin T' (qd - 1) ?_⟩ (by show j < j + 1; omega) rfl (by simp (disch := omega) only [go_sem, ↓reduceIte, Int.reduceToNat, Nat.reduceEqDiff, Nat.reduceAdd, Nat.reduceMul, Nat.reduceSub, Nat.reducePow, Nat.reduceLT, Nat.reduceLeDiff, Int.reduceNeg, Int.reduceEq, Int.reduceLT, Int.reduceLE, reduceCtorEq, List.length_set]; try omega) (by simp (disch := omega) only [go_sem, ↓reduceIte, Int.reduceToNat, Nat.reduceEqDiff, Nat.reduceAdd, Nat.reduceMul, Nat.reduceSub, Nat.reducePow, Nat.reduceLT, Nat.reduceLeDiff, Int.reduceNeg, Int.reduceEq, Int.reduceLT, Int.reduceLE, reduceCtorEq])⟩
          rw [vT', vT, Int.sub_mul, Int.one_mul, Int.mul_sub]; omega
        · obtain ⟨p1, p2⟩ := pT g2
          rw [Int.add_mul] at hq1
          simp (disch := omega) only [go_sem, ↓reduceIte, Int.reduceToNat, Nat.reduceEqDiff, Nat.reduceAdd, Nat.reduceMul, Nat.reduceSub, Nat.reducePow, Nat.reduceLT, Nat.reduceLeDiff, Int.reduceNeg, Int.reduceEq, Int.reduceLT, Int.reduceLE, reduceCtorEq, g2, lO]
          refine ⟨by omega, by omega, next_intro (j, T, O.set j qd) [] ⟨by show j ≤ m; omega, by show T.length = _; omega, p1, by simp [lO], gd_set gO hq, by show vl (T.drop j) < vl V; omega, hfin T qd vT⟩ (by show j < j + 1; omega) rfl (by simp (disch := omega) only [go_sem, ↓reduceIte, Int.reduceToNat, Nat.reduceEqDiff, Nat.reduceAdd, Nat.reduceMul, Nat.reduceSub, Nat.reducePow, Nat.reduceLT, Nat.reduceLeDiff, Int.reduceNeg, Int.reduceEq, Int.reduceLT, Int.reduceLE, reduceCtorEq, List.length_set]; try omega) (by simp (disch := omega) only [go_sem, ↓reduceIte, Int.reduceToNat, Nat.reduceEqDiff, Nat.reduceAdd, Nat.reduceMul, Nat.reduceSub, Nat.reducePow, Nat.reduceLT, Nat.reduceLeDiff, Int.reduceNeg, Int.reduceEq, Int.reduceLT, Int.reduceLE, reduceCtorEq])⟩
      · have : k = 0 := by omega
        subst this
        rw [List.drop_zero] at hlt
        rw [List.drop_zero, Int.pow_zero, Int.one_mul] at hval
        have hvO := vl_nonneg gO
        have hvU := vl_nonneg gU
        have hcO := cutZ_lim gO
        have hcU := cutZ_lim gU
        have hpS : 0 < 2 ^ s := Nat.pow_pos (by omega)
        obtain ⟨d1, d2⟩ : (vl O).toNat = a / b ∧ (vl U).toNat = a % b * 2 ^ s := by
          refine div_norm hpS (by omega) ?_ (by omega)
          rw [vV] at hval
          have : ((vl U).toNat : Int) + ((b * 2 ^ s : Nat) : Int) * ((vl O).toNat : Int) = ((a * 2 ^ s : Nat) : Int) := by
            rw [Int.toNat_of_nonneg hvO, Int.toNat_of_nonneg hvU]; exact hval
          rw [← Int.natCast_mul, ← Int.natCast_add] at this
          exact Int.ofNat.inj this
        rw [d1] at hcO
        rw [d2] at hcU
        obtain ⟨zo, hzo⟩ := cutZ_pre O
        obtain ⟨zu, hzu⟩ := cutZ_pre U
        have htU := cutZ_take U
        rw [hcO] at hzo
        rw [hcU] at hzu htU
        simp (disch := omega) only [go_sem, ↓reduceIte, Int.reduceToNat, Nat.reduceEqDiff, Nat.reduceAdd, Nat.reduceMul, Nat.reduceSub, Nat.reducePow, Nat.reduceLT, Nat.reduceLeDiff, Int.reduceNeg, Int.reduceEq, Int.reduceLT, Int.reduceLE, reduceCtorEq, g1]
        refine call_lend false [1] (con_trim O (by omega)) (by simp (disch := omega) only [go_sem, ↓reduceIte, Int.reduceToNat, Nat.reduceEqDiff, Nat.reduceAdd, Nat.reduceMul, Nat.reduceSub, Nat.reducePow, Nat.reduceLT, Nat.reduceLeDiff, Int.reduceNeg, Int.reduceEq, Int.reduceLT, Int.reduceLE, reduceCtorEq]) (by simp (disch := omega) only [go_sem, ↓reduceIte, Int.reduceToNat, Nat.reduceEqDiff, Nat.reduceAdd, Nat.reduceMul, Nat.reduceSub, Nat.reducePow, Nat.reduceLT, Nat.reduceLeDiff, Int.reduceNeg, Int.reduceEq, Int.reduceLT, Int.reduceLE, reduceCtorEq]) rfl (lend_cons (z := 1) (cs := ints O) (by simp (disch := omega) only [go_sem, ↓reduceIte, Int.reduceToNat, Nat.reduceEqDiff, Nat.reduceAdd, Nat.reduceMul, Nat.reduceSub, Nat.reducePow, Nat.reduceLT, Nat.reduceLeDiff, Int.reduceNeg, Int.reduceEq, Int.reduceLT, Int.reduceLE, reduceCtorEq]) (by simp (disch := omega) only [go_sem, ↓reduceIte, Int.reduceToNat, Nat.reduceEqDiff, Nat.reduceAdd, Nat.reduceMul, Nat.reduceSub, Nat.reducePow, Nat.reduceLT, Nat.reduceLeDiff, Int.reduceNeg, Int.reduceEq, Int.reduceLT, Int.reduceLE, reduceCtorEq])) (by intro n hn; exact ⟨_, List.mem_singleton.2 rfl, by rw [List.mem_singleton.1 hn]; rfl⟩) ?_
        rintro r hs bs ⟨rfl, rfl, rfl⟩ _
        refine ⟨by simp [freeN], ?_⟩
        simp (disch := omega) only [go_sem, ↓reduceIte, Int.reduceToNat, Nat.reduceEqDiff, Nat.reduceAdd, Nat.reduceMul, Nat.reduceSub, Nat.reducePow, Nat.reduceLT, Nat.reduceLeDiff, Int.reduceNeg, Int.reduceEq, Int.reduceLT, Int.reduceLE, reduceCtorEq]
        refine call_lend false [0] (con_trim U (by omega)) (by simp (disch := omega) only [go_sem, ↓reduceIte, Int.reduceToNat, Nat.reduceEqDiff, Nat.reduceAdd, Nat.reduceMul, Nat.reduceSub, Nat.reducePow, Nat.reduceLT, Nat.reduceLeDiff, Int.reduceNeg, Int.reduceEq, Int.reduceLT, Int.reduceLE, reduceCtorEq]) (by simp (disch := omega) only [go_sem, ↓reduceIte, Int.reduceToNat, Nat.reduceEqDiff, Nat.reduceAdd, Nat.reduceMul, Nat.reduceSub, Nat.reducePow, Nat.reduceLT, Nat.reduceLeDiff, Int.reduceNeg, Int.reduceEq, Int.reduceLT, Int.reduceLE, reduceCtorEq]) rfl (lend_cons (z := 1) (cs := ints U) (by simp (disch := omega) only [go_sem, ↓reduceIte, Int.reduceToNat, Nat.reduceEqDiff, Nat.reduceAdd, Nat.reduceMul, Nat.reduceSub, Nat.reducePow, Nat.reduceLT, Nat.reduceLeDiff, Int.reduceNeg, Int.reduceEq, Int.reduceLT, Int.reduceLE, reduceCtorEq]) (by simp (disch := omega) only [go_sem, ↓reduceIte, Int.reduceToNat, Nat.reduceEqDiff, Nat.reduceAdd, Nat.reduceMul, Nat.reduceSub, Nat.reducePow, Nat.reduceLT, Nat.reduceLeDiff, Int.reduceNeg, Int.reduceEq, Int.reduceLT, Int.reduceLE, reduceCtorEq])) (by intro n hn; exact ⟨_, List.mem_singleton.2 rfl, by rw [List.mem_singleton.1 hn]; rfl⟩) ?_
        rintro r hs bs ⟨rfl, rfl, rfl⟩ _
        refine ⟨by simp [freeN], ?_⟩
        simp (disch := omega) only [go_sem, ↓reduceIte, Int.reduceToNat, Nat.reduceEqDiff, Nat.reduceAdd, Nat.reduceMul, Nat.reduceSub, Nat.reducePow, Nat.reduceLT, Nat.reduceLeDiff, Int.reduceNeg, Int.reduceEq, Int.reduceLT, Int.reduceLE, reduceCtorEq, hcO, hcU]
        have hlr : (lim (a % b * 2 ^ s)).length ≤ 1000000 := by
          have := congrArg List.length hzu
          simp at this; omega
        refine call_closed (con_downR true (a % b * 2 ^ s) s hlr (by omega)) (by simp (disch := omega) only [go_sem, ↓reduceIte, Int.reduceToNat, Nat.reduceEqDiff, Nat.reduceAdd, Nat.reduceMul, Nat.reduceSub, Nat.reducePow, Nat.reduceLT, Nat.reduceLeDiff, Int.reduceNeg, Int.reduceEq, Int.reduceLT, Int.reduceLE, reduceCtorEq, htU]) ?_
        rw [Nat.mul_div_cancel _ hpS]
        rintro r hs2 (⟨h, rfl, rfl⟩ | ⟨z2, rfl, rfl⟩)
        · refine ⟨⟨by simp, by simp (disch := omega) only [go_sem, ↓reduceIte, Int.reduceToNat, Nat.reduceEqDiff, Nat.reduceAdd, Nat.reduceMul, Nat.reduceSub, Nat.reducePow, Nat.reduceLT, Nat.reduceLeDiff, Int.reduceNeg, Int.reduceEq, Int.reduceLT, Int.reduceLE, reduceCtorEq]⟩, ?_⟩
          simp (disch := omega) only [go_sem, ↓reduceIte, Int.reduceToNat, Nat.reduceEqDiff, Nat.reduceAdd, Nat.reduceMul, Nat.reduceSub, Nat.reducePow, Nat.reduceLT, Nat.reduceLeDiff, Int.reduceNeg, Int.reduceEq, Int.reduceLT, Int.reduceLE, reduceCtorEq]
          refine fin_intro [(0, 1)] [.own 1 (ints O)] [] [.rf 0 0 (lim (a / b)).length, .v (.slice none 0 0)] rfl (by simp (disch := omega) only [go_sem, ↓reduceIte, Int.reduceToNat, Nat.reduceEqDiff, Nat.reduceAdd, Nat.reduceMul, Nat.reduceSub, Nat.reducePow, Nat.reduceLT, Nat.reduceLeDiff, Int.reduceNeg, Int.reduceEq, Int.reduceLT, Int.reduceLE, reduceCtorEq]) (by simp (disch := omega) only [go_sem, ↓reduceIte, Int.reduceToNat, Nat.reduceEqDiff, Nat.reduceAdd, Nat.reduceMul, Nat.reduceSub, Nat.reducePow, Nat.reduceLT, Nat.reduceLeDiff, Int.reduceNeg, Int.reduceEq, Int.reduceLT, Int.reduceLE, reduceCtorEq]) (by simp) (by simp) ?_
          show snap _ 6 _ = _
          unfold snap
          simp only [tupA, List.map_cons, List.map_nil]
          rw [hzo, snap_num (k := 3) (l := lim (a / b)) (zs := List.replicate zo 0) rhp_zero rfl, h]
          rfl
        · refine ⟨⟨by simp, by simp (disch := omega) only [go_sem, ↓reduceIte, Int.reduceToNat, Nat.reduceEqDiff, Nat.reduceAdd, Nat.reduceMul, Nat.reduceSub, Nat.reducePow, Nat.reduceLT, Nat.reduceLeDiff, Int.reduceNeg, Int.reduceEq, Int.reduceLT, Int.reduceLE, reduceCtorEq]⟩, ?_⟩
          simp (disch := omega) only [go_sem, ↓reduceIte, Int.reduceToNat, Nat.reduceEqDiff, Nat.reduceAdd, Nat.reduceMul, Nat.reduceSub, Nat.reducePow, Nat.reduceLT, Nat.reduceLeDiff, Int.reduceNeg, Int.reduceEq, Int.reduceLT, Int.reduceLE, reduceCtorEq]
          refine fin_intro [(0, 1), (1, 970000000)] [.own 1 (ints O), .own 1 (ints (lim (a % b) ++ z2))] [] [.rf 0 0 (lim (a / b)).length, .rf 1 0 (lim (a % b)).length] rfl (by simp (disch := omega) only [go_sem, ↓reduceIte, Int.reduceToNat, Nat.reduceEqDiff, Nat.reduceAdd, Nat.reduceMul, Nat.reduceSub, Nat.reducePow, Nat.reduceLT, Nat.reduceLeDiff, Int.reduceNeg, Int.reduceEq, Int.reduceLT, Int.reduceLE, reduceCtorEq]) (by simp (disch := omega) only [go_sem, ↓reduceIte, Int.reduceToNat, Nat.reduceEqDiff, Nat.reduceAdd, Nat.reduceMul, Nat.reduceSub, Nat.reducePow, Nat.reduceLT, Nat.reduceLeDiff, Int.reduceNeg, Int.reduceEq, Int.reduceLT, Int.reduceLE, reduceCtorEq]) (by simp) (by simp) ?_
          show snap _ 6 _ = _
          unfold snap
          simp only [tupA, List.map_cons, List.map_nil]
          rw [hzo, snap_num (k := 3) (l := lim (a / b)) (zs := List.replicate zo 0) rhp_zero rfl, snap_num (k := 3) (l := lim (a % b)) (zs := z2) rhp_one rfl]
end Go.Ab
namespace Go.Ab
open Go Go.Proofs
set_option linter.unusedVariables false
set_option linter.unusedSimpArgs false

theorem con_within (n lo hi : Int) : Con Tryd.prog 47 true [.v (.int .i64 n), .v (.int .i64 lo), .v (.int .i64 hi)] [] (fun r hs bs => r = .v (.bool (decide (lo ≤ n) && decide (n ≤ hi))) ∧ hs = []) := by
  refine Con.of_aw Tryd.func47 rfl Tryd.ntmps47 (by simp) (by simp) (by simp) (W.sound ?_)
  show @W Tryd.prog 15 ⟨_⟩ ⟨fun x σ => @retW _ _ _ ⟨_⟩ _ ⟨_⟩ x σ⟩ _ _
  simp (disch := omega) only [go_sem, ↓reduceIte, Int.reduceToNat, Nat.reduceEqDiff, Nat.reduceAdd, Nat.reduceMul, Nat.reduceSub, Nat.reducePow, Nat.reduceLT, Nat.reduceLeDiff, Int.reduceNeg, Int.reduceEq, Int.reduceLT, Int.reduceLE, reduceCtorEq]
  refine ifW_dec (fun h1 => ?_) (fun h1 => ?_)
  · simp (disch := omega) only [go_sem, ↓reduceIte, Int.reduceToNat, Nat.reduceEqDiff, Nat.reduceAdd, Nat.reduceMul, Nat.reduceSub, Nat.reducePow, Nat.reduceLT, Nat.reduceLeDiff, Int.reduceNeg, Int.reduceEq, Int.reduceLT, Int.reduceLE, reduceCtorEq, h1]
    refine fin_intro [] [] [] [.v (.bool (decide (n ≤ hi)))] rfl (by simp (disch := omega) only [go_sem, ↓reduceIte, Int.reduceToNat, Nat.reduceEqDiff, Nat.reduceAdd, Nat.reduceMul, Nat.reduceSub, Nat.reducePow, Nat.reduceLT, Nat.reduceLeDiff, Int.reduceNeg, Int.reduceEq, Int.reduceLT, Int.reduceLE, reduceCtorEq]) (by simp (disch := omega) only [go_sem, ↓reduceIte, Int.reduceToNat, Nat.reduceEqDiff, Nat.reduceAdd, Nat.reduceMul, Nat.reduceSub, Nat.reducePow, Nat.reduceLT, Nat.reduceLeDiff, Int.reduceNeg, Int.reduceEq, Int.reduceLT, Int.reduceLE, reduceCtorEq]) (by simp) (by simp [AV.pu, tupA]) ⟨by simp [tupA, h1], rfl⟩
  · simp (disch := omega) only [go_sem, ↓reduceIte, Int.reduceToNat, Nat.reduceEqDiff, Nat.reduceAdd, Nat.reduceMul, Nat.reduceSub, Nat.reducePow, Nat.reduceLT, Nat.reduceLeDiff, Int.reduceNeg, Int.reduceEq, Int.reduceLT, Int.reduceLE, reduceCtorEq, h1]
    refine fin_intro [] [] [] [.v (.bool false)] rfl (by simp (disch := omega) only [go_sem, ↓reduceIte, Int.reduceToNat, Nat.reduceEqDiff, Nat.reduceAdd, Nat.reduceMul, Nat.reduceSub, Nat.reducePow, Nat.reduceLT, Nat.reduceLeDiff, Int.reduceNeg, Int.reduceEq, Int.reduceLT, Int.reduceLE, reduceCtorEq]) (by simp (disch := omega) only [go_sem, ↓reduceIte, Int.reduceToNat, Nat.reduceEqDiff, Nat.reduceAdd, Nat.reduceMul, Nat.reduceSub, Nat.reducePow, Nat.reduceLT, Nat.reduceLeDiff, Int.reduceNeg, Int.reduceEq, Int.reduceLT, Int.reduceLE, reduceCtorEq]) (by simp) (by simp [AV.pu, tupA]) ⟨by simp [tupA, h1], rfl⟩
end Go.Ab
