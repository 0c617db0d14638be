/- What the proof of this claim stands on: the walks of the functions and the plain laws, part 5. -/
import Derived.Test.YtjkhfpjccemboaaDoorFnExactDecFloatLib4
import Derived.Test.YtjkhfpjccemboaaDoorRows
import Derived.Test.YtjkhfpjccemboaaDoorCards
import Derived.Test.YtjkhfpjccemboaaDoorTie
import Derived.Handed
import Derived.ChangeSame
import Derived.JoinedOf
import Derived.RowKit
import Derived.WalkKit
import Derived.ProofKit
import Derived.OpenShut
import Derived.LaidLaws
import Derived.LaidHandle
import Derived.SevenTiedAt
import Derived.Stop.LaidErr
import Derived.Lib.LaidTab
namespace Go.Ab
open Go Go.Proofs
set_option linter.unusedVariables false
set_option linter.unusedSimpArgs false

theorem bl_ten (k : Nat) : bl (10 ^ k) ≤ 4 * k + 1 := by
  refine bl_le.2 ?_
  calc 10 ^ k ≤ 16 ^ k := Nat.pow_le_pow_left (by omega) k
    _ = 2 ^ (4 * k) := by rw [Nat.pow_mul]
    _ < 2 ^ (4 * k + 1) := Nat.pow_lt_pow_right (by omega) (by omega)

theorem con_l6ten (k : Nat) (hk : k ≤ 2000) : Con Tryd.prog 38 false [.v (.int .i64 k)] [] (isA (.ag [.sl (lim (10 ^ k)).length (ints (lim (10 ^ k)))])) := by
  refine Con.frzA ?_
  refine Con.of_aw Tryd.func38 rfl Tryd.ntmps38 (by simp) (by simp) (by simp) (W.sound ?_)
  show @W Tryd.prog 15 ⟨_⟩ ⟨fun x σ => @retW _ _ _ ⟨_⟩ _ ⟨_⟩ x σ⟩ _ _
  simp (disch := omega) only [go_sem]
  refine call_open (con_l2ofF 1 (by omega)) (by simp (disch := omega) only [go_sem]) ?_
  rintro r hs ⟨rfl, rfl, _⟩
  refine ⟨by simp [freeN], ?_⟩
  simp (disch := omega) only [go_sem]
  refine loop_intro (fun i : Nat => [(0, .v (.int .i64 k)), (2, .pt 1 0), (3, .pt 0 0), (4, .v (.int .i64 i))]) (fun i => [(0, .own 0 [.sl (lim (10 ^ i)).length (ints (lim (10 ^ i)))]), (1, .own 0 [.v (.slice none 0 0)])]) (fun i => i ≤ k) (fun i => k - i) 0 (by omega)
    (Le.lst [(0, 50000000), (1, 40000000)] _ _ rfl (by simp (disch := omega) only [go_sem]) (by simp (disch := omega) only [go_sem])) ?_
  intro i hi
  have hb := bl_ten i
  have hl := len_bl hb
  simp (disch := omega) only [go_sem]
  refine ifW_dec (fun h3 => ?_) (fun h3 => ?_)
  · simp (disch := omega) only [go_sem, h3]
    refine draw_of rfl [⟨0, [], []⟩, ⟨1, [0], []⟩, ⟨2, [], []⟩, ⟨3, [], []⟩] (by kernel_rfl) ?_
    simp (disch := omega) only [go_sem]
    refine call_open (con_l2ofF 10 (by omega)) (by simp (disch := omega) only [go_sem]) ?_
    rintro r hs ⟨rfl, rfl, _⟩
    refine ⟨by simp [freeN], ?_⟩
    simp (disch := omega) only [go_sem]
    refine call_open (con_l2mulF (10 ^ i) 10 (by omega) (by have := len_bl (m := 10) (B := 4) (by decide); omega)) (by simp (disch := omega) only [go_sem]) ?_
    rintro r hs ⟨rfl, rfl, _⟩
    refine ⟨by simp [freeN], ?_⟩
    simp (disch := omega) only [go_sem]
    exact next_intro (i + 1) [] (by show i + 1 ≤ k; omega) (by show k - (i + 1) < k - i; omega) rfl (by simp (disch := omega) only [go_sem, Nat.pow_succ]; try omega) (by simp (disch := omega) only [go_sem, Nat.pow_succ])
  · simp (disch := omega) only [go_sem, h3]
    have : i = k := by omega
    subst this
    refine fin_val (by simp (disch := omega) only [go_sem]) ?_
    show snap _ 6 _ = _
    simp (disch := omega) only [go_sem]

theorem con_l2normX (xs : List Int) (m : Nat) (hl : xs.length ≤ 2 ^ 39) (hx : gd xs) (hv : vl xs = (m : Int)) : Con Tryd.prog 34 true [.sl xs.length (ints xs)] [] (isA (.ag [.sl (lim (m)).length (ints (lim (m)))])) := (con_l2norm true xs m hl hx hv).natFC

theorem con_l2divOne (a b : Nat) (la : (lim a).length ≤ 100000) (hb : 0 < b) (hb2 : b < 65536) :
    Con Tryd.prog 45 false [.ag [.sl (lim (a)).length (ints (lim (a)))], .ag [.sl 1 [.v (.int .i64 (b : Int))]]] [] (isA (.tu [.ag [.sl (lim (a / b)).length (ints (lim (a / b)))], .ag [.sl (lim (a % b)).length (ints (lim (a % b)))]])) := by
  refine Con.frzA ?_
  refine Con.of_aw Tryd.func45 rfl Tryd.ntmps45 (by simp) (by simp) (by simp) (W.sound ?_)
  show @W Tryd.prog 82 ⟨_⟩ ⟨fun x σ => @retW _ _ _ ⟨_⟩ _ ⟨_⟩ x σ⟩ _ _
  simp (disch := omega) only [go_sem]
  refine draw_of rfl [⟨0, [], []⟩, ⟨1, [0], []⟩, ⟨2, [0], []⟩, ⟨3, [0], []⟩, ⟨4, [0], []⟩, ⟨9, [0, 2, 4], []⟩, ⟨5, [], [80000000]⟩, ⟨6, [], [80000000]⟩, ⟨7, [], [80000000]⟩, ⟨8, [], [80000000]⟩, ⟨10, [], []⟩, ⟨11, [], []⟩] (by kernel_rfl) ?_
  simp (disch := omega) only [go_sem]
  refine call_open (con_l2smallN a b (by omega) hb hb2) (by simp (disch := omega) only [go_sem]) ?_
  rintro r hs ⟨rfl, rfl, _⟩
  refine ⟨by simp [freeN], ?_⟩
  simp (disch := omega) only [go_sem]
  refine draw_of rfl [⟨0, [], []⟩, ⟨1, [0], []⟩, ⟨2, [0], []⟩, ⟨3, [], []⟩, ⟨4, [], []⟩] (by kernel_rfl) ?_
  simp (disch := omega) only [go_sem]
  have := Nat.mod_lt a hb
  refine call_open (con_l2ofF (a % b) (by omega)) (by simp (disch := omega) only [go_sem]) ?_
  rintro r hs ⟨rfl, rfl, _⟩
  refine ⟨by simp [freeN], ?_⟩
  simp (disch := omega) only [go_sem]
  refine fin_val (by simp (disch := omega) only [go_sem]) ?_
  show snap _ 6 _ = _
  simp (disch := omega) only [go_sem]

theorem con_l2divBig (a b : Nat) (la : (lim a).length ≤ 100000) (lb : (lim b).length ≤ 100000) (hb : b ≠ 0) (hb2 : (lim b).length ≠ 1) :
    Con Tryd.prog 45 false [.ag [.sl (lim (a)).length (ints (lim (a)))], .ag [.sl (lim (b)).length (ints (lim (b)))]] [] (isA (.tu [.ag [.sl (lim (a / b)).length (ints (lim (a / b)))], .ag [.sl (lim (a % b)).length (ints (lim (a % b)))]])) := by
  refine Con.frzA ?_
  have hA := gd_lim a
  have hvA := vl_lim a
  generalize hAA : lim a = A at *
  refine Con.of_aw Tryd.func45 rfl Tryd.ntmps45 (by simp) (by simp) (by simp) (W.sound ?_)
  show @W Tryd.prog 82 ⟨_⟩ ⟨fun x σ => @retW _ _ _ ⟨_⟩ _ ⟨_⟩ x σ⟩ _ _
  simp (disch := omega) only [go_sem]
  have hb2' : ¬ ((lim b).length : Int) = 1 := by omega
  simp (disch := omega) only [go_sem, hb2']
  refine ⟨by omega, ?_⟩
  have hbp : (0 : Int) < (b : Int) := by omega
  refine loop_intro (fun x : Nat × List Int × Nat × Bool => [(2, .pt 2 0), (3, .pt 3 0), (4, .pt 4 0), (5, .pt 5 0), (8, .rf 1 0 A.length), (9, .pt 0 0), (10, .v (.int .i64 ((x.1 : Int) - 1)))])
    (fun x => [(0, .own 0 [bif x.2.2.2 then .v (.slice none 0 0) else .sl (lim (x.2.2.1)).length (ints (lim (x.2.2.1)))]), (1, .own 1 (ints x.2.1)), (2, .own 0 [.sl A.length (ints A)]), (3, .own 0 [.sl (lim (b)).length (ints (lim (b)))]), (4, .own 0 [.v (.slice none 0 0)]), (5, .own 0 [.v (.slice none 0 0)])])
    (fun x => x.1 ≤ A.length ∧ x.2.1.length = A.length ∧ gd x.2.1 ∧ (x.2.2.1 : Int) = vl (A.drop x.1) % (b : Int) ∧ vl (x.2.1.drop x.1) = vl (A.drop x.1) / (b : Int) ∧ (x.2.2.2 = true → x.2.2.1 = 0))
    (fun x => x.1) (A.length, List.replicate A.length 0, 0, true) ⟨Nat.le_refl _, by simp, gd_replicate _, by simp [vl], by simp [vl], fun _ => rfl⟩
    (Le.lst [(0, 110000000), (1, 350000000), (2, 40000000), (3, 50000000), (4, 60000000), (5, 70000000)] _ _ rfl (by simp (disch := omega) only [go_sem, List.length_replicate]; try omega) (by simp (disch := omega) only [go_sem, cond_true])) ?_
  rintro ⟨k, out, rest, fst⟩ ⟨hk, hol, hog, hr, hov, hfst⟩
  dsimp only at hk hol hog hr hov hfst ⊢
  have hr0 : rest < b := by
    have := Int.emod_lt_of_pos (vl (A.drop k)) hbp
    omega
  have lr : (lim rest).length ≤ 100000 := Nat.le_trans (lim_mono (Nat.le_of_lt hr0)) lb
  have h1' : ((k : Int) - 1 < 0 ∧ k = 0) ∨ (0 ≤ (k : Int) - 1 ∧ ∃ i, k = i + 1) := by
    by_cases h : k = 0
    · left; omega
    · right; exact ⟨by omega, k - 1, by omega⟩
  rcases h1' with ⟨h1, rfl⟩ | ⟨h1, i, rfl⟩
  · have h2 : decide ((0 : Int) ≤ 0 - 1) = false := by decide
    simp (disch := omega) only [go_sem, h2]
    refine draw_of rfl [⟨0, [], []⟩, ⟨2, [], []⟩, ⟨1, [2], []⟩, ⟨3, [2], []⟩, ⟨4, [], []⟩] (by kernel_rfl) ?_
    cases fst
    · simp (disch := omega) only [go_sem, cond_false]
      rw [List.drop_zero, List.drop_zero, hvA, ← Int.natCast_ediv] at hov
      rw [List.drop_zero, hvA, ← Int.natCast_emod] at hr
      have er : rest = a % b := by omega
      have cn := con_l2normX out (a / b) (by omega) hog hov
      rw [hol] at cn
      have tO : out.take A.length = out := List.take_of_length_le (by omega)
      refine call_closed cn (by simp (disch := omega) only [go_sem, tO]) ?_
      rintro r hs ⟨rfl, rfl, _⟩
      refine ⟨by simp [freeN], ?_⟩
      simp (disch := omega) only [go_sem]
      rw [← er]
      refine fin_val (by simp (disch := omega) only [go_sem]) ?_
      show snap _ 6 _ = _
      simp (disch := omega) only [go_sem]
    · simp (disch := omega) only [go_sem, cond_true]
      rw [List.drop_zero, List.drop_zero, hvA, ← Int.natCast_ediv] at hov
      rw [List.drop_zero, hvA, ← Int.natCast_emod] at hr
      have er : rest = a % b := by omega
      have cn := con_l2normX out (a / b) (by omega) hog hov
      rw [hol] at cn
      have tO : out.take A.length = out := List.take_of_length_le (by omega)
      refine call_closed cn (by simp (disch := omega) only [go_sem, tO]) ?_
      rintro r hs ⟨rfl, rfl, _⟩
      refine ⟨by simp [freeN], ?_⟩
      simp (disch := omega) only [go_sem]
      rw [← er]
      rw [hfst rfl, lim_zero]
      refine fin_val (by simp (disch := omega) only [go_sem]) ?_
      show snap _ 6 _ = _
      simp (disch := omega) only [go_sem]
  · have ei : ((i + 1 : Nat) : Int) - 1 = (i : Nat) := by omega
    have hx := gd_getD hA i
    obtain ⟨c, hc⟩ := Int.eq_ofNat_of_zero_le hx.1
    have h2 : decide (0 ≤ (i : Int)) = true := decide_eq_true (by omega)
    have hvd := vl_drop (l := A) (i := i) (by omega)
    obtain ⟨R, hR⟩ : ∃ R : Nat, R = c + 65536 * rest := ⟨_, rfl⟩
    have hRb : R < b * 65536 := by
      have : rest + 1 ≤ b := hr0
      have := Nat.mul_le_mul_left 65536 this
      omega
    have lRR : (lim R).length ≤ 2 ^ 40 := by
      have b2 := bl_len (m := b)
      have b1 := bl_mulle b 65536
      have b3 : bl 65536 ≤ 17 := bl_le.2 (by omega)
      have := len_bl (Nat.le_trans (bl_mono (Nat.le_of_lt hRb)) (Nat.le_trans b1 (Nat.add_le_add b2 b3)))
      omega
    simp (disch := omega) only [go_sem, ei, h2]
    refine draw_of rfl [⟨0, [], []⟩, ⟨1, [], []⟩, ⟨2, [1], []⟩, ⟨3, [], []⟩, ⟨4, [], []⟩, ⟨6, [1, 4], []⟩, ⟨7, [1, 4], []⟩, ⟨5, [7], []⟩, ⟨8, [], []⟩, ⟨9, [], []⟩, ⟨10, [], []⟩] (by kernel_rfl) ?_
    cases fst
    · simp (disch := omega) only [go_sem, cond_false]
      rw [hc]
      refine ⟨by omega, by omega, by omega, ?_⟩
      have gX : gd ((c : Int) :: lim rest) := gd_cons.2 ⟨by omega, gd_lim rest⟩
      have vX : vl ((c : Int) :: lim rest) = (R : Int) := by rw [vl, vl_lim, hR]; omega
      have eX : (AV.v (Value.int IntKind.i64 (c : Int)) :: ints (lim rest)) = ints ((c : Int) :: lim rest) := rfl
      rw [eX]
      have lX : ((c : Int) :: lim rest).length = 1 + (lim rest).length := by rw [List.length_cons]; omega
      have cn := con_l2normX ((c : Int) :: lim rest) R (by omega) gX vX
      rw [lX] at cn
      generalize ((c : Int) :: lim rest) = X at *
      have tX : X.take (1 + (lim rest).length) = X := List.take_of_length_le (by omega)
      refine call_closed cn (by simp (disch := omega) only [go_sem, tX]) ?_
      rintro r hs ⟨rfl, rfl, _⟩
      refine ⟨by simp [freeN], ?_⟩
      simp (disch := omega) only [go_sem]
      have e6 : ((65536 : Nat) : Int) = 65536 := rfl
      refine loop_intro (fun y : Nat × Nat => [(2, .pt 2 0), (3, .pt 3 0), (4, .pt 4 0), (5, .pt 5 0), (8, .rf 1 0 A.length), (9, .pt 0 0), (10, .v (.int .i64 (i : Int))), (11, .v (.int .i64 y.1)), (12, .v (.int .i64 y.2))])
        (fun y => [(0, .own 0 [.sl (lim (R)).length (ints (lim (R)))]), (1, .own 1 (ints out)), (2, .own 0 [.sl A.length (ints A)]), (3, .own 0 [.sl (lim (b)).length (ints (lim (b)))]), (4, .own 0 [.v (.slice none 0 0)]), (5, .own 0 [.v (.slice none 0 0)])])
        (fun y => y.1 < y.2 ∧ y.2 ≤ 65536 ∧ b * y.1 ≤ R ∧ R < b * y.2)
        (fun y => y.2 - y.1) (0, 65536) ⟨by omega, by omega, by omega, by omega⟩
        (Le.lst [] _ _ rfl (by simp (disch := omega) only [go_sem, e6]; try omega) (by simp (disch := omega) only [go_sem]; try rfl)) ?_
      rintro ⟨lo, hi⟩ ⟨g1, g2, g3, g4⟩
      dsimp only at g1 g2 g3 g4 ⊢
      simp (disch := omega) only [go_sem]
      refine ifW_dec (fun h5 => ?_) (fun h5 => ?_)
      · simp (disch := omega) only [go_sem, h5]
        obtain ⟨mid, hmid⟩ : ∃ mid : Nat, mid = (lo + hi) / 2 := ⟨_, rfl⟩
        have em : ((lo : Int) + (hi : Int)) / 2 = (mid : Int) := by omega
        have lm : (lim mid).length ≤ 1000000 := by have := len_bl (m := mid) (B := 17) (bl_le.2 (by omega)); omega
        have lbm : (lim (b * mid)).length ≤ 2 ^ 40 := by
          have b1 := bl_mulle b mid
          have b2 := bl_len (m := b)
          have b3 : bl mid ≤ 17 := bl_le.2 (by omega)
          have := len_bl (Nat.le_trans b1 (Nat.add_le_add b2 b3))
          omega
        refine draw_of rfl [⟨0, [], []⟩, ⟨1, [0], []⟩, ⟨4, [0], []⟩, ⟨2, [0, 4], []⟩, ⟨3, [4], []⟩, ⟨5, [], []⟩, ⟨6, [], []⟩] (by kernel_rfl) ?_
        simp (disch := omega) only [go_sem, em]
        refine call_open (con_l2ofF mid (by omega)) (by simp (disch := omega) only [go_sem]) ?_
        rintro r hs ⟨rfl, rfl, _⟩
        refine ⟨by simp [freeN], ?_⟩
        simp (disch := omega) only [go_sem]
        refine call_open (con_l2mulF b mid (by omega) lm) (by simp (disch := omega) only [go_sem]) ?_
        rintro r hs ⟨rfl, rfl, _⟩
        refine ⟨by simp [freeN], ?_⟩
        simp (disch := omega) only [go_sem]
        refine call_closed (con_l2cmp (b * mid) R lbm lRR) (by simp (disch := omega) only [go_sem]) ?_
        rintro r hs ⟨rfl, rfl, _⟩
        refine ⟨by simp [freeN], ?_⟩
        simp (disch := omega) only [go_sem]
        have hcm := (cmpI_le ((b * mid : Nat) : Int) (R : Int)).1
        refine ifW_dec (fun h6 => ?_) (fun h6 => ?_)
        · simp (disch := omega) only [go_sem, h6]
          have h7 := hcm.1 h6
          exact next_intro (mid, hi) [] ⟨by show mid < hi; omega, g2, by show b * mid ≤ R; omega, g4⟩ (by show hi - mid < hi - lo; omega) rfl (by simp (disch := omega) only [go_sem]; try omega) (by simp (disch := omega) only [go_sem]; try rfl)
        · simp (disch := omega) only [go_sem, h6]
          have h7 : ¬ ((b * mid : Nat) : Int) ≤ (R : Int) := fun h => h6 (hcm.2 h)
          exact next_intro (lo, mid) [] ⟨by show lo < mid; omega, by show mid ≤ 65536; omega, g3, by show R < b * mid; omega⟩ (by show mid - lo < hi - lo; omega) rfl (by simp (disch := omega) only [go_sem]; try omega) (by simp (disch := omega) only [go_sem]; try rfl)
      · simp (disch := omega) only [go_sem, h5]
        have ehi : hi = lo + 1 := by omega
        subst ehi
        have hlo : R / b = lo := by
          refine Nat.div_eq_of_lt_le ?_ ?_
          · rw [Nat.mul_comm]; exact g3
          · rw [Nat.mul_comm]; exact g4
        have ll : (lim lo).length ≤ 1000000 := by have := len_bl (m := lo) (B := 17) (bl_le.2 (by omega)); omega
        refine ⟨by omega, by omega, ?_⟩
        refine draw_of rfl [⟨0, [], []⟩, ⟨1, [0], []⟩, ⟨2, [0, 1], []⟩, ⟨3, [0, 1], []⟩, ⟨4, [0], []⟩, ⟨5, [], []⟩, ⟨6, [], []⟩] (by kernel_rfl) ?_
        simp (disch := omega) only [go_sem]
        refine call_open (con_l2ofF lo (by omega)) (by simp (disch := omega) only [go_sem]) ?_
        rintro r hs ⟨rfl, rfl, _⟩
        refine ⟨by simp [freeN], ?_⟩
        simp (disch := omega) only [go_sem]
        refine call_open (con_l2mulF b lo (by omega) ll) (by simp (disch := omega) only [go_sem]) ?_
        rintro r hs ⟨rfl, rfl, _⟩
        refine ⟨by simp [freeN], ?_⟩
        simp (disch := omega) only [go_sem]
        have lR2 : (lim R).length ≤ 1000000 := by
          have := len_bl (Nat.le_trans (bl_mono (Nat.le_of_lt hRb)) (Nat.le_trans (bl_mulle b 65536) (Nat.add_le_add (bl_len (m := b)) (show bl 65536 ≤ 17 from bl_le.2 (by omega)))))
          omega
        refine call_open (con_l2subF R (b * lo) g3 lR2) (by simp (disch := omega) only [go_sem]) ?_
        rintro r hs ⟨rfl, rfl, _⟩
        refine ⟨by simp [freeN], ?_⟩
        simp (disch := omega) only [go_sem]
        have hsub : R - b * lo = R % b := by have := Nat.div_add_mod R b; rw [hlo] at this; omega
        rw [hsub]
        have hV := Int.emod_add_mul_ediv (vl (A.drop (i + 1))) (b : Int)
        have hRI : (R : Int) = (c : Int) + 65536 * (rest : Int) := by rw [hR]; omega
        have hsum : vl (A.drop i) = (R : Int) + (b : Int) * (65536 * (vl (A.drop (i + 1)) / (b : Int))) := by
          rw [hvd, hc, hRI, hr]
          generalize vl (A.drop (i + 1)) / (b : Int) = q at *
          generalize vl (A.drop (i + 1)) % (b : Int) = m at *
          rw [← hV]
          grind
        refine next_intro (i, out.set i (lo : Int), R % b, false) [] ⟨by show i ≤ A.length; omega, by simp [hol], gd_set hog ⟨by omega, by omega⟩, ?_, ?_, fun h => by cases h⟩ (by show i < i + 1; omega) rfl (by simp (disch := omega) only [go_sem]; try omega) (by simp (disch := omega) only [go_sem, cond_false])
        · show ((R % b : Nat) : Int) = vl (A.drop i) % (b : Int)
          rw [hsum, Int.add_mul_emod_self_left, Int.natCast_emod]
        · show vl ((out.set i (lo : Int)).drop i) = vl (A.drop i) / (b : Int)
          rw [hsum, Int.add_mul_ediv_left _ _ (by omega), drop_set (by omega), vl, hov, ← Int.natCast_ediv, hlo]
    · simp (disch := omega) only [go_sem, cond_true]
      rw [hc]
      refine ⟨by omega, by omega, ?_⟩
      have hr00 : rest = 0 := hfst rfl
      have gX : gd [(c : Int)] := gd_cons.2 ⟨by omega, by simp [gd]⟩
      have vX : vl [(c : Int)] = (R : Int) := by rw [vl, vl, hR, hr00]; omega
      have eX : [AV.v (Value.int IntKind.i64 (c : Int))] = ints [(c : Int)] := rfl
      rw [eX]
      have cn := con_l2normX [(c : Int)] R (by simp) gX vX
      rw [List.length_singleton] at cn
      generalize hXX : [(c : Int)] = X at *
      have tX : X.take 1 = X := by rw [← hXX]; rfl
      refine call_closed cn (by simp (disch := omega) only [go_sem, tX]) ?_
      rintro r hs ⟨rfl, rfl, _⟩
      refine ⟨by simp [freeN], ?_⟩
      simp (disch := omega) only [go_sem]
      have e6 : ((65536 : Nat) : Int) = 65536 := rfl
      refine loop_intro (fun y : Nat × Nat => [(2, .pt 2 0), (3, .pt 3 0), (4, .pt 4 0), (5, .pt 5 0), (8, .rf 1 0 A.length), (9, .pt 0 0), (10, .v (.int .i64 (i : Int))), (11, .v (.int .i64 y.1)), (12, .v (.int .i64 y.2))])
        (fun y => [(0, .own 0 [.sl (lim (R)).length (ints (lim (R)))]), (1, .own 1 (ints out)), (2, .own 0 [.sl A.length (ints A)]), (3, .own 0 [.sl (lim (b)).length (ints (lim (b)))]), (4, .own 0 [.v (.slice none 0 0)]), (5, .own 0 [.v (.slice none 0 0)])])
        (fun y => y.1 < y.2 ∧ y.2 ≤ 65536 ∧ b * y.1 ≤ R ∧ R < b * y.2)
        (fun y => y.2 - y.1) (0, 65536) ⟨by omega, by omega, by omega, by omega⟩
        (Le.lst [] _ _ rfl (by simp (disch := omega) only [go_sem, e6]; try omega) (by simp (disch := omega) only [go_sem]; try rfl)) ?_
      rintro ⟨lo, hi⟩ ⟨g1, g2, g3, g4⟩
      dsimp only at g1 g2 g3 g4 ⊢
      simp (disch := omega) only [go_sem]
      refine ifW_dec (fun h5 => ?_) (fun h5 => ?_)
      · simp (disch := omega) only [go_sem, h5]
        obtain ⟨mid, hmid⟩ : ∃ mid : Nat, mid = (lo + hi) / 2 := ⟨_, rfl⟩
        have em : ((lo : Int) + (hi : Int)) / 2 = (mid : Int) := by omega
        have lm : (lim mid).length ≤ 1000000 := by have := len_bl (m := mid) (B := 17) (bl_le.2 (by omega)); omega
        have lbm : (lim (b * mid)).length ≤ 2 ^ 40 := by
          have b1 := bl_mulle b mid
          have b2 := bl_len (m := b)
          have b3 : bl mid ≤ 17 := bl_le.2 (by omega)
          have := len_bl (Nat.le_trans b1 (Nat.add_le_add b2 b3))
          omega
        refine draw_of rfl [⟨0, [], []⟩, ⟨1, [0], []⟩, ⟨4, [0], []⟩, ⟨2, [0, 4], []⟩, ⟨3, [4], []⟩, ⟨5, [], []⟩, ⟨6, [], []⟩] (by kernel_rfl) ?_
        simp (disch := omega) only [go_sem, em]
        refine call_open (con_l2ofF mid (by omega)) (by simp (disch := omega) only [go_sem]) ?_
        rintro r hs ⟨rfl, rfl, _⟩
        refine ⟨by simp [freeN], ?_⟩
        simp (disch := omega) only [go_sem]
        refine call_open (con_l2mulF b mid (by omega) lm) (by simp (disch := omega) only [go_sem]) ?_
        rintro r hs ⟨rfl, rfl, _⟩
        refine ⟨by simp [freeN], ?_⟩
        simp (disch := omega) only [go_sem]
        refine call_closed (con_l2cmp (b * mid) R lbm lRR) (by simp (disch := omega) only [go_sem]) ?_
        rintro r hs ⟨rfl, rfl, _⟩
        refine ⟨by simp [freeN], ?_⟩
        simp (disch := omega) only [go_sem]
        have hcm := (cmpI_le ((b * mid : Nat) : Int) (R : Int)).1
        refine ifW_dec (fun h6 => ?_) (fun h6 => ?_)
        · simp (disch := omega) only [go_sem, h6]
          have h7 := hcm.1 h6
          exact next_intro (mid, hi) [] ⟨by show mid < hi; omega, g2, by show b * mid ≤ R; omega, g4⟩ (by show hi - mid < hi - lo; omega) rfl (by simp (disch := omega) only [go_sem]; try omega) (by simp (disch := omega) only [go_sem]; try rfl)
        · simp (disch := omega) only [go_sem, h6]
          have h7 : ¬ ((b * mid : Nat) : Int) ≤ (R : Int) := fun h => h6 (hcm.2 h)
          exact next_intro (lo, mid) [] ⟨by show lo < mid; omega, by show mid ≤ 65536; omega, g3, by show R < b * mid; omega⟩ (by show mid - lo < hi - lo; omega) rfl (by simp (disch := omega) only [go_sem]; try omega) (by simp (disch := omega) only [go_sem]; try rfl)
      · simp (disch := omega) only [go_sem, h5]
        have ehi : hi = lo + 1 := by omega
        subst ehi
        have hlo : R / b = lo := by
          refine Nat.div_eq_of_lt_le ?_ ?_
          · rw [Nat.mul_comm]; exact g3
          · rw [Nat.mul_comm]; exact g4
        have ll : (lim lo).length ≤ 1000000 := by have := len_bl (m := lo) (B := 17) (bl_le.2 (by omega)); omega
        refine ⟨by omega, by omega, ?_⟩
        refine draw_of rfl [⟨0, [], []⟩, ⟨1, [0], []⟩, ⟨2, [0, 1], []⟩, ⟨3, [0, 1], []⟩, ⟨4, [0], []⟩, ⟨5, [], []⟩, ⟨6, [], []⟩] (by kernel_rfl) ?_
        simp (disch := omega) only [go_sem]
        refine call_open (con_l2ofF lo (by omega)) (by simp (disch := omega) only [go_sem]) ?_
        rintro r hs ⟨rfl, rfl, _⟩
        refine ⟨by simp [freeN], ?_⟩
        simp (disch := omega) only [go_sem]
        refine call_open (con_l2mulF b lo (by omega) ll) (by simp (disch := omega) only [go_sem]) ?_
        rintro r hs ⟨rfl, rfl, _⟩
        refine ⟨by simp [freeN], ?_⟩
        simp (disch := omega) only [go_sem]
        have lR2 : (lim R).length ≤ 1000000 := by
          have := len_bl (Nat.le_trans (bl_mono (Nat.le_of_lt hRb)) (Nat.le_trans (bl_mulle b 65536) (Nat.add_le_add (bl_len (m := b)) (show bl 65536 ≤ 17 from bl_le.2 (by omega)))))
          omega
        refine call_open (con_l2subF R (b * lo) g3 lR2) (by simp (disch := omega) only [go_sem]) ?_
        rintro r hs ⟨rfl, rfl, _⟩
        refine ⟨by simp [freeN], ?_⟩
        simp (disch := omega) only [go_sem]
        have hsub : R - b * lo = R % b := by have := Nat.div_add_mod R b; rw [hlo] at this; omega
        rw [hsub]
        have hV := Int.emod_add_mul_ediv (vl (A.drop (i + 1))) (b : Int)
        have hRI : (R : Int) = (c : Int) + 65536 * (rest : Int) := by rw [hR]; omega
        have hsum : vl (A.drop i) = (R : Int) + (b : Int) * (65536 * (vl (A.drop (i + 1)) / (b : Int))) := by
          rw [hvd, hc, hRI, hr]
          generalize vl (A.drop (i + 1)) / (b : Int) = q at *
          generalize vl (A.drop (i + 1)) % (b : Int) = m at *
          rw [← hV]
          grind
        refine next_intro (i, out.set i (lo : Int), R % b, false) [] ⟨by show i ≤ A.length; omega, by simp [hol], gd_set hog ⟨by omega, by omega⟩, ?_, ?_, fun h => by cases h⟩ (by show i < i + 1; omega) rfl (by simp (disch := omega) only [go_sem]; try omega) (by simp (disch := omega) only [go_sem, cond_false])
        · show ((R % b : Nat) : Int) = vl (A.drop i) % (b : Int)
          rw [hsum, Int.add_mul_emod_self_left, Int.natCast_emod]
        · show vl ((out.set i (lo : Int)).drop i) = vl (A.drop i) / (b : Int)
          rw [hsum, Int.add_mul_ediv_left _ _ (by omega), drop_set (by omega), vl, hov, ← Int.natCast_ediv, hlo]
end Go.Ab
namespace Go.Ab
open Go Go.Proofs
set_option linter.unusedVariables false
set_option linter.unusedSimpArgs false

theorem con_l4mode (mode : Int) : Con Tryd.prog 12 true [.v (.int .i64 mode)] [] (isA (.v (.bool (decide (0 ≤ mode) && decide (mode ≤ 4))))) := by
  refine Con.of_aw Tryd.func12 rfl Tryd.ntmps12 (by simp) (by simp) (by simp) (W.sound ?_)
  show @W Tryd.prog 9 ⟨_⟩ ⟨fun x σ => @retW _ _ _ ⟨_⟩ _ ⟨_⟩ x σ⟩ _ _
  simp (disch := omega) only [go_sem]
  repeat' first
    | simp (disch := omega) only [go_sem, *]
    | (with_reducible refine ifW_dec (fun _ => ?_) (fun _ => ?_))
    | (with_reducible refine ifW_not (fun _ => ?_) (fun _ => ?_))
    | (with_reducible refine ifW_nb (fun _ => ?_) (fun _ => ?_))
    | (with_reducible refine ifW_b (fun _ => ?_) (fun _ => ?_))
  all_goals exact fin_valc (by simp (disch := omega) only [go_sem]) (by simp (disch := omega) only [go_sem]) ⟨by simp_all [tupA] <;> omega, rfl, rfl⟩

theorem con_l4ups (neg : Bool) (m k : Nat) (mode : Int) (hl : (lim m).length ≤ 2 ^ 40) (hk : 1 ≤ k) (hk2 : k ≤ 2 ^ 40) : Con Tryd.prog 59 true [.v (.bool neg), .ag [.sl (lim (m)).length (ints (lim (m)))], .v (.int .i64 k), .v (.int .i64 mode)] [] (isA (.v (.bool (upsB neg m k mode)))) := by
  refine Con.of_aw Tryd.func59 rfl Tryd.ntmps59 (by simp) (by simp) (by simp) (W.sound ?_)
  show @W Tryd.prog 44 ⟨_⟩ ⟨fun x σ => @retW _ _ _ ⟨_⟩ _ ⟨_⟩ x σ⟩ _ _
  have ek : ((k : Int) - 1) = ((k - 1 : Nat) : Int) := by omega
  have e1 : decide (((m / 2 ^ (k - 1) % 2 : Nat) : Int) = 1) = decide (m / 2 ^ (k - 1) % 2 = 1) := by rw [decide_eq_decide]; omega
  have e2 : decide (((m / 2 ^ k % 2 : Nat) : Int) = 1) = decide (m / 2 ^ k % 2 = 1) := by rw [decide_eq_decide]; omega
  have e3 : decide ((tz m : Int) < ((k - 1 : Nat) : Int)) = decide (tz m < k - 1) := by rw [decide_eq_decide]; omega
  simp (disch := omega) only [go_sem, ek]
  refine call_closed (con_l2bit m ((k - 1 : Nat) : Int) hl (by omega) (by omega)) (by simp (disch := omega) only [go_sem, ek]) ?_
  rintro r hs ⟨rfl, rfl, _⟩
  refine ⟨by simp [freeN], ?_⟩
  simp (disch := omega) only [go_sem, ek, e1]
  refine call_closed (con_l2trail m hl) (by simp (disch := omega) only [go_sem]) ?_
  rintro r hs ⟨rfl, rfl, _⟩
  refine ⟨by simp [freeN], ?_⟩
  simp (disch := omega) only [go_sem]
  refine ifW_dec (fun h1 => ?_) (fun h1 => ?_)
  · simp (disch := omega) only [go_sem, h1]
    exact fin_valc (by simp (disch := omega) only [go_sem]) (by simp (disch := omega) only [go_sem]) ⟨by simp [tupA, upsB, h1], rfl, rfl⟩
  · simp (disch := omega) only [go_sem, h1]
    refine ifW_dec (fun h2 => ?_) (fun h2 => ?_)
    · simp (disch := omega) only [go_sem, h2]
      exact fin_valc (by simp (disch := omega) only [go_sem]) (by simp (disch := omega) only [go_sem]) ⟨by simp [tupA, upsB, h2], rfl, rfl⟩
    · simp (disch := omega) only [go_sem, h2]
      refine ifW_dec (fun h3 => ?_) (fun h3 => ?_)
      · simp (disch := omega) only [go_sem, h3]
        exact fin_valc (by simp (disch := omega) only [go_sem]) (by simp (disch := omega) only [go_sem]) ⟨by simp [tupA, upsB, h3], rfl, rfl⟩
      · simp (disch := omega) only [go_sem, h3]
        refine ifW_dec (fun h4 => ?_) (fun h4 => ?_)
        · simp (disch := omega) only [go_sem, h4]
          exact fin_valc (by simp (disch := omega) only [go_sem]) (by simp (disch := omega) only [go_sem]) ⟨by simp [tupA, upsB, h4], rfl, rfl⟩
        · simp (disch := omega) only [go_sem, h4]
          refine ifW_b (fun h5 => ?_) (fun h5 => ?_)
          · simp (disch := omega) only [go_sem, h5]
            refine ifW_nb (fun h6 => ?_) (fun h6 => ?_)
            · simp (disch := omega) only [go_sem, h6]
              refine call_closed (con_l2bit m (k : Int) hl (by omega) (by omega)) (by simp (disch := omega) only [go_sem]) ?_
              rintro r hs ⟨rfl, rfl, _⟩
              refine ⟨by simp [freeN], ?_⟩
              simp (disch := omega) only [go_sem]
              have h7 : decide (tz m < k - 1) = false := by rw [← e3, ← ek]; exact h6
              rw [e2]
              refine fin_valc (by simp (disch := omega) only [go_sem]) (by simp (disch := omega) only [go_sem]) ⟨?_, rfl, rfl⟩
              show AV.v (.bool _) = AV.v (.bool _)
              unfold upsB; rw [if_neg h1, if_neg h2, if_neg h3, if_neg h4, h5, h7]; rfl
            · simp (disch := omega) only [go_sem, h6]
              have h7 : decide (tz m < k - 1) = true := by rw [← e3, ← ek]; exact h6
              refine fin_valc (by simp (disch := omega) only [go_sem]) (by simp (disch := omega) only [go_sem]) ⟨?_, rfl, rfl⟩
              show AV.v (.bool _) = AV.v (.bool _)
              unfold upsB; rw [if_neg h1, if_neg h2, if_neg h3, if_neg h4, h5, h7]; rfl
          · simp (disch := omega) only [go_sem, h5]
            refine fin_valc (by simp (disch := omega) only [go_sem]) (by simp (disch := omega) only [go_sem]) ⟨?_, rfl, rfl⟩
            show AV.v (.bool _) = AV.v (.bool _)
            unfold upsB; rw [if_neg h1, if_neg h2, if_neg h3, if_neg h4, h5]; rfl

/-- A number in its one form, rounded: as the reference does it. -/
def srM (s : Bool) (m : Nat) (e low mode : Int) : Nat := oM (roM s m e low mode)
def srE (s : Bool) (m : Nat) (e low mode : Int) : Int := if low ≤ e ∨ m = 0 then e else oE (roM s m e low mode) low

theorem con_l4round (s : Bool) (m : Nat) (e low mode : Int) (hodd : m % 2 = 1 ∨ m = 0) (hs : m = 0 → s = false) (hmode : 0 ≤ mode ∧ mode ≤ 4) (hm : bl m ≤ 4000000) (he : -1000000 ≤ e ∧ e ≤ 1000000) (hlo : -1000000 ≤ low ∧ low ≤ 1000000) :
    Con Tryd.prog 41 false [.ag [.v (.bool (s)), .sl (lim (m)).length (ints (lim (m))), .v (.int .i64 (e))], .v (.int .i64 low), .v (.int .i64 mode)] []
      (isA (.tu [.ag [.v (.bool (oS (roS s m e low mode) (roM s m e low mode))), .sl (lim (srM s m e low mode)).length (ints (lim (srM s m e low mode))), .v (.int .i64 (srE s m e low mode))], .v (.bool (roX m e low))])) := by
  refine Con.frzA ?_
  have l1 := len_bl hm
  refine Con.of_aw Tryd.func41 rfl Tryd.ntmps41 (by simp) (by simp) (by simp) (W.sound ?_)
  show @W Tryd.prog 51 ⟨_⟩ ⟨fun x σ => @retW _ _ _ ⟨_⟩ _ ⟨_⟩ x σ⟩ _ _
  simp (disch := omega) only [go_sem]
  refine ifW_not (fun h1 => ?_) (fun h1 => ?_)
  · have h0 : m ≠ 0 := fun e => h1 (by rw [e, lim_zero]; rfl)
    have hod : m % 2 = 1 := hodd.resolve_right h0
    simp (disch := omega) only [go_sem, h1]
    refine ifW_dec (fun h2 => ?_) (fun h2 => ?_)
    · simp (disch := omega) only [go_sem, h2]
      refine fin_val (by simp (disch := omega) only [go_sem]) ?_
      show snap _ 6 _ = _
      have ht := tz_odd hod
      have e3 : oM m = m := by unfold oM; rw [ht]; simp
      simp only [srM, srE, roM, roS, roX, h2, true_or, if_true, oS, if_neg h0, e3]
      simp (disch := omega) only [go_sem]
    · simp (disch := omega) only [go_sem, h2]
      have ek : low - e = (((low - e).toNat : Nat) : Int) := by omega
      have hk1 : 1 ≤ (low - e).toNat := by omega
      refine call_open (con_l2shr m (low - e).toNat (by omega) (by omega)) (by simp (disch := omega) only [go_sem, ← ek]) ?_
      rintro r hs ⟨rfl, rfl, _⟩
      refine ⟨by simp [freeN], ?_⟩
      simp (disch := omega) only [go_sem]
      refine call_closed (con_l4ups s m (low - e).toNat mode (by omega) hk1 (by omega)) (by simp (disch := omega) only [go_sem, ← ek]) ?_
      rintro r hs ⟨rfl, rfl, _⟩
      refine ⟨by simp [freeN], ?_⟩
      simp (disch := omega) only [go_sem]
      have hc : ¬ (low ≤ e ∨ m = 0) := by omega
      have hne := odd_mod hod hk1
      have hups := ups_eq (neg := s) hod hk1 hmode
      have hq : roM s m e low mode = if upsB s m (low - e).toNat mode = true then m / 2 ^ (low - e).toNat + 1 else m / 2 ^ (low - e).toNat := by
        unfold roM rq
        rw [if_neg hc, if_neg hne, ← hups]
      have hro : roS s m e low mode = (s && decide (roM s m e low mode ≠ 0)) := by unfold roS roM; rw [if_neg hc, if_neg hc]
      have hblq : bl (m / 2 ^ (low - e).toNat + 1) ≤ 4000001 := by
        have h3 := bl_succ (m / 2 ^ (low - e).toNat)
        have h4 := bl_divle m (2 ^ (low - e).toNat)
        omega
      have hblq0 : bl (m / 2 ^ (low - e).toNat) ≤ 4000001 := Nat.le_trans (bl_mono (by omega)) hblq
      have lq := len_bl hblq
      have lq0 := len_bl hblq0
      have hrx : roX m e low = false := by unfold roX; rw [if_neg hc]; simp [hne]
      have hfin : ∀ q, roM s m e low mode = q → bl q ≤ 4000001 → AV.ag [.v (.bool (oS (s && decide (q ≠ 0)) q)), .sl (lim (oM q)).length (ints (lim (oM q))), .v (.int .i64 (oE q low))] = AV.ag [.v (.bool (oS (roS s m e low mode) (roM s m e low mode))), .sl (lim (srM s m e low mode)).length (ints (lim (srM s m e low mode))), .v (.int .i64 (srE s m e low mode))] := by
        intro q hq' _
        rw [hro, hq']
        unfold srM srE
        rw [if_neg hc, hq']
      refine ifW_b (fun h3 => ?_) (fun h3 => ?_)
      · rw [if_pos h3] at hq
        simp (disch := omega) only [go_sem, h3]
        refine draw_of rfl [⟨0, [], []⟩, ⟨1, [0], []⟩, ⟨2, [], []⟩, ⟨3, [], []⟩] (by kernel_rfl) ?_
        simp (disch := omega) only [go_sem]
        refine call_open (con_l2ofF 1 (by omega)) (by simp (disch := omega) only [go_sem]) ?_
        rintro r hs ⟨rfl, rfl, _⟩
        refine ⟨by simp [freeN], ?_⟩
        simp (disch := omega) only [go_sem]
        refine call_open (con_l2addF (m / 2 ^ (low - e).toNat) 1 (by omega) (by have := len_bl (m := 1) (B := 1) (by decide); omega)) (by simp (disch := omega) only [go_sem]) ?_
        rintro r hs ⟨rfl, rfl, _⟩
        refine ⟨by simp [freeN], ?_⟩
        simp (disch := omega) only [go_sem]
        refine call_open (con_l3make s (m / 2 ^ (low - e).toNat + 1) (by omega)) (by simp (disch := omega) only [go_sem]) ?_
        rintro r hs ⟨rfl, rfl, _⟩
        refine ⟨by simp [freeN], ?_⟩
        simp (disch := omega) only [go_sem]
        refine call_open (con_l4make (s && decide (m / 2 ^ (low - e).toNat + 1 ≠ 0)) (m / 2 ^ (low - e).toNat + 1) low (by omega) (by omega)) (by simp (disch := omega) only [go_sem]) ?_
        rintro r hs ⟨rfl, rfl, _⟩
        refine ⟨by simp [freeN], ?_⟩
        simp (disch := omega) only [go_sem]
        refine fin_val (by simp (disch := omega) only [go_sem]) ?_
        show snap _ 6 _ = _
        rw [← hfin _ hq hblq, hrx]
        simp (disch := omega) only [go_sem]
      · rw [if_neg (by rw [h3]; simp)] at hq
        simp (disch := omega) only [go_sem, h3]
        refine call_open (con_l3make s (m / 2 ^ (low - e).toNat) (by omega)) (by simp (disch := omega) only [go_sem]) ?_
        rintro r hs ⟨rfl, rfl, _⟩
        refine ⟨by simp [freeN], ?_⟩
        simp (disch := omega) only [go_sem]
        refine call_open (con_l4make (s && decide (m / 2 ^ (low - e).toNat ≠ 0)) (m / 2 ^ (low - e).toNat) low (by omega) (by omega)) (by simp (disch := omega) only [go_sem]) ?_
        rintro r hs ⟨rfl, rfl, _⟩
        refine ⟨by simp [freeN], ?_⟩
        simp (disch := omega) only [go_sem]
        refine fin_val (by simp (disch := omega) only [go_sem]) ?_
        show snap _ 6 _ = _
        rw [← hfin _ hq hblq0, hrx]
        simp (disch := omega) only [go_sem]
  · have h0 : m = 0 := lim_eq_nil.1 (List.length_eq_zero_iff.1 (by omega))
    simp (disch := omega) only [go_sem, h1]
    refine fin_val (by simp (disch := omega) only [go_sem]) ?_
    show snap _ 6 _ = _
    have hs0 := hs h0
    subst h0
    subst hs0
    simp only [srM, srE, roM, roS, roX, or_true, if_true, oS, oM_zero]
    simp (disch := omega) only [go_sem]
end Go.Ab
namespace Go.Ab
open Go Go.Proofs
set_option linter.unusedVariables false
set_option linter.unusedSimpArgs false

theorem con_l5most (s : Bool) : Con Tryd.prog 42 true [.v (.bool s)] [] (isA (.ag [.v (.int .i64 (1)), .v (.bool (s)), .v (.int .i64 (9007199254740991)), .v (.int .i64 (971))])) := by
  refine Con.of_aw Tryd.func42 rfl Tryd.ntmps42 (by simp) (by simp) (by simp) (W.sound ?_)
  show @W Tryd.prog 5 ⟨_⟩ ⟨fun x σ => @retW _ _ _ ⟨_⟩ _ ⟨_⟩ x σ⟩ _ _
  simp (disch := omega) only [go_sem]
  exact fin_valc (by simp (disch := omega) only [go_sem]) (by simp (disch := omega) only [go_sem]) isA_mk

theorem sr_eq {s : Bool} {m : Nat} {e low mode : Int} (hodd : m % 2 = 1) : srM s m e low mode = oM (roM s m e low mode) ∧ srE s m e low mode = oE (roM s m e low mode) (roE m e low) := by
  refine ⟨rfl, ?_⟩
  unfold srE
  by_cases h : low ≤ e ∨ m = 0
  · have h0 : m ≠ 0 := fun e => by omega
    rw [if_pos h]
    unfold roM roE oE
    rw [if_pos h, if_pos h, if_neg h0, tz_odd hodd]; simp
  · rw [if_neg h]
    unfold roE
    rw [if_neg h]

theorem roS_eq {s : Bool} {m : Nat} {e low mode : Int} (h : roM s m e low mode ≠ 0) : oS (roS s m e low mode) (roM s m e low mode) = s := by
  unfold oS; rw [if_neg h]
  unfold roS roM at *
  by_cases hc : low ≤ e ∨ m = 0
  · rw [if_pos hc]
  · rw [if_neg hc] at h ⊢
    simp [h]

theorem oE_bnd {m : Nat} {e : Int} {B : Nat} (h : bl m ≤ B) (he : -1000000 ≤ e ∧ e ≤ 1000000) : -1000000 ≤ oE m e ∧ oE m e ≤ 1000000 + B := by
  unfold oE
  by_cases h0 : m = 0
  · rw [if_pos h0]; omega
  · rw [if_neg h0]; have := tz_lt_bl h0; omega

set_option maxRecDepth 100000 in
set_option maxHeartbeats 1000000 in
theorem con_l5round (s : Bool) (m : Nat) (e mode : Int) (z : Bool) (hodd : m % 2 = 1 ∨ m = 0) (hs : m = 0 → s = false) (hmode : 0 ≤ mode ∧ mode ≤ 4) (hm : bl m ≤ 100000) (he : -100000 ≤ e ∧ e ≤ 100000) :
    Con Tryd.prog 24 true [.ag [.v (.bool (s)), .sl (lim (m)).length (ints (lim (m))), .v (.int .i64 (e))], .v (.int .i64 mode), .v (.bool z)] []
      (isA (.tu [.ag [.v (.int .i64 ((flV s m e mode z).k)), .v (.bool ((flV s m e mode z).s)), .v (.int .i64 ((flV s m e mode z).m)), .v (.int .i64 ((flV s m e mode z).e))], .v (.int .i64 (flG s m e mode))])) := by
  have hl := len_bl hm
  refine Con.of_aw Tryd.func24 rfl Tryd.ntmps24 (by simp) (by simp) (by simp) (W.sound ?_)
  show @W Tryd.prog 105 ⟨_⟩ ⟨fun x σ => @retW _ _ _ ⟨_⟩ _ ⟨_⟩ x σ⟩ _ _
  simp (disch := omega) only [go_sem]
  refine ifW_dec (fun h1 => ?_) (fun h1 => ?_)
  · have h0 : m = 0 := lim_eq_nil.1 (List.length_eq_zero_iff.1 (by omega))
    simp (disch := omega) only [go_sem, h1]
    refine fin_valc (by simp (disch := omega) only [go_sem]) (by simp (disch := omega) only [go_sem]) ⟨?_, rfl, rfl⟩
    simp only [tupA, flV, flG, h0, if_true]
  · have h0 : m ≠ 0 := fun e => h1 (by rw [e, lim_zero]; rfl)
    have hod : m % 2 = 1 := hodd.resolve_right h0
    simp (disch := omega) only [go_sem, h1]
    have etop : (if m = 0 then (0 : Int) else e + (bl m : Int)) = (bl m : Int) + e := by rw [if_neg h0]; omega
    refine call_closed (con_l4top s m e (by omega) (by omega)) (by simp (disch := omega) only [go_sem, etop]) ?_
    rintro r hs ⟨rfl, rfl, _⟩
    refine ⟨by simp [freeN], ?_⟩
    simp (disch := omega) only [go_sem]
    simp (disch := omega) only [go_sem, etop]
    have hL0 : flLow ((bl m : Int) + e) = (if -1074 > (bl m : Int) + e - 53 then -1074 else (bl m : Int) + e - 53) := rfl
    have hVG : ∀ (k mm ee fg : Int), flK s mode (roM s m e (flLow (bl m + e)) mode) (roE m e (flLow (bl m + e))) = k → flMm s mode (roM s m e (flLow (bl m + e)) mode) (roE m e (flLow (bl m + e))) = mm → flEe s mode (roM s m e (flLow (bl m + e)) mode) (roE m e (flLow (bl m + e))) = ee →
        flFl (bl m + e) (roX m e (flLow (bl m + e))) (roM s m e (flLow (bl m + e)) mode) (roE m e (flLow (bl m + e))) = fg →
        AV.tu [.ag [.v (.int .i64 k), .v (.bool s), .v (.int .i64 mm), .v (.int .i64 ee)], .v (.int .i64 fg)] = .tu [.ag [.v (.int .i64 ((flV s m e mode z).k)), .v (.bool ((flV s m e mode z).s)), .v (.int .i64 ((flV s m e mode z).m)), .v (.int .i64 ((flV s m e mode z).e))], .v (.int .i64 (flG s m e mode))] := by
      intro k mm ee fg g1 g2 g3 g4
      unfold flV flG
      rw [if_neg h0, if_neg h0, g1, g2, g3, g4]
    have hform := ro_form (s := s) (m := m) (e := e) (mode := mode) h0
    refine ifW_dec (fun h2 => ?_) (fun h2 => ?_)
    · have hL : flLow ((bl m : Int) + e) = -1074 := by unfold flLow; rw [if_pos (by omega)]
      simp (disch := omega) only [go_sem, h2]
      have hbl := ro_bl (s := s) (e := e) (low := -1074) (mode := mode) hm
      have hroE : -1000000 ≤ roE m e (-1074) ∧ roE m e (-1074) ≤ 1000000 := by unfold roE; split <;> omega
      obtain ⟨q1, q2⟩ := sr_eq (s := s) (e := e) (low := -1074) (mode := mode) hod
      have q3 := roS_eq (s := s) (m := m) (e := e) (low := -1074) (mode := mode)
      refine call_open (con_l4round s m e (-1074) mode hodd hs hmode (by omega) (by omega) (by omega)) (by simp (disch := omega) only [go_sem, etop]) ?_
      rintro r hs ⟨rfl, rfl, _⟩
      refine ⟨by simp [freeN], ?_⟩
      simp (disch := omega) only [go_sem]
      rw [hL] at hVG hform
      generalize srM s m e (-1074) mode = xm at *
      generalize srE s m e (-1074) mode = xe at *
      generalize oS (roS s m e (-1074) mode) (roM s m e (-1074) mode) = xs at *
      generalize hrm : roM s m e (-1074) mode = rm at *
      generalize hre : roE m e (-1074) = re at *
      generalize hrx : roX m e (-1074) = same at *
      have hxm0 : ((lim xm).length : Int) = 0 ↔ rm = 0 := by rw [q1, ← oM_eq_zero]; exact ⟨fun h => lim_eq_nil.1 (List.length_eq_zero_iff.1 (by omega)), fun h => by rw [h, lim_zero]; rfl⟩
      have hxmb : bl xm ≤ 100001 := by rw [q1]; exact Nat.le_trans (bl_mono (oM_le rm)) hbl
      have lxm := len_bl hxmb
      have hxeb : -2000000 ≤ xe ∧ xe ≤ 2000000 := by have := oE_bnd hbl hroE; omega
      have etop2 : rm ≠ 0 → (if xm = 0 then (0 : Int) else xe + (bl xm : Int)) = (bl rm : Int) + re := fun h => by
        have h2 := bl_oM h
        have h3 : xm ≠ 0 := by rw [q1]; exact fun e => h (oM_eq_zero.1 e)
        rw [if_neg h3, q2, q1]; unfold oE; rw [if_neg h]; omega
      refine ifW_nb (fun h3 => ?_) (fun h3 => ?_)
      · simp (disch := omega) only [go_sem, h3]
        refine call_closed (con_l4top s m e (by omega) (by omega)) (by simp (disch := omega) only [go_sem, etop]) ?_
        rintro r hs ⟨rfl, rfl, _⟩
        refine ⟨by simp [freeN], ?_⟩
        simp (disch := omega) only [go_sem]
        simp (disch := omega) only [go_sem, etop]
        refine ifW_dec (fun h4 => ?_) (fun h4 => ?_)
        · have hfl : flFlags (bl m + e) same = 5 := by unfold flFlags; rw [h3, if_neg (by simp), if_pos (by omega)]
          have e5 : ((1 ||| 4 : Nat) : Int) = 5 := rfl
          simp (disch := omega) only [go_sem, h4, e5]
          refine ifW_dec (fun h5 => ?_) (fun h5 => ?_)
          · have hr0 : rm = 0 := hxm0.1 h5
            simp (disch := omega) only [go_sem, h5]
            refine fin_valc (by simp (disch := omega) only [go_sem]) (by simp (disch := omega) only [go_sem]) ⟨?_, rfl, rfl⟩
            refine hVG 0 0 0 5 (by simp [flK, hr0]) (by simp [flMm, hr0]) (by simp [flEe, hr0]) (by simp [flFl, hr0, hfl])
          · have hr0 : rm ≠ 0 := fun e => h5 (hxm0.2 e)
            have et2 := etop2 hr0
            have hxs : xs = s := q3 hr0
            have hff := hform hr0
            have hM := flM_lt hr0 hff
            simp (disch := omega) only [go_sem, h5]
            refine call_closed (con_l4top xs xm xe (by omega) (by omega)) (by simp (disch := omega) only [go_sem, et2]) ?_
            rintro r hs ⟨rfl, rfl, _⟩
            refine ⟨by simp [freeN], ?_⟩
            simp (disch := omega) only [go_sem]
            simp (disch := omega) only [go_sem, et2]
            refine ifW_dec (fun h6 => ?_) (fun h6 => ?_)
            · have hov : ∀ (k mm ee : Int), k = (if ovB s mode then 1 else 2) → mm = (if ovB s mode then 9007199254740991 else 0) → ee = (if ovB s mode then 971 else 0) → AV.tu [.ag [.v (.int .i64 k), .v (.bool s), .v (.int .i64 mm), .v (.int .i64 ee)], .v (.int .i64 3)] = .tu [.ag [.v (.int .i64 ((flV s m e mode z).k)), .v (.bool ((flV s m e mode z).s)), .v (.int .i64 ((flV s m e mode z).m)), .v (.int .i64 ((flV s m e mode z).e))], .v (.int .i64 (flG s m e mode))] := by
                rintro k mm ee rfl rfl rfl
                exact hVG _ _ _ 3 (by unfold flK; rw [if_neg hr0, if_pos h6]) (by unfold flMm; rw [if_neg hr0, if_pos h6]) (by unfold flEe; rw [if_neg hr0, if_pos h6]) (by unfold flFl; rw [if_pos ⟨hr0, h6⟩])
              clear hVG hform hrm hrx q3 hxs et2 hfl
              obtain rfl | rfl | rfl | rfl | rfl : mode = 0 ∨ mode = 1 ∨ mode = 2 ∨ mode = 3 ∨ mode = 4 := by omega
              · cases s
                · simp (disch := omega) only [go_sem, h6]
                  refine fin_valc (by simp (disch := omega) only [go_sem]) (by simp (disch := omega) only [go_sem]) ⟨?_, rfl, rfl⟩
                  exact hov _ _ _ rfl rfl rfl
                · simp (disch := omega) only [go_sem, h6]
                  refine fin_valc (by simp (disch := omega) only [go_sem]) (by simp (disch := omega) only [go_sem]) ⟨?_, rfl, rfl⟩
                  exact hov _ _ _ rfl rfl rfl
              · cases s
                · simp (disch := omega) only [go_sem, h6]
                  refine call_closed (con_l5most false) (by simp (disch := omega) only [go_sem]) ?_
                  rintro r hs ⟨rfl, rfl, _⟩
                  refine ⟨by simp [freeN], ?_⟩
                  simp (disch := omega) only [go_sem]
                  refine fin_valc (by simp (disch := omega) only [go_sem]) (by simp (disch := omega) only [go_sem]) ⟨?_, rfl, rfl⟩
                  exact hov _ _ _ rfl rfl rfl
                · simp (disch := omega) only [go_sem, h6]
                  refine call_closed (con_l5most true) (by simp (disch := omega) only [go_sem]) ?_
                  rintro r hs ⟨rfl, rfl, _⟩
                  refine ⟨by simp [freeN], ?_⟩
                  simp (disch := omega) only [go_sem]
                  refine fin_valc (by simp (disch := omega) only [go_sem]) (by simp (disch := omega) only [go_sem]) ⟨?_, rfl, rfl⟩
                  exact hov _ _ _ rfl rfl rfl
              · cases s
                · simp (disch := omega) only [go_sem, h6]
                  refine fin_valc (by simp (disch := omega) only [go_sem]) (by simp (disch := omega) only [go_sem]) ⟨?_, rfl, rfl⟩
                  exact hov _ _ _ rfl rfl rfl
                · simp (disch := omega) only [go_sem, h6]
                  refine call_closed (con_l5most true) (by simp (disch := omega) only [go_sem]) ?_
                  rintro r hs ⟨rfl, rfl, _⟩
                  refine ⟨by simp [freeN], ?_⟩
                  simp (disch := omega) only [go_sem]
                  refine fin_valc (by simp (disch := omega) only [go_sem]) (by simp (disch := omega) only [go_sem]) ⟨?_, rfl, rfl⟩
                  exact hov _ _ _ rfl rfl rfl
              · cases s
                · simp (disch := omega) only [go_sem, h6]
                  refine call_closed (con_l5most false) (by simp (disch := omega) only [go_sem]) ?_
                  rintro r hs ⟨rfl, rfl, _⟩
                  refine ⟨by simp [freeN], ?_⟩
                  simp (disch := omega) only [go_sem]
                  refine fin_valc (by simp (disch := omega) only [go_sem]) (by simp (disch := omega) only [go_sem]) ⟨?_, rfl, rfl⟩
                  exact hov _ _ _ rfl rfl rfl
                · simp (disch := omega) only [go_sem, h6]
                  refine fin_valc (by simp (disch := omega) only [go_sem]) (by simp (disch := omega) only [go_sem]) ⟨?_, rfl, rfl⟩
                  exact hov _ _ _ rfl rfl rfl
              · cases s
                · simp (disch := omega) only [go_sem, h6]
                  refine fin_valc (by simp (disch := omega) only [go_sem]) (by simp (disch := omega) only [go_sem]) ⟨?_, rfl, rfl⟩
                  exact hov _ _ _ rfl rfl rfl
                · simp (disch := omega) only [go_sem, h6]
                  refine fin_valc (by simp (disch := omega) only [go_sem]) (by simp (disch := omega) only [go_sem]) ⟨?_, rfl, rfl⟩
                  exact hov _ _ _ rfl rfl rfl
            · simp (disch := omega) only [go_sem, h6]
              refine call_closed (con_l4top xs xm xe (by omega) (by omega)) (by simp (disch := omega) only [go_sem, et2]) ?_
              rintro r hs ⟨rfl, rfl, _⟩
              refine ⟨by simp [freeN], ?_⟩
              simp (disch := omega) only [go_sem]
              simp (disch := omega) only [go_sem, et2]
              have hfin : ∀ mm : Int, mm = (flM rm re : Int) → AV.tu [.ag [.v (.int .i64 1), .v (.bool xs), .v (.int .i64 mm), .v (.int .i64 (flE rm re))], .v (.int .i64 5)] = .tu [.ag [.v (.int .i64 ((flV s m e mode z).k)), .v (.bool ((flV s m e mode z).s)), .v (.int .i64 ((flV s m e mode z).m)), .v (.int .i64 ((flV s m e mode z).e))], .v (.int .i64 (flG s m e mode))] := by
                rintro mm rfl
                rw [hxs]
                exact hVG 1 _ _ 5 (by unfold flK; rw [if_neg hr0, if_neg (by omega)]) (by unfold flMm; rw [if_neg hr0, if_neg (by omega)]) (by unfold flEe; rw [if_neg hr0, if_neg (by omega)]) (by unfold flFl; rw [if_neg (by omega), hfl])
              have ek : xe - flE rm re = (((oE rm re - flE rm re).toNat : Nat) : Int) := by omega
              have hk9 : (oE rm re - flE rm re).toNat ≤ 53 := by have h9 := hM; unfold flM at h9; rw [bl_mul_pow (fun e => hr0 (oM_eq_zero.1 e))] at h9; omega
              have hM6 : flM rm re < 2 ^ 53 := Nat.lt_of_lt_of_le (bl_lt _) (Nat.pow_le_pow_right (by omega) hM)
              have eM : xm * 2 ^ (oE rm re - flE rm re).toNat = flM rm re := by rw [q1]; rfl
              generalize hkk : (oE rm re - flE rm re).toNat = kk at *
              refine ifW_dec (fun h7 => ?_) (fun h7 => ?_)
              · have eE : flE rm re = -1074 := by unfold flE flLow; rw [if_pos (by omega)]
                simp (disch := omega) only [go_sem, h7]
                rw [eE] at ek hfin
                try rw [← et2] at hfin
                refine draw_of rfl [⟨0, [], []⟩, ⟨1, [], []⟩, ⟨2, [], []⟩, ⟨3, [2], []⟩, ⟨4, [2], []⟩, ⟨5, [2], []⟩, ⟨6, [2, 5], []⟩, ⟨7, [2, 5], []⟩, ⟨8, [2, 5, 7], []⟩, ⟨9, [2, 5], []⟩, ⟨12, [2, 5, 7], []⟩, ⟨14, [2, 5, 7], []⟩, ⟨10, [2], []⟩, ⟨11, [2], []⟩, ⟨13, [], []⟩, ⟨15, [], []⟩, ⟨16, [], []⟩] (by kernel_rfl) ?_
                simp (disch := omega) only [go_sem]
                refine call_open (con_l2shlF xm kk (by omega) (by omega)) (by simp (disch := omega) only [go_sem, ek, et2]) ?_
                rintro r hs ⟨rfl, rfl, _⟩
                refine ⟨by simp [freeN], ?_⟩
                simp (disch := omega) only [go_sem]
                refine call_closed (con_l2int (xm * 2 ^ kk) (by rw [eM]; omega)) (by simp (disch := omega) only [go_sem]) ?_
                rintro r hs ⟨rfl, rfl, _⟩
                refine ⟨by simp [freeN], ?_⟩
                simp (disch := omega) only [go_sem]
                refine fin_valc (by simp (disch := omega) only [go_sem]) (by simp (disch := omega) only [go_sem]) ⟨?_, rfl, rfl⟩
                exact hfin ((xm * 2 ^ kk : Nat) : Int) (by rw [eM])
              · have eE : flE rm re = (bl rm : Int) + re - 53 := by unfold flE flLow; rw [if_neg (by omega)]
                simp (disch := omega) only [go_sem, h7]
                rw [eE] at ek hfin
                try rw [← et2] at hfin
                refine draw_of rfl [⟨0, [], []⟩, ⟨1, [], []⟩, ⟨2, [], []⟩, ⟨3, [2], []⟩, ⟨4, [2], []⟩, ⟨5, [2], []⟩, ⟨6, [2, 5], []⟩, ⟨7, [2, 5], []⟩, ⟨8, [2, 5, 7], []⟩, ⟨9, [2, 5], []⟩, ⟨12, [2, 5, 7], []⟩, ⟨14, [2, 5, 7], []⟩, ⟨10, [2], []⟩, ⟨11, [2], []⟩, ⟨13, [], []⟩, ⟨15, [], []⟩, ⟨16, [], []⟩] (by kernel_rfl) ?_
                simp (disch := omega) only [go_sem]
                refine call_open (con_l2shlF xm kk (by omega) (by omega)) (by simp (disch := omega) only [go_sem, ek, et2]) ?_
                rintro r hs ⟨rfl, rfl, _⟩
                refine ⟨by simp [freeN], ?_⟩
                simp (disch := omega) only [go_sem]
                refine call_closed (con_l2int (xm * 2 ^ kk) (by rw [eM]; omega)) (by simp (disch := omega) only [go_sem]) ?_
                rintro r hs ⟨rfl, rfl, _⟩
                refine ⟨by simp [freeN], ?_⟩
                simp (disch := omega) only [go_sem]
                refine fin_valc (by simp (disch := omega) only [go_sem]) (by simp (disch := omega) only [go_sem]) ⟨?_, rfl, rfl⟩
                exact hfin ((xm * 2 ^ kk : Nat) : Int) (by rw [eM])
        · have hfl : flFlags (bl m + e) same = 1 := by unfold flFlags; rw [h3, if_neg (by simp), if_neg (by omega)]
          have e5 := (rfl : (0 : Nat) = 0)
          simp (disch := omega) only [go_sem, h4]
          refine ifW_dec (fun h5 => ?_) (fun h5 => ?_)
          · have hr0 : rm = 0 := hxm0.1 h5
            simp (disch := omega) only [go_sem, h5]
            refine fin_valc (by simp (disch := omega) only [go_sem]) (by simp (disch := omega) only [go_sem]) ⟨?_, rfl, rfl⟩
            refine hVG 0 0 0 1 (by simp [flK, hr0]) (by simp [flMm, hr0]) (by simp [flEe, hr0]) (by simp [flFl, hr0, hfl])
          · have hr0 : rm ≠ 0 := fun e => h5 (hxm0.2 e)
            have et2 := etop2 hr0
            have hxs : xs = s := q3 hr0
            have hff := hform hr0
            have hM := flM_lt hr0 hff
            simp (disch := omega) only [go_sem, h5]
            refine call_closed (con_l4top xs xm xe (by omega) (by omega)) (by simp (disch := omega) only [go_sem, et2]) ?_
            rintro r hs ⟨rfl, rfl, _⟩
            refine ⟨by simp [freeN], ?_⟩
            simp (disch := omega) only [go_sem]
            simp (disch := omega) only [go_sem, et2]
            refine ifW_dec (fun h6 => ?_) (fun h6 => ?_)
            · have hov : ∀ (k mm ee : Int), k = (if ovB s mode then 1 else 2) → mm = (if ovB s mode then 9007199254740991 else 0) → ee = (if ovB s mode then 971 else 0) → AV.tu [.ag [.v (.int .i64 k), .v (.bool s), .v (.int .i64 mm), .v (.int .i64 ee)], .v (.int .i64 3)] = .tu [.ag [.v (.int .i64 ((flV s m e mode z).k)), .v (.bool ((flV s m e mode z).s)), .v (.int .i64 ((flV s m e mode z).m)), .v (.int .i64 ((flV s m e mode z).e))], .v (.int .i64 (flG s m e mode))] := by
                rintro k mm ee rfl rfl rfl
                exact hVG _ _ _ 3 (by unfold flK; rw [if_neg hr0, if_pos h6]) (by unfold flMm; rw [if_neg hr0, if_pos h6]) (by unfold flEe; rw [if_neg hr0, if_pos h6]) (by unfold flFl; rw [if_pos ⟨hr0, h6⟩])
              clear hVG hform hrm hrx q3 hxs et2 hfl
              obtain rfl | rfl | rfl | rfl | rfl : mode = 0 ∨ mode = 1 ∨ mode = 2 ∨ mode = 3 ∨ mode = 4 := by omega
              · cases s
                · simp (disch := omega) only [go_sem, h6]
                  refine fin_valc (by simp (disch := omega) only [go_sem]) (by simp (disch := omega) only [go_sem]) ⟨?_, rfl, rfl⟩
                  exact hov _ _ _ rfl rfl rfl
                · simp (disch := omega) only [go_sem, h6]
                  refine fin_valc (by simp (disch := omega) only [go_sem]) (by simp (disch := omega) only [go_sem]) ⟨?_, rfl, rfl⟩
                  exact hov _ _ _ rfl rfl rfl
              · cases s
                · simp (disch := omega) only [go_sem, h6]
                  refine call_closed (con_l5most false) (by simp (disch := omega) only [go_sem]) ?_
                  rintro r hs ⟨rfl, rfl, _⟩
                  refine ⟨by simp [freeN], ?_⟩
                  simp (disch := omega) only [go_sem]
                  refine fin_valc (by simp (disch := omega) only [go_sem]) (by simp (disch := omega) only [go_sem]) ⟨?_, rfl, rfl⟩
                  exact hov _ _ _ rfl rfl rfl
                · simp (disch := omega) only [go_sem, h6]
                  refine call_closed (con_l5most true) (by simp (disch := omega) only [go_sem]) ?_
                  rintro r hs ⟨rfl, rfl, _⟩
                  refine ⟨by simp [freeN], ?_⟩
                  simp (disch := omega) only [go_sem]
                  refine fin_valc (by simp (disch := omega) only [go_sem]) (by simp (disch := omega) only [go_sem]) ⟨?_, rfl, rfl⟩
                  exact hov _ _ _ rfl rfl rfl
              · cases s
                · simp (disch := omega) only [go_sem, h6]
                  refine fin_valc (by simp (disch := omega) only [go_sem]) (by simp (disch := omega) only [go_sem]) ⟨?_, rfl, rfl⟩
                  exact hov _ _ _ rfl rfl rfl
                · simp (disch := omega) only [go_sem, h6]
                  refine call_closed (con_l5most true) (by simp (disch := omega) only [go_sem]) ?_
                  rintro r hs ⟨rfl, rfl, _⟩
                  refine ⟨by simp [freeN], ?_⟩
                  simp (disch := omega) only [go_sem]
                  refine fin_valc (by simp (disch := omega) only [go_sem]) (by simp (disch := omega) only [go_sem]) ⟨?_, rfl, rfl⟩
                  exact hov _ _ _ rfl rfl rfl
              · cases s
                · simp (disch := omega) only [go_sem, h6]
                  refine call_closed (con_l5most false) (by simp (disch := omega) only [go_sem]) ?_
                  rintro r hs ⟨rfl, rfl, _⟩
                  refine ⟨by simp [freeN], ?_⟩
                  simp (disch := omega) only [go_sem]
                  refine fin_valc (by simp (disch := omega) only [go_sem]) (by simp (disch := omega) only [go_sem]) ⟨?_, rfl, rfl⟩
                  exact hov _ _ _ rfl rfl rfl
                · simp (disch := omega) only [go_sem, h6]
                  refine fin_valc (by simp (disch := omega) only [go_sem]) (by simp (disch := omega) only [go_sem]) ⟨?_, rfl, rfl⟩
                  exact hov _ _ _ rfl rfl rfl
              · cases s
                · simp (disch := omega) only [go_sem, h6]
                  refine fin_valc (by simp (disch := omega) only [go_sem]) (by simp (disch := omega) only [go_sem]) ⟨?_, rfl, rfl⟩
                  exact hov _ _ _ rfl rfl rfl
                · simp (disch := omega) only [go_sem, h6]
                  refine fin_valc (by simp (disch := omega) only [go_sem]) (by simp (disch := omega) only [go_sem]) ⟨?_, rfl, rfl⟩
                  exact hov _ _ _ rfl rfl rfl
            · simp (disch := omega) only [go_sem, h6]
              refine call_closed (con_l4top xs xm xe (by omega) (by omega)) (by simp (disch := omega) only [go_sem, et2]) ?_
              rintro r hs ⟨rfl, rfl, _⟩
              refine ⟨by simp [freeN], ?_⟩
              simp (disch := omega) only [go_sem]
              simp (disch := omega) only [go_sem, et2]
              have hfin : ∀ mm : Int, mm = (flM rm re : Int) → AV.tu [.ag [.v (.int .i64 1), .v (.bool xs), .v (.int .i64 mm), .v (.int .i64 (flE rm re))], .v (.int .i64 1)] = .tu [.ag [.v (.int .i64 ((flV s m e mode z).k)), .v (.bool ((flV s m e mode z).s)), .v (.int .i64 ((flV s m e mode z).m)), .v (.int .i64 ((flV s m e mode z).e))], .v (.int .i64 (flG s m e mode))] := by
                rintro mm rfl
                rw [hxs]
                exact hVG 1 _ _ 1 (by unfold flK; rw [if_neg hr0, if_neg (by omega)]) (by unfold flMm; rw [if_neg hr0, if_neg (by omega)]) (by unfold flEe; rw [if_neg hr0, if_neg (by omega)]) (by unfold flFl; rw [if_neg (by omega), hfl])
              have ek : xe - flE rm re = (((oE rm re - flE rm re).toNat : Nat) : Int) := by omega
              have hk9 : (oE rm re - flE rm re).toNat ≤ 53 := by have h9 := hM; unfold flM at h9; rw [bl_mul_pow (fun e => hr0 (oM_eq_zero.1 e))] at h9; omega
              have hM6 : flM rm re < 2 ^ 53 := Nat.lt_of_lt_of_le (bl_lt _) (Nat.pow_le_pow_right (by omega) hM)
              have eM : xm * 2 ^ (oE rm re - flE rm re).toNat = flM rm re := by rw [q1]; rfl
              generalize hkk : (oE rm re - flE rm re).toNat = kk at *
              refine ifW_dec (fun h7 => ?_) (fun h7 => ?_)
              · have eE : flE rm re = -1074 := by unfold flE flLow; rw [if_pos (by omega)]
                simp (disch := omega) only [go_sem, h7]
                rw [eE] at ek hfin
                try rw [← et2] at hfin
                refine draw_of rfl [⟨0, [], []⟩, ⟨1, [], []⟩, ⟨2, [], []⟩, ⟨3, [2], []⟩, ⟨4, [2], []⟩, ⟨5, [2], []⟩, ⟨6, [2, 5], []⟩, ⟨7, [2, 5], []⟩, ⟨8, [2, 5, 7], []⟩, ⟨9, [2, 5], []⟩, ⟨12, [2, 5, 7], []⟩, ⟨14, [2, 5, 7], []⟩, ⟨10, [2], []⟩, ⟨11, [2], []⟩, ⟨13, [], []⟩, ⟨15, [], []⟩, ⟨16, [], []⟩] (by kernel_rfl) ?_
                simp (disch := omega) only [go_sem]
                refine call_open (con_l2shlF xm kk (by omega) (by omega)) (by simp (disch := omega) only [go_sem, ek, et2]) ?_
                rintro r hs ⟨rfl, rfl, _⟩
                refine ⟨by simp [freeN], ?_⟩
                simp (disch := omega) only [go_sem]
                refine call_closed (con_l2int (xm * 2 ^ kk) (by rw [eM]; omega)) (by simp (disch := omega) only [go_sem]) ?_
                rintro r hs ⟨rfl, rfl, _⟩
                refine ⟨by simp [freeN], ?_⟩
                simp (disch := omega) only [go_sem]
                refine fin_valc (by simp (disch := omega) only [go_sem]) (by simp (disch := omega) only [go_sem]) ⟨?_, rfl, rfl⟩
                exact hfin ((xm * 2 ^ kk : Nat) : Int) (by rw [eM])
              · have eE : flE rm re = (bl rm : Int) + re - 53 := by unfold flE flLow; rw [if_neg (by omega)]
                simp (disch := omega) only [go_sem, h7]
                rw [eE] at ek hfin
                try rw [← et2] at hfin
                refine draw_of rfl [⟨0, [], []⟩, ⟨1, [], []⟩, ⟨2, [], []⟩, ⟨3, [2], []⟩, ⟨4, [2], []⟩, ⟨5, [2], []⟩, ⟨6, [2, 5], []⟩, ⟨7, [2, 5], []⟩, ⟨8, [2, 5, 7], []⟩, ⟨9, [2, 5], []⟩, ⟨12, [2, 5, 7], []⟩, ⟨14, [2, 5, 7], []⟩, ⟨10, [2], []⟩, ⟨11, [2], []⟩, ⟨13, [], []⟩, ⟨15, [], []⟩, ⟨16, [], []⟩] (by kernel_rfl) ?_
                simp (disch := omega) only [go_sem]
                refine call_open (con_l2shlF xm kk (by omega) (by omega)) (by simp (disch := omega) only [go_sem, ek, et2]) ?_
                rintro r hs ⟨rfl, rfl, _⟩
                refine ⟨by simp [freeN], ?_⟩
                simp (disch := omega) only [go_sem]
                refine call_closed (con_l2int (xm * 2 ^ kk) (by rw [eM]; omega)) (by simp (disch := omega) only [go_sem]) ?_
                rintro r hs ⟨rfl, rfl, _⟩
                refine ⟨by simp [freeN], ?_⟩
                simp (disch := omega) only [go_sem]
                refine fin_valc (by simp (disch := omega) only [go_sem]) (by simp (disch := omega) only [go_sem]) ⟨?_, rfl, rfl⟩
                exact hfin ((xm * 2 ^ kk : Nat) : Int) (by rw [eM])
      · have hfl : flFlags (bl m + e) same = 0 := by unfold flFlags; rw [h3, if_pos rfl]
        have e5 := (rfl : (0 : Nat) = 0)
        simp (disch := omega) only [go_sem, h3]
        refine ifW_dec (fun h5 => ?_) (fun h5 => ?_)
        · have hr0 : rm = 0 := hxm0.1 h5
          simp (disch := omega) only [go_sem, h5]
          refine fin_valc (by simp (disch := omega) only [go_sem]) (by simp (disch := omega) only [go_sem]) ⟨?_, rfl, rfl⟩
          refine hVG 0 0 0 0 (by simp [flK, hr0]) (by simp [flMm, hr0]) (by simp [flEe, hr0]) (by simp [flFl, hr0, hfl])
        · have hr0 : rm ≠ 0 := fun e => h5 (hxm0.2 e)
          have et2 := etop2 hr0
          have hxs : xs = s := q3 hr0
          have hff := hform hr0
          have hM := flM_lt hr0 hff
          simp (disch := omega) only [go_sem, h5]
          refine call_closed (con_l4top xs xm xe (by omega) (by omega)) (by simp (disch := omega) only [go_sem, et2]) ?_
          rintro r hs ⟨rfl, rfl, _⟩
          refine ⟨by simp [freeN], ?_⟩
          simp (disch := omega) only [go_sem]
          simp (disch := omega) only [go_sem, et2]
          refine ifW_dec (fun h6 => ?_) (fun h6 => ?_)
          · have hov : ∀ (k mm ee : Int), k = (if ovB s mode then 1 else 2) → mm = (if ovB s mode then 9007199254740991 else 0) → ee = (if ovB s mode then 971 else 0) → AV.tu [.ag [.v (.int .i64 k), .v (.bool s), .v (.int .i64 mm), .v (.int .i64 ee)], .v (.int .i64 3)] = .tu [.ag [.v (.int .i64 ((flV s m e mode z).k)), .v (.bool ((flV s m e mode z).s)), .v (.int .i64 ((flV s m e mode z).m)), .v (.int .i64 ((flV s m e mode z).e))], .v (.int .i64 (flG s m e mode))] := by
              rintro k mm ee rfl rfl rfl
              exact hVG _ _ _ 3 (by unfold flK; rw [if_neg hr0, if_pos h6]) (by unfold flMm; rw [if_neg hr0, if_pos h6]) (by unfold flEe; rw [if_neg hr0, if_pos h6]) (by unfold flFl; rw [if_pos ⟨hr0, h6⟩])
            clear hVG hform hrm hrx q3 hxs et2 hfl
            obtain rfl | rfl | rfl | rfl | rfl : mode = 0 ∨ mode = 1 ∨ mode = 2 ∨ mode = 3 ∨ mode = 4 := by omega
            · cases s
              · simp (disch := omega) only [go_sem, h6]
                refine fin_valc (by simp (disch := omega) only [go_sem]) (by simp (disch := omega) only [go_sem]) ⟨?_, rfl, rfl⟩
                exact hov _ _ _ rfl rfl rfl
              · simp (disch := omega) only [go_sem, h6]
                refine fin_valc (by simp (disch := omega) only [go_sem]) (by simp (disch := omega) only [go_sem]) ⟨?_, rfl, rfl⟩
                exact hov _ _ _ rfl rfl rfl
            · cases s
              · simp (disch := omega) only [go_sem, h6]
                refine call_closed (con_l5most false) (by simp (disch := omega) only [go_sem]) ?_
                rintro r hs ⟨rfl, rfl, _⟩
                refine ⟨by simp [freeN], ?_⟩
                simp (disch := omega) only [go_sem]
                refine fin_valc (by simp (disch := omega) only [go_sem]) (by simp (disch := omega) only [go_sem]) ⟨?_, rfl, rfl⟩
                exact hov _ _ _ rfl rfl rfl
              · simp (disch := omega) only [go_sem, h6]
                refine call_closed (con_l5most true) (by simp (disch := omega) only [go_sem]) ?_
                rintro r hs ⟨rfl, rfl, _⟩
                refine ⟨by simp [freeN], ?_⟩
                simp (disch := omega) only [go_sem]
                refine fin_valc (by simp (disch := omega) only [go_sem]) (by simp (disch := omega) only [go_sem]) ⟨?_, rfl, rfl⟩
                exact hov _ _ _ rfl rfl rfl
            · cases s
              · simp (disch := omega) only [go_sem, h6]
                refine fin_valc (by simp (disch := omega) only [go_sem]) (by simp (disch := omega) only [go_sem]) ⟨?_, rfl, rfl⟩
                exact hov _ _ _ rfl rfl rfl
              · simp (disch := omega) only [go_sem, h6]
                refine call_closed (con_l5most true) (by simp (disch := omega) only [go_sem]) ?_
                rintro r hs ⟨rfl, rfl, _⟩
                refine ⟨by simp [freeN], ?_⟩
                simp (disch := omega) only [go_sem]
                refine fin_valc (by simp (disch := omega) only [go_sem]) (by simp (disch := omega) only [go_sem]) ⟨?_, rfl, rfl⟩
                exact hov _ _ _ rfl rfl rfl
            · cases s
              · simp (disch := omega) only [go_sem, h6]
                refine call_closed (con_l5most false) (by simp (disch := omega) only [go_sem]) ?_
                rintro r hs ⟨rfl, rfl, _⟩
                refine ⟨by simp [freeN], ?_⟩
                simp (disch := omega) only [go_sem]
                refine fin_valc (by simp (disch := omega) only [go_sem]) (by simp (disch := omega) only [go_sem]) ⟨?_, rfl, rfl⟩
                exact hov _ _ _ rfl rfl rfl
              · simp (disch := omega) only [go_sem, h6]
                refine fin_valc (by simp (disch := omega) only [go_sem]) (by simp (disch := omega) only [go_sem]) ⟨?_, rfl, rfl⟩
                exact hov _ _ _ rfl rfl rfl
            · cases s
              · simp (disch := omega) only [go_sem, h6]
                refine fin_valc (by simp (disch := omega) only [go_sem]) (by simp (disch := omega) only [go_sem]) ⟨?_, rfl, rfl⟩
                exact hov _ _ _ rfl rfl rfl
              · simp (disch := omega) only [go_sem, h6]
                refine fin_valc (by simp (disch := omega) only [go_sem]) (by simp (disch := omega) only [go_sem]) ⟨?_, rfl, rfl⟩
                exact hov _ _ _ rfl rfl rfl
          · simp (disch := omega) only [go_sem, h6]
            refine call_closed (con_l4top xs xm xe (by omega) (by omega)) (by simp (disch := omega) only [go_sem, et2]) ?_
            rintro r hs ⟨rfl, rfl, _⟩
            refine ⟨by simp [freeN], ?_⟩
            simp (disch := omega) only [go_sem]
            simp (disch := omega) only [go_sem, et2]
            have hfin : ∀ mm : Int, mm = (flM rm re : Int) → AV.tu [.ag [.v (.int .i64 1), .v (.bool xs), .v (.int .i64 mm), .v (.int .i64 (flE rm re))], .v (.int .i64 0)] = .tu [.ag [.v (.int .i64 ((flV s m e mode z).k)), .v (.bool ((flV s m e mode z).s)), .v (.int .i64 ((flV s m e mode z).m)), .v (.int .i64 ((flV s m e mode z).e))], .v (.int .i64 (flG s m e mode))] := by
              rintro mm rfl
              rw [hxs]
              exact hVG 1 _ _ 0 (by unfold flK; rw [if_neg hr0, if_neg (by omega)]) (by unfold flMm; rw [if_neg hr0, if_neg (by omega)]) (by unfold flEe; rw [if_neg hr0, if_neg (by omega)]) (by unfold flFl; rw [if_neg (by omega), hfl])
            have ek : xe - flE rm re = (((oE rm re - flE rm re).toNat : Nat) : Int) := by omega
            have hk9 : (oE rm re - flE rm re).toNat ≤ 53 := by have h9 := hM; unfold flM at h9; rw [bl_mul_pow (fun e => hr0 (oM_eq_zero.1 e))] at h9; omega
            have hM6 : flM rm re < 2 ^ 53 := Nat.lt_of_lt_of_le (bl_lt _) (Nat.pow_le_pow_right (by omega) hM)
            have eM : xm * 2 ^ (oE rm re - flE rm re).toNat = flM rm re := by rw [q1]; rfl
            generalize hkk : (oE rm re - flE rm re).toNat = kk at *
            refine ifW_dec (fun h7 => ?_) (fun h7 => ?_)
            · have eE : flE rm re = -1074 := by unfold flE flLow; rw [if_pos (by omega)]
              simp (disch := omega) only [go_sem, h7]
              rw [eE] at ek hfin
              try rw [← et2] at hfin
              refine draw_of rfl [⟨0, [], []⟩, ⟨1, [], []⟩, ⟨2, [], []⟩, ⟨3, [2], []⟩, ⟨4, [2], []⟩, ⟨5, [2], []⟩, ⟨6, [2, 5], []⟩, ⟨7, [2, 5], []⟩, ⟨8, [2, 5, 7], []⟩, ⟨9, [2, 5], []⟩, ⟨12, [2, 5, 7], []⟩, ⟨14, [2, 5, 7], []⟩, ⟨10, [2], []⟩, ⟨11, [2], []⟩, ⟨13, [], []⟩, ⟨15, [], []⟩, ⟨16, [], []⟩] (by kernel_rfl) ?_
              simp (disch := omega) only [go_sem]
              refine call_open (con_l2shlF xm kk (by omega) (by omega)) (by simp (disch := omega) only [go_sem, ek, et2]) ?_
              rintro r hs ⟨rfl, rfl, _⟩
              refine ⟨by simp [freeN], ?_⟩
              simp (disch := omega) only [go_sem]
              refine call_closed (con_l2int (xm * 2 ^ kk) (by rw [eM]; omega)) (by simp (disch := omega) only [go_sem]) ?_
              rintro r hs ⟨rfl, rfl, _⟩
              refine ⟨by simp [freeN], ?_⟩
              simp (disch := omega) only [go_sem]
              refine fin_valc (by simp (disch := omega) only [go_sem]) (by simp (disch := omega) only [go_sem]) ⟨?_, rfl, rfl⟩
              exact hfin ((xm * 2 ^ kk : Nat) : Int) (by rw [eM])
            · have eE : flE rm re = (bl rm : Int) + re - 53 := by unfold flE flLow; rw [if_neg (by omega)]
              simp (disch := omega) only [go_sem, h7]
              rw [eE] at ek hfin
              try rw [← et2] at hfin
              refine draw_of rfl [⟨0, [], []⟩, ⟨1, [], []⟩, ⟨2, [], []⟩, ⟨3, [2], []⟩, ⟨4, [2], []⟩, ⟨5, [2], []⟩, ⟨6, [2, 5], []⟩, ⟨7, [2, 5], []⟩, ⟨8, [2, 5, 7], []⟩, ⟨9, [2, 5], []⟩, ⟨12, [2, 5, 7], []⟩, ⟨14, [2, 5, 7], []⟩, ⟨10, [2], []⟩, ⟨11, [2], []⟩, ⟨13, [], []⟩, ⟨15, [], []⟩, ⟨16, [], []⟩] (by kernel_rfl) ?_
              simp (disch := omega) only [go_sem]
              refine call_open (con_l2shlF xm kk (by omega) (by omega)) (by simp (disch := omega) only [go_sem, ek, et2]) ?_
              rintro r hs ⟨rfl, rfl, _⟩
              refine ⟨by simp [freeN], ?_⟩
              simp (disch := omega) only [go_sem]
              refine call_closed (con_l2int (xm * 2 ^ kk) (by rw [eM]; omega)) (by simp (disch := omega) only [go_sem]) ?_
              rintro r hs ⟨rfl, rfl, _⟩
              refine ⟨by simp [freeN], ?_⟩
              simp (disch := omega) only [go_sem]
              refine fin_valc (by simp (disch := omega) only [go_sem]) (by simp (disch := omega) only [go_sem]) ⟨?_, rfl, rfl⟩
              exact hfin ((xm * 2 ^ kk : Nat) : Int) (by rw [eM])
    · have hL : flLow ((bl m : Int) + e) = (bl m : Int) + e - 53 := by unfold flLow; rw [if_neg (by omega)]
      simp (disch := omega) only [go_sem, h2]
      have hbl := ro_bl (s := s) (e := e) (low := (bl m : Int) + e - 53) (mode := mode) hm
      have hroE : -1000000 ≤ roE m e ((bl m : Int) + e - 53) ∧ roE m e ((bl m : Int) + e - 53) ≤ 1000000 := by unfold roE; split <;> omega
      obtain ⟨q1, q2⟩ := sr_eq (s := s) (e := e) (low := (bl m : Int) + e - 53) (mode := mode) hod
      have q3 := roS_eq (s := s) (m := m) (e := e) (low := (bl m : Int) + e - 53) (mode := mode)
      refine call_open (con_l4round s m e ((bl m : Int) + e - 53) mode hodd hs hmode (by omega) (by omega) (by omega)) (by simp (disch := omega) only [go_sem, etop]) ?_
      rintro r hs ⟨rfl, rfl, _⟩
      refine ⟨by simp [freeN], ?_⟩
      simp (disch := omega) only [go_sem]
      rw [hL] at hVG hform
      generalize srM s m e ((bl m : Int) + e - 53) mode = xm at *
      generalize srE s m e ((bl m : Int) + e - 53) mode = xe at *
      generalize oS (roS s m e ((bl m : Int) + e - 53) mode) (roM s m e ((bl m : Int) + e - 53) mode) = xs at *
      generalize hrm : roM s m e ((bl m : Int) + e - 53) mode = rm at *
      generalize hre : roE m e ((bl m : Int) + e - 53) = re at *
      generalize hrx : roX m e ((bl m : Int) + e - 53) = same at *
      have hxm0 : ((lim xm).length : Int) = 0 ↔ rm = 0 := by rw [q1, ← oM_eq_zero]; exact ⟨fun h => lim_eq_nil.1 (List.length_eq_zero_iff.1 (by omega)), fun h => by rw [h, lim_zero]; rfl⟩
      have hxmb : bl xm ≤ 100001 := by rw [q1]; exact Nat.le_trans (bl_mono (oM_le rm)) hbl
      have lxm := len_bl hxmb
      have hxeb : -2000000 ≤ xe ∧ xe ≤ 2000000 := by have := oE_bnd hbl hroE; omega
      have etop2 : rm ≠ 0 → (if xm = 0 then (0 : Int) else xe + (bl xm : Int)) = (bl rm : Int) + re := fun h => by
        have h2 := bl_oM h
        have h3 : xm ≠ 0 := by rw [q1]; exact fun e => h (oM_eq_zero.1 e)
        rw [if_neg h3, q2, q1]; unfold oE; rw [if_neg h]; omega
      refine ifW_nb (fun h3 => ?_) (fun h3 => ?_)
      · simp (disch := omega) only [go_sem, h3]
        refine call_closed (con_l4top s m e (by omega) (by omega)) (by simp (disch := omega) only [go_sem, etop]) ?_
        rintro r hs ⟨rfl, rfl, _⟩
        refine ⟨by simp [freeN], ?_⟩
        simp (disch := omega) only [go_sem]
        simp (disch := omega) only [go_sem, etop]
        refine ifW_dec (fun h4 => ?_) (fun h4 => ?_)
        · have hfl : flFlags (bl m + e) same = 5 := by unfold flFlags; rw [h3, if_neg (by simp), if_pos (by omega)]
          have e5 : ((1 ||| 4 : Nat) : Int) = 5 := rfl
          simp (disch := omega) only [go_sem, h4, e5]
          refine ifW_dec (fun h5 => ?_) (fun h5 => ?_)
          · have hr0 : rm = 0 := hxm0.1 h5
            simp (disch := omega) only [go_sem, h5]
            refine fin_valc (by simp (disch := omega) only [go_sem]) (by simp (disch := omega) only [go_sem]) ⟨?_, rfl, rfl⟩
            refine hVG 0 0 0 5 (by simp [flK, hr0]) (by simp [flMm, hr0]) (by simp [flEe, hr0]) (by simp [flFl, hr0, hfl])
          · have hr0 : rm ≠ 0 := fun e => h5 (hxm0.2 e)
            have et2 := etop2 hr0
            have hxs : xs = s := q3 hr0
            have hff := hform hr0
            have hM := flM_lt hr0 hff
            simp (disch := omega) only [go_sem, h5]
            refine call_closed (con_l4top xs xm xe (by omega) (by omega)) (by simp (disch := omega) only [go_sem, et2]) ?_
            rintro r hs ⟨rfl, rfl, _⟩
            refine ⟨by simp [freeN], ?_⟩
            simp (disch := omega) only [go_sem]
            simp (disch := omega) only [go_sem, et2]
            refine ifW_dec (fun h6 => ?_) (fun h6 => ?_)
            · have hov : ∀ (k mm ee : Int), k = (if ovB s mode then 1 else 2) → mm = (if ovB s mode then 9007199254740991 else 0) → ee = (if ovB s mode then 971 else 0) → AV.tu [.ag [.v (.int .i64 k), .v (.bool s), .v (.int .i64 mm), .v (.int .i64 ee)], .v (.int .i64 3)] = .tu [.ag [.v (.int .i64 ((flV s m e mode z).k)), .v (.bool ((flV s m e mode z).s)), .v (.int .i64 ((flV s m e mode z).m)), .v (.int .i64 ((flV s m e mode z).e))], .v (.int .i64 (flG s m e mode))] := by
                rintro k mm ee rfl rfl rfl
                exact hVG _ _ _ 3 (by unfold flK; rw [if_neg hr0, if_pos h6]) (by unfold flMm; rw [if_neg hr0, if_pos h6]) (by unfold flEe; rw [if_neg hr0, if_pos h6]) (by unfold flFl; rw [if_pos ⟨hr0, h6⟩])
              clear hVG hform hrm hrx q3 hxs et2 hfl
              obtain rfl | rfl | rfl | rfl | rfl : mode = 0 ∨ mode = 1 ∨ mode = 2 ∨ mode = 3 ∨ mode = 4 := by omega
              · cases s
                · simp (disch := omega) only [go_sem, h6]
                  refine fin_valc (by simp (disch := omega) only [go_sem]) (by simp (disch := omega) only [go_sem]) ⟨?_, rfl, rfl⟩
                  exact hov _ _ _ rfl rfl rfl
                · simp (disch := omega) only [go_sem, h6]
                  refine fin_valc (by simp (disch := omega) only [go_sem]) (by simp (disch := omega) only [go_sem]) ⟨?_, rfl, rfl⟩
                  exact hov _ _ _ rfl rfl rfl
              · cases s
                · simp (disch := omega) only [go_sem, h6]
                  refine call_closed (con_l5most false) (by simp (disch := omega) only [go_sem]) ?_
                  rintro r hs ⟨rfl, rfl, _⟩
                  refine ⟨by simp [freeN], ?_⟩
                  simp (disch := omega) only [go_sem]
                  refine fin_valc (by simp (disch := omega) only [go_sem]) (by simp (disch := omega) only [go_sem]) ⟨?_, rfl, rfl⟩
                  exact hov _ _ _ rfl rfl rfl
                · simp (disch := omega) only [go_sem, h6]
                  refine call_closed (con_l5most true) (by simp (disch := omega) only [go_sem]) ?_
                  rintro r hs ⟨rfl, rfl, _⟩
                  refine ⟨by simp [freeN], ?_⟩
                  simp (disch := omega) only [go_sem]
                  refine fin_valc (by simp (disch := omega) only [go_sem]) (by simp (disch := omega) only [go_sem]) ⟨?_, rfl, rfl⟩
                  exact hov _ _ _ rfl rfl rfl
              · cases s
                · simp (disch := omega) only [go_sem, h6]
                  refine fin_valc (by simp (disch := omega) only [go_sem]) (by simp (disch := omega) only [go_sem]) ⟨?_, rfl, rfl⟩
                  exact hov _ _ _ rfl rfl rfl
                · simp (disch := omega) only [go_sem, h6]
                  refine call_closed (con_l5most true) (by simp (disch := omega) only [go_sem]) ?_
                  rintro r hs ⟨rfl, rfl, _⟩
                  refine ⟨by simp [freeN], ?_⟩
                  simp (disch := omega) only [go_sem]
                  refine fin_valc (by simp (disch := omega) only [go_sem]) (by simp (disch := omega) only [go_sem]) ⟨?_, rfl, rfl⟩
                  exact hov _ _ _ rfl rfl rfl
              · cases s
                · simp (disch := omega) only [go_sem, h6]
                  refine call_closed (con_l5most false) (by simp (disch := omega) only [go_sem]) ?_
                  rintro r hs ⟨rfl, rfl, _⟩
                  refine ⟨by simp [freeN], ?_⟩
                  simp (disch := omega) only [go_sem]
                  refine fin_valc (by simp (disch := omega) only [go_sem]) (by simp (disch := omega) only [go_sem]) ⟨?_, rfl, rfl⟩
                  exact hov _ _ _ rfl rfl rfl
                · simp (disch := omega) only [go_sem, h6]
                  refine fin_valc (by simp (disch := omega) only [go_sem]) (by simp (disch := omega) only [go_sem]) ⟨?_, rfl, rfl⟩
                  exact hov _ _ _ rfl rfl rfl
              · cases s
                · simp (disch := omega) only [go_sem, h6]
                  refine fin_valc (by simp (disch := omega) only [go_sem]) (by simp (disch := omega) only [go_sem]) ⟨?_, rfl, rfl⟩
                  exact hov _ _ _ rfl rfl rfl
                · simp (disch := omega) only [go_sem, h6]
                  refine fin_valc (by simp (disch := omega) only [go_sem]) (by simp (disch := omega) only [go_sem]) ⟨?_, rfl, rfl⟩
                  exact hov _ _ _ rfl rfl rfl
            · simp (disch := omega) only [go_sem, h6]
              refine call_closed (con_l4top xs xm xe (by omega) (by omega)) (by simp (disch := omega) only [go_sem, et2]) ?_
              rintro r hs ⟨rfl, rfl, _⟩
              refine ⟨by simp [freeN], ?_⟩
              simp (disch := omega) only [go_sem]
              simp (disch := omega) only [go_sem, et2]
              have hfin : ∀ mm : Int, mm = (flM rm re : Int) → AV.tu [.ag [.v (.int .i64 1), .v (.bool xs), .v (.int .i64 mm), .v (.int .i64 (flE rm re))], .v (.int .i64 5)] = .tu [.ag [.v (.int .i64 ((flV s m e mode z).k)), .v (.bool ((flV s m e mode z).s)), .v (.int .i64 ((flV s m e mode z).m)), .v (.int .i64 ((flV s m e mode z).e))], .v (.int .i64 (flG s m e mode))] := by
                rintro mm rfl
                rw [hxs]
                exact hVG 1 _ _ 5 (by unfold flK; rw [if_neg hr0, if_neg (by omega)]) (by unfold flMm; rw [if_neg hr0, if_neg (by omega)]) (by unfold flEe; rw [if_neg hr0, if_neg (by omega)]) (by unfold flFl; rw [if_neg (by omega), hfl])
              have ek : xe - flE rm re = (((oE rm re - flE rm re).toNat : Nat) : Int) := by omega
              have hk9 : (oE rm re - flE rm re).toNat ≤ 53 := by have h9 := hM; unfold flM at h9; rw [bl_mul_pow (fun e => hr0 (oM_eq_zero.1 e))] at h9; omega
              have hM6 : flM rm re < 2 ^ 53 := Nat.lt_of_lt_of_le (bl_lt _) (Nat.pow_le_pow_right (by omega) hM)
              have eM : xm * 2 ^ (oE rm re - flE rm re).toNat = flM rm re := by rw [q1]; rfl
              generalize hkk : (oE rm re - flE rm re).toNat = kk at *
              refine ifW_dec (fun h7 => ?_) (fun h7 => ?_)
              · have eE : flE rm re = -1074 := by unfold flE flLow; rw [if_pos (by omega)]
                simp (disch := omega) only [go_sem, h7]
                rw [eE] at ek hfin
                try rw [← et2] at hfin
                refine draw_of rfl [⟨0, [], []⟩, ⟨1, [], []⟩, ⟨2, [], []⟩, ⟨3, [2], []⟩, ⟨4, [2], []⟩, ⟨5, [2], []⟩, ⟨6, [2, 5], []⟩, ⟨7, [2, 5], []⟩, ⟨8, [2, 5, 7], []⟩, ⟨9, [2, 5], []⟩, ⟨12, [2, 5, 7], []⟩, ⟨14, [2, 5, 7], []⟩, ⟨10, [2], []⟩, ⟨11, [2], []⟩, ⟨13, [], []⟩, ⟨15, [], []⟩, ⟨16, [], []⟩] (by kernel_rfl) ?_
                simp (disch := omega) only [go_sem]
                refine call_open (con_l2shlF xm kk (by omega) (by omega)) (by simp (disch := omega) only [go_sem, ek, et2]) ?_
                rintro r hs ⟨rfl, rfl, _⟩
                refine ⟨by simp [freeN], ?_⟩
                simp (disch := omega) only [go_sem]
                refine call_closed (con_l2int (xm * 2 ^ kk) (by rw [eM]; omega)) (by simp (disch := omega) only [go_sem]) ?_
                rintro r hs ⟨rfl, rfl, _⟩
                refine ⟨by simp [freeN], ?_⟩
                simp (disch := omega) only [go_sem]
                refine fin_valc (by simp (disch := omega) only [go_sem]) (by simp (disch := omega) only [go_sem]) ⟨?_, rfl, rfl⟩
                exact hfin ((xm * 2 ^ kk : Nat) : Int) (by rw [eM])
              · have eE : flE rm re = (bl rm : Int) + re - 53 := by unfold flE flLow; rw [if_neg (by omega)]
                simp (disch := omega) only [go_sem, h7]
                rw [eE] at ek hfin
                try rw [← et2] at hfin
                refine draw_of rfl [⟨0, [], []⟩, ⟨1, [], []⟩, ⟨2, [], []⟩, ⟨3, [2], []⟩, ⟨4, [2], []⟩, ⟨5, [2], []⟩, ⟨6, [2, 5], []⟩, ⟨7, [2, 5], []⟩, ⟨8, [2, 5, 7], []⟩, ⟨9, [2, 5], []⟩, ⟨12, [2, 5, 7], []⟩, ⟨14, [2, 5, 7], []⟩, ⟨10, [2], []⟩, ⟨11, [2], []⟩, ⟨13, [], []⟩, ⟨15, [], []⟩, ⟨16, [], []⟩] (by kernel_rfl) ?_
                simp (disch := omega) only [go_sem]
                refine call_open (con_l2shlF xm kk (by omega) (by omega)) (by simp (disch := omega) only [go_sem, ek, et2]) ?_
                rintro r hs ⟨rfl, rfl, _⟩
                refine ⟨by simp [freeN], ?_⟩
                simp (disch := omega) only [go_sem]
                refine call_closed (con_l2int (xm * 2 ^ kk) (by rw [eM]; omega)) (by simp (disch := omega) only [go_sem]) ?_
                rintro r hs ⟨rfl, rfl, _⟩
                refine ⟨by simp [freeN], ?_⟩
                simp (disch := omega) only [go_sem]
                refine fin_valc (by simp (disch := omega) only [go_sem]) (by simp (disch := omega) only [go_sem]) ⟨?_, rfl, rfl⟩
                exact hfin ((xm * 2 ^ kk : Nat) : Int) (by rw [eM])
        · have hfl : flFlags (bl m + e) same = 1 := by unfold flFlags; rw [h3, if_neg (by simp), if_neg (by omega)]
          have e5 := (rfl : (0 : Nat) = 0)
          simp (disch := omega) only [go_sem, h4]
          refine ifW_dec (fun h5 => ?_) (fun h5 => ?_)
          · have hr0 : rm = 0 := hxm0.1 h5
            simp (disch := omega) only [go_sem, h5]
            refine fin_valc (by simp (disch := omega) only [go_sem]) (by simp (disch := omega) only [go_sem]) ⟨?_, rfl, rfl⟩
            refine hVG 0 0 0 1 (by simp [flK, hr0]) (by simp [flMm, hr0]) (by simp [flEe, hr0]) (by simp [flFl, hr0, hfl])
          · have hr0 : rm ≠ 0 := fun e => h5 (hxm0.2 e)
            have et2 := etop2 hr0
            have hxs : xs = s := q3 hr0
            have hff := hform hr0
            have hM := flM_lt hr0 hff
            simp (disch := omega) only [go_sem, h5]
            refine call_closed (con_l4top xs xm xe (by omega) (by omega)) (by simp (disch := omega) only [go_sem, et2]) ?_
            rintro r hs ⟨rfl, rfl, _⟩
            refine ⟨by simp [freeN], ?_⟩
            simp (disch := omega) only [go_sem]
            simp (disch := omega) only [go_sem, et2]
            refine ifW_dec (fun h6 => ?_) (fun h6 => ?_)
            · have hov : ∀ (k mm ee : Int), k = (if ovB s mode then 1 else 2) → mm = (if ovB s mode then 9007199254740991 else 0) → ee = (if ovB s mode then 971 else 0) → AV.tu [.ag [.v (.int .i64 k), .v (.bool s), .v (.int .i64 mm), .v (.int .i64 ee)], .v (.int .i64 3)] = .tu [.ag [.v (.int .i64 ((flV s m e mode z).k)), .v (.bool ((flV s m e mode z).s)), .v (.int .i64 ((flV s m e mode z).m)), .v (.int .i64 ((flV s m e mode z).e))], .v (.int .i64 (flG s m e mode))] := by
                rintro k mm ee rfl rfl rfl
                exact hVG _ _ _ 3 (by unfold flK; rw [if_neg hr0, if_pos h6]) (by unfold flMm; rw [if_neg hr0, if_pos h6]) (by unfold flEe; rw [if_neg hr0, if_pos h6]) (by unfold flFl; rw [if_pos ⟨hr0, h6⟩])
              clear hVG hform hrm hrx q3 hxs et2 hfl
              obtain rfl | rfl | rfl | rfl | rfl : mode = 0 ∨ mode = 1 ∨ mode = 2 ∨ mode = 3 ∨ mode = 4 := by omega
              · cases s
                · simp (disch := omega) only [go_sem, h6]
                  refine fin_valc (by simp (disch := omega) only [go_sem]) (by simp (disch := omega) only [go_sem]) ⟨?_, rfl, rfl⟩
                  exact hov _ _ _ rfl rfl rfl
                · simp (disch := omega) only [go_sem, h6]
                  refine fin_valc (by simp (disch := omega) only [go_sem]) (by simp (disch := omega) only [go_sem]) ⟨?_, rfl, rfl⟩
                  exact hov _ _ _ rfl rfl rfl
              · cases s
                · simp (disch := omega) only [go_sem, h6]
                  refine call_closed (con_l5most false) (by simp (disch := omega) only [go_sem]) ?_
                  rintro r hs ⟨rfl, rfl, _⟩
                  refine ⟨by simp [freeN], ?_⟩
                  simp (disch := omega) only [go_sem]
                  refine fin_valc (by simp (disch := omega) only [go_sem]) (by simp (disch := omega) only [go_sem]) ⟨?_, rfl, rfl⟩
                  exact hov _ _ _ rfl rfl rfl
                · simp (disch := omega) only [go_sem, h6]
                  refine call_closed (con_l5most true) (by simp (disch := omega) only [go_sem]) ?_
                  rintro r hs ⟨rfl, rfl, _⟩
                  refine ⟨by simp [freeN], ?_⟩
                  simp (disch := omega) only [go_sem]
                  refine fin_valc (by simp (disch := omega) only [go_sem]) (by simp (disch := omega) only [go_sem]) ⟨?_, rfl, rfl⟩
                  exact hov _ _ _ rfl rfl rfl
              · cases s
                · simp (disch := omega) only [go_sem, h6]
                  refine fin_valc (by simp (disch := omega) only [go_sem]) (by simp (disch := omega) only [go_sem]) ⟨?_, rfl, rfl⟩
                  exact hov _ _ _ rfl rfl rfl
                · simp (disch := omega) only [go_sem, h6]
                  refine call_closed (con_l5most true) (by simp (disch := omega) only [go_sem]) ?_
                  rintro r hs ⟨rfl, rfl, _⟩
                  refine ⟨by simp [freeN], ?_⟩
                  simp (disch := omega) only [go_sem]
                  refine fin_valc (by simp (disch := omega) only [go_sem]) (by simp (disch := omega) only [go_sem]) ⟨?_, rfl, rfl⟩
                  exact hov _ _ _ rfl rfl rfl
              · cases s
                · simp (disch := omega) only [go_sem, h6]
                  refine call_closed (con_l5most false) (by simp (disch := omega) only [go_sem]) ?_
                  rintro r hs ⟨rfl, rfl, _⟩
                  refine ⟨by simp [freeN], ?_⟩
                  simp (disch := omega) only [go_sem]
                  refine fin_valc (by simp (disch := omega) only [go_sem]) (by simp (disch := omega) only [go_sem]) ⟨?_, rfl, rfl⟩
                  exact hov _ _ _ rfl rfl rfl
                · simp (disch := omega) only [go_sem, h6]
                  refine fin_valc (by simp (disch := omega) only [go_sem]) (by simp (disch := omega) only [go_sem]) ⟨?_, rfl, rfl⟩
                  exact hov _ _ _ rfl rfl rfl
              · cases s
                · simp (disch := omega) only [go_sem, h6]
                  refine fin_valc (by simp (disch := omega) only [go_sem]) (by simp (disch := omega) only [go_sem]) ⟨?_, rfl, rfl⟩
                  exact hov _ _ _ rfl rfl rfl
                · simp (disch := omega) only [go_sem, h6]
                  refine fin_valc (by simp (disch := omega) only [go_sem]) (by simp (disch := omega) only [go_sem]) ⟨?_, rfl, rfl⟩
                  exact hov _ _ _ rfl rfl rfl
            · simp (disch := omega) only [go_sem, h6]
              refine call_closed (con_l4top xs xm xe (by omega) (by omega)) (by simp (disch := omega) only [go_sem, et2]) ?_
              rintro r hs ⟨rfl, rfl, _⟩
              refine ⟨by simp [freeN], ?_⟩
              simp (disch := omega) only [go_sem]
              simp (disch := omega) only [go_sem, et2]
              have hfin : ∀ mm : Int, mm = (flM rm re : Int) → AV.tu [.ag [.v (.int .i64 1), .v (.bool xs), .v (.int .i64 mm), .v (.int .i64 (flE rm re))], .v (.int .i64 1)] = .tu [.ag [.v (.int .i64 ((flV s m e mode z).k)), .v (.bool ((flV s m e mode z).s)), .v (.int .i64 ((flV s m e mode z).m)), .v (.int .i64 ((flV s m e mode z).e))], .v (.int .i64 (flG s m e mode))] := by
                rintro mm rfl
                rw [hxs]
                exact hVG 1 _ _ 1 (by unfold flK; rw [if_neg hr0, if_neg (by omega)]) (by unfold flMm; rw [if_neg hr0, if_neg (by omega)]) (by unfold flEe; rw [if_neg hr0, if_neg (by omega)]) (by unfold flFl; rw [if_neg (by omega), hfl])
              have ek : xe - flE rm re = (((oE rm re - flE rm re).toNat : Nat) : Int) := by omega
              have hk9 : (oE rm re - flE rm re).toNat ≤ 53 := by have h9 := hM; unfold flM at h9; rw [bl_mul_pow (fun e => hr0 (oM_eq_zero.1 e))] at h9; omega
              have hM6 : flM rm re < 2 ^ 53 := Nat.lt_of_lt_of_le (bl_lt _) (Nat.pow_le_pow_right (by omega) hM)
              have eM : xm * 2 ^ (oE rm re - flE rm re).toNat = flM rm re := by rw [q1]; rfl
              generalize hkk : (oE rm re - flE rm re).toNat = kk at *
              refine ifW_dec (fun h7 => ?_) (fun h7 => ?_)
              · have eE : flE rm re = -1074 := by unfold flE flLow; rw [if_pos (by omega)]
                simp (disch := omega) only [go_sem, h7]
                rw [eE] at ek hfin
                try rw [← et2] at hfin
                refine draw_of rfl [⟨0, [], []⟩, ⟨1, [], []⟩, ⟨2, [], []⟩, ⟨3, [2], []⟩, ⟨4, [2], []⟩, ⟨5, [2], []⟩, ⟨6, [2, 5], []⟩, ⟨7, [2, 5], []⟩, ⟨8, [2, 5, 7], []⟩, ⟨9, [2, 5], []⟩, ⟨12, [2, 5, 7], []⟩, ⟨14, [2, 5, 7], []⟩, ⟨10, [2], []⟩, ⟨11, [2], []⟩, ⟨13, [], []⟩, ⟨15, [], []⟩, ⟨16, [], []⟩] (by kernel_rfl) ?_
                simp (disch := omega) only [go_sem]
                refine call_open (con_l2shlF xm kk (by omega) (by omega)) (by simp (disch := omega) only [go_sem, ek, et2]) ?_
                rintro r hs ⟨rfl, rfl, _⟩
                refine ⟨by simp [freeN], ?_⟩
                simp (disch := omega) only [go_sem]
                refine call_closed (con_l2int (xm * 2 ^ kk) (by rw [eM]; omega)) (by simp (disch := omega) only [go_sem]) ?_
                rintro r hs ⟨rfl, rfl, _⟩
                refine ⟨by simp [freeN], ?_⟩
                simp (disch := omega) only [go_sem]
                refine fin_valc (by simp (disch := omega) only [go_sem]) (by simp (disch := omega) only [go_sem]) ⟨?_, rfl, rfl⟩
                exact hfin ((xm * 2 ^ kk : Nat) : Int) (by rw [eM])
              · have eE : flE rm re = (bl rm : Int) + re - 53 := by unfold flE flLow; rw [if_neg (by omega)]
                simp (disch := omega) only [go_sem, h7]
                rw [eE] at ek hfin
                try rw [← et2] at hfin
                refine draw_of rfl [⟨0, [], []⟩, ⟨1, [], []⟩, ⟨2, [], []⟩, ⟨3, [2], []⟩, ⟨4, [2], []⟩, ⟨5, [2], []⟩, ⟨6, [2, 5], []⟩, ⟨7, [2, 5], []⟩, ⟨8, [2, 5, 7], []⟩, ⟨9, [2, 5], []⟩, ⟨12, [2, 5, 7], []⟩, ⟨14, [2, 5, 7], []⟩, ⟨10, [2], []⟩, ⟨11, [2], []⟩, ⟨13, [], []⟩, ⟨15, [], []⟩, ⟨16, [], []⟩] (by kernel_rfl) ?_
                simp (disch := omega) only [go_sem]
                refine call_open (con_l2shlF xm kk (by omega) (by omega)) (by simp (disch := omega) only [go_sem, ek, et2]) ?_
                rintro r hs ⟨rfl, rfl, _⟩
                refine ⟨by simp [freeN], ?_⟩
                simp (disch := omega) only [go_sem]
                refine call_closed (con_l2int (xm * 2 ^ kk) (by rw [eM]; omega)) (by simp (disch := omega) only [go_sem]) ?_
                rintro r hs ⟨rfl, rfl, _⟩
                refine ⟨by simp [freeN], ?_⟩
                simp (disch := omega) only [go_sem]
                refine fin_valc (by simp (disch := omega) only [go_sem]) (by simp (disch := omega) only [go_sem]) ⟨?_, rfl, rfl⟩
                exact hfin ((xm * 2 ^ kk : Nat) : Int) (by rw [eM])
      · have hfl : flFlags (bl m + e) same = 0 := by unfold flFlags; rw [h3, if_pos rfl]
        have e5 := (rfl : (0 : Nat) = 0)
        simp (disch := omega) only [go_sem, h3]
        refine ifW_dec (fun h5 => ?_) (fun h5 => ?_)
        · have hr0 : rm = 0 := hxm0.1 h5
          simp (disch := omega) only [go_sem, h5]
          refine fin_valc (by simp (disch := omega) only [go_sem]) (by simp (disch := omega) only [go_sem]) ⟨?_, rfl, rfl⟩
          refine hVG 0 0 0 0 (by simp [flK, hr0]) (by simp [flMm, hr0]) (by simp [flEe, hr0]) (by simp [flFl, hr0, hfl])
        · have hr0 : rm ≠ 0 := fun e => h5 (hxm0.2 e)
          have et2 := etop2 hr0
          have hxs : xs = s := q3 hr0
          have hff := hform hr0
          have hM := flM_lt hr0 hff
          simp (disch := omega) only [go_sem, h5]
          refine call_closed (con_l4top xs xm xe (by omega) (by omega)) (by simp (disch := omega) only [go_sem, et2]) ?_
          rintro r hs ⟨rfl, rfl, _⟩
          refine ⟨by simp [freeN], ?_⟩
          simp (disch := omega) only [go_sem]
          simp (disch := omega) only [go_sem, et2]
          refine ifW_dec (fun h6 => ?_) (fun h6 => ?_)
          · have hov : ∀ (k mm ee : Int), k = (if ovB s mode then 1 else 2) → mm = (if ovB s mode then 9007199254740991 else 0) → ee = (if ovB s mode then 971 else 0) → AV.tu [.ag [.v (.int .i64 k), .v (.bool s), .v (.int .i64 mm), .v (.int .i64 ee)], .v (.int .i64 3)] = .tu [.ag [.v (.int .i64 ((flV s m e mode z).k)), .v (.bool ((flV s m e mode z).s)), .v (.int .i64 ((flV s m e mode z).m)), .v (.int .i64 ((flV s m e mode z).e))], .v (.int .i64 (flG s m e mode))] := by
              rintro k mm ee rfl rfl rfl
              exact hVG _ _ _ 3 (by unfold flK; rw [if_neg hr0, if_pos h6]) (by unfold flMm; rw [if_neg hr0, if_pos h6]) (by unfold flEe; rw [if_neg hr0, if_pos h6]) (by unfold flFl; rw [if_pos ⟨hr0, h6⟩])
            clear hVG hform hrm hrx q3 hxs et2 hfl
            obtain rfl | rfl | rfl | rfl | rfl : mode = 0 ∨ mode = 1 ∨ mode = 2 ∨ mode = 3 ∨ mode = 4 := by omega
            · cases s
              · simp (disch := omega) only [go_sem, h6]
                refine fin_valc (by simp (disch := omega) only [go_sem]) (by simp (disch := omega) only [go_sem]) ⟨?_, rfl, rfl⟩
                exact hov _ _ _ rfl rfl rfl
              · simp (disch := omega) only [go_sem, h6]
                refine fin_valc (by simp (disch := omega) only [go_sem]) (by simp (disch := omega) only [go_sem]) ⟨?_, rfl, rfl⟩
                exact hov _ _ _ rfl rfl rfl
            · cases s
              · simp (disch := omega) only [go_sem, h6]
                refine call_closed (con_l5most false) (by simp (disch := omega) only [go_sem]) ?_
                rintro r hs ⟨rfl, rfl, _⟩
                refine ⟨by simp [freeN], ?_⟩
                simp (disch := omega) only [go_sem]
                refine fin_valc (by simp (disch := omega) only [go_sem]) (by simp (disch := omega) only [go_sem]) ⟨?_, rfl, rfl⟩
                exact hov _ _ _ rfl rfl rfl
              · simp (disch := omega) only [go_sem, h6]
                refine call_closed (con_l5most true) (by simp (disch := omega) only [go_sem]) ?_
                rintro r hs ⟨rfl, rfl, _⟩
                refine ⟨by simp [freeN], ?_⟩
                simp (disch := omega) only [go_sem]
                refine fin_valc (by simp (disch := omega) only [go_sem]) (by simp (disch := omega) only [go_sem]) ⟨?_, rfl, rfl⟩
                exact hov _ _ _ rfl rfl rfl
            · cases s
              · simp (disch := omega) only [go_sem, h6]
                refine fin_valc (by simp (disch := omega) only [go_sem]) (by simp (disch := omega) only [go_sem]) ⟨?_, rfl, rfl⟩
                exact hov _ _ _ rfl rfl rfl
              · simp (disch := omega) only [go_sem, h6]
                refine call_closed (con_l5most true) (by simp (disch := omega) only [go_sem]) ?_
                rintro r hs ⟨rfl, rfl, _⟩
                refine ⟨by simp [freeN], ?_⟩
                simp (disch := omega) only [go_sem]
                refine fin_valc (by simp (disch := omega) only [go_sem]) (by simp (disch := omega) only [go_sem]) ⟨?_, rfl, rfl⟩
                exact hov _ _ _ rfl rfl rfl
            · cases s
              · simp (disch := omega) only [go_sem, h6]
                refine call_closed (con_l5most false) (by simp (disch := omega) only [go_sem]) ?_
                rintro r hs ⟨rfl, rfl, _⟩
                refine ⟨by simp [freeN], ?_⟩
                simp (disch := omega) only [go_sem]
                refine fin_valc (by simp (disch := omega) only [go_sem]) (by simp (disch := omega) only [go_sem]) ⟨?_, rfl, rfl⟩
                exact hov _ _ _ rfl rfl rfl
              · simp (disch := omega) only [go_sem, h6]
                refine fin_valc (by simp (disch := omega) only [go_sem]) (by simp (disch := omega) only [go_sem]) ⟨?_, rfl, rfl⟩
                exact hov _ _ _ rfl rfl rfl
            · cases s
              · simp (disch := omega) only [go_sem, h6]
                refine fin_valc (by simp (disch := omega) only [go_sem]) (by simp (disch := omega) only [go_sem]) ⟨?_, rfl, rfl⟩
                exact hov _ _ _ rfl rfl rfl
              · simp (disch := omega) only [go_sem, h6]
                refine fin_valc (by simp (disch := omega) only [go_sem]) (by simp (disch := omega) only [go_sem]) ⟨?_, rfl, rfl⟩
                exact hov _ _ _ rfl rfl rfl
          · simp (disch := omega) only [go_sem, h6]
            refine call_closed (con_l4top xs xm xe (by omega) (by omega)) (by simp (disch := omega) only [go_sem, et2]) ?_
            rintro r hs ⟨rfl, rfl, _⟩
            refine ⟨by simp [freeN], ?_⟩
            simp (disch := omega) only [go_sem]
            simp (disch := omega) only [go_sem, et2]
            have hfin : ∀ mm : Int, mm = (flM rm re : Int) → AV.tu [.ag [.v (.int .i64 1), .v (.bool xs), .v (.int .i64 mm), .v (.int .i64 (flE rm re))], .v (.int .i64 0)] = .tu [.ag [.v (.int .i64 ((flV s m e mode z).k)), .v (.bool ((flV s m e mode z).s)), .v (.int .i64 ((flV s m e mode z).m)), .v (.int .i64 ((flV s m e mode z).e))], .v (.int .i64 (flG s m e mode))] := by
              rintro mm rfl
              rw [hxs]
              exact hVG 1 _ _ 0 (by unfold flK; rw [if_neg hr0, if_neg (by omega)]) (by unfold flMm; rw [if_neg hr0, if_neg (by omega)]) (by unfold flEe; rw [if_neg hr0, if_neg (by omega)]) (by unfold flFl; rw [if_neg (by omega), hfl])
            have ek : xe - flE rm re = (((oE rm re - flE rm re).toNat : Nat) : Int) := by omega
            have hk9 : (oE rm re - flE rm re).toNat ≤ 53 := by have h9 := hM; unfold flM at h9; rw [bl_mul_pow (fun e => hr0 (oM_eq_zero.1 e))] at h9; omega
            have hM6 : flM rm re < 2 ^ 53 := Nat.lt_of_lt_of_le (bl_lt _) (Nat.pow_le_pow_right (by omega) hM)
            have eM : xm * 2 ^ (oE rm re - flE rm re).toNat = flM rm re := by rw [q1]; rfl
            generalize hkk : (oE rm re - flE rm re).toNat = kk at *
            refine ifW_dec (fun h7 => ?_) (fun h7 => ?_)
            · have eE : flE rm re = -1074 := by unfold flE flLow; rw [if_pos (by omega)]
              simp (disch := omega) only [go_sem, h7]
              rw [eE] at ek hfin
              try rw [← et2] at hfin
              refine draw_of rfl [⟨0, [], []⟩, ⟨1, [], []⟩, ⟨2, [], []⟩, ⟨3, [2], []⟩, ⟨4, [2], []⟩, ⟨5, [2], []⟩, ⟨6, [2, 5], []⟩, ⟨7, [2, 5], []⟩, ⟨8, [2, 5, 7], []⟩, ⟨9, [2, 5], []⟩, ⟨12, [2, 5, 7], []⟩, ⟨14, [2, 5, 7], []⟩, ⟨10, [2], []⟩, ⟨11, [2], []⟩, ⟨13, [], []⟩, ⟨15, [], []⟩, ⟨16, [], []⟩] (by kernel_rfl) ?_
              simp (disch := omega) only [go_sem]
              refine call_open (con_l2shlF xm kk (by omega) (by omega)) (by simp (disch := omega) only [go_sem, ek, et2]) ?_
              rintro r hs ⟨rfl, rfl, _⟩
              refine ⟨by simp [freeN], ?_⟩
              simp (disch := omega) only [go_sem]
              refine call_closed (con_l2int (xm * 2 ^ kk) (by rw [eM]; omega)) (by simp (disch := omega) only [go_sem]) ?_
              rintro r hs ⟨rfl, rfl, _⟩
              refine ⟨by simp [freeN], ?_⟩
              simp (disch := omega) only [go_sem]
              refine fin_valc (by simp (disch := omega) only [go_sem]) (by simp (disch := omega) only [go_sem]) ⟨?_, rfl, rfl⟩
              exact hfin ((xm * 2 ^ kk : Nat) : Int) (by rw [eM])
            · have eE : flE rm re = (bl rm : Int) + re - 53 := by unfold flE flLow; rw [if_neg (by omega)]
              simp (disch := omega) only [go_sem, h7]
              rw [eE] at ek hfin
              try rw [← et2] at hfin
              refine draw_of rfl [⟨0, [], []⟩, ⟨1, [], []⟩, ⟨2, [], []⟩, ⟨3, [2], []⟩, ⟨4, [2], []⟩, ⟨5, [2], []⟩, ⟨6, [2, 5], []⟩, ⟨7, [2, 5], []⟩, ⟨8, [2, 5, 7], []⟩, ⟨9, [2, 5], []⟩, ⟨12, [2, 5, 7], []⟩, ⟨14, [2, 5, 7], []⟩, ⟨10, [2], []⟩, ⟨11, [2], []⟩, ⟨13, [], []⟩, ⟨15, [], []⟩, ⟨16, [], []⟩] (by kernel_rfl) ?_
              simp (disch := omega) only [go_sem]
              refine call_open (con_l2shlF xm kk (by omega) (by omega)) (by simp (disch := omega) only [go_sem, ek, et2]) ?_
              rintro r hs ⟨rfl, rfl, _⟩
              refine ⟨by simp [freeN], ?_⟩
              simp (disch := omega) only [go_sem]
              refine call_closed (con_l2int (xm * 2 ^ kk) (by rw [eM]; omega)) (by simp (disch := omega) only [go_sem]) ?_
              rintro r hs ⟨rfl, rfl, _⟩
              refine ⟨by simp [freeN], ?_⟩
              simp (disch := omega) only [go_sem]
              refine fin_valc (by simp (disch := omega) only [go_sem]) (by simp (disch := omega) only [go_sem]) ⟨?_, rfl, rfl⟩
              exact hfin ((xm * 2 ^ kk : Nat) : Int) (by rw [eM])
end Go.Ab
namespace Go.Ab
open Go Go.Proofs
set_option linter.unusedVariables false
set_option linter.unusedSimpArgs false

theorem con_natokS (xs : List Int) (hl : xs.length ≤ 2 ^ 40) : Con Tryd.prog 20 true [.ag [.sl xs.length (ints xs)]] [] (isA (.v (.bool (natB xs)))) := by
  refine Con.of_aw Tryd.func20 rfl Tryd.ntmps20 (by simp) (by simp) (by simp) (W.sound ?_)
  show @W Tryd.prog 44 ⟨_⟩ ⟨fun x σ => @retW _ _ _ ⟨_⟩ _ ⟨_⟩ x σ⟩ _ _
  simp (disch := omega) only [go_sem]
  refine ifW_dec (fun h1 => ?_) (fun h1 => ?_)
  · simp (disch := omega) only [go_sem, h1]
    refine fin_valc (by simp (disch := omega) only [go_sem]) (by simp (disch := omega) only [go_sem]) ⟨?_, rfl, rfl⟩
    have : ¬ (xs.length ≤ 100) := by omega
    simp [tupA, natB, this]
  · simp (disch := omega) only [go_sem, h1]
    refine loop_intro (fun i : Nat => [(1, .pt 30000000 0), (2, .v (.bool false)), (3, .v (.int .i64 i))]) (fun _ => [(30000000, .own 0 [.sl xs.length (ints xs)])]) (fun i => i ≤ xs.length ∧ ∀ x ∈ xs.take i, 0 ≤ x ∧ x ≤ 65535) (fun i => xs.length - i) 0 ⟨by omega, by simp⟩
      (Le.lst [] _ _ rfl (by simp (disch := omega) only [go_sem]) (by simp (disch := omega) only [go_sem])) ?_
    rintro i ⟨hi, hx⟩
    simp (disch := omega) only [go_sem]
    refine ifW_dec (fun h2 => ?_) (fun h2 => ?_)
    · simp (disch := omega) only [go_sem, h2]
      have hmem : xs.getD i 0 ∈ xs := by
        rw [List.getD_eq_getElem?_getD, List.getElem?_eq_getElem (by omega)]; exact List.getElem_mem _
      have bad : ¬ (0 ≤ xs.getD i 0 ∧ xs.getD i 0 ≤ 65535) → natB xs = false := by
        intro hc
        unfold natB
        have : xs.all (fun x => decide (0 ≤ x) && decide (x ≤ 65535)) = false := by
          rw [List.all_eq_false]
          refine ⟨_, hmem, ?_⟩
          simp only [Bool.and_eq_true, decide_eq_true_eq]; exact hc
        rw [this]; simp
      refine ⟨by omega, by omega, ?_⟩
      refine ifW_not (fun h3 => ?_) (fun h3 => ?_)
      · simp (disch := omega) only [go_sem, h3]
        refine ⟨by omega, by omega, ?_⟩
        refine ifW_dec (fun h4 => ?_) (fun h4 => ?_)
        · simp (disch := omega) only [go_sem, h4]
          rw [bad (by omega)]
          exact fin_valc (by simp (disch := omega) only [go_sem]) (by simp (disch := omega) only [go_sem]) isA_mk
        · simp (disch := omega) only [go_sem, h4]
          refine next_intro (i + 1) [] ⟨by omega, ?_⟩ (by show xs.length - (i + 1) < xs.length - i; omega) rfl (by simp (disch := omega) only [go_sem]; try omega) (by simp (disch := omega) only [go_sem])
          intro x hxx
          rw [List.take_add_one] at hxx
          rcases List.mem_append.1 hxx with h | h
          · exact hx x h
          · rw [List.getElem?_eq_getElem (by omega)] at h
            simp at h
            rw [List.getD_eq_getElem?_getD, List.getElem?_eq_getElem (by omega)] at h3 h4
            simp at h3 h4
            subst h
            omega
      · simp (disch := omega) only [go_sem, h3]
        rw [bad (by omega)]
        exact fin_valc (by simp (disch := omega) only [go_sem]) (by simp (disch := omega) only [go_sem]) isA_mk
    · have : i = xs.length := by omega
      subst this
      rw [List.take_length] at hx
      have hall : xs.all (fun x => decide (0 ≤ x) && decide (x ≤ 65535)) = true := by
        rw [List.all_eq_true]
        intro x h; have := hx x h; simp only [Bool.and_eq_true, decide_eq_true_eq]; exact this
      have e1 : decide (xs.length ≤ 100) = true := by simp; omega
      simp (disch := omega) only [go_sem, h2]
      refine ifW_not (fun h3 => ?_) (fun h3 => ?_)
      · have en : ((xs.length : Int) - 1).toNat = xs.length - 1 := by omega
        have hmem : xs.getD (xs.length - 1) 0 ∈ xs := by
          rw [List.getD_eq_getElem?_getD, List.getElem?_eq_getElem (by omega)]; exact List.getElem_mem _
        have hp := hx _ hmem
        simp (disch := omega) only [go_sem, h3, en]
        refine ⟨by omega, by omega, ?_⟩
        refine fin_valc (by simp (disch := omega) only [go_sem]) (by simp (disch := omega) only [go_sem]) ⟨?_, rfl, rfl⟩
        have e2 : decide (xs.length = 0) = false := by simp; intro h; subst h; simp at h3
        show AV.v (.bool _) = AV.v (.bool _)
        unfold natB
        rw [e1, hall, e2, Bool.false_or, Bool.true_and, Bool.true_and]
        congr 2
        rw [decide_eq_decide]
        omega
      · simp (disch := omega) only [go_sem, h3]
        refine fin_valc (by simp (disch := omega) only [go_sem]) (by simp (disch := omega) only [go_sem]) ⟨?_, rfl, rfl⟩
        have e2 : decide (xs.length = 0) = true := by simp; exact List.length_eq_zero_iff.1 (by omega)
        show AV.v (.bool _) = AV.v (.bool _)
        unfold natB
        rw [e1, hall, e2]
        simp

end Go.Ab
namespace Go.Ab
set_option linter.unusedVariables false

/-- A quotient's next bit tells whether there is a rest. -/
def stk (A B : Nat) : Nat := 2 * (A / B) + (if A % B = 0 then 0 else 1)

theorem stk_facts {A B j : Nat} (hB : 0 < B) (hj : 1 ≤ j) :
    stk A B / 2 ^ (j + 1) = A / (B * 2 ^ j) ∧ (stk A B % 2 ^ (j + 1) = 0 ↔ A % (B * 2 ^ j) = 0) ∧
      cmpI ((stk A B % 2 ^ (j + 1) * 2 : Nat) : Int) ((2 ^ (j + 1) : Nat) : Int) = cmpI ((A % (B * 2 ^ j) * 2 : Nat) : Int) ((B * 2 ^ j : Nat) : Int) := by
  obtain ⟨i, rfl⟩ : ∃ i, j = i + 1 := ⟨j - 1, by omega⟩
  have hm : A % B < B := Nat.mod_lt _ hB
  have hp : 0 < 2 ^ i := Nat.pow_pos (by omega)
  have e2 : (2 : Nat) ^ (i + 1) = 2 * 2 ^ i := Nat.pow_succ'
  have e3 : (2 : Nat) ^ (i + 1 + 1) = 2 * (2 * 2 ^ i) := by rw [Nat.pow_succ', e2]
  -- the quotient's own quotient and rest
  obtain ⟨q, hq⟩ : ∃ q, q = A / B := ⟨_, rfl⟩
  obtain ⟨r, hr⟩ : ∃ r, r = A % B := ⟨_, rfl⟩
  have d1 : A / (B * 2 ^ (i + 1)) = q / (2 * 2 ^ i) := by rw [e2, ← Nat.div_div_eq_div_mul, ← hq]
  have d2 : A % (B * 2 ^ (i + 1)) = B * (q % (2 * 2 ^ i)) + r := by
    rw [e2, Nat.mod_mul, ← hq, ← hr, Nat.add_comm]
  have s1 : stk A B / 2 ^ (i + 1 + 1) = q / (2 * 2 ^ i) := by
    unfold stk
    rw [e3, ← Nat.div_div_eq_div_mul, ← hq]
    congr 1
    split <;> omega
  have s2 : stk A B % 2 ^ (i + 1 + 1) = 2 * (q % (2 * 2 ^ i)) + (if r = 0 then 0 else 1) := by
    unfold stk
    rw [e3, Nat.mod_mul, ← hq, ← hr]
    have h1 : (2 * q + (if r = 0 then 0 else 1)) / 2 = q := by split <;> omega
    have h2 : (2 * q + (if r = 0 then 0 else 1)) % 2 = (if r = 0 then 0 else 1) := by split <;> omega
    rw [h1, h2, Nat.add_comm]
  rw [d1, d2, s1, s2]
  have hu : q % (2 * 2 ^ i) < 2 * 2 ^ i := Nat.mod_lt _ (by omega)
  generalize q % (2 * 2 ^ i) = u at *
  rw [← hr] at hm
  refine ⟨rfl, ?_, ?_⟩
  · rw [Nat.add_eq_zero_iff, Nat.add_eq_zero_iff, Nat.mul_eq_zero, Nat.mul_eq_zero]
    split <;> omega
  · have key : ∀ x y X Y : Int, (X < Y ↔ x < y) → (Y < X ↔ y < x) → cmpI X Y = cmpI x y := by
      intro x y X Y p q
      unfold cmpI
      by_cases h1 : x < y
      · rw [if_pos h1, if_pos (p.2 h1)]
      · rw [if_neg h1, if_neg (fun h => h1 (p.1 h))]
        by_cases h2 : y < x
        · rw [if_pos h2, if_pos (q.2 h2)]
        · rw [if_neg h2, if_neg (fun h => h2 (q.1 h))]
    rw [e2, e3]
    have hB2 : B * (2 * 2 ^ i) = 2 * (B * 2 ^ i) := by grind
    rw [hB2]
    generalize 2 ^ i = h at *
    rcases Nat.lt_trichotomy u h with c | c | c
    · have c1 : B * u + B ≤ B * h := by have := Nat.mul_le_mul_left B (show u + 1 ≤ h from c); rw [Nat.mul_add, Nat.mul_one] at this; exact this
      generalize B * u = bu at *
      generalize B * h = bh at *
      refine key _ _ _ _ ?_ ?_ <;> split <;> omega
    · subst c
      generalize B * u = bu at *
      refine key _ _ _ _ ?_ ?_ <;> split <;> omega
    · have c1 : B * h + B ≤ B * u := by have := Nat.mul_le_mul_left B (show h + 1 ≤ u from c); rw [Nat.mul_add, Nat.mul_one] at this; exact this
      generalize B * u = bu at *
      generalize B * h = bh at *
      refine key _ _ _ _ ?_ ?_ <;> split <;> omega

theorem rq_stk {s : Bool} {A B j : Nat} {mode : Int} (hB : 0 < B) (hj : 1 ≤ j) : rq s (stk A B) (2 ^ (j + 1)) mode = rq s A (B * 2 ^ j) mode := by
  obtain ⟨h1, h2, h3⟩ := stk_facts (A := A) hB hj
  unfold rq
  rw [h1, h3]
  by_cases h : A % (B * 2 ^ j) = 0
  · rw [if_pos h, if_pos (h2.2 h)]
  · rw [if_neg h, if_neg (fun g => h (h2.1 g))]
end Go.Ab
namespace Go.Ab
open Go Go.Proofs
set_option linter.unusedVariables false
set_option linter.unusedSimpArgs false

/-- How far a quotient is shifted. -/
def quK (N D : Nat) : Int := 58 - ((bl N : Int) - (bl D : Int))
def quA (N D : Nat) : Nat := N * 2 ^ (quK N D).toNat
def quB (N D : Nat) : Nat := D * 2 ^ (-quK N D).toNat
def quQ (N D : Nat) : Nat := stk (quA N D) (quB N D)
/-- Above the quotient's first bit. -/
def quT (N D : Nat) : Int := if quB N D * 2 ^ 58 ≤ quA N D then (bl N : Int) - (bl D : Int) + 1 else (bl N : Int) - (bl D : Int)

theorem pow_pp (k : Nat) : 0 < 2 ^ k := Nat.pow_pos (by omega)

theorem qu_bnd {N D : Nat} (hN : N ≠ 0) (hD : D ≠ 0) : 0 < quB N D ∧ quB N D * 2 ^ 57 ≤ quA N D ∧ quA N D < quB N D * 2 ^ 59 := by
  have n1 := bl_lt N
  have d1 := bl_lt D
  have n2 := bl_ge hN
  have d2 := bl_ge hD
  have bn : bl N ≠ 0 := fun e => by rw [e] at n1; simp at n1; exact hN n1
  have bd : bl D ≠ 0 := fun e => by rw [e] at d1; simp at d1; exact hD d1
  obtain ⟨kp, hkp⟩ : ∃ kp, kp = (quK N D).toNat := ⟨_, rfl⟩
  obtain ⟨km, hkm⟩ : ∃ km, km = (-quK N D).toNat := ⟨_, rfl⟩
  have hk : (bl N : Int) + kp = 58 + bl D + km := by unfold quK at *; omega
  unfold quA quB
  rw [← hkp, ← hkm]
  refine ⟨Nat.mul_pos (Nat.pos_of_ne_zero hD) (pow_pp _), ?_, ?_⟩
  · have e1 : bl N - 1 + kp = bl D + km + 57 := by omega
    have a1 : 2 ^ (bl N - 1) * 2 ^ kp ≤ N * 2 ^ kp := Nat.mul_le_mul_right _ n2
    rw [← Nat.pow_add, e1, Nat.pow_add, Nat.pow_add] at a1
    have a2 : D * 2 ^ km * 2 ^ 57 ≤ 2 ^ bl D * 2 ^ km * 2 ^ 57 := Nat.mul_le_mul_right _ (Nat.mul_le_mul_right _ (Nat.le_of_lt d1))
    exact Nat.le_trans a2 a1
  · have e1 : bl N + kp = bl D - 1 + km + 59 := by omega
    have a1 : N * 2 ^ kp < 2 ^ bl N * 2 ^ kp := Nat.mul_lt_mul_of_pos_right n1 (pow_pp _)
    rw [← Nat.pow_add, e1, Nat.pow_add, Nat.pow_add] at a1
    have a2 : 2 ^ (bl D - 1) * 2 ^ km * 2 ^ 59 ≤ D * 2 ^ km * 2 ^ 59 := Nat.mul_le_mul_right _ (Nat.mul_le_mul_right _ d2)
    exact Nat.lt_of_lt_of_le a1 a2

theorem qu_top {N D : Nat} (hN : N ≠ 0) (hD : D ≠ 0) : quQ N D ≠ 0 ∧ (bl (quQ N D) : Int) + (-quK N D - 1) = quT N D ∧ bl (quQ N D) ≤ 60 := by
  obtain ⟨hB, h1, h2⟩ := qu_bnd hN hD
  have q1 : 2 ^ 57 ≤ quA N D / quB N D := (Nat.le_div_iff_mul_le hB).2 (by rw [Nat.mul_comm]; exact h1)
  have q2 : quA N D / quB N D < 2 ^ 59 := (Nat.div_lt_iff_lt_mul hB).2 (by rw [Nat.mul_comm]; exact h2)
  have q3 : quB N D * 2 ^ 58 ≤ quA N D ↔ 2 ^ 58 ≤ quA N D / quB N D := by rw [Nat.le_div_iff_mul_le hB, Nat.mul_comm]
  have hQ : quQ N D ≠ 0 ∧ quQ N D / 2 = quA N D / quB N D := by
    unfold quQ stk; constructor
    · omega
    · split <;> omega
  have hb : bl (quQ N D) = bl (quA N D / quB N D) + 1 := by rw [bl_dbl hQ.1, hQ.2]
  refine ⟨hQ.1, ?_, ?_⟩
  · rw [hb]
    unfold quT
    by_cases c : quB N D * 2 ^ 58 ≤ quA N D
    · rw [if_pos c, bl_eq (k := 58) (q3.1 c) q2]; unfold quK; omega
    · rw [if_neg c, bl_eq (k := 57) q1 (by have := fun h => c (q3.2 h); omega)]; unfold quK; omega
  · have : bl (quA N D / quB N D) ≤ 59 := bl_le.2 q2
    omega

theorem rq_two {s : Bool} {a b a' b' i i' : Nat} {mode : Int} (h1 : a * 2 ^ i = a' * 2 ^ i') (h2 : b * 2 ^ i = b' * 2 ^ i') : rq s a b mode = rq s a' b' mode ∧ (a % b = 0 ↔ a' % b' = 0) := by
  constructor
  · rw [← rq_scale (k := i), h1, h2, rq_scale]
  · have p1 : 2 ^ i ≠ 0 := Nat.pos_iff_ne_zero.1 (pow_pp i)
    have p2 : 2 ^ i' ≠ 0 := Nat.pos_iff_ne_zero.1 (pow_pp i')
    have e1 : a % b * 2 ^ i = a' % b' * 2 ^ i' := by rw [← Nat.mul_mod_mul_right, ← Nat.mul_mod_mul_right, h1, h2]
    constructor
    · intro h; rw [h, Nat.zero_mul] at e1; exact (Nat.mul_eq_zero.1 e1.symm).resolve_right p2
    · intro h; rw [h, Nat.zero_mul] at e1; exact (Nat.mul_eq_zero.1 e1).resolve_right p1

/-- A quotient's float, from its first bits and whether there is a rest. -/
theorem qu_fl {N D : Nat} (s : Bool) (mode : Int) (z : Bool) (hN : N ≠ 0) (hD : D ≠ 0) :
    flV s (quQ N D) (-quK N D - 1) mode z = ⟨flK s mode (ovQ s N 0 D 0 (flLow (quT N D)) mode) (flLow (quT N D)), s, flMm s mode (ovQ s N 0 D 0 (flLow (quT N D)) mode) (flLow (quT N D)), flEe s mode (ovQ s N 0 D 0 (flLow (quT N D)) mode) (flLow (quT N D))⟩ ∧
      flG s (quQ N D) (-quK N D - 1) mode = flFl (quT N D) (ovX N 0 D 0 (flLow (quT N D))) (ovQ s N 0 D 0 (flLow (quT N D)) mode) (flLow (quT N D)) ∧
      (ovQ s N 0 D 0 (flLow (quT N D)) mode ≠ 0 → flE (ovQ s N 0 D 0 (flLow (quT N D)) mode) (flLow (quT N D)) ≤ oE (ovQ s N 0 D 0 (flLow (quT N D)) mode) (flLow (quT N D))) := by
  obtain ⟨hQ, hT, hQb⟩ := qu_top hN hD
  obtain ⟨hB, _, _⟩ := qu_bnd hN hD
  have hlow : (bl N : Int) - (bl D : Int) - 53 ≤ flLow (quT N D) := by unfold flLow quT; split <;> split <;> omega
  have hform := @ro_form s (quQ N D) (-quK N D - 1) mode hQ
  unfold flV flG
  rw [if_neg hQ, if_neg hQ]
  rw [hT] at hform ⊢
  generalize flLow (quT N D) = low at *
  obtain ⟨j, hj⟩ : ∃ j : Nat, (j : Int) = low + quK N D := ⟨(low + quK N D).toNat, by unfold quK at *; omega⟩
  have hj1 : 1 ≤ j := by unfold quK at hj; omega
  have hc : ¬ (low ≤ -quK N D - 1 ∨ quQ N D = 0) := by omega
  have hsh : (low - (-quK N D - 1)).toNat = j + 1 := by omega
  obtain ⟨f1, f2, _⟩ := stk_facts (A := quA N D) hB hj1
  have f3 := rq_stk (s := s) (A := quA N D) (mode := mode) hB hj1
  have two := @rq_two s (quA N D) (quB N D * 2 ^ j) (ovA N (0 - 0 - low)) (ovA D (-(0 - 0 - low))) (0 - 0 - low).toNat (quK N D).toNat mode
    (by unfold quA ovA; rw [Nat.mul_assoc, Nat.mul_assoc, Nat.mul_comm (2 ^ _)])
    (by
      unfold quB ovA
      rw [Nat.mul_assoc, Nat.mul_assoc, Nat.mul_assoc, ← Nat.pow_add, ← Nat.pow_add, ← Nat.pow_add]
      congr 2; omega)
  have hrm : roM s (quQ N D) (-quK N D - 1) low mode = ovQ s N 0 D 0 low mode := by
    unfold roM ovQ
    rw [if_neg hc, hsh]
    exact f3.trans two.1
  have hrx : roX (quQ N D) (-quK N D - 1) low = ovX N 0 D 0 low := by
    unfold roX ovX
    rw [if_neg hc, hsh, decide_eq_decide]
    exact f2.trans two.2
  have hre : roE (quQ N D) (-quK N D - 1) low = low := by unfold roE; rw [if_neg hc]
  rw [hrm, hre] at hform
  rw [hrm, hre, hrx]
  exact ⟨rfl, rfl, hform⟩
end Go.Ab
namespace Go.Ab
open Go Go.Proofs
set_option linter.unusedVariables false
set_option linter.unusedSimpArgs false

end Go.Ab
namespace Go.Ab
open Go Go.Proofs
set_option linter.unusedVariables false
set_option linter.unusedSimpArgs false

theorem con_aligned (s1 : Bool) (m1 : Nat) (e1 : Int) (s2 : Bool) (m2 : Nat) (e2 : Int) (h1 : bl m1 ≤ 4000000) (h2 : bl m2 ≤ 4000000) (he1 : -1000000 ≤ e1 ∧ e1 ≤ 1000000) (he2 : -1000000 ≤ e2 ∧ e2 ≤ 1000000) :
    Con Tryd.prog 81 false [.ag [.v (.bool (s1)), .sl (lim (m1)).length (ints (lim (m1))), .v (.int .i64 (e1))], .ag [.v (.bool (s2)), .sl (lim (m2)).length (ints (lim (m2))), .v (.int .i64 (e2))]] [] (isA (.tu [.sl (lim (alA m1 e1 (alE m1 e1 m2 e2))).length (ints (lim (alA m1 e1 (alE m1 e1 m2 e2)))), .sl (lim (alA m2 e2 (alE m1 e1 m2 e2))).length (ints (lim (alA m2 e2 (alE m1 e1 m2 e2)))), .v (.int .i64 (alE m1 e1 m2 e2))])) := by
  refine Con.frzA ?_
  have l1 := len_bl h1
  have l2 := len_bl h2
  have hE := alE_ge (m1 := m1) (m2 := m2) he1.1 he2.1
  have hE2 := alE_le (m1 := m1) (m2 := m2) he1.2 he2.2
  have x1 : ∀ d : Int, (if 0 > d then 0 else d) = ((d.toNat : Nat) : Int) := fun d => by split <;> omega
  refine Con.of_aw Tryd.func81 rfl Tryd.ntmps81 (by simp) (by simp) (by simp) (W.sound ?_)
  show @W Tryd.prog 42 ⟨_⟩ ⟨fun x σ => @retW _ _ _ ⟨_⟩ _ ⟨_⟩ x σ⟩ _ _
  simp (disch := omega) only [go_sem]
  refine ifW_dec (fun c1 => ?_) (fun c1 => ?_)
  · have z1 : m1 = 0 := lim_eq_nil.1 (List.length_eq_zero_iff.1 (by omega))
    simp (disch := omega) only [go_sem, c1]
    refine ifW_dec (fun c2 => ?_) (fun c2 => ?_)
    · have z2 : m2 = 0 := lim_eq_nil.1 (List.length_eq_zero_iff.1 (by omega))
      have eE : alE m1 e1 m2 e2 = e1 := by unfold alE; rw [if_pos z2]
      simp (disch := omega) only [go_sem, c2]
      refine draw_of rfl [⟨0, [], []⟩, ⟨1, [], []⟩, ⟨2, [1], []⟩, ⟨3, [1], []⟩, ⟨4, [1, 3], []⟩, ⟨5, [1], []⟩, ⟨6, [1], []⟩, ⟨8, [1, 3], []⟩, ⟨9, [1, 3], []⟩, ⟨10, [1, 3, 9], []⟩, ⟨11, [1, 3, 9], []⟩, ⟨12, [1, 3, 9, 11], []⟩, ⟨13, [1, 3, 9], []⟩, ⟨14, [1, 3, 9], []⟩, ⟨16, [1, 3, 9, 11], []⟩, ⟨7, [9, 11], []⟩, ⟨15, [], []⟩, ⟨17, [], []⟩, ⟨18, [], []⟩, ⟨19, [], []⟩] (by kernel_rfl) ?_
      simp (disch := omega) only [go_sem, x1]
      refine call_open (con_upN m1 (e1 - e1).toNat (by omega) (by omega)) (by simp (disch := omega) only [go_sem, x1]) ?_
      rintro r hs ⟨rfl, rfl, _⟩
      refine ⟨by simp [freeN], ?_⟩
      simp (disch := omega) only [go_sem]
      refine call_open (con_upN m2 (e2 - e1).toNat (by omega) (by omega)) (by simp (disch := omega) only [go_sem, x1]) ?_
      rintro r hs ⟨rfl, rfl, _⟩
      refine ⟨by simp [freeN], ?_⟩
      simp (disch := omega) only [go_sem]
      refine fin_val (by simp (disch := omega) only [go_sem]) ?_
      show snap _ 6 _ = _
      rw [eE]; unfold alA
      simp (disch := omega) only [go_sem]
    · have z2 : m2 ≠ 0 := fun e => c2 (by rw [e, lim_zero]; rfl)
      have eE : alE m1 e1 m2 e2 = e2 := by unfold alE; rw [if_neg z2, if_pos z1]
      simp (disch := omega) only [go_sem, c2]
      refine draw_of rfl [⟨0, [], []⟩, ⟨1, [], []⟩, ⟨2, [1], []⟩, ⟨3, [1], []⟩, ⟨4, [1, 3], []⟩, ⟨5, [1], []⟩, ⟨6, [1], []⟩, ⟨8, [1, 3], []⟩, ⟨9, [1, 3], []⟩, ⟨10, [1, 3, 9], []⟩, ⟨11, [1, 3, 9], []⟩, ⟨12, [1, 3, 9, 11], []⟩, ⟨13, [1, 3, 9], []⟩, ⟨14, [1, 3, 9], []⟩, ⟨16, [1, 3, 9, 11], []⟩, ⟨7, [9, 11], []⟩, ⟨15, [], []⟩, ⟨17, [], []⟩, ⟨18, [], []⟩, ⟨19, [], []⟩] (by kernel_rfl) ?_
      simp (disch := omega) only [go_sem, x1]
      refine call_open (con_upN m1 (e1 - e2).toNat (by omega) (by omega)) (by simp (disch := omega) only [go_sem, x1]) ?_
      rintro r hs ⟨rfl, rfl, _⟩
      refine ⟨by simp [freeN], ?_⟩
      simp (disch := omega) only [go_sem]
      refine call_open (con_upN m2 (e2 - e2).toNat (by omega) (by omega)) (by simp (disch := omega) only [go_sem, x1]) ?_
      rintro r hs ⟨rfl, rfl, _⟩
      refine ⟨by simp [freeN], ?_⟩
      simp (disch := omega) only [go_sem]
      refine fin_val (by simp (disch := omega) only [go_sem]) ?_
      show snap _ 6 _ = _
      rw [eE]; unfold alA
      simp (disch := omega) only [go_sem]
  · have z1 : m1 ≠ 0 := fun e => c1 (by rw [e, lim_zero]; rfl)
    simp (disch := omega) only [go_sem, c1]
    refine ifW_dec (fun c2 => ?_) (fun c2 => ?_)
    · have z2 : m2 = 0 := lim_eq_nil.1 (List.length_eq_zero_iff.1 (by omega))
      have eE : alE m1 e1 m2 e2 = e1 := by unfold alE; rw [if_pos z2]
      simp (disch := omega) only [go_sem, c2]
      refine draw_of rfl [⟨0, [], []⟩, ⟨1, [], []⟩, ⟨2, [1], []⟩, ⟨3, [1], []⟩, ⟨4, [1, 3], []⟩, ⟨5, [1], []⟩, ⟨6, [1], []⟩, ⟨8, [1, 3], []⟩, ⟨9, [1, 3], []⟩, ⟨10, [1, 3, 9], []⟩, ⟨11, [1, 3, 9], []⟩, ⟨12, [1, 3, 9, 11], []⟩, ⟨13, [1, 3, 9], []⟩, ⟨14, [1, 3, 9], []⟩, ⟨16, [1, 3, 9, 11], []⟩, ⟨7, [9, 11], []⟩, ⟨15, [], []⟩, ⟨17, [], []⟩, ⟨18, [], []⟩, ⟨19, [], []⟩] (by kernel_rfl) ?_
      simp (disch := omega) only [go_sem, x1]
      refine call_open (con_upN m1 (e1 - e1).toNat (by omega) (by omega)) (by simp (disch := omega) only [go_sem, x1]) ?_
      rintro r hs ⟨rfl, rfl, _⟩
      refine ⟨by simp [freeN], ?_⟩
      simp (disch := omega) only [go_sem]
      refine call_open (con_upN m2 (e2 - e1).toNat (by omega) (by omega)) (by simp (disch := omega) only [go_sem, x1]) ?_
      rintro r hs ⟨rfl, rfl, _⟩
      refine ⟨by simp [freeN], ?_⟩
      simp (disch := omega) only [go_sem]
      refine fin_val (by simp (disch := omega) only [go_sem]) ?_
      show snap _ 6 _ = _
      rw [eE]; unfold alA
      simp (disch := omega) only [go_sem]
    · have z2 : m2 ≠ 0 := fun e => c2 (by rw [e, lim_zero]; rfl)
      have eE : (if e2 < e1 then e2 else e1) = alE m1 e1 m2 e2 := by unfold alE; rw [if_neg z2, if_neg z1]
      simp (disch := omega) only [go_sem, c2, eE]
      refine draw_of rfl [⟨0, [], []⟩, ⟨1, [], []⟩, ⟨2, [1], []⟩, ⟨3, [1], []⟩, ⟨4, [1, 3], []⟩, ⟨5, [1], []⟩, ⟨6, [1], []⟩, ⟨8, [1, 3], []⟩, ⟨9, [1, 3], []⟩, ⟨10, [1, 3, 9], []⟩, ⟨11, [1, 3, 9], []⟩, ⟨12, [1, 3, 9, 11], []⟩, ⟨13, [1, 3, 9], []⟩, ⟨14, [1, 3, 9], []⟩, ⟨16, [1, 3, 9, 11], []⟩, ⟨7, [9, 11], []⟩, ⟨15, [], []⟩, ⟨17, [], []⟩, ⟨18, [], []⟩, ⟨19, [], []⟩] (by kernel_rfl) ?_
      simp (disch := omega) only [go_sem, x1, eE]
      refine call_open (con_upN m1 (e1 - alE m1 e1 m2 e2).toNat (by omega) (by omega)) (by simp (disch := omega) only [go_sem, x1, eE]) ?_
      rintro r hs ⟨rfl, rfl, _⟩
      refine ⟨by simp [freeN], ?_⟩
      simp (disch := omega) only [go_sem]
      refine call_open (con_upN m2 (e2 - alE m1 e1 m2 e2).toNat (by omega) (by omega)) (by simp (disch := omega) only [go_sem, x1, eE]) ?_
      rintro r hs ⟨rfl, rfl, _⟩
      refine ⟨by simp [freeN], ?_⟩
      simp (disch := omega) only [go_sem]
      refine fin_val (by simp (disch := omega) only [go_sem]) ?_
      show snap _ 6 _ = _
      unfold alA
      simp (disch := omega) only [go_sem]

end Go.Ab
namespace Go.Ab
open Go Go.Proofs
set_option linter.unusedVariables false
set_option linter.unusedSimpArgs false

end Go.Ab
namespace Go.Ab
open Go Go.Proofs
set_option linter.unusedVariables false
set_option linter.unusedSimpArgs false

section
variable {k1 : Int} {s1 : Bool} {m1 e1 k2 : Int} {s2 : Bool} {m2 e2 mode : Int}
end
end Go.Ab
namespace Go.Ab
open Go Go.Proofs
set_option linter.unusedVariables false
set_option linter.unusedSimpArgs false

/-- Is a number short enough to be a whole number of the program's? -/
def natFit (m : Nat) : Bool := decide ((lim m).length ≤ 100)
/-- May a number be told as a dyadic number? -/
def dyFit (m : Nat) (e : Int) : Bool := natFit (oM m) && (decide (-3000 ≤ oE m e) && decide (oE m e ≤ 3000))

end Go.Ab
namespace Go.Ab
open Go Go.Proofs
set_option linter.unusedVariables false
set_option linter.unusedSimpArgs false

theorem con_signedCompare (s1 : Bool) (m1 : Nat) (s2 : Bool) (m2 : Nat) (l1 : (lim m1).length ≤ 2 ^ 40) (l2 : (lim m2).length ≤ 2 ^ 40) (z1 : m1 = 0 → s1 = false) (z2 : m2 = 0 → s2 = false) :
    Con Tryd.prog 82 true [.v (.bool s1), .sl (lim (m1)).length (ints (lim (m1))), .v (.bool s2), .sl (lim (m2)).length (ints (lim (m2)))] [] (isA (.v (.int .i64 (cmpI (sv s1 m1) (sv s2 m2))))) := by
  rw [cmp_signs z1 z2]
  cases s1 <;> cases s2
  · refine Con.of_aw Tryd.func82 rfl Tryd.ntmps82 (by simp) (by simp) (by simp) (W.sound ?_)
    show @W Tryd.prog 29 ⟨_⟩ ⟨fun x σ => @retW _ _ _ ⟨_⟩ _ ⟨_⟩ x σ⟩ _ _
    simp (disch := omega) only [go_sem]
    refine call_closed (con_compare m1 m2 l1 l2) (by simp (disch := omega) only [go_sem]) ?_
    rintro r hs ⟨rfl, rfl, _⟩
    refine ⟨by simp [freeN], ?_⟩
    simp (disch := omega) only [go_sem]
    exact fin_valc (by simp (disch := omega) only [go_sem]) (by simp (disch := omega) only [go_sem]) isA_mk
  · refine Con.of_aw Tryd.func82 rfl Tryd.ntmps82 (by simp) (by simp) (by simp) (W.sound ?_)
    show @W Tryd.prog 29 ⟨_⟩ ⟨fun x σ => @retW _ _ _ ⟨_⟩ _ ⟨_⟩ x σ⟩ _ _
    simp (disch := omega) only [go_sem]
    exact fin_valc (by simp (disch := omega) only [go_sem]) (by simp (disch := omega) only [go_sem]) isA_mk
  · refine Con.of_aw Tryd.func82 rfl Tryd.ntmps82 (by simp) (by simp) (by simp) (W.sound ?_)
    show @W Tryd.prog 29 ⟨_⟩ ⟨fun x σ => @retW _ _ _ ⟨_⟩ _ ⟨_⟩ x σ⟩ _ _
    simp (disch := omega) only [go_sem]
    exact fin_valc (by simp (disch := omega) only [go_sem]) (by simp (disch := omega) only [go_sem]) isA_mk
  · refine Con.of_aw Tryd.func82 rfl Tryd.ntmps82 (by simp) (by simp) (by simp) (W.sound ?_)
    show @W Tryd.prog 29 ⟨_⟩ ⟨fun x σ => @retW _ _ _ ⟨_⟩ _ ⟨_⟩ x σ⟩ _ _
    simp (disch := omega) only [go_sem]
    refine call_closed (con_compare m2 m1 l2 l1) (by simp (disch := omega) only [go_sem]) ?_
    rintro r hs ⟨rfl, rfl, _⟩
    refine ⟨by simp [freeN], ?_⟩
    simp (disch := omega) only [go_sem]
    exact fin_valc (by simp (disch := omega) only [go_sem]) (by simp (disch := omega) only [go_sem]) isA_mk

theorem con_compareX (K : Nat) (s1 : Bool) (m1 : Nat) (e1 : Int) (s2 : Bool) (m2 : Nat) (e2 : Int) (h1 : bl m1 ≤ 4000000) (h2 : bl m2 ≤ 4000000) (he1 : -1000000 ≤ e1 ∧ e1 ≤ 1000000) (he2 : -1000000 ≤ e2 ∧ e2 ≤ 1000000) (k1 : -(K : Int) ≤ e1) (k2 : -(K : Int) ≤ e2) (z1 : m1 = 0 → s1 = false) (z2 : m2 = 0 → s2 = false) :
    Con Tryd.prog 72 true [.ag [.v (.bool (s1)), .sl (lim (m1)).length (ints (lim (m1))), .v (.int .i64 (e1))], .ag [.v (.bool (s2)), .sl (lim (m2)).length (ints (lim (m2))), .v (.int .i64 (e2))]] [] (isA (.v (.int .i64 (cmpI (dv K s1 m1 e1) (dv K s2 m2 e2))))) := by
  have hE := alE_ge (m1 := m1) (m2 := m2) he1.1 he2.1
  have b1 := len_bl (bl_alA (e := e1) (E := alE m1 e1 m2 e2) (C := 2000000) h1 (by omega))
  have b2 := len_bl (bl_alA (e := e2) (E := alE m1 e1 m2 e2) (C := 2000000) h2 (by omega))
  rw [← cmp_dv k1 k2]
  have y1 : alA m1 e1 (alE m1 e1 m2 e2) = 0 → s1 = false := fun h => z1 (alA_zero.1 h)
  have y2 : alA m2 e2 (alE m1 e1 m2 e2) = 0 → s2 = false := fun h => z2 (alA_zero.1 h)
  refine Con.of_aw Tryd.func72 rfl Tryd.ntmps72 (by simp) (by simp) (by simp) (W.sound ?_)
  show @W Tryd.prog 22 ⟨_⟩ ⟨fun x σ => @retW _ _ _ ⟨_⟩ _ ⟨_⟩ x σ⟩ _ _
  simp (disch := omega) only [go_sem]
  refine call_open (con_aligned s1 m1 e1 s2 m2 e2 h1 h2 he1 he2) (by simp (disch := omega) only [go_sem]) ?_
  rintro r hs ⟨rfl, rfl, _⟩
  refine ⟨by simp [freeN], ?_⟩
  simp (disch := omega) only [go_sem]
  refine call_closed (con_signedCompare s1 (alA m1 e1 (alE m1 e1 m2 e2)) s2 (alA m2 e2 (alE m1 e1 m2 e2)) (by omega) (by omega) y1 y2) (by simp (disch := omega) only [go_sem]) ?_
  rintro r hs ⟨rfl, rfl, _⟩
  refine ⟨by simp [freeN], ?_⟩
  simp (disch := omega) only [go_sem]
  exact fin_valc (by simp (disch := omega) only [go_sem]) (by simp (disch := omega) only [go_sem]) isA_mk

/-- Is a float without end: with which sign? -/
def rkF (k : Int) (s : Bool) : Int := if k = 2 then (if s = true then -1 else 1) else 0
/-- A comparison of floats. -/
def cmpF (k1 : Int) (s1 : Bool) (m1 e1 k2 : Int) (s2 : Bool) (m2 e2 : Int) : Int :=
  if rkF k1 s1 ≠ rkF k2 s2 ∨ rkF k1 s1 ≠ 0 then cmpI (rkF k1 s1) (rkF k2 s2) else cmpI (dv 3000 (xS k1 s1) m1.toNat e1) (dv 3000 (xS k2 s2) m2.toNat e2)

end Go.Ab
namespace Go.Ab
open Go Go.Proofs
set_option linter.unusedVariables false
set_option linter.unusedSimpArgs false

theorem pow_len {A : List Int} (hA : gd A) (i : Nat) : (lim ((vl A) ^ i).toNat).length ≤ A.length * i + 1 := by
  rw [lim_len]
  have h1 := vl_nonneg hA
  have h2 := vl_lt hA
  obtain ⟨v, hv⟩ := Int.eq_ofNat_of_zero_le h1
  rw [hv] at h2 ⊢
  have h3 : v < 65536 ^ A.length := by
    have e : (65536 : Int) ^ A.length = ((65536 ^ A.length : Nat) : Int) := by rw [Int.natCast_pow]; rfl
    rw [e] at h2
    exact Int.ofNat_lt.1 h2
  rw [← Int.natCast_pow, Int.toNat_natCast, Nat.pow_succ, Nat.pow_mul]
  have h4 := Nat.pow_le_pow_left (Nat.le_of_lt h3) i
  have h5 : 0 < (65536 ^ A.length) ^ i := Nat.pow_pos (Nat.pow_pos (by omega))
  omega

theorem con_power (A : List Int) (k : Nat) (hA : gd A) (lA : A.length ≤ 1000000) (hl : A.length * k ≤ 999999) (hk : k < 2 ^ 62) :
    Con Tryd.prog 65 false [.sl A.length (ints A), .v (.int .i64 k)] [] (numF (lim ((vl A) ^ k).toNat)) := by
  refine Con.of_aw Tryd.func65 rfl Tryd.ntmps65 (by simp) (by simp) (by simp) (W.sound ?_)
  show @W Tryd.prog 15 ⟨_⟩ ⟨fun x σ => @retW _ _ _ ⟨_⟩ _ ⟨_⟩ x σ⟩ _ _
  simp (disch := omega) only [go_sem]
  refine call_open (con_small false 1 (by omega)).num (by simp (disch := omega) only [go_sem]) ?_
  rintro r hs ⟨rfl, rfl, _⟩
  refine ⟨by simp [freeN], ?_⟩
  simp (disch := omega) only [go_sem]
  have hv := vl_nonneg hA
  refine loop_intro (fun i : Nat => [(0, .sl A.length (ints A)), (5, .sl (lim ((vl A) ^ i).toNat).length (ints (lim ((vl A) ^ i).toNat))), (7, .v (.int .i64 k)), (8, .v (.int .i64 i))])
    (fun _ => []) (fun i => i ≤ k) (fun i => k - i) 0 (by omega) (Le.lst [] _ _ rfl (by simp (disch := omega) only [go_sem, Int.pow_zero, show (1 : Int).toNat = 1 from rfl]) (by simp (disch := omega) only [go_sem])) ?_
  intro i hi
  simp (disch := omega) only [go_sem]
  refine ifW_dec (fun h1 => ?_) (fun h1 => ?_)
  · simp (disch := omega) only [go_sem, h1]
    have hle : (lim ((vl A) ^ i).toNat).length ≤ 1000000 := Nat.le_trans (pow_len hA i) (Nat.succ_le_succ (Nat.le_trans (Nat.mul_le_mul_left _ hi) hl))
    refine call_open (con_times false (lim ((vl A) ^ i).toNat) A (gd_lim _) hA hle lA).num (by simp (disch := omega) only [go_sem]) ?_
    rintro r hs ⟨rfl, rfl, _⟩
    refine ⟨by simp [freeN], ?_⟩
    have e : vl (lim ((vl A) ^ i).toNat) * vl A = (vl A) ^ (i + 1) := by
      rw [vl_lim, Int.toNat_of_nonneg (Int.pow_nonneg hv), Int.pow_succ]
    rw [e]
    simp (disch := omega) only [go_sem]
    refine next_intro (i + 1) [] (by omega) (by show k - (i + 1) < k - i; omega) rfl (by simp (disch := omega) only [go_sem]; try omega) (by simp (disch := omega) only [go_sem])
  · simp (disch := omega) only [go_sem, h1]
    have : i = k := by omega
    subst this
    refine fin_intro [] [] [] [.sl (lim ((vl A) ^ i).toNat).length (ints (lim ((vl A) ^ i).toNat))] rfl (by simp (disch := omega) only [go_sem]) (by simp (disch := omega) only [go_sem]) (by simp) (by simp) ⟨rfl, rfl, rfl⟩
end Go.Ab
namespace Go.Ab
open Go Go.Proofs
set_option linter.unusedVariables false
set_option linter.unusedSimpArgs false

theorem con_powerX (a k : Nat) (la : (lim a).length ≤ 1000) (hk : k ≤ 900) : Con Tryd.prog 65 false [.sl (lim (a)).length (ints (lim (a))), .v (.int .i64 k)] [] (numF (lim (a ^ k))) := by
  have := con_power (lim a) k (gd_lim a) (by omega) (Nat.le_trans (Nat.mul_le_mul la hk) (by omega)) (by omega)
  rw [vl_lim] at this
  have e : ((a : Int) ^ k).toNat = a ^ k := by rw [← Int.natCast_pow, Int.toNat_natCast]
  rwa [e] at this

theorem con_ten (k : Nat) (hk : k ≤ 800) : Con Tryd.prog 52 false [.v (.int .i64 k)] [] (isA (.sl (lim (10 ^ k)).length (ints (lim (10 ^ k))))) := by
  have b5 : bl (5 ^ k) ≤ 3 * k + 1 := by
    refine bl_le.2 ?_
    calc 5 ^ k ≤ 8 ^ k := Nat.pow_le_pow_left (by omega) k
      _ = 2 ^ (3 * k) := by rw [Nat.pow_mul]
      _ < 2 ^ (3 * k + 1) := Nat.pow_lt_pow_right (by omega) (by omega)
  have l5 := len_bl b5
  have e10 : 5 ^ k * 2 ^ k = 10 ^ k := by rw [← Nat.mul_pow]
  refine Con.of_aw Tryd.func52 rfl Tryd.ntmps52 (by simp) (by simp) (by simp) (W.sound ?_)
  show @W Tryd.prog 8 ⟨_⟩ ⟨fun x σ => @retW _ _ _ ⟨_⟩ _ ⟨_⟩ x σ⟩ _ _
  simp (disch := omega) only [go_sem]
  refine call_open (con_smallN 5 (by omega)) (by simp (disch := omega) only [go_sem]) ?_
  rintro r hs ⟨rfl, rfl, _⟩
  refine ⟨by simp [freeN], ?_⟩
  simp (disch := omega) only [go_sem]
  refine call_open (con_powerX 5 k (by have := len_bl (m := 5) (B := 3) (by decide); omega) (by omega)) (by simp (disch := omega) only [go_sem]) ?_
  rintro r hs ⟨rfl, rfl, _⟩
  refine ⟨by simp [freeN], ?_⟩
  simp (disch := omega) only [go_sem]
  refine call_open (con_upN (5 ^ k) k (by omega) (by omega)) (by simp (disch := omega) only [go_sem]) ?_
  rintro r hs ⟨rfl, rfl, _⟩
  refine ⟨by simp [freeN], ?_⟩
  simp (disch := omega) only [go_sem]
  rw [e10]
  exact fin_val (by simp (disch := omega) only [go_sem]) isA_mk

theorem con_absX (s : Bool) (m : Nat) (e : Int) : Con Tryd.prog 71 false [.ag [.v (.bool (s)), .sl (lim (m)).length (ints (lim (m))), .v (.int .i64 (e))]] [] (isA (.ag [.v (.bool (false)), .sl (lim (m)).length (ints (lim (m))), .v (.int .i64 (e))])) := by
  refine Con.frzA ?_
  refine Con.of_aw Tryd.func71 rfl Tryd.ntmps71 (by simp) (by simp) (by simp) (W.sound ?_)
  show @W Tryd.prog 8 ⟨_⟩ ⟨fun x σ => @retW _ _ _ ⟨_⟩ _ ⟨_⟩ x σ⟩ _ _
  simp (disch := omega) only [go_sem]
  refine fin_val (by simp (disch := omega) only [go_sem]) ?_
  show snap _ 6 _ = _
  simp (disch := omega) only [go_sem]
theorem con_shifted (s : Bool) (m : Nat) (e k : Int) (he : -2 ^ 40 ≤ e ∧ e ≤ 2 ^ 40) (hk : -2 ^ 40 ≤ k ∧ k ≤ 2 ^ 40) : Con Tryd.prog 73 false [.ag [.v (.bool (s)), .sl (lim (m)).length (ints (lim (m))), .v (.int .i64 (e))], .v (.int .i64 k)] [] (isA (.ag [.v (.bool (s)), .sl (lim (m)).length (ints (lim (m))), .v (.int .i64 (e + k))])) := by
  refine Con.frzA ?_
  refine Con.of_aw Tryd.func73 rfl Tryd.ntmps73 (by simp) (by simp) (by simp) (W.sound ?_)
  show @W Tryd.prog 14 ⟨_⟩ ⟨fun x σ => @retW _ _ _ ⟨_⟩ _ ⟨_⟩ x σ⟩ _ _
  simp (disch := omega) only [go_sem]
  refine fin_val (by simp (disch := omega) only [go_sem]) ?_
  show snap _ 6 _ = _
  simp (disch := omega) only [go_sem]

theorem qu_cmp {N D : Nat} (hN : N ≠ 0) (hD : D ≠ 0) (hn : bl N ≤ 10000) (hd : bl D ≤ 10000) :
    decide (0 ≤ cmpI (dv 20000 false N 0) (dv 20000 false D (0 + ((bl N : Int) - (bl D : Int))))) = decide (quB N D * 2 ^ 58 ≤ quA N D) := by
  rw [decide_eq_decide, (cmp_pos).2.2]
  obtain ⟨K, hK⟩ : ∃ K : Nat, K = 20000 := ⟨_, rfl⟩
  rw [← hK]
  unfold dv
  rw [sv, sv, if_neg (by simp), if_neg (by simp)]
  obtain ⟨x, hx⟩ : ∃ x : Nat, x = (0 + ((bl N : Int) - (bl D : Int)) + (K : Int)).toNat := ⟨_, rfl⟩
  obtain ⟨kp, hkp⟩ : ∃ kp : Nat, kp = (quK N D).toNat := ⟨_, rfl⟩
  obtain ⟨km, hkm⟩ : ∃ km : Nat, km = (-quK N D).toNat := ⟨_, rfl⟩
  have hk : x + 58 + km = K + kp ∨ True := .inr trivial
  have hx2 : (x : Int) + 58 = 58 + (bl N : Int) - (bl D : Int) + K := by omega
  have hq : (kp : Int) - km = 58 - ((bl N : Int) - (bl D : Int)) := by unfold quK at *; omega
  have e1 : x + kp = 58 + km + K := by omega
  rw [← hx, show (0 + (K : Int)).toNat = K by omega]
  unfold quA quB
  rw [← hkp, ← hkm]
  have p1 := pow_pp kp
  have p2 := pow_pp K
  constructor
  · intro h
    have h' : D * 2 ^ x ≤ N * 2 ^ K := by exact_mod_cast h
    have h2 := Nat.mul_le_mul_right (2 ^ kp) h'
    rw [Nat.mul_assoc, ← Nat.pow_add, e1, Nat.pow_add, Nat.pow_add] at h2
    refine Nat.le_of_mul_le_mul_right (c := 2 ^ K) ?_ p2
    calc D * 2 ^ km * 2 ^ 58 * 2 ^ K = D * (2 ^ 58 * 2 ^ km * 2 ^ K) := by grind
      _ ≤ N * 2 ^ K * 2 ^ kp := h2
      _ = N * 2 ^ kp * 2 ^ K := by grind
  · intro h
    have h2 := Nat.mul_le_mul_right (2 ^ K) h
    have h' : D * 2 ^ x ≤ N * 2 ^ K := by
      refine Nat.le_of_mul_le_mul_right (c := 2 ^ kp) ?_ p1
      calc D * 2 ^ x * 2 ^ kp = D * (2 ^ 58 * 2 ^ km * 2 ^ K) := by rw [Nat.mul_assoc, ← Nat.pow_add, e1, Nat.pow_add, Nat.pow_add]
        _ = D * 2 ^ km * 2 ^ 58 * 2 ^ K := by grind
        _ ≤ N * 2 ^ kp * 2 ^ K := h2
        _ = N * 2 ^ K * 2 ^ kp := by grind
    exact_mod_cast h'

theorem con_quotientTop (s1 : Bool) (N : Nat) (s2 : Bool) (D : Nat) (hN : N ≠ 0) (hD : D ≠ 0) (hn : bl N ≤ 10000) (hd : bl D ≤ 10000) : Con Tryd.prog 54 true [.ag [.v (.bool (s1)), .sl (lim (N)).length (ints (lim (N))), .v (.int .i64 (0))], .ag [.v (.bool (s2)), .sl (lim (D)).length (ints (lim (D))), .v (.int .i64 (0))]] [] (isA (.v (.int .i64 (quT N D)))) := by
  have ln := len_bl hn
  have ld := len_bl hd
  have c1 := con_topX false N 0 (by omega) (by omega)
  have c2 := con_topX false D 0 (by omega) (by omega)
  rw [if_neg hN, Int.add_zero] at c1
  rw [if_neg hD, Int.add_zero] at c2
  have cc := con_compareX 20000 false N 0 false D (0 + ((bl N : Int) - (bl D : Int))) (by omega) (by omega) (by omega) (by omega) (by omega) (by omega) (fun _ => rfl) (fun _ => rfl)
  have hq := qu_cmp hN hD hn hd
  generalize cmpI (dv 20000 false N 0) (dv 20000 false D (0 + ((bl N : Int) - (bl D : Int)))) = Q at *
  refine Con.of_aw Tryd.func54 rfl Tryd.ntmps54 (by simp) (by simp) (by simp) (W.sound ?_)
  show @W Tryd.prog 24 ⟨_⟩ ⟨fun x σ => @retW _ _ _ ⟨_⟩ _ ⟨_⟩ x σ⟩ _ _
  simp (disch := omega) only [go_sem]
  refine draw_of rfl [⟨0, [], []⟩, ⟨2, [0], []⟩, ⟨1, [2], []⟩, ⟨3, [], []⟩, ⟨4, [], []⟩, ⟨5, [], []⟩] (by kernel_rfl) ?_
  simp (disch := omega) only [go_sem]
  refine call_open (con_absX s1 N 0) (by simp (disch := omega) only [go_sem]) ?_
  rintro r hs ⟨rfl, rfl, _⟩
  refine ⟨by simp [freeN], ?_⟩
  simp (disch := omega) only [go_sem]
  refine call_open (con_absX s2 D 0) (by simp (disch := omega) only [go_sem]) ?_
  rintro r hs ⟨rfl, rfl, _⟩
  refine ⟨by simp [freeN], ?_⟩
  simp (disch := omega) only [go_sem]
  refine draw_of rfl [⟨0, [], []⟩, ⟨2, [0], []⟩, ⟨1, [2], []⟩, ⟨3, [], []⟩, ⟨4, [], []⟩, ⟨5, [], []⟩] (by kernel_rfl) ?_
  simp (disch := omega) only [go_sem]
  refine call_closed (c1) (by simp (disch := omega) only [go_sem]) ?_
  rintro r hs ⟨rfl, rfl, _⟩
  refine ⟨by simp [freeN], ?_⟩
  simp (disch := omega) only [go_sem]
  refine call_closed (c2) (by simp (disch := omega) only [go_sem]) ?_
  rintro r hs ⟨rfl, rfl, _⟩
  refine ⟨by simp [freeN], ?_⟩
  simp (disch := omega) only [go_sem]
  refine draw_of rfl [⟨0, [], []⟩, ⟨1, [0], []⟩, ⟨2, [0, 1], []⟩, ⟨3, [0], []⟩, ⟨4, [], []⟩, ⟨5, [], []⟩] (by kernel_rfl) ?_
  simp (disch := omega) only [go_sem]
  refine call_open (con_shifted false D 0 ((bl N : Int) - (bl D : Int)) (by omega) (by omega)) (by simp (disch := omega) only [go_sem]) ?_
  rintro r hs ⟨rfl, rfl, _⟩
  refine ⟨by simp [freeN], ?_⟩
  simp (disch := omega) only [go_sem]
  refine call_closed (cc) (by simp (disch := omega) only [go_sem]) ?_
  rintro r hs ⟨rfl, rfl, _⟩
  refine ⟨by simp [freeN], ?_⟩
  simp (disch := omega) only [go_sem]
  unfold quT
  by_cases h : quB N D * 2 ^ 58 ≤ quA N D
  · rw [decide_eq_true h] at hq
    rw [if_pos h]
    simp (disch := omega) only [go_sem, hq]
    exact fin_valc (by simp (disch := omega) only [go_sem]) (by simp (disch := omega) only [go_sem]) isA_mk
  · rw [decide_eq_false h] at hq
    rw [if_neg h]
    simp (disch := omega) only [go_sem, hq]
    exact fin_valc (by simp (disch := omega) only [go_sem]) (by simp (disch := omega) only [go_sem]) isA_mk

theorem con_quot1 (s1 : Bool) (N : Nat) (s2 : Bool) (D : Nat) (low mode : Int) (hD : D ≠ 0) (hn : bl N ≤ 10000) (hd : bl D ≤ 10000) (hlo : -100000 ≤ low ∧ low ≤ 100000) :
    Con Tryd.prog 55 false [.v (.int .i64 low), .fp [.v (.bool s1), .sl (lim (N)).length (ints (lim (N))), .v (.int .i64 0)] 0, .fp [.v (.bool s2), .sl (lim (D)).length (ints (lim (D))), .v (.int .i64 0)] 0, .fp [.v (.int .i64 mode)] 0] []
      (isA (.tu [.ag [.v (.bool ((s1 != s2) && decide (ovQ (s1 != s2) N 0 D 0 low mode ≠ 0))), .sl (lim (ovQ (s1 != s2) N 0 D 0 low mode)).length (ints (lim (ovQ (s1 != s2) N 0 D 0 low mode))), .v (.int .i64 (low))], .v (.bool (ovX N 0 D 0 low))])) := by
  refine Con.frzA ?_
  refine Con.of_aw Tryd.func55 rfl Tryd.ntmps55 (by simp) (by simp) (by simp) (W.sound ?_)
  show @W Tryd.prog 14 ⟨_⟩ ⟨fun x σ => @retW _ _ _ ⟨_⟩ _ ⟨_⟩ x σ⟩ _ _
  simp (disch := omega) only [go_sem]
  refine call_open (con_over s1 N 0 s2 D 0 low mode hD (by omega) (by omega) (by omega) (by omega) (by omega) (by omega)) (by simp (disch := omega) only [go_sem]) ?_
  rintro r hs ⟨rfl, rfl, _⟩
  refine ⟨by simp [freeN], ?_⟩
  simp (disch := omega) only [go_sem]
  refine fin_val (by simp (disch := omega) only [go_sem]) ?_
  show snap _ 6 _ = _
  simp (disch := omega) only [go_sem]

theorem con_quotient (s1 : Bool) (N : Nat) (s2 : Bool) (D : Nat) (mode : Int) (z : Bool) (hN : N ≠ 0) (hD : D ≠ 0) (hn : bl N ≤ 10000) (hd : bl D ≤ 10000) :
    Con Tryd.prog 32 true [.ag [.v (.bool (s1)), .sl (lim (N)).length (ints (lim (N))), .v (.int .i64 (0))], .ag [.v (.bool (s2)), .sl (lim (D)).length (ints (lim (D))), .v (.int .i64 (0))], .v (.int .i64 mode)] []
      (isA (.tu [.ag [.v (.int .i64 ((flV (s1 != s2) (quQ N D) (-quK N D - 1) mode z).k)), .v (.bool ((flV (s1 != s2) (quQ N D) (-quK N D - 1) mode z).s)), .v (.int .i64 ((flV (s1 != s2) (quQ N D) (-quK N D - 1) mode z).m)), .v (.int .i64 ((flV (s1 != s2) (quQ N D) (-quK N D - 1) mode z).e))], .v (.int .i64 (flG (s1 != s2) (quQ N D) (-quK N D - 1) mode))])) := by
  obtain ⟨q1, q2, q3⟩ := qu_fl (s1 != s2) mode z hN hD
  rw [q1, q2]
  have ht : -20000 ≤ quT N D ∧ quT N D ≤ 20001 := by unfold quT; split <;> omega
  have hlow : -30000 ≤ flLow (quT N D) ∧ flLow (quT N D) ≤ 30000 := by unfold flLow; split <;> omega
  have hbq : bl (ovQ (s1 != s2) N 0 D 0 (flLow (quT N D)) mode) ≤ 4000000 := by
    have h1 := bl_mono (rq_le (s1 != s2) (ovA N (0 - 0 - flLow (quT N D))) (ovA D (-(0 - 0 - flLow (quT N D)))) mode)
    have h2 := bl_succ (ovA N (0 - 0 - flLow (quT N D)) / ovA D (-(0 - 0 - flLow (quT N D))))
    have h3 := bl_divle (ovA N (0 - 0 - flLow (quT N D))) (ovA D (-(0 - 0 - flLow (quT N D))))
    have h4 := bl_ovA (k := 0 - 0 - flLow (quT N D)) (C := 40000) hn (by omega)
    unfold ovQ; omega
  refine Con.of_aw Tryd.func32 rfl Tryd.ntmps32 (by simp) (by simp) (by simp) (W.sound ?_)
  show @W Tryd.prog 21 ⟨_⟩ ⟨fun x σ => @retW _ _ _ ⟨_⟩ _ ⟨_⟩ x σ⟩ _ _
  simp (disch := omega) only [go_sem]
  refine draw_of rfl [⟨0, [], []⟩, ⟨1, [], []⟩, ⟨2, [1], []⟩, ⟨3, [1], []⟩, ⟨4, [], []⟩, ⟨5, [1, 3], []⟩, ⟨6, [1, 3, 5], []⟩, ⟨8, [1, 3, 5, 6], []⟩, ⟨9, [1, 3, 5, 6, 8], []⟩, ⟨7, [1, 3, 8], []⟩, ⟨10, [], []⟩, ⟨11, [], []⟩, ⟨12, [], []⟩, ⟨13, [], []⟩, ⟨14, [], []⟩] (by kernel_rfl) ?_
  simp (disch := omega) only [go_sem]
  refine call_closed (con_quotientTop s1 N s2 D hN hD hn hd) (by simp (disch := omega) only [go_sem]) ?_
  rintro r hs ⟨rfl, rfl, _⟩
  refine ⟨by simp [freeN], ?_⟩
  simp (disch := omega) only [go_sem]
  refine call_closed (con_floatOf (s1 != s2) (quT N D) mode 55 [.fp [.v (.bool s1), .sl (lim (N)).length (ints (lim (N))), .v (.int .i64 0)] 0, .fp [.v (.bool s2), .sl (lim (D)).length (ints (lim (D))), .v (.int .i64 0)] 0, .fp [.v (.int .i64 mode)] 0] ((s1 != s2) && decide (ovQ (s1 != s2) N 0 D 0 (flLow (quT N D)) mode ≠ 0)) (ovX N 0 D 0 (flLow (quT N D))) (ovQ (s1 != s2) N 0 D 0 (flLow (quT N D)) mode) (flLow (quT N D)) (by omega) (con_quot1 s1 N s2 D (flLow (quT N D)) mode hD hn hd (by omega)) (by simp (disch := omega) only [go_sem]) (fun h => rfl) hbq (by omega) (fun h _ => q3 h)) (by simp (disch := omega) only [go_sem]) ?_
  rintro r hs ⟨rfl, rfl, _⟩
  refine ⟨by simp [freeN], ?_⟩
  simp (disch := omega) only [go_sem]
  exact fin_valc (by simp (disch := omega) only [go_sem]) (by simp (disch := omega) only [go_sem]) isA_mk
end Go.Ab
namespace Go.Ab
open Go Go.Proofs
set_option linter.unusedVariables false
set_option linter.unusedSimpArgs false

/-- Is a decimal number in its one form? -/
def decB (xs : List Int) (e : Int) : Bool :=
  natB xs && ((decide (-800 ≤ e) && decide (e ≤ 800)) && (decide ((vl xs).toNat % 10 ≠ 0) || (decide (xs.length = 0) && decide (e = 0))))

theorem decB_lim {xs : List Int} {e : Int} (h : decB xs e = true) : ∃ m, xs = lim m ∧ (lim m).length ≤ 100 ∧ bl m ≤ 1600 ∧ (-800 ≤ e ∧ e ≤ 800) ∧ (m = 0 → e = 0) := by
  simp only [decB, Bool.and_eq_true, decide_eq_true_eq, Bool.or_eq_true] at h
  obtain ⟨h1, h3, h4⟩ := h
  obtain ⟨h5, h6⟩ := natB_lim h1
  refine ⟨(vl xs).toNat, h5, by rw [← h5]; exact h6, ?_, h3, fun h0 => ?_⟩
  · have := bl_len (m := (vl xs).toNat)
    rw [← h5] at this; omega
  · rcases h4 with h4 | h4
    · rw [h0] at h4; simp at h4
    · exact h4.2

theorem con_decok (s : Bool) (xs : List Int) (e : Int) (hl : xs.length ≤ 2 ^ 40) : Con Tryd.prog 15 true [.ag [.v (.bool s), .sl xs.length (ints xs), .v (.int .i64 e)]] [] (isA (.v (.bool (decB xs e)))) := by
  have cn := con_natokI xs hl
  unfold decB
  cases hn : natB xs
  · rw [hn] at cn
    rw [Bool.false_and]
    refine Con.of_aw Tryd.func15 rfl Tryd.ntmps15 (by simp) (by simp) (by simp) (W.sound ?_)
    show @W Tryd.prog 36 ⟨_⟩ ⟨fun x σ => @retW _ _ _ ⟨_⟩ _ ⟨_⟩ x σ⟩ _ _
    simp (disch := omega) only [go_sem]
    refine call_closed (cn) (by simp (disch := omega) only [go_sem]) ?_
    rintro r hs ⟨rfl, rfl, _⟩
    refine ⟨by simp [freeN], ?_⟩
    simp (disch := omega) only [go_sem]
    exact fin_valc (by simp (disch := omega) only [go_sem]) (by simp (disch := omega) only [go_sem]) isA_mk
  · rw [hn] at cn
    rw [Bool.true_and]
    cases hr : (decide (-800 ≤ e) && decide (e ≤ 800))
    · rw [Bool.false_and]
      refine Con.of_aw Tryd.func15 rfl Tryd.ntmps15 (by simp) (by simp) (by simp) (W.sound ?_)
      show @W Tryd.prog 36 ⟨_⟩ ⟨fun x σ => @retW _ _ _ ⟨_⟩ _ ⟨_⟩ x σ⟩ _ _
      simp (disch := omega) only [go_sem]
      refine call_closed (cn) (by simp (disch := omega) only [go_sem]) ?_
      rintro r hs ⟨rfl, rfl, _⟩
      refine ⟨by simp [freeN], ?_⟩
      simp (disch := omega) only [go_sem]
      refine call_closed (con_withinI e (-800) 800) (by simp (disch := omega) only [go_sem]) ?_
      rintro r hs ⟨rfl, rfl, _⟩
      refine ⟨by simp [freeN], ?_⟩
      simp (disch := omega) only [go_sem]
      simp (disch := omega) only [go_sem, hr]
      exact fin_valc (by simp (disch := omega) only [go_sem]) (by simp (disch := omega) only [go_sem]) isA_mk
    · rw [Bool.true_and]
      obtain ⟨h5, h6⟩ := natB_lim hn
      generalize (vl xs).toNat = m at *
      subst h5
      have hd : ((m % 10 : Nat) : Int) = 0 ↔ m % 10 = 0 := by omega
      refine Con.of_aw Tryd.func15 rfl Tryd.ntmps15 (by simp) (by simp) (by simp) (W.sound ?_)
      show @W Tryd.prog 36 ⟨_⟩ ⟨fun x σ => @retW _ _ _ ⟨_⟩ _ ⟨_⟩ x σ⟩ _ _
      simp (disch := omega) only [go_sem]
      refine call_closed (cn) (by simp (disch := omega) only [go_sem]) ?_
      rintro r hs ⟨rfl, rfl, _⟩
      refine ⟨by simp [freeN], ?_⟩
      simp (disch := omega) only [go_sem]
      refine call_closed (con_withinI e (-800) 800) (by simp (disch := omega) only [go_sem]) ?_
      rintro r hs ⟨rfl, rfl, _⟩
      refine ⟨by simp [freeN], ?_⟩
      simp (disch := omega) only [go_sem]
      simp (disch := omega) only [go_sem, hr]
      refine call_open (con_divsF m 10 (by omega) (by omega) (by omega)) (by simp (disch := omega) only [go_sem]) ?_
      rintro r hs ⟨rfl, rfl, _⟩
      refine ⟨by simp [freeN], ?_⟩
      simp (disch := omega) only [go_sem]
      by_cases h0 : m % 10 = 0
      · have q1 : decide (((m % 10 : Nat) : Int) = 0) = true := decide_eq_true (by omega)
        rw [decide_eq_false (show ¬ m % 10 ≠ 0 by omega), Bool.false_or]
        simp (disch := omega) only [go_sem, q1]
        by_cases h1 : (lim m).length = 0
        · have q2 : decide (((lim m).length : Int) = 0) = true := decide_eq_true (by omega)
          rw [decide_eq_true h1, Bool.true_and]
          simp (disch := omega) only [go_sem, q2]
          exact fin_valc (by simp (disch := omega) only [go_sem]) (by simp (disch := omega) only [go_sem]) isA_mk
        · have q2 : decide (((lim m).length : Int) = 0) = false := decide_eq_false (by omega)
          rw [decide_eq_false h1, Bool.false_and]
          simp (disch := omega) only [go_sem, q2]
          exact fin_valc (by simp (disch := omega) only [go_sem]) (by simp (disch := omega) only [go_sem]) isA_mk
      · have q1 : decide (((m % 10 : Nat) : Int) = 0) = false := decide_eq_false (by omega)
        rw [decide_eq_true (show m % 10 ≠ 0 from h0), Bool.true_or]
        simp (disch := omega) only [go_sem, q1]
        exact fin_valc (by simp (disch := omega) only [go_sem]) (by simp (disch := omega) only [go_sem]) isA_mk

set_option maxRecDepth 100000 in
theorem con_fraction (s : Bool) (m : Nat) (e : Int) (hm : bl m ≤ 1600) (he : -800 ≤ e ∧ e ≤ 800) : Con Tryd.prog 31 false [.ag [.v (.bool (s)), .sl (lim (m)).length (ints (lim (m))), .v (.int .i64 (e))]] []
    (isA (.tu [.ag [.v (.bool (s && decide (m ≠ 0))), .sl (lim (m * 10 ^ e.toNat)).length (ints (lim (m * 10 ^ e.toNat))), .v (.int .i64 (0))], .ag [.v (.bool (false)), .sl (lim (10 ^ (-e).toNat)).length (ints (lim (10 ^ (-e).toNat))), .v (.int .i64 (0))]])) := by
  refine Con.frzA ?_
  have ex1 : (if 0 > e then 0 else e) = ((e.toNat : Nat) : Int) := by split <;> omega
  have ex2 : (if 0 > 0 - e then 0 else 0 - e) = (((-e).toNat : Nat) : Int) := by split <;> omega
  have lm := len_bl hm
  have lt1 := len_bl (bl_ten e.toNat)
  have hq : decide ((0 : Int) < ((lim m).length : Int)) = decide (m ≠ 0) := by
    rw [decide_eq_decide]
    exact ⟨fun h e => by rw [e, lim_zero] at h; simp at h, fun h => by have := lim_ne h; omega⟩
  refine Con.of_aw Tryd.func31 rfl Tryd.ntmps31 (by simp) (by simp) (by simp) (W.sound ?_)
  show @W Tryd.prog 28 ⟨_⟩ ⟨fun x σ => @retW _ _ _ ⟨_⟩ _ ⟨_⟩ x σ⟩ _ _
  simp (disch := omega) only [go_sem]
  refine draw_of rfl [⟨0, [], []⟩, ⟨1, [], []⟩, ⟨2, [], []⟩, ⟨3, [], []⟩, ⟨4, [], []⟩, ⟨5, [], []⟩, ⟨6, [], []⟩, ⟨7, [], []⟩, ⟨8, [], []⟩, ⟨9, [1, 5], []⟩, ⟨10, [1, 5], []⟩, ⟨11, [1, 5], []⟩, ⟨12, [1, 5, 11], []⟩, ⟨13, [1, 5, 11], []⟩, ⟨14, [1, 5, 11], []⟩, ⟨18, [1, 5, 11, 13], []⟩, ⟨19, [1, 5, 11, 13], []⟩, ⟨20, [1, 5, 11, 13], []⟩, ⟨21, [1, 5, 11, 13], []⟩, ⟨15, [5, 11, 19], []⟩, ⟨16, [5, 19], []⟩, ⟨17, [19], []⟩, ⟨22, [5], []⟩, ⟨23, [5], []⟩, ⟨24, [], []⟩, ⟨25, [], []⟩] (by kernel_rfl) ?_
  cases s
  · simp (disch := omega) only [go_sem, ex1, ex2]
    refine call_open (con_ten e.toNat (by omega)) (by simp (disch := omega) only [go_sem]) ?_
    rintro r hs ⟨rfl, rfl, _⟩
    refine ⟨by simp [freeN], ?_⟩
    simp (disch := omega) only [go_sem]
    refine call_open (con_timesN m (10 ^ e.toNat) (by omega) (by omega)) (by simp (disch := omega) only [go_sem]) ?_
    rintro r hs ⟨rfl, rfl, _⟩
    refine ⟨by simp [freeN], ?_⟩
    simp (disch := omega) only [go_sem]
    refine call_open (con_ten (-e).toNat (by omega)) (by simp (disch := omega) only [go_sem]) ?_
    rintro r hs ⟨rfl, rfl, _⟩
    refine ⟨by simp [freeN], ?_⟩
    simp (disch := omega) only [go_sem]
    refine fin_val (by simp (disch := omega) only [go_sem]) ?_
    show snap _ 6 _ = _
    simp (disch := omega) only [go_sem, Bool.false_and]
  · simp (disch := omega) only [go_sem, ex1, ex2, hq]
    refine call_open (con_ten e.toNat (by omega)) (by simp (disch := omega) only [go_sem]) ?_
    rintro r hs ⟨rfl, rfl, _⟩
    refine ⟨by simp [freeN], ?_⟩
    simp (disch := omega) only [go_sem]
    refine call_open (con_timesN m (10 ^ e.toNat) (by omega) (by omega)) (by simp (disch := omega) only [go_sem]) ?_
    rintro r hs ⟨rfl, rfl, _⟩
    refine ⟨by simp [freeN], ?_⟩
    simp (disch := omega) only [go_sem]
    refine call_open (con_ten (-e).toNat (by omega)) (by simp (disch := omega) only [go_sem]) ?_
    rintro r hs ⟨rfl, rfl, _⟩
    refine ⟨by simp [freeN], ?_⟩
    simp (disch := omega) only [go_sem]
    refine fin_val (by simp (disch := omega) only [go_sem]) ?_
    show snap _ 6 _ = _
    simp (disch := omega) only [go_sem, Bool.true_and]

theorem con_decFloat (s : Bool) (m : Nat) (e mode : Int) (hm : bl m ≤ 1600) (he : -800 ≤ e ∧ e ≤ 800) : Con Tryd.prog 17 true [.ag [.v (.bool (s)), .sl (lim (m)).length (ints (lim (m))), .v (.int .i64 (e))], .v (.int .i64 mode)] []
    (isA (if m = 0 then .tu [.ag [.v (.int .i64 (0)), .v (.bool (s)), .v (.int .i64 (0)), .v (.int .i64 (0))], .v (.int .i64 0)] else .tu [.ag [.v (.int .i64 ((flV s (quQ (m * 10 ^ e.toNat) (10 ^ (-e).toNat)) (-quK (m * 10 ^ e.toNat) (10 ^ (-e).toNat) - 1) mode s).k)), .v (.bool ((flV s (quQ (m * 10 ^ e.toNat) (10 ^ (-e).toNat)) (-quK (m * 10 ^ e.toNat) (10 ^ (-e).toNat) - 1) mode s).s)), .v (.int .i64 ((flV s (quQ (m * 10 ^ e.toNat) (10 ^ (-e).toNat)) (-quK (m * 10 ^ e.toNat) (10 ^ (-e).toNat) - 1) mode s).m)), .v (.int .i64 ((flV s (quQ (m * 10 ^ e.toNat) (10 ^ (-e).toNat)) (-quK (m * 10 ^ e.toNat) (10 ^ (-e).toNat) - 1) mode s).e))], .v (.int .i64 (flG s (quQ (m * 10 ^ e.toNat) (10 ^ (-e).toNat)) (-quK (m * 10 ^ e.toNat) (10 ^ (-e).toNat) - 1) mode))])) := by
  by_cases h0 : m = 0
  · rw [if_pos h0, h0]
    have q : decide (((lim 0).length : Int) = 0) = true := by rw [lim_zero]; rfl
    refine Con.of_aw Tryd.func17 rfl Tryd.ntmps17 (by simp) (by simp) (by simp) (W.sound ?_)
    show @W Tryd.prog 27 ⟨_⟩ ⟨fun x σ => @retW _ _ _ ⟨_⟩ _ ⟨_⟩ x σ⟩ _ _
    simp (disch := omega) only [go_sem]
    simp (disch := omega) only [go_sem, q]
    refine call_closed (con_zero s) (by simp (disch := omega) only [go_sem]) ?_
    rintro r hs ⟨rfl, rfl, _⟩
    refine ⟨by simp [freeN], ?_⟩
    simp (disch := omega) only [go_sem]
    exact fin_valc (by simp (disch := omega) only [go_sem]) (by simp (disch := omega) only [go_sem]) isA_mk
  · rw [if_neg h0]
    have q : decide (((lim m).length : Int) = 0) = false := decide_eq_false (by have := lim_ne h0; omega)
    have p10 : ∀ k : Nat, 10 ^ k ≠ 0 := fun k => Nat.pos_iff_ne_zero.1 (Nat.pow_pos (by omega))
    have b1 := bl_ten e.toNat
    have b2 := bl_ten (-e).toNat
    have b3 := bl_mulle m (10 ^ e.toNat)
    have cq := con_quotient (s && decide (m ≠ 0)) (m * 10 ^ e.toNat) false (10 ^ (-e).toNat) mode s (Nat.mul_ne_zero h0 (p10 _)) (p10 _) (by omega) (by omega)
    have hs : ((s && decide (m ≠ 0)) != false) = s := by rw [decide_eq_true h0, Bool.and_true, Bool.bne_false]
    rw [hs] at cq
    refine Con.of_aw Tryd.func17 rfl Tryd.ntmps17 (by simp) (by simp) (by simp) (W.sound ?_)
    show @W Tryd.prog 27 ⟨_⟩ ⟨fun x σ => @retW _ _ _ ⟨_⟩ _ ⟨_⟩ x σ⟩ _ _
    simp (disch := omega) only [go_sem]
    simp (disch := omega) only [go_sem, q]
    refine call_open (con_fraction s m e hm he) (by simp (disch := omega) only [go_sem]) ?_
    rintro r hs ⟨rfl, rfl, _⟩
    refine ⟨by simp [freeN], ?_⟩
    simp (disch := omega) only [go_sem]
    generalize m * 10 ^ e.toNat = N at *
    generalize 10 ^ (-e).toNat = DD at *
    refine call_closed (cq) (by simp (disch := omega) only [go_sem]) ?_
    rintro r hs ⟨rfl, rfl, _⟩
    refine ⟨by simp [freeN], ?_⟩
    simp (disch := omega) only [go_sem]
    exact fin_valc (by simp (disch := omega) only [go_sem]) (by simp (disch := omega) only [go_sem]) isA_mk

/-- The float of a decimal number. -/
def dfV (s : Bool) (m : Nat) (e mode : Int) : FlV := if m = 0 then ⟨0, s, 0, 0⟩ else flV s (quQ (m * 10 ^ e.toNat) (10 ^ (-e).toNat)) (-quK (m * 10 ^ e.toNat) (10 ^ (-e).toNat) - 1) mode s
def dfG (s : Bool) (m : Nat) (e mode : Int) : Int := if m = 0 then 0 else flG s (quQ (m * 10 ^ e.toNat) (10 ^ (-e).toNat)) (-quK (m * 10 ^ e.toNat) (10 ^ (-e).toNat) - 1) mode

theorem con_DecFloat (s : Bool) (xs : List Int) (e mode : Int) (hl : xs.length ≤ 2 ^ 40) : Con Tryd.prog 7 true [.ag [.v (.bool s), .sl xs.length (ints xs), .v (.int .i64 e)], .v (.int .i64 mode)] []
    (isA (if (decB xs e && modeB mode) = true then .tu [.ag [.v (.int .i64 ((dfV s (vl xs).toNat e mode).k)), .v (.bool ((dfV s (vl xs).toNat e mode).s)), .v (.int .i64 ((dfV s (vl xs).toNat e mode).m)), .v (.int .i64 ((dfV s (vl xs).toNat e mode).e))], .v (.int .i64 (dfG s (vl xs).toNat e mode)), .v (.bool true)]
      else .tu [.ag [.v (.int .i64 (0)), .v (.bool (false)), .v (.int .i64 (0)), .v (.int .i64 (0))], .v (.int .i64 0), .v (.bool false)])) := by
  have ck := con_decok s xs e hl
  have km := con_isMode mode
  change Con _ _ _ _ _ (isA (.v (.bool (modeB mode)))) at km
  cases h1 : decB xs e
  · rw [h1] at ck
    rw [Bool.false_and, if_neg (by simp)]
    refine Con.of_aw Tryd.func7 rfl Tryd.ntmps7 (by simp) (by simp) (by simp) (W.sound ?_)
    show @W Tryd.prog 26 ⟨_⟩ ⟨fun x σ => @retW _ _ _ ⟨_⟩ _ ⟨_⟩ x σ⟩ _ _
    simp (disch := omega) only [go_sem]
    refine call_closed (ck) (by simp (disch := omega) only [go_sem]) ?_
    rintro r hs ⟨rfl, rfl, _⟩
    refine ⟨by simp [freeN], ?_⟩
    simp (disch := omega) only [go_sem]
    exact fin_valc (by simp (disch := omega) only [go_sem]) (by simp (disch := omega) only [go_sem]) isA_mk
  · rw [h1] at ck
    cases h2 : modeB mode
    · rw [h2] at km
      rw [Bool.and_false, if_neg (by simp)]
      refine Con.of_aw Tryd.func7 rfl Tryd.ntmps7 (by simp) (by simp) (by simp) (W.sound ?_)
      show @W Tryd.prog 26 ⟨_⟩ ⟨fun x σ => @retW _ _ _ ⟨_⟩ _ ⟨_⟩ x σ⟩ _ _
      simp (disch := omega) only [go_sem]
      refine call_closed (ck) (by simp (disch := omega) only [go_sem]) ?_
      rintro r hs ⟨rfl, rfl, _⟩
      refine ⟨by simp [freeN], ?_⟩
      simp (disch := omega) only [go_sem]
      refine call_closed (km) (by simp (disch := omega) only [go_sem]) ?_
      rintro r hs ⟨rfl, rfl, _⟩
      refine ⟨by simp [freeN], ?_⟩
      simp (disch := omega) only [go_sem]
      exact fin_valc (by simp (disch := omega) only [go_sem]) (by simp (disch := omega) only [go_sem]) isA_mk
    · rw [h2] at km
      rw [Bool.and_true, if_pos rfl]
      obtain ⟨m, q, q1, q2, q3, q4⟩ := decB_lim h1
      subst q
      have cf := con_decFloat s m e mode q2 q3
      rw [vl_lim, Int.toNat_natCast]
      unfold dfV dfG
      refine Con.of_aw Tryd.func7 rfl Tryd.ntmps7 (by simp) (by simp) (by simp) (W.sound ?_)
      show @W Tryd.prog 26 ⟨_⟩ ⟨fun x σ => @retW _ _ _ ⟨_⟩ _ ⟨_⟩ x σ⟩ _ _
      simp (disch := omega) only [go_sem]
      refine call_closed (ck) (by simp (disch := omega) only [go_sem]) ?_
      rintro r hs ⟨rfl, rfl, _⟩
      refine ⟨by simp [freeN], ?_⟩
      simp (disch := omega) only [go_sem]
      refine call_closed (km) (by simp (disch := omega) only [go_sem]) ?_
      rintro r hs ⟨rfl, rfl, _⟩
      refine ⟨by simp [freeN], ?_⟩
      simp (disch := omega) only [go_sem]
      by_cases h0 : m = 0
      · rw [if_pos h0] at cf
        rw [if_pos h0, if_pos h0]
        refine call_closed (cf) (by simp (disch := omega) only [go_sem]) ?_
        rintro r hs ⟨rfl, rfl, _⟩
        refine ⟨by simp [freeN], ?_⟩
        simp (disch := omega) only [go_sem]
        exact fin_valc (by simp (disch := omega) only [go_sem]) (by simp (disch := omega) only [go_sem]) isA_mk
      · rw [if_neg h0] at cf
        rw [if_neg h0, if_neg h0]
        refine call_closed (cf) (by simp (disch := omega) only [go_sem]) ?_
        rintro r hs ⟨rfl, rfl, _⟩
        refine ⟨by simp [freeN], ?_⟩
        simp (disch := omega) only [go_sem]
        exact fin_valc (by simp (disch := omega) only [go_sem]) (by simp (disch := omega) only [go_sem]) isA_mk
end Go.Ab
namespace Go.Ab
open Go Go.Proofs
set_option linter.unusedVariables false
set_option linter.unusedSimpArgs false

theorem con_l2divF (a b : Nat) (la : (lim a).length ≤ 100000) (lb : (lim b).length ≤ 100000) (hb : b ≠ 0) : Con Tryd.prog 45 false [.ag [.sl (lim (a)).length (ints (lim (a)))], .ag [.sl (lim (b)).length (ints (lim (b)))]] [] (isA (.tu [.ag [.sl (lim (a / b)).length (ints (lim (a / b)))], .ag [.sl (lim (a % b)).length (ints (lim (a % b)))]])) := by
  by_cases h1 : (lim b).length = 1
  · have hb2 : b < 65536 := by have := lim_lt b; rw [h1] at this; simpa using this
    have e : lim b = [(b : Int)] := by rw [lim_pos hb, Nat.div_eq_of_lt hb2, lim_zero, Nat.mod_eq_of_lt hb2]
    have := con_l2divOne a b la (Nat.pos_of_ne_zero hb) hb2
    rw [e]; exact this
  · exact con_l2divBig a b la lb hb h1

theorem con_l4quot (s1 : Bool) (m1 : Nat) (e1 : Int) (s2 : Bool) (m2 : Nat) (e2 low : Int) (h1 : m1 ≠ 0) (h2 : m2 ≠ 0) (hb1 : bl m1 ≤ 100000) (hb2 : bl m2 ≤ 100000) (hk : -200000 ≤ e1 - e2 - low ∧ e1 - e2 - low ≤ 200000)
    (he1 : -2 ^ 39 ≤ e1 ∧ e1 ≤ 2 ^ 39) (he2 : -2 ^ 39 ≤ e2 ∧ e2 ≤ 2 ^ 39) (hlo : -2 ^ 39 ≤ low ∧ low ≤ 2 ^ 39) (A B : Nat) (hA : m1 * 2 ^ (e1 - e2 - low + 2).toNat = A) (hB : m2 * 2 ^ (-(e1 - e2 - low + 2)).toNat = B) :
    Con Tryd.prog 25 false [.ag [.v (.bool (s1)), .sl (lim (m1)).length (ints (lim (m1))), .v (.int .i64 (e1))], .ag [.v (.bool (s2)), .sl (lim (m2)).length (ints (lim (m2))), .v (.int .i64 (e2))], .v (.int .i64 low)] [] (isA (.ag [.v (.bool (oS (s1 != s2) (stk A B))), .sl (lim (oM (stk A B))).length (ints (lim (oM (stk A B)))), .v (.int .i64 (oE (stk A B) (low - 3)))])) := by
  refine Con.frzA ?_
  have q1 : decide (((lim m1).length : Int) = 0) = false := decide_eq_false (by have := lim_ne h1; omega)
  have l1 := len_bl hb1
  have l2 := len_bl hb2
  have bA : bl A ≤ 300010 := by rw [← hA]; have := bl_up m1 (e1 - e2 - low + 2).toNat; omega
  have bB : bl B ≤ 300010 := by rw [← hB]; have := bl_up m2 (-(e1 - e2 - low + 2)).toNat; omega
  have lA := len_bl bA
  have lB := len_bl bB
  have B0 : B ≠ 0 := by rw [← hB]; exact Nat.mul_ne_zero h2 (Nat.pos_iff_ne_zero.1 (Nat.pow_pos (by omega)))
  have bq := bl_divle A B
  have hq1 : (lim (A / B)).length ≤ 100000 := by have := len_bl (Nat.le_trans bq bA); omega
  have bq2 : bl (A / B * 2 ^ 1) ≤ 300011 := by have := bl_up (A / B) 1; omega
  have hq2 := len_bl bq2
  have bq3 : bl (A / B * 2 ^ 1 + 1) ≤ 300012 := by have := bl_succ (A / B * 2 ^ 1); omega
  have hq3 := len_bl bq3
  have hr : (lim (A % B)).length ≤ 100000 := Nat.le_trans (lim_mono (Nat.le_of_lt (Nat.mod_lt A (Nat.pos_of_ne_zero B0)))) (by omega)
  have fin : ∀ Q : Nat, stk A B = Q → bl Q ≤ 300012 → Con Tryd.prog 35 false [.ag [.v (.bool ((s1 != s2) && decide (Q ≠ 0))), .sl (lim (Q)).length (ints (lim (Q)))], .v (.int .i64 (low - 3))] [] (isA (.ag [.v (.bool (oS (s1 != s2) (stk A B))), .sl (lim (oM (stk A B))).length (ints (lim (oM (stk A B)))), .v (.int .i64 (oE (stk A B) (low - 3)))])) := fun Q hQ hb => by
    have := con_l4make ((s1 != s2) && decide (Q ≠ 0)) Q (low - 3) (by omega) (by omega)
    have e : oS ((s1 != s2) && decide (Q ≠ 0)) Q = oS (s1 != s2) Q := by
      unfold oS
      by_cases h0 : Q = 0
      · rw [if_pos h0, if_pos h0]
      · rw [if_neg h0, if_neg h0, decide_eq_true h0, Bool.and_true]
    rw [e] at this
    rw [hQ]; exact this
  have d0 : stk A B = A / B * 2 ^ 1 + (if A % B = 0 then 0 else 1) := by unfold stk; omega
  refine Con.of_aw Tryd.func25 rfl Tryd.ntmps25 (by simp) (by simp) (by simp) (W.sound ?_)
  show @W Tryd.prog 69 ⟨_⟩ ⟨fun x σ => @retW _ _ _ ⟨_⟩ _ ⟨_⟩ x σ⟩ _ _
  simp (disch := omega) only [go_sem]
  simp (disch := omega) only [go_sem, q1]
  refine ifW_dec (fun h3 => ?_) (fun h3 => ?_)
  · have ek : e1 - e2 - low + 2 = (((e1 - e2 - low + 2).toNat : Nat) : Int) := by omega
    have e0 : (-(e1 - e2 - low + 2)).toNat = 0 := by omega
    rw [e0, Nat.pow_zero, Nat.mul_one] at hB
    subst hB
    have cs := con_l2shlF m1 (e1 - e2 - low + 2).toNat (by omega) (by omega)
    rw [hA, ← ek] at cs
    simp (disch := omega) only [go_sem, h3]
    refine call_open (cs) (by simp (disch := omega) only [go_sem]) ?_
    rintro r hs ⟨rfl, rfl, _⟩
    refine ⟨by simp [freeN], ?_⟩
    simp (disch := omega) only [go_sem]
    refine call_open (con_l2divF A m2 (by omega) (by omega) B0) (by simp (disch := omega) only [go_sem]) ?_
    rintro r hs ⟨rfl, rfl, _⟩
    refine ⟨by simp [freeN], ?_⟩
    simp (disch := omega) only [go_sem]
    refine call_open (con_l2shlF (A / m2) 1 (by omega) (by omega)) (by simp (disch := omega) only [go_sem]) ?_
    rintro r hs ⟨rfl, rfl, _⟩
    refine ⟨by simp [freeN], ?_⟩
    simp (disch := omega) only [go_sem]
    by_cases hz : A % m2 = 0
    · have q2 : decide ((0 : Int) < ((lim (A % m2)).length : Int)) = false := by rw [hz, lim_zero]; rfl
      rw [if_pos hz, Nat.add_zero] at d0
      simp (disch := omega) only [go_sem, q2]
      refine call_open (con_l3make (s1 != s2) (A / m2 * 2 ^ 1) (by omega)) (by simp (disch := omega) only [go_sem]) ?_
      rintro r hs ⟨rfl, rfl, _⟩
      refine ⟨by simp [freeN], ?_⟩
      simp (disch := omega) only [go_sem]
      refine call_open (fin _ d0 (by omega)) (by simp (disch := omega) only [go_sem]) ?_
      rintro r hs ⟨rfl, rfl, _⟩
      refine ⟨by simp [freeN], ?_⟩
      simp (disch := omega) only [go_sem]
      refine fin_val (by simp (disch := omega) only [go_sem]) ?_
      show snap _ 6 _ = _
      simp (disch := omega) only [go_sem]
    · have q2 : decide ((0 : Int) < ((lim (A % m2)).length : Int)) = true := decide_eq_true (by have := lim_ne hz; omega)
      rw [if_neg hz] at d0
      simp (disch := omega) only [go_sem, q2]
      refine draw_of rfl [⟨0, [], []⟩, ⟨1, [0], []⟩, ⟨2, [], []⟩, ⟨3, [], []⟩] (by kernel_rfl) ?_
      simp (disch := omega) only [go_sem]
      refine call_open (con_l2ofF 1 (by omega)) (by simp (disch := omega) only [go_sem]) ?_
      rintro r hs ⟨rfl, rfl, _⟩
      refine ⟨by simp [freeN], ?_⟩
      simp (disch := omega) only [go_sem]
      refine call_open (con_l2addF (A / m2 * 2 ^ 1) 1 (by omega) (by have := len_bl (m := 1) (B := 1) (by decide); omega)) (by simp (disch := omega) only [go_sem]) ?_
      rintro r hs ⟨rfl, rfl, _⟩
      refine ⟨by simp [freeN], ?_⟩
      simp (disch := omega) only [go_sem]
      refine call_open (con_l3make (s1 != s2) (A / m2 * 2 ^ 1 + 1) (by omega)) (by simp (disch := omega) only [go_sem]) ?_
      rintro r hs ⟨rfl, rfl, _⟩
      refine ⟨by simp [freeN], ?_⟩
      simp (disch := omega) only [go_sem]
      refine call_open (fin _ d0 (by omega)) (by simp (disch := omega) only [go_sem]) ?_
      rintro r hs ⟨rfl, rfl, _⟩
      refine ⟨by simp [freeN], ?_⟩
      simp (disch := omega) only [go_sem]
      refine fin_val (by simp (disch := omega) only [go_sem]) ?_
      show snap _ 6 _ = _
      simp (disch := omega) only [go_sem]
  · have ek : 0 - (e1 - e2 - low + 2) = (((-(e1 - e2 - low + 2)).toNat : Nat) : Int) := by omega
    have e0 : (e1 - e2 - low + 2).toNat = 0 := by omega
    rw [e0, Nat.pow_zero, Nat.mul_one] at hA
    subst hA
    have cs := con_l2shlF m2 (-(e1 - e2 - low + 2)).toNat (by omega) (by omega)
    rw [hB, ← ek] at cs
    simp (disch := omega) only [go_sem, h3]
    refine call_open (cs) (by simp (disch := omega) only [go_sem]) ?_
    rintro r hs ⟨rfl, rfl, _⟩
    refine ⟨by simp [freeN], ?_⟩
    simp (disch := omega) only [go_sem]
    refine call_open (con_l2divF m1 B (by omega) (by omega) B0) (by simp (disch := omega) only [go_sem]) ?_
    rintro r hs ⟨rfl, rfl, _⟩
    refine ⟨by simp [freeN], ?_⟩
    simp (disch := omega) only [go_sem]
    refine call_open (con_l2shlF (m1 / B) 1 (by omega) (by omega)) (by simp (disch := omega) only [go_sem]) ?_
    rintro r hs ⟨rfl, rfl, _⟩
    refine ⟨by simp [freeN], ?_⟩
    simp (disch := omega) only [go_sem]
    by_cases hz : m1 % B = 0
    · have q2 : decide ((0 : Int) < ((lim (m1 % B)).length : Int)) = false := by rw [hz, lim_zero]; rfl
      rw [if_pos hz, Nat.add_zero] at d0
      simp (disch := omega) only [go_sem, q2]
      refine call_open (con_l3make (s1 != s2) (m1 / B * 2 ^ 1) (by omega)) (by simp (disch := omega) only [go_sem]) ?_
      rintro r hs ⟨rfl, rfl, _⟩
      refine ⟨by simp [freeN], ?_⟩
      simp (disch := omega) only [go_sem]
      refine call_open (fin _ d0 (by omega)) (by simp (disch := omega) only [go_sem]) ?_
      rintro r hs ⟨rfl, rfl, _⟩
      refine ⟨by simp [freeN], ?_⟩
      simp (disch := omega) only [go_sem]
      refine fin_val (by simp (disch := omega) only [go_sem]) ?_
      show snap _ 6 _ = _
      simp (disch := omega) only [go_sem]
    · have q2 : decide ((0 : Int) < ((lim (m1 % B)).length : Int)) = true := decide_eq_true (by have := lim_ne hz; omega)
      rw [if_neg hz] at d0
      simp (disch := omega) only [go_sem, q2]
      refine draw_of rfl [⟨0, [], []⟩, ⟨1, [0], []⟩, ⟨2, [], []⟩, ⟨3, [], []⟩] (by kernel_rfl) ?_
      simp (disch := omega) only [go_sem]
      refine call_open (con_l2ofF 1 (by omega)) (by simp (disch := omega) only [go_sem]) ?_
      rintro r hs ⟨rfl, rfl, _⟩
      refine ⟨by simp [freeN], ?_⟩
      simp (disch := omega) only [go_sem]
      refine call_open (con_l2addF (m1 / B * 2 ^ 1) 1 (by omega) (by have := len_bl (m := 1) (B := 1) (by decide); omega)) (by simp (disch := omega) only [go_sem]) ?_
      rintro r hs ⟨rfl, rfl, _⟩
      refine ⟨by simp [freeN], ?_⟩
      simp (disch := omega) only [go_sem]
      refine call_open (con_l3make (s1 != s2) (m1 / B * 2 ^ 1 + 1) (by omega)) (by simp (disch := omega) only [go_sem]) ?_
      rintro r hs ⟨rfl, rfl, _⟩
      refine ⟨by simp [freeN], ?_⟩
      simp (disch := omega) only [go_sem]
      refine call_open (fin _ d0 (by omega)) (by simp (disch := omega) only [go_sem]) ?_
      rintro r hs ⟨rfl, rfl, _⟩
      refine ⟨by simp [freeN], ?_⟩
      simp (disch := omega) only [go_sem]
      refine fin_val (by simp (disch := omega) only [go_sem]) ?_
      show snap _ 6 _ = _
      simp (disch := omega) only [go_sem]
end Go.Ab
namespace Go.Ab
open Go Go.Proofs
set_option linter.unusedVariables false
set_option linter.unusedSimpArgs false

theorem con_szIntS (xs : List Int) (left : Int) (hl : xs.length ≤ 9223372036854775807) (h : 0 ≤ left ∧ left ≤ 2 ^ 40) : Con Tryd.prog 19 true [.sl xs.length (ints xs), .v (.int .i64 left)] [] (isA (.v (.int .i64 (if left - xs.length < 0 then -1 else left - xs.length)))) := by
  refine Con.of_aw Tryd.func19 rfl Tryd.ntmps19 (by simp) (by simp) (by simp) (W.sound ?_)
  show @W Tryd.prog 12 ⟨_⟩ ⟨fun x σ => @retW _ _ _ ⟨_⟩ _ ⟨_⟩ x σ⟩ _ _
  simp (disch := omega) only [go_sem]
  refine ifW_dec (fun h1 => ?_) (fun h1 => ?_)
  · simp (disch := omega) only [go_sem, h1]
    rw [if_pos h1]
    exact fin_valc (by simp (disch := omega) only [go_sem]) (by simp (disch := omega) only [go_sem]) isA_mk
  · simp (disch := omega) only [go_sem, h1]
    rw [if_neg h1]
    exact fin_valc (by simp (disch := omega) only [go_sem]) (by simp (disch := omega) only [go_sem]) isA_mk

theorem set_copy {xs : List Int} {i : Nat} (h : i < xs.length) : (xs.take i ++ List.replicate (xs.length - i) 0).set i (xs.getD i 0) = xs.take (i + 1) ++ List.replicate (xs.length - (i + 1)) 0 := by
  have e1 : (xs.take i).length = i := by rw [List.length_take]; omega
  have e2 : xs.length - i = (xs.length - (i + 1)) + 1 := by omega
  rw [List.set_append_right _ _ (by omega), e1, Nat.sub_self, e2, List.replicate_succ, List.set_cons_zero, List.take_add_one, List.getElem?_eq_getElem h, List.append_assoc, List.getD_eq_getElem?_getD, List.getElem?_eq_getElem h]
  rfl

theorem con_toIntS (cl : Bool) (xs : List Int) (hl : xs.length ≤ 2000000) : Con Tryd.prog 26 cl [.sl xs.length (ints xs)] [] (numR xs) := by
  refine Con.of_aw Tryd.func26 rfl Tryd.ntmps26 (by simp) (by simp) (by simp) (W.sound ?_)
  show @W Tryd.prog 22 ⟨_⟩ ⟨fun x σ => @retW _ _ _ ⟨_⟩ _ ⟨_⟩ x σ⟩ _ _
  simp (disch := omega) only [go_sem]
  refine ⟨⟨by omega, by omega, by omega⟩, ?_⟩
  refine loop_intro (fun i : Nat => [(0, .sl xs.length (ints xs)), (3, .rf 90000000 0 xs.length), (4, .v (.int .i64 i))]) (fun i => [(90000000, .own 1 (ints (xs.take i ++ List.replicate (xs.length - i) 0)))]) (fun i => i ≤ xs.length) (fun i => xs.length - i) 0 (by omega)
    (Le.lst [] _ _ rfl (by simp (disch := omega) only [go_sem]; try omega) (by simp (disch := omega) only [go_sem, zrow_zero, List.take_zero, List.nil_append, Nat.sub_zero])) ?_
  intro i hi
  simp (disch := omega) only [go_sem]
  refine ifW_dec (fun h1 => ?_) (fun h1 => ?_)
  · simp (disch := omega) only [go_sem, h1]
    have el : (xs.take i ++ List.replicate (xs.length - i) 0).length = xs.length := by rw [List.length_append, List.length_take, List.length_replicate]; omega
    refine ⟨by omega, by omega, by omega, by omega, next_intro (i + 1) [] (by show i + 1 ≤ _; omega) (by show xs.length - (i + 1) < xs.length - i; omega) rfl (by simp (disch := omega) only [go_sem]; try omega) (by simp (disch := omega) only [go_sem, set_copy (by omega : i < xs.length)])⟩
  · have : i = xs.length := by omega
    subst this
    simp (disch := omega) only [go_sem, h1]
    refine fin_intro [(0, 90000000)] [.own 1 (ints (xs ++ []))] [] [.rf 0 0 xs.length] rfl (by simp (disch := omega) only [go_sem]) (by simp (disch := omega) only [go_sem, List.take_length, Nat.sub_self, List.replicate_zero]) (by simp) (by intro _; simp [tupA, AV.pu, Ob.pu, pu_ints]) (.inr ⟨[], rfl, rfl⟩)

theorem con_toNat (xs : List Int) (hl : xs.length ≤ 2000000) : Con Tryd.prog 14 false [.ag [.sl xs.length (ints xs)]] [] (isA (.ag [.sl xs.length (ints xs)])) := by
  refine Con.frzA ?_
  refine Con.of_aw Tryd.func14 rfl Tryd.ntmps14 (by simp) (by simp) (by simp) (W.sound ?_)
  show @W Tryd.prog 9 ⟨_⟩ ⟨fun x σ => @retW _ _ _ ⟨_⟩ _ ⟨_⟩ x σ⟩ _ _
  simp (disch := omega) only [go_sem]
  refine call_open (con_toIntS false xs hl).num (by simp (disch := omega) only [go_sem]) ?_
  rintro r hs ⟨rfl, rfl, _⟩
  refine ⟨by simp [freeN], ?_⟩
  simp (disch := omega) only [go_sem]
  refine fin_val (by simp (disch := omega) only [go_sem]) ?_
  show snap _ 6 _ = _
  simp (disch := omega) only [go_sem]

def szL (left : Int) (n : Nat) : Int := if left - n < 0 then -1 else left - n

theorem con_szNat (xs : List Int) (left : Int) (hl : xs.length ≤ 9223372036854775807) (h : 0 ≤ left ∧ left ≤ 2 ^ 40) : Con Tryd.prog 10 true [.ag [.sl xs.length (ints xs)], .v (.int .i64 left)] [] (isA (.v (.int .i64 (szL left xs.length)))) := by
  refine Con.of_aw Tryd.func10 rfl Tryd.ntmps10 (by simp) (by simp) (by simp) (W.sound ?_)
  show @W Tryd.prog 12 ⟨_⟩ ⟨fun x σ => @retW _ _ _ ⟨_⟩ _ ⟨_⟩ x σ⟩ _ _
  simp (disch := omega) only [go_sem]
  refine call_closed (con_szIntS xs left hl h) (by simp (disch := omega) only [go_sem]) ?_
  rintro r hs ⟨rfl, rfl, _⟩
  refine ⟨by simp [freeN], ?_⟩
  simp (disch := omega) only [go_sem]
  unfold szL
  by_cases h1 : left - (xs.length : Int) < 0
  · rw [if_pos h1]
    simp (disch := omega) only [go_sem]
    exact fin_valc (by simp (disch := omega) only [go_sem]) (by simp (disch := omega) only [go_sem]) isA_mk
  · rw [if_neg h1]
    simp (disch := omega) only [go_sem, h1]
    exact fin_valc (by simp (disch := omega) only [go_sem]) (by simp (disch := omega) only [go_sem]) isA_mk

theorem con_eqIntS (xs : List Int) (hl : xs.length ≤ 2 ^ 60) : Con Tryd.prog 33 true [.sl xs.length (ints xs), .sl xs.length (ints xs)] [] (isA (.v (.bool true))) := by
  refine Con.of_aw Tryd.func33 rfl Tryd.ntmps33 (by simp) (by simp) (by simp) (W.sound ?_)
  show @W Tryd.prog 26 ⟨_⟩ ⟨fun x σ => @retW _ _ _ ⟨_⟩ _ ⟨_⟩ x σ⟩ _ _
  simp (disch := omega) only [go_sem]
  refine loop_intro (fun i : Nat => [(0, .sl xs.length (ints xs)), (1, .sl xs.length (ints xs)), (5, .v (.int .i64 i))]) (fun _ => []) (fun i => i ≤ xs.length) (fun i => xs.length - i) 0 (by omega)
    (Le.lst [] _ _ rfl (by simp (disch := omega) only [go_sem]) (by simp (disch := omega) only [go_sem])) ?_
  intro i hi
  simp (disch := omega) only [go_sem]
  refine ifW_dec (fun h1 => ?_) (fun h1 => ?_)
  · simp (disch := omega) only [go_sem, h1]
    refine draw_of rfl [⟨0, [], []⟩, ⟨1, [], []⟩, ⟨2, [], []⟩, ⟨3, [], []⟩, ⟨4, [3], []⟩, ⟨5, [3], []⟩, ⟨6, [3], []⟩, ⟨7, [3], []⟩, ⟨8, [], []⟩] (by kernel_rfl) ?_
    simp (disch := omega) only [go_sem]
    refine ⟨by omega, by omega, by omega, by omega, next_intro (i + 1) [] (by show i + 1 ≤ _; omega) (by show xs.length - (i + 1) < xs.length - i; omega) rfl (by simp (disch := omega) only [go_sem]; try omega) (by simp (disch := omega) only [go_sem])⟩
  · have : i = xs.length := by omega
    subst this
    simp (disch := omega) only [go_sem, h1]
    exact fin_valc (by simp (disch := omega) only [go_sem]) (by simp (disch := omega) only [go_sem]) isA_mk

theorem con_eqNat (xs : List Int) (hl : xs.length ≤ 2 ^ 60) : Con Tryd.prog 18 true [.ag [.sl xs.length (ints xs)], .ag [.sl xs.length (ints xs)]] [] (isA (.v (.bool true))) := by
  refine Con.of_aw Tryd.func18 rfl Tryd.ntmps18 (by simp) (by simp) (by simp) (W.sound ?_)
  show @W Tryd.prog 11 ⟨_⟩ ⟨fun x σ => @retW _ _ _ ⟨_⟩ _ ⟨_⟩ x σ⟩ _ _
  simp (disch := omega) only [go_sem]
  refine call_closed (con_eqIntS xs hl) (by simp (disch := omega) only [go_sem]) ?_
  rintro r hs ⟨rfl, rfl, _⟩
  refine ⟨by simp [freeN], ?_⟩
  simp (disch := omega) only [go_sem]
  exact fin_valc (by simp (disch := omega) only [go_sem]) (by simp (disch := omega) only [go_sem]) isA_mk

end Go.Ab
namespace Go.Ab
open Go Go.Proofs
set_option linter.unusedVariables false
set_option linter.unusedSimpArgs false

theorem con_eqFl (k1 : Int) (s1 : Bool) (m1 e1 : Int) : Con Tryd.prog 8 true [.ag [.v (.int .i64 (k1)), .v (.bool (s1)), .v (.int .i64 (m1)), .v (.int .i64 (e1))], .ag [.v (.int .i64 (k1)), .v (.bool (s1)), .v (.int .i64 (m1)), .v (.int .i64 (e1))]] [] (isA (.v (.bool true))) := by
  refine Con.of_aw Tryd.func8 rfl Tryd.ntmps8 (by simp) (by simp) (by simp) (W.sound ?_)
  show @W Tryd.prog 25 ⟨_⟩ ⟨fun x σ => @retW _ _ _ ⟨_⟩ _ ⟨_⟩ x σ⟩ _ _
  simp (disch := omega) only [go_sem]
  have e : (s1 != s1) = false := by cases s1 <;> rfl
  simp (disch := omega) only [go_sem, e]
  exact fin_valc (by simp (disch := omega) only [go_sem]) (by simp (disch := omega) only [go_sem]) isA_mk

end Go.Ab
namespace Go.Ab
open Go Go.Proofs
set_option linter.unusedVariables false
set_option linter.unusedSimpArgs false

theorem stk_scale {A B p : Nat} (hp : 0 < p) : stk (A * p) (B * p) = stk A B := by
  unfold stk
  rw [Nat.mul_div_mul_right _ _ hp, Nat.mul_mod_mul_right]
  have : A % B * p = 0 ↔ A % B = 0 := by
    rw [Nat.mul_eq_zero]
    exact ⟨fun h => h.resolve_right (by omega), .inl⟩
  simp only [this]

theorem stk_quQ {N D : Nat} (k : Int) (hk : k = quK N D + tz N - tz D) : stk (oM N * 2 ^ k.toNat) (oM D * 2 ^ (-k).toNat) = quQ N D := by
  unfold quQ quA quB
  generalize quK N D = K at hk ⊢
  obtain ⟨x, hx⟩ : ∃ x, x = tz N + K.toNat := ⟨_, rfl⟩
  rw [← stk_scale (p := 2 ^ x) (Nat.pow_pos (by omega)), ← stk_scale (A := N * _) (p := 2 ^ k.toNat) (Nat.pow_pos (by omega))]
  have e1 : oM N * 2 ^ k.toNat * 2 ^ x = N * 2 ^ K.toNat * 2 ^ k.toNat := by
    have := @oM_mul N
    rw [hx, Nat.pow_add]
    generalize oM N = o at *
    generalize tz N = t at *
    rw [← this]
    ac_rfl
  have e2 : oM D * 2 ^ (-k).toNat * 2 ^ x = D * 2 ^ (-K).toNat * 2 ^ k.toNat := by
    have := @oM_mul D
    generalize oM D = o at *
    generalize tz D = t at *
    have e3 : D * 2 ^ (-K).toNat * 2 ^ k.toNat = o * (2 ^ t * 2 ^ (-K).toNat * 2 ^ k.toNat) := by
      rw [← this]; ac_rfl
    rw [e3, Nat.mul_assoc, ← Nat.pow_add, ← Nat.pow_add, ← Nat.pow_add]
    congr 2
    omega
  rw [e1, e2]

theorem oS_and (s : Bool) (m : Nat) : oS (s && decide (m ≠ 0)) m = oS s m := by
  unfold oS
  by_cases h0 : m = 0
  · rw [if_pos h0, if_pos h0]
  · rw [if_neg h0, if_neg h0, decide_eq_true h0, Bool.and_true]

theorem con_l6parts (s : Bool) (m : Nat) (e : Int) (hm : bl m ≤ 1600) (he : -800 ≤ e ∧ e ≤ 800) : Con Tryd.prog 22 false [.ag [.v (.bool (s)), .sl (lim (m)).length (ints (lim (m))), .v (.int .i64 (e))]] []
    (isA (.tu [.ag [.v (.bool (oS s (m * 10 ^ e.toNat))), .sl (lim (oM (m * 10 ^ e.toNat))).length (ints (lim (oM (m * 10 ^ e.toNat)))), .v (.int .i64 (oE (m * 10 ^ e.toNat) 0))], .ag [.v (.bool (false)), .sl (lim (oM (10 ^ (-e).toNat))).length (ints (lim (oM (10 ^ (-e).toNat)))), .v (.int .i64 (oE (10 ^ (-e).toNat) 0))]])) := by
  refine Con.frzA ?_
  have lm := len_bl hm
  have b1 := bl_ten e.toNat
  have b2 := bl_ten (-e).toNat
  have lt1 := len_bl b1
  have lt2 := len_bl b2
  have b3 := bl_mulle m (10 ^ e.toNat)
  have lt3 := len_bl (m := m * 10 ^ e.toNat) (B := 10000) (by omega)
  have t0 : oS false (10 ^ (-e).toNat) = false := by unfold oS; split <;> rfl
  refine Con.of_aw Tryd.func22 rfl Tryd.ntmps22 (by simp) (by simp) (by simp) (W.sound ?_)
  show @W Tryd.prog 31 ⟨_⟩ ⟨fun x σ => @retW _ _ _ ⟨_⟩ _ ⟨_⟩ x σ⟩ _ _
  simp (disch := omega) only [go_sem]
  refine ifW_dec (fun h3 => ?_) (fun h3 => ?_)
  · have ek : e = ((e.toNat : Nat) : Int) := by omega
    have e0 : (-e).toNat = 0 := by omega
    have ct := con_l6ten e.toNat (by omega)
    rw [← ek] at ct
    have ch := con_l4make (s && decide (m * 10 ^ e.toNat ≠ 0)) (m * 10 ^ e.toNat) 0 (by omega) (by omega)
    rw [oS_and] at ch
    have c1 := con_l4make false 1 0 (by decide) (by omega)
    have c0 : Con Tryd.prog 39 false [.v (.int .i64 1)] [] (isA (.ag [.v (.bool (false)), .sl (lim (1)).length (ints (lim (1)))])) := con_l3of 1 (by omega)
    rw [e0, Nat.pow_zero] at t0 ⊢
    rw [t0] at c1
    simp (disch := omega) only [go_sem, h3]
    refine draw_of rfl [⟨0, [], []⟩, ⟨1, [], []⟩, ⟨2, [1], []⟩, ⟨3, [1], []⟩, ⟨4, [1, 3], []⟩, ⟨5, [1, 3], []⟩, ⟨6, [1, 3], []⟩, ⟨7, [1], []⟩, ⟨8, [], []⟩, ⟨9, [], []⟩, ⟨10, [], []⟩, ⟨11, [], []⟩, ⟨12, [], []⟩, ⟨13, [], []⟩] (by kernel_rfl) ?_
    simp (disch := omega) only [go_sem]
    refine call_open (ct) (by simp (disch := omega) only [go_sem]) ?_
    rintro r hs ⟨rfl, rfl, _⟩
    refine ⟨by simp [freeN], ?_⟩
    simp (disch := omega) only [go_sem]
    refine call_open (con_l2mulF m (10 ^ e.toNat) (by omega) (by omega)) (by simp (disch := omega) only [go_sem]) ?_
    rintro r hs ⟨rfl, rfl, _⟩
    refine ⟨by simp [freeN], ?_⟩
    simp (disch := omega) only [go_sem]
    refine call_open (con_l3make s (m * 10 ^ e.toNat) (by omega)) (by simp (disch := omega) only [go_sem]) ?_
    rintro r hs ⟨rfl, rfl, _⟩
    refine ⟨by simp [freeN], ?_⟩
    simp (disch := omega) only [go_sem]
    refine call_open (ch) (by simp (disch := omega) only [go_sem]) ?_
    rintro r hs ⟨rfl, rfl, _⟩
    refine ⟨by simp [freeN], ?_⟩
    simp (disch := omega) only [go_sem]
    refine call_open (c0) (by simp (disch := omega) only [go_sem]) ?_
    rintro r hs ⟨rfl, rfl, _⟩
    refine ⟨by simp [freeN], ?_⟩
    simp (disch := omega) only [go_sem]
    refine call_open (c1) (by simp (disch := omega) only [go_sem]) ?_
    rintro r hs ⟨rfl, rfl, _⟩
    refine ⟨by simp [freeN], ?_⟩
    simp (disch := omega) only [go_sem]
    refine fin_val (by simp (disch := omega) only [go_sem]) ?_
    show snap _ 6 _ = _
    simp (disch := omega) only [go_sem]
  · have ek : 0 - e = (((-e).toNat : Nat) : Int) := by omega
    have e0 : e.toNat = 0 := by omega
    have ct := con_l6ten (-e).toNat (by omega)
    rw [← ek] at ct
    rw [e0, Nat.pow_zero, Nat.mul_one]
    have ch := con_l4make (s && decide (m ≠ 0)) m 0 (by omega) (by omega)
    rw [oS_and] at ch
    have c1 := con_l4make false (10 ^ (-e).toNat) 0 (by omega) (by omega)
    rw [t0] at c1
    simp (disch := omega) only [go_sem, h3]
    refine draw_of rfl [⟨0, [], []⟩, ⟨1, [], []⟩, ⟨2, [1], []⟩, ⟨3, [1], []⟩, ⟨6, [1, 3], []⟩, ⟨7, [1, 3], []⟩, ⟨8, [1, 3], []⟩, ⟨4, [7], []⟩, ⟨5, [7], []⟩, ⟨9, [], []⟩, ⟨10, [], []⟩, ⟨11, [], []⟩, ⟨12, [], []⟩, ⟨13, [], []⟩] (by kernel_rfl) ?_
    simp (disch := omega) only [go_sem]
    refine call_open (con_l3make s m (by omega)) (by simp (disch := omega) only [go_sem]) ?_
    rintro r hs ⟨rfl, rfl, _⟩
    refine ⟨by simp [freeN], ?_⟩
    simp (disch := omega) only [go_sem]
    refine call_open (ch) (by simp (disch := omega) only [go_sem]) ?_
    rintro r hs ⟨rfl, rfl, _⟩
    refine ⟨by simp [freeN], ?_⟩
    simp (disch := omega) only [go_sem]
    refine call_open (ct) (by simp (disch := omega) only [go_sem]) ?_
    rintro r hs ⟨rfl, rfl, _⟩
    refine ⟨by simp [freeN], ?_⟩
    simp (disch := omega) only [go_sem]
    refine call_open (con_l3make false (10 ^ (-e).toNat) (by omega)) (by simp (disch := omega) only [go_sem]) ?_
    rintro r hs ⟨rfl, rfl, _⟩
    refine ⟨by simp [freeN], ?_⟩
    simp (disch := omega) only [go_sem]
    refine call_open (c1) (by simp (disch := omega) only [go_sem]) ?_
    rintro r hs ⟨rfl, rfl, _⟩
    refine ⟨by simp [freeN], ?_⟩
    simp (disch := omega) only [go_sem]
    refine fin_val (by simp (disch := omega) only [go_sem]) ?_
    show snap _ 6 _ = _
    simp (disch := omega) only [go_sem]

theorem con_l6float (s : Bool) (m : Nat) (e mode : Int) (hm : bl m ≤ 1600) (he : -800 ≤ e ∧ e ≤ 800) (hmode : 0 ≤ mode ∧ mode ≤ 4) : Con Tryd.prog 13 true [.ag [.v (.bool (s)), .sl (lim (m)).length (ints (lim (m))), .v (.int .i64 (e))], .v (.int .i64 mode)] []
    (isA (.tu [.ag [.v (.int .i64 ((dfV s m e mode).k)), .v (.bool ((dfV s m e mode).s)), .v (.int .i64 ((dfV s m e mode).m)), .v (.int .i64 ((dfV s m e mode).e))], .v (.int .i64 (dfG s m e mode))])) := by
  have b1 := bl_ten e.toNat
  have b2 := bl_ten (-e).toNat
  have b3 := bl_mulle m (10 ^ e.toNat)
  have cp := con_l6parts s m e hm he
  have p10 : ∀ k : Nat, 10 ^ k ≠ 0 := fun k => Nat.pos_iff_ne_zero.1 (Nat.pow_pos (by omega))
  have hN := fun h0 : m ≠ 0 => Nat.mul_ne_zero h0 (p10 e.toNat)
  have hD := p10 (-e).toNat
  unfold dfV dfG
  by_cases h0 : m = 0
  · rw [if_pos h0, if_pos h0]
    rw [h0, Nat.zero_mul, oM_zero, lim_zero] at cp
    rw [h0, lim_zero]
    refine Con.of_aw Tryd.func13 rfl Tryd.ntmps13 (by simp) (by simp) (by simp) (W.sound ?_)
    show @W Tryd.prog 40 ⟨_⟩ ⟨fun x σ => @retW _ _ _ ⟨_⟩ _ ⟨_⟩ x σ⟩ _ _
    simp (disch := omega) only [go_sem]
    refine call_open (cp) (by simp (disch := omega) only [go_sem]) ?_
    rintro r hs ⟨rfl, rfl, _⟩
    refine ⟨by simp [freeN], ?_⟩
    simp (disch := omega) only [go_sem]
    exact fin_valc (by simp (disch := omega) only [go_sem]) (by simp (disch := omega) only [go_sem]) isA_mk
  · rw [if_neg h0, if_neg h0]
    have hN0 := hN h0
    generalize m * 10 ^ e.toNat = N at *
    generalize 10 ^ (-e).toNat = DD at *
    have hoN : oM N ≠ 0 := fun e => hN0 (oM_eq_zero.1 e)
    have hoD : oM DD ≠ 0 := fun e => hD (oM_eq_zero.1 e)
    have q1 : decide (((lim (oM N)).length : Int) = 0) = false := decide_eq_false (by have := lim_ne hoN; omega)
    have hbN := bl_oM hN0
    have hbD := bl_oM hD
    have eN : oE N 0 = 0 + tz N := by unfold oE; rw [if_neg hN0]
    have eD : oE DD 0 = 0 + tz DD := by unfold oE; rw [if_neg hD]
    have lN := len_bl (m := oM N) (B := 5000) (by omega)
    have lD := len_bl (m := oM DD) (B := 5000) (by omega)
    have t1 : (if oM N = 0 then (0 : Int) else oE N 0 + (bl (oM N) : Int)) = (bl N : Int) := by rw [if_neg hoN, eN]; omega
    have t2 : (if oM DD = 0 then (0 : Int) else oE DD 0 + (bl (oM DD) : Int)) = (bl DD : Int) := by rw [if_neg hoD, eD]; omega
    have c1 := con_l4top (oS s N) (oM N) (oE N 0) (by omega) (by omega)
    have c2 := con_l4top false (oM DD) (oE DD 0) (by omega) (by omega)
    rw [t1] at c1
    rw [t2] at c2
    have hk : oE N 0 - oE DD 0 - ((bl N : Int) - (bl DD : Int) - 53 - 3) + 2 = quK N DD + tz N - tz DD := by unfold quK; omega
    have cq := con_l4quot (oS s N) (oM N) (oE N 0) false (oM DD) (oE DD 0) ((bl N : Int) - (bl DD : Int) - 53 - 3) hoN hoD (by omega) (by omega) (by omega) (by omega) (by omega) (by omega) _ _ rfl rfl
    rw [hk, stk_quQ _ rfl] at cq
    have hoS : (oS s N != false) = s := by unfold oS; rw [if_neg hN0, Bool.bne_false]
    have hlow : (bl N : Int) - (bl DD : Int) - 53 - 3 - 3 = -quK N DD - 1 := by unfold quK; omega
    rw [hoS, hlow] at cq
    obtain ⟨hQ, -, hQb⟩ := qu_top hN0 hD
    have hqk : -20000 ≤ quK N DD ∧ quK N DD ≤ 20000 := by unfold quK; omega
    have hE : -20060 ≤ oE (quQ N DD) (-quK N DD - 1) ∧ oE (quQ N DD) (-quK N DD - 1) ≤ 20060 := by
      have h1 := tz_lt_bl hQ
      clear cp cq c1 c2
      unfold oE
      rw [if_neg hQ]
      omega
    have cr := con_l5round (oS s (quQ N DD)) (oM (quQ N DD)) (oE (quQ N DD) (-quK N DD - 1)) mode s (oM_odd _) (oS_z s _) hmode (Nat.le_trans (bl_mono (oM_le _)) (by omega)) (by omega)
    rw [(flV_canon s (quQ N DD) (-quK N DD - 1) mode s).1, (flV_canon s (quQ N DD) (-quK N DD - 1) mode s).2] at cr
    refine Con.of_aw Tryd.func13 rfl Tryd.ntmps13 (by simp) (by simp) (by simp) (W.sound ?_)
    show @W Tryd.prog 40 ⟨_⟩ ⟨fun x σ => @retW _ _ _ ⟨_⟩ _ ⟨_⟩ x σ⟩ _ _
    simp (disch := omega) only [go_sem]
    refine call_open (cp) (by simp (disch := omega) only [go_sem]) ?_
    rintro r hs ⟨rfl, rfl, _⟩
    refine ⟨by simp [freeN], ?_⟩
    simp (disch := omega) only [go_sem]
    simp (disch := omega) only [go_sem, q1]
    refine draw_of rfl [⟨0, [], []⟩, ⟨2, [0], []⟩, ⟨1, [2], []⟩, ⟨3, [], []⟩, ⟨4, [], []⟩, ⟨5, [], []⟩, ⟨6, [], []⟩, ⟨7, [], []⟩] (by kernel_rfl) ?_
    simp (disch := omega) only [go_sem]
    refine call_closed (c1) (by simp (disch := omega) only [go_sem]) ?_
    rintro r hs ⟨rfl, rfl, _⟩
    refine ⟨by simp [freeN], ?_⟩
    simp (disch := omega) only [go_sem]
    refine call_closed (c2) (by simp (disch := omega) only [go_sem]) ?_
    rintro r hs ⟨rfl, rfl, _⟩
    refine ⟨by simp [freeN], ?_⟩
    simp (disch := omega) only [go_sem]
    refine draw_of rfl [⟨0, [], []⟩, ⟨1, [0], []⟩, ⟨2, [0, 1], []⟩, ⟨4, [0, 1], []⟩, ⟨5, [0, 1], []⟩, ⟨6, [0, 1], []⟩, ⟨3, [6], []⟩, ⟨7, [], []⟩, ⟨8, [], []⟩, ⟨9, [], []⟩, ⟨10, [], []⟩, ⟨11, [], []⟩] (by kernel_rfl) ?_
    simp (disch := omega) only [go_sem]
    refine call_open (cq) (by simp (disch := omega) only [go_sem]) ?_
    rintro r hs ⟨rfl, rfl, _⟩
    refine ⟨by simp [freeN], ?_⟩
    simp (disch := omega) only [go_sem]
    refine call_closed (cr) (by simp (disch := omega) only [go_sem]) ?_
    rintro r hs ⟨rfl, rfl, _⟩
    refine ⟨by simp [freeN], ?_⟩
    simp (disch := omega) only [go_sem]
    exact fin_valc (by simp (disch := omega) only [go_sem]) (by simp (disch := omega) only [go_sem]) isA_mk

theorem con_decokS (s : Bool) (xs : List Int) (e : Int) (hl : xs.length ≤ 2 ^ 40) : Con Tryd.prog 11 true [.ag [.v (.bool s), .sl xs.length (ints xs), .v (.int .i64 e)]] [] (isA (.v (.bool (decB xs e)))) := by
  have cn := con_natokS xs hl
  unfold decB
  cases hn : natB xs
  · rw [hn] at cn
    rw [Bool.false_and]
    refine Con.of_aw Tryd.func11 rfl Tryd.ntmps11 (by simp) (by simp) (by simp) (W.sound ?_)
    show @W Tryd.prog 35 ⟨_⟩ ⟨fun x σ => @retW _ _ _ ⟨_⟩ _ ⟨_⟩ x σ⟩ _ _
    simp (disch := omega) only [go_sem]
    refine call_closed (cn) (by simp (disch := omega) only [go_sem]) ?_
    rintro r hs ⟨rfl, rfl, _⟩
    refine ⟨by simp [freeN], ?_⟩
    simp (disch := omega) only [go_sem]
    exact fin_valc (by simp (disch := omega) only [go_sem]) (by simp (disch := omega) only [go_sem]) isA_mk
  · rw [hn] at cn
    rw [Bool.true_and]
    by_cases r1 : e < -800
    · have q : decide (-800 ≤ e) = false := decide_eq_false (by omega)
      rw [q, Bool.false_and, Bool.false_and]
      refine Con.of_aw Tryd.func11 rfl Tryd.ntmps11 (by simp) (by simp) (by simp) (W.sound ?_)
      show @W Tryd.prog 35 ⟨_⟩ ⟨fun x σ => @retW _ _ _ ⟨_⟩ _ ⟨_⟩ x σ⟩ _ _
      simp (disch := omega) only [go_sem]
      refine call_closed (cn) (by simp (disch := omega) only [go_sem]) ?_
      rintro r hs ⟨rfl, rfl, _⟩
      refine ⟨by simp [freeN], ?_⟩
      simp (disch := omega) only [go_sem]
      simp (disch := omega) only [go_sem, r1]
      exact fin_valc (by simp (disch := omega) only [go_sem]) (by simp (disch := omega) only [go_sem]) isA_mk
    by_cases r2 : 800 < e
    · have q : decide (e ≤ 800) = false := decide_eq_false (by omega)
      rw [q, Bool.and_false, Bool.false_and]
      refine Con.of_aw Tryd.func11 rfl Tryd.ntmps11 (by simp) (by simp) (by simp) (W.sound ?_)
      show @W Tryd.prog 35 ⟨_⟩ ⟨fun x σ => @retW _ _ _ ⟨_⟩ _ ⟨_⟩ x σ⟩ _ _
      simp (disch := omega) only [go_sem]
      refine call_closed (cn) (by simp (disch := omega) only [go_sem]) ?_
      rintro r hs ⟨rfl, rfl, _⟩
      refine ⟨by simp [freeN], ?_⟩
      simp (disch := omega) only [go_sem]
      simp (disch := omega) only [go_sem, r1, r2]
      exact fin_valc (by simp (disch := omega) only [go_sem]) (by simp (disch := omega) only [go_sem]) isA_mk
    rw [decide_eq_true (show -800 ≤ e by omega), decide_eq_true (show e ≤ 800 by omega), Bool.true_and, Bool.true_and]
    obtain ⟨h5, h6⟩ := natB_lim hn
    generalize (vl xs).toNat = m at *
    subst h5
    by_cases h1 : (lim m).length = 0
    · have q2 : decide (((lim m).length : Int) = 0) = true := decide_eq_true (by omega)
      have h0 : m = 0 := lim_eq_nil.1 (List.length_eq_zero_iff.1 h1)
      rw [decide_eq_true h1, Bool.true_and, decide_eq_false (show ¬ m % 10 ≠ 0 by omega), Bool.false_or]
      refine Con.of_aw Tryd.func11 rfl Tryd.ntmps11 (by simp) (by simp) (by simp) (W.sound ?_)
      show @W Tryd.prog 35 ⟨_⟩ ⟨fun x σ => @retW _ _ _ ⟨_⟩ _ ⟨_⟩ x σ⟩ _ _
      simp (disch := omega) only [go_sem]
      refine call_closed (cn) (by simp (disch := omega) only [go_sem]) ?_
      rintro r hs ⟨rfl, rfl, _⟩
      refine ⟨by simp [freeN], ?_⟩
      simp (disch := omega) only [go_sem]
      simp (disch := omega) only [go_sem, r1, r2, q2]
      exact fin_valc (by simp (disch := omega) only [go_sem]) (by simp (disch := omega) only [go_sem]) isA_mk
    · have q2 : decide (((lim m).length : Int) = 0) = false := decide_eq_false (by omega)
      have q3 : decide ((0 : Int) < ((m % 10 : Nat) : Int)) = decide (m % 10 ≠ 0) := by rw [decide_eq_decide]; omega
      rw [decide_eq_false h1, Bool.false_and, Bool.or_false]
      refine Con.of_aw Tryd.func11 rfl Tryd.ntmps11 (by simp) (by simp) (by simp) (W.sound ?_)
      show @W Tryd.prog 35 ⟨_⟩ ⟨fun x σ => @retW _ _ _ ⟨_⟩ _ ⟨_⟩ x σ⟩ _ _
      simp (disch := omega) only [go_sem]
      refine call_closed (cn) (by simp (disch := omega) only [go_sem]) ?_
      rintro r hs ⟨rfl, rfl, _⟩
      refine ⟨by simp [freeN], ?_⟩
      simp (disch := omega) only [go_sem]
      simp (disch := omega) only [go_sem, r1, r2, q2]
      refine call_open (con_l2smallN m 10 (by omega) (by omega) (by omega)) (by simp (disch := omega) only [go_sem]) ?_
      rintro r hs ⟨rfl, rfl, _⟩
      refine ⟨by simp [freeN], ?_⟩
      simp (disch := omega) only [go_sem]
      simp (disch := omega) only [go_sem, q3]
      exact fin_valc (by simp (disch := omega) only [go_sem]) (by simp (disch := omega) only [go_sem]) isA_mk

theorem con_DecFloatS (s : Bool) (xs : List Int) (e mode : Int) (hl : xs.length ≤ 2 ^ 40) : Con Tryd.prog 5 true [.ag [.v (.bool s), .sl xs.length (ints xs), .v (.int .i64 e)], .v (.int .i64 mode)] []
    (isA (if (decB xs e && modeB mode) = true then .tu [.ag [.v (.int .i64 ((dfV s (vl xs).toNat e mode).k)), .v (.bool ((dfV s (vl xs).toNat e mode).s)), .v (.int .i64 ((dfV s (vl xs).toNat e mode).m)), .v (.int .i64 ((dfV s (vl xs).toNat e mode).e))], .v (.int .i64 (dfG s (vl xs).toNat e mode)), .v (.bool true)]
      else .tu [.ag [.v (.int .i64 (0)), .v (.bool (false)), .v (.int .i64 (0)), .v (.int .i64 (0))], .v (.int .i64 0), .v (.bool false)])) := by
  have ck := con_decokS s xs e hl
  have km := con_l4mode mode
  change Con _ _ _ _ _ (isA (.v (.bool (modeB mode)))) at km
  cases h1 : decB xs e
  · rw [h1] at ck
    rw [Bool.false_and, if_neg (by simp)]
    refine Con.of_aw Tryd.func5 rfl Tryd.ntmps5 (by simp) (by simp) (by simp) (W.sound ?_)
    show @W Tryd.prog 26 ⟨_⟩ ⟨fun x σ => @retW _ _ _ ⟨_⟩ _ ⟨_⟩ x σ⟩ _ _
    simp (disch := omega) only [go_sem]
    refine call_closed (ck) (by simp (disch := omega) only [go_sem]) ?_
    rintro r hs ⟨rfl, rfl, _⟩
    refine ⟨by simp [freeN], ?_⟩
    simp (disch := omega) only [go_sem]
    exact fin_valc (by simp (disch := omega) only [go_sem]) (by simp (disch := omega) only [go_sem]) isA_mk
  · rw [h1] at ck
    cases h2 : modeB mode
    · rw [h2] at km
      rw [Bool.and_false, if_neg (by simp)]
      refine Con.of_aw Tryd.func5 rfl Tryd.ntmps5 (by simp) (by simp) (by simp) (W.sound ?_)
      show @W Tryd.prog 26 ⟨_⟩ ⟨fun x σ => @retW _ _ _ ⟨_⟩ _ ⟨_⟩ x σ⟩ _ _
      simp (disch := omega) only [go_sem]
      refine call_closed (ck) (by simp (disch := omega) only [go_sem]) ?_
      rintro r hs ⟨rfl, rfl, _⟩
      refine ⟨by simp [freeN], ?_⟩
      simp (disch := omega) only [go_sem]
      refine call_closed (km) (by simp (disch := omega) only [go_sem]) ?_
      rintro r hs ⟨rfl, rfl, _⟩
      refine ⟨by simp [freeN], ?_⟩
      simp (disch := omega) only [go_sem]
      exact fin_valc (by simp (disch := omega) only [go_sem]) (by simp (disch := omega) only [go_sem]) isA_mk
    · rw [h2] at km
      rw [Bool.and_true, if_pos rfl]
      obtain ⟨m, q, q1, q2, q3, q4⟩ := decB_lim h1
      subst q
      have cf := con_l6float s m e mode q2 q3 (by unfold modeB at h2; simpa using h2)
      rw [vl_lim, Int.toNat_natCast]
      generalize dfV s m e mode = V at *
      generalize dfG s m e mode = G at *
      refine Con.of_aw Tryd.func5 rfl Tryd.ntmps5 (by simp) (by simp) (by simp) (W.sound ?_)
      show @W Tryd.prog 26 ⟨_⟩ ⟨fun x σ => @retW _ _ _ ⟨_⟩ _ ⟨_⟩ x σ⟩ _ _
      simp (disch := omega) only [go_sem]
      refine call_closed (ck) (by simp (disch := omega) only [go_sem]) ?_
      rintro r hs ⟨rfl, rfl, _⟩
      refine ⟨by simp [freeN], ?_⟩
      simp (disch := omega) only [go_sem]
      refine call_closed (km) (by simp (disch := omega) only [go_sem]) ?_
      rintro r hs ⟨rfl, rfl, _⟩
      refine ⟨by simp [freeN], ?_⟩
      simp (disch := omega) only [go_sem]
      refine call_closed (cf) (by simp (disch := omega) only [go_sem]) ?_
      rintro r hs ⟨rfl, rfl, _⟩
      refine ⟨by simp [freeN], ?_⟩
      simp (disch := omega) only [go_sem]
      exact fin_valc (by simp (disch := omega) only [go_sem]) (by simp (disch := omega) only [go_sem]) isA_mk
end Go.Ab
namespace Go.Ab
open Go Go.Proofs
set_option linter.unusedVariables false
set_option linter.unusedSimpArgs false

theorem con_toDec (s : Bool) (xs : List Int) (e : Int) (hl : xs.length ≤ 2000000) : Con Tryd.prog 6 false [.ag [.v (.bool s), .sl xs.length (ints xs), .v (.int .i64 e)]] [] (isA (.ag [.v (.bool s), .sl xs.length (ints xs), .v (.int .i64 e)])) := by
  refine Con.frzA ?_
  refine Con.of_aw Tryd.func6 rfl Tryd.ntmps6 (by simp) (by simp) (by simp) (W.sound ?_)
  show @W Tryd.prog 15 ⟨_⟩ ⟨fun x σ => @retW _ _ _ ⟨_⟩ _ ⟨_⟩ x σ⟩ _ _
  simp (disch := omega) only [go_sem]
  refine call_open (con_toNat xs hl) (by simp (disch := omega) only [go_sem]) ?_
  rintro r hs ⟨rfl, rfl, _⟩
  refine ⟨by simp [freeN], ?_⟩
  simp (disch := omega) only [go_sem]
  refine fin_val (by simp (disch := omega) only [go_sem]) ?_
  show snap _ 6 _ = _
  simp (disch := omega) only [go_sem]

theorem con_szDec (s : Bool) (xs : List Int) (e left : Int) (hl : xs.length ≤ 9223372036854775807) (h : 0 ≤ left ∧ left ≤ 2 ^ 40) : Con Tryd.prog 4 true [.ag [.v (.bool s), .sl xs.length (ints xs), .v (.int .i64 e)], .v (.int .i64 left)] [] (isA (.v (.int .i64 (szL left xs.length)))) := by
  refine Con.of_aw Tryd.func4 rfl Tryd.ntmps4 (by simp) (by simp) (by simp) (W.sound ?_)
  show @W Tryd.prog 12 ⟨_⟩ ⟨fun x σ => @retW _ _ _ ⟨_⟩ _ ⟨_⟩ x σ⟩ _ _
  simp (disch := omega) only [go_sem]
  refine call_closed (con_szNat xs left hl h) (by simp (disch := omega) only [go_sem]) ?_
  rintro r hs ⟨rfl, rfl, _⟩
  refine ⟨by simp [freeN], ?_⟩
  simp (disch := omega) only [go_sem]
  unfold szL
  by_cases h1 : left - (xs.length : Int) < 0
  · rw [if_pos h1]
    simp (disch := omega) only [go_sem]
    exact fin_valc (by simp (disch := omega) only [go_sem]) (by simp (disch := omega) only [go_sem]) isA_mk
  · rw [if_neg h1]
    simp (disch := omega) only [go_sem, h1]
    exact fin_valc (by simp (disch := omega) only [go_sem]) (by simp (disch := omega) only [go_sem]) isA_mk

theorem con_eqDec (s : Bool) (xs : List Int) (e : Int) (hl : xs.length ≤ 2 ^ 60) : Con Tryd.prog 9 true [.ag [.v (.bool s), .sl xs.length (ints xs), .v (.int .i64 e)], .ag [.v (.bool s), .sl xs.length (ints xs), .v (.int .i64 e)]] [] (isA (.v (.bool true))) := by
  refine Con.of_aw Tryd.func9 rfl Tryd.ntmps9 (by simp) (by simp) (by simp) (W.sound ?_)
  show @W Tryd.prog 21 ⟨_⟩ ⟨fun x σ => @retW _ _ _ ⟨_⟩ _ ⟨_⟩ x σ⟩ _ _
  simp (disch := omega) only [go_sem]
  have e0 : (s != s) = false := by cases s <;> rfl
  simp (disch := omega) only [go_sem, e0]
  refine call_closed (con_eqNat xs hl) (by simp (disch := omega) only [go_sem]) ?_
  rintro r hs ⟨rfl, rfl, _⟩
  refine ⟨by simp [freeN], ?_⟩
  simp (disch := omega) only [go_sem]
  exact fin_valc (by simp (disch := omega) only [go_sem]) (by simp (disch := omega) only [go_sem]) isA_mk

theorem law_DecFloat (s : Bool) (xs : List Int) (e mode : Int) (hl : xs.length ≤ 9223372036854775807) : Con Tryd.prog 3 true [.ag [.v (.bool s), .sl xs.length (ints xs), .v (.int .i64 e)], .v (.int .i64 mode)] [] (isA (.v (.bool true))) := by
  refine Con.of_aw Tryd.func3 rfl Tryd.ntmps3 (by simp) (by simp) (by simp) (W.sound ?_)
  show @W Tryd.prog 54 ⟨_⟩ ⟨fun x σ => @retW _ _ _ ⟨_⟩ _ ⟨_⟩ x σ⟩ _ _
  simp (disch := omega) only [go_sem]
  refine call_closed (con_szDec s xs e 1048576 hl (by omega)) (by simp (disch := omega) only [go_sem]) ?_
  rintro r hs ⟨rfl, rfl, _⟩
  refine ⟨by simp [freeN], ?_⟩
  simp (disch := omega) only [go_sem]
  unfold szL
  by_cases h1 : (1048576 : Int) - (xs.length : Int) < 0
  · rw [if_pos h1]
    simp (disch := omega) only [go_sem]
    exact fin_valc (by simp (disch := omega) only [go_sem]) (by simp (disch := omega) only [go_sem]) isA_mk
  · rw [if_neg h1]
    simp (disch := omega) only [go_sem, h1]
    have c1 := con_DecFloatS s xs e mode (by omega)
    have c2 := con_DecFloat s xs e mode (by omega)
    generalize (dfV s (vl xs).toNat e mode) = V at *
    generalize (dfG s (vl xs).toNat e mode) = G at *
    by_cases hm : (decB xs e && modeB mode) = true
    · rw [if_pos hm] at c1 c2
      refine call_open (con_toDec s xs e (by omega)) (by simp (disch := omega) only [go_sem]) ?_
      rintro r hs ⟨rfl, rfl, _⟩
      refine ⟨by simp [freeN], ?_⟩
      simp (disch := omega) only [go_sem]
      refine call_closed (c1) (by simp (disch := omega) only [go_sem]) ?_
      rintro r hs ⟨rfl, rfl, _⟩
      refine ⟨by simp [freeN], ?_⟩
      simp (disch := omega) only [go_sem]
      refine call_open (con_toDec s xs e (by omega)) (by simp (disch := omega) only [go_sem]) ?_
      rintro r hs ⟨rfl, rfl, _⟩
      refine ⟨by simp [freeN], ?_⟩
      simp (disch := omega) only [go_sem]
      refine call_closed (c2) (by simp (disch := omega) only [go_sem]) ?_
      rintro r hs ⟨rfl, rfl, _⟩
      refine ⟨by simp [freeN], ?_⟩
      simp (disch := omega) only [go_sem]
      refine call_closed (con_eqFl V.k V.s V.m V.e) (by simp (disch := omega) only [go_sem]) ?_
      rintro r hs ⟨rfl, rfl, _⟩
      refine ⟨by simp [freeN], ?_⟩
      simp (disch := omega) only [go_sem]
      refine draw_of rfl [⟨0, [], []⟩, ⟨1, [0], []⟩, ⟨2, [0], []⟩, ⟨3, [], []⟩, ⟨4, [], []⟩] (by kernel_rfl) ?_
      simp (disch := omega) only [go_sem]
      refine call_open (con_toDec s xs e (by omega)) (by simp (disch := omega) only [go_sem]) ?_
      rintro r hs ⟨rfl, rfl, _⟩
      refine ⟨by simp [freeN], ?_⟩
      simp (disch := omega) only [go_sem]
      refine call_closed (con_eqDec s xs e (by omega)) (by simp (disch := omega) only [go_sem]) ?_
      rintro r hs ⟨rfl, rfl, _⟩
      refine ⟨by simp [freeN], ?_⟩
      simp (disch := omega) only [go_sem]
      exact fin_valc (by simp (disch := omega) only [go_sem]) (by simp (disch := omega) only [go_sem]) isA_mk
    · rw [if_neg hm] at c1 c2
      refine call_open (con_toDec s xs e (by omega)) (by simp (disch := omega) only [go_sem]) ?_
      rintro r hs ⟨rfl, rfl, _⟩
      refine ⟨by simp [freeN], ?_⟩
      simp (disch := omega) only [go_sem]
      refine call_closed (c1) (by simp (disch := omega) only [go_sem]) ?_
      rintro r hs ⟨rfl, rfl, _⟩
      refine ⟨by simp [freeN], ?_⟩
      simp (disch := omega) only [go_sem]
      refine call_open (con_toDec s xs e (by omega)) (by simp (disch := omega) only [go_sem]) ?_
      rintro r hs ⟨rfl, rfl, _⟩
      refine ⟨by simp [freeN], ?_⟩
      simp (disch := omega) only [go_sem]
      refine call_closed (c2) (by simp (disch := omega) only [go_sem]) ?_
      rintro r hs ⟨rfl, rfl, _⟩
      refine ⟨by simp [freeN], ?_⟩
      simp (disch := omega) only [go_sem]
      refine call_closed (con_eqFl 0 false 0 0) (by simp (disch := omega) only [go_sem]) ?_
      rintro r hs ⟨rfl, rfl, _⟩
      refine ⟨by simp [freeN], ?_⟩
      simp (disch := omega) only [go_sem]
      refine draw_of rfl [⟨0, [], []⟩, ⟨1, [0], []⟩, ⟨2, [0], []⟩, ⟨3, [], []⟩, ⟨4, [], []⟩] (by kernel_rfl) ?_
      simp (disch := omega) only [go_sem]
      refine call_open (con_toDec s xs e (by omega)) (by simp (disch := omega) only [go_sem]) ?_
      rintro r hs ⟨rfl, rfl, _⟩
      refine ⟨by simp [freeN], ?_⟩
      simp (disch := omega) only [go_sem]
      refine call_closed (con_eqDec s xs e (by omega)) (by simp (disch := omega) only [go_sem]) ?_
      rintro r hs ⟨rfl, rfl, _⟩
      refine ⟨by simp [freeN], ?_⟩
      simp (disch := omega) only [go_sem]
      exact fin_valc (by simp (disch := omega) only [go_sem]) (by simp (disch := omega) only [go_sem]) isA_mk
end Go.Ab
namespace Go.Proofs.YtjkhfpjccemboaaDoor
open Go.ChangeShapes Go.WideShapes Go.ChangeAt Go.RowKit Go.Ab

theorem own : ownKnob Tryd.prog.godebug = none := by kernel_rfl
theorem laidOut : laidOutB Tryd.prog = true := by kernel_rfl
theorem tabs_g1 : Tryd.prog.globalNamed "math/bits.deBruijn64tab" = some 1 := by kernel_rfl
theorem tabs_t1 : (Tryd.prog.globals[1]?).map (·.type) = some 123 := by kernel_rfl
theorem tabs_u1 : Tryd.prog.underlying 123 = some (.array 64 5) := by kernel_rfl
theorem tabs_e1 : Tryd.prog.underlying 5 = some (.int .u8) := by kernel_rfl
theorem tabs_c1 : Tryd.prog.cellsOf 5 = 1 := by kernel_rfl
theorem tabs_k1 : Tryd.prog.cellsOf 123 = 64 := by kernel_rfl
noncomputable def laidList : List (String × DataW Unit) := [("math/bits.deBruijn32tab", Rows.laid_math_bits_deBruijn32tab), ("math/bits.deBruijn64tab", Rows.laid_math_bits_deBruijn64tab)]

theorem tabs_gd {W : World} (h : laidMetH Tryd.prog laidList W) : Gd W := by
  have h' : laidMet Tryd.prog laidList W := h
  have h2 : laidMet Tryd.prog [("math/bits.deBruijn64tab", Lib.tabData .u8 (Lib.deBruijn64tab.map Int.ofNat))] W := laidMet.tail h'
  have hT := Lib.tabIs_of_head tabs_g1 tabs_t1 tabs_u1 tabs_e1 tabs_c1 tabs_k1 h2
  intro g l hg
  unfold glb at hg
  split at hg
  · rename_i e
    subst e
    cases hg
    have hc : ∀ i, i < Lib.deBruijn64tab.length → W.cell? ⟨1, i, none⟩ = some (.int .u8 ((Lib.deBruijn64tab.getD i 0 : Nat) : Int)) := fun i hi => by
      have := hT.cell tabs_g1 i (by simpa using hi)
      rw [this]
      simp [List.getD, hi]
    exact ⟨cell_blk (hc 0 (by decide)), hc⟩
  · cases hg

/-- A world that meets the condition: the settled one, the tables laid. -/
noncomputable def laidWorld (os : Os) : World :=
  let w0 := World.holding Tryd.prog os ⟨#[], #[], []⟩
  { w0 with heap := (w0.heap.modify 1 fun
      | .cells _ t frozen => .cells (Lib.deBruijn64tab.map fun z => Value.int .u8 (Int.ofNat z)).toArray t frozen
      | o => o).modify 0 fun
      | .cells _ t frozen => .cells (Lib.deBruijn32tab.map fun z => Value.int .u8 (Int.ofNat z)).toArray t frozen
      | o => o }
theorem laidWorld_met (os : Os) (args : Array Value) : laidMetH Tryd.prog laidList ((laidWorld os).forCall (fun _ _ => 0) ⟨#[], args, []⟩).memory :=
  laidMetH_of_parts (laidMet_of_run' 8 (by kernel_rfl) (by kernel_rfl)) (by kernel_rfl)
end Go.Proofs.YtjkhfpjccemboaaDoor
