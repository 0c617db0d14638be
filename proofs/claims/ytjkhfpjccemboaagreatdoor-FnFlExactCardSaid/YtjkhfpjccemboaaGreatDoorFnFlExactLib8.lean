/- What the proof of this claim stands on: the walks of the functions and the plain laws, part 8. -/
import Derived.Test.YtjkhfpjccemboaaGreatDoorFnFlExactLib7
import Derived.Laws.StructEq
import Derived.Test.YtjkhfpjccemboaaGreatDoorRows
import Derived.Test.YtjkhfpjccemboaaGreatDoorCards
import Derived.Test.YtjkhfpjccemboaaGreatDoorTie
import Derived.Handed
import Derived.ChangeSame
import Derived.JoinedOf
import Derived.RowKit
import Derived.WalkKit
import Derived.ProofKit
import Derived.OpenShut
import Derived.LaidLaws
import Derived.LaidHandle
import Derived.SevenTiedAt
import Derived.Stop.LaidErr
import Derived.Lib.LaidTab
namespace Go.Ab
open Go Go.Proofs
set_option linter.unusedVariables false
set_option linter.unusedSimpArgs false
section
variable (l : List UInt8) (hl : l.length ≤ 9223372036854775807) (i h : Int) (hi : 0 ≤ i ∧ i ≤ l.length)
include hl hi
set_option maxRecDepth 100000 in
theorem con_l5draw : Con Tryz.prog 128 false [.pt 10000000 0] [.own 0 [.sl l.length (bytesA l), .v (.int .i64 i), .v (.int .i64 h)]] (curR l fun r => ∃ x : FlV, r = .ag x.cs) := by
 refine Con.of_aw Tryz.func128 rfl Tryz.ntmps128 (by simp) (by simp) (by simp) (W.sound ?_)
 show @W Tryz.prog 75 ⟨_⟩ ⟨fun x σ => @retW _ _ _ ⟨_⟩ _ ⟨_⟩ x σ⟩ _ _
 simp (disch := omega) only [go_sem]
 refine call_lent false [10000000] (con_l1Once l hl i h hi 2 (by omega)) (by simp (disch := omega) only [go_sem]) (by simp (disch := omega) only [go_sem]) rfl (lend_cons (z := 0) (cs := [.sl l.length (bytesA l), .v (.int .i64 (i)), .v (.int .i64 (h))]) (by simp (disch := omega) only [go_sem]) (by simp (disch := omega) only [go_sem])) (by intro n hn; exact ⟨_, List.mem_cons_self .., by rw [List.mem_singleton.1 hn]; rfl⟩) ?_
 rintro r hs bs ⟨rfl, ⟨b, rfl⟩, i1, h1, hi1, rfl⟩ -
 refine ⟨by simp [freeN], ?_⟩
 simp (disch := omega) only [go_sem]
 refine call_lent false [10000000] (con_l1Below l hl i1 h1 hi1 9 (by omega)) (by simp (disch := omega) only [go_sem]) (by simp (disch := omega) only [go_sem]) rfl (lend_cons (z := 0) (cs := [.sl l.length (bytesA l), .v (.int .i64 (i1)), .v (.int .i64 (h1))]) (by simp (disch := omega) only [go_sem]) (by simp (disch := omega) only [go_sem])) (by intro n hn; exact ⟨_, List.mem_cons_self .., by rw [List.mem_singleton.1 hn]; rfl⟩) ?_
 rintro r hs bs ⟨rfl, ⟨k, hk, rfl⟩, i2, h2, hi2, rfl⟩ -
 refine ⟨by simp [freeN], ?_⟩
 simp (disch := omega) only [go_sem]
 by_cases c0 : k = 0
 ·simp (disch := omega) only [go_sem, c0]
  have hL3 : [AV.v (Value.int IntKind.i64 (0)), AV.v (Value.int IntKind.i64 (2))] = ints ([0, 2] : List Int) := rfl
  have cc3 := con_l1PickInt l hl i2 h2 hi2 [0, 2] (by simp) (by simp)
  generalize hG3 : ([0, 2] : List Int) = xs3 at hL3 cc3
  have hN3 : xs3.length = 2 := by rw [← hG3]; rfl
  rw [hL3]
  rw [hN3] at cc3
  refine call_lent false [10000000, 160000000] cc3 (by simp (disch := omega) only [go_sem]) (by simp (disch := omega) only [go_sem]) rfl (lend_two (z := 0) (cs := [.sl l.length (bytesA l), .v (.int .i64 (i2)), .v (.int .i64 (h2))]) (z' := 1) (cs' := ints xs3) (by simp (disch := omega) only [go_sem]) (by simp (disch := omega) only [go_sem]) (by simp (disch := omega) only [go_sem]) (by simp (disch := omega) only [go_sem])) (by intro n hn; simp only [List.mem_cons, List.not_mem_nil, or_false] at hn; rcases hn with rfl | rfl <;> simp [AV.top]) ?_
  rintro r hs bs ⟨rfl, ⟨x, hx, rfl⟩, i3, h3, hi3, rfl⟩ -
  clear cc3 hL3 hx hG3 hN3
  refine ⟨by simp [freeN], ?_⟩
  simp (disch := omega) only [go_sem]
  refine fin_intro [] [] [.own 0 [.sl l.length (bytesA l), .v (.int .i64 (i3)), .v (.int .i64 (h3))]] [.ag [.v (.int .i64 (x)), .v (.bool (b)), .v (.int .i64 (0)), .v (.int .i64 (0))]] rfl (by simp (disch := omega) only [go_sem]) (by simp (disch := omega) only [go_sem]) (by simp) (by simp) ⟨rfl, ⟨⟨_, _, _, _⟩, rfl⟩, _, _, by omega, rfl⟩
 by_cases c1 : k = 1
 ·simp (disch := omega) only [go_sem, c0, c1]
  refine call_cI (con_l5nan) ?_
  simp (disch := omega) only [go_sem]
  refine fin_intro [] [] [.own 0 [.sl l.length (bytesA l), .v (.int .i64 (i2)), .v (.int .i64 (h2))]] [.ag [.v (.int .i64 (3)), .v (.bool (false)), .v (.int .i64 (0)), .v (.int .i64 (0))]] rfl (by simp (disch := omega) only [go_sem]) (by simp (disch := omega) only [go_sem]) (by simp) (by simp) ⟨rfl, ⟨⟨_, _, _, _⟩, rfl⟩, _, _, by omega, rfl⟩
 by_cases c2 : k = 2
 ·simp (disch := omega) only [go_sem, c0, c1, c2]
  have hL3 : [AV.v (Value.int IntKind.i64 (1)), AV.v (Value.int IntKind.i64 (2)), AV.v (Value.int IntKind.i64 (4503599627370495)), AV.v (Value.int IntKind.i64 (4503599627370496)), AV.v (Value.int IntKind.i64 (4503599627370497)), AV.v (Value.int IntKind.i64 (12345))] = ints ([1, 2, 4503599627370495, 4503599627370496, 4503599627370497, 12345] : List Int) := rfl
  have cc3 := con_l1PickInt l hl i2 h2 hi2 [1, 2, 4503599627370495, 4503599627370496, 4503599627370497, 12345] (by simp) (by simp)
  generalize hG3 : ([1, 2, 4503599627370495, 4503599627370496, 4503599627370497, 12345] : List Int) = xs3 at hL3 cc3
  have hN3 : xs3.length = 6 := by rw [← hG3]; rfl
  rw [hL3]
  rw [hN3] at cc3
  refine call_lent false [10000000, 270000000] cc3 (by simp (disch := omega) only [go_sem]) (by simp (disch := omega) only [go_sem]) rfl (lend_two (z := 0) (cs := [.sl l.length (bytesA l), .v (.int .i64 (i2)), .v (.int .i64 (h2))]) (z' := 1) (cs' := ints xs3) (by simp (disch := omega) only [go_sem]) (by simp (disch := omega) only [go_sem]) (by simp (disch := omega) only [go_sem]) (by simp (disch := omega) only [go_sem])) (by intro n hn; simp only [List.mem_cons, List.not_mem_nil, or_false] at hn; rcases hn with rfl | rfl <;> simp [AV.top]) ?_
  rintro r hs bs ⟨rfl, ⟨x, hx, rfl⟩, i3, h3, hi3, rfl⟩ -
  clear cc3 hL3 hx hG3 hN3
  refine ⟨by simp [freeN], ?_⟩
  simp (disch := omega) only [go_sem]
  refine fin_intro [] [] [.own 0 [.sl l.length (bytesA l), .v (.int .i64 (i3)), .v (.int .i64 (h3))]] [.ag [.v (.int .i64 (1)), .v (.bool (b)), .v (.int .i64 (x)), .v (.int .i64 (-1074))]] rfl (by simp (disch := omega) only [go_sem]) (by simp (disch := omega) only [go_sem]) (by simp) (by simp) ⟨rfl, ⟨⟨_, _, _, _⟩, rfl⟩, _, _, by omega, rfl⟩
 by_cases c3 : k = 3
 ·simp (disch := omega) only [go_sem, c0, c1, c2, c3]
  have hL3 : [AV.v (Value.int IntKind.i64 (4503599627370496)), AV.v (Value.int IntKind.i64 (9007199254740991)), AV.v (Value.int IntKind.i64 (9007199254740990))] = ints ([4503599627370496, 9007199254740991, 9007199254740990] : List Int) := rfl
  have cc3 := con_l1PickInt l hl i2 h2 hi2 [4503599627370496, 9007199254740991, 9007199254740990] (by simp) (by simp)
  generalize hG3 : ([4503599627370496, 9007199254740991, 9007199254740990] : List Int) = xs3 at hL3 cc3
  have hN3 : xs3.length = 3 := by rw [← hG3]; rfl
  rw [hL3]
  rw [hN3] at cc3
  refine call_lent false [10000000, 340000000] cc3 (by simp (disch := omega) only [go_sem]) (by simp (disch := omega) only [go_sem]) rfl (lend_two (z := 0) (cs := [.sl l.length (bytesA l), .v (.int .i64 (i2)), .v (.int .i64 (h2))]) (z' := 1) (cs' := ints xs3) (by simp (disch := omega) only [go_sem]) (by simp (disch := omega) only [go_sem]) (by simp (disch := omega) only [go_sem]) (by simp (disch := omega) only [go_sem])) (by intro n hn; simp only [List.mem_cons, List.not_mem_nil, or_false] at hn; rcases hn with rfl | rfl <;> simp [AV.top]) ?_
  rintro r hs bs ⟨rfl, ⟨x, hx, rfl⟩, i3, h3, hi3, rfl⟩ -
  clear cc3 hL3 hx hG3 hN3
  refine ⟨by simp [freeN], ?_⟩
  simp (disch := omega) only [go_sem]
  have hL4 : [AV.v (Value.int IntKind.i64 (971)), AV.v (Value.int IntKind.i64 (970)), AV.v (Value.int IntKind.i64 (0)), AV.v (Value.int IntKind.i64 (-52)), AV.v (Value.int IntKind.i64 (-1000))] = ints ([971, 970, 0, -52, -1000] : List Int) := rfl
  have cc4 := con_l1PickInt l hl i3 h3 hi3 [971, 970, 0, -52, -1000] (by simp) (by simp)
  generalize hG4 : ([971, 970, 0, -52, -1000] : List Int) = xs4 at hL4 cc4
  have hN4 : xs4.length = 5 := by rw [← hG4]; rfl
  rw [hL4]
  rw [hN4] at cc4
  refine call_lent false [10000000, 370000000] cc4 (by simp (disch := omega) only [go_sem]) (by simp (disch := omega) only [go_sem]) rfl (lend_two (z := 0) (cs := [.sl l.length (bytesA l), .v (.int .i64 (i3)), .v (.int .i64 (h3))]) (z' := 1) (cs' := ints xs4) (by simp (disch := omega) only [go_sem]) (by simp (disch := omega) only [go_sem]) (by simp (disch := omega) only [go_sem]) (by simp (disch := omega) only [go_sem])) (by intro n hn; simp only [List.mem_cons, List.not_mem_nil, or_false] at hn; rcases hn with rfl | rfl <;> simp [AV.top]) ?_
  rintro r hs bs ⟨rfl, ⟨y, hy, rfl⟩, i4, h4, hi4, rfl⟩ -
  clear cc4 hL4 hy hG4 hN4
  refine ⟨by simp [freeN], ?_⟩
  simp (disch := omega) only [go_sem]
  refine fin_intro [] [] [.own 0 [.sl l.length (bytesA l), .v (.int .i64 (i4)), .v (.int .i64 (h4))]] [.ag [.v (.int .i64 (1)), .v (.bool (b)), .v (.int .i64 (x)), .v (.int .i64 (y))]] rfl (by simp (disch := omega) only [go_sem]) (by simp (disch := omega) only [go_sem]) (by simp) (by simp) ⟨rfl, ⟨⟨_, _, _, _⟩, rfl⟩, _, _, by omega, rfl⟩
 by_cases c4 : k = 4
 ·simp (disch := omega) only [go_sem, c0, c1, c2, c3, c4]
  refine call_lent false [10000000] (con_l1Below l hl i2 h2 hi2 40 (by omega)) (by simp (disch := omega) only [go_sem]) (by simp (disch := omega) only [go_sem]) rfl (lend_cons (z := 0) (cs := [.sl l.length (bytesA l), .v (.int .i64 (i2)), .v (.int .i64 (h2))]) (by simp (disch := omega) only [go_sem]) (by simp (disch := omega) only [go_sem])) (by intro n hn; exact ⟨_, List.mem_cons_self .., by rw [List.mem_singleton.1 hn]; rfl⟩) ?_
  rintro r hs bs ⟨rfl, ⟨x, hx, rfl⟩, i3, h3, hi3, rfl⟩ -
  refine ⟨by simp [freeN], ?_⟩
  simp (disch := omega) only [go_sem]
  have hx2 := hx.2 (by omega)
  refine call_oI (con_l3of (x - 20) (by omega)) ?_
  simp (disch := omega) only [go_sem]
  refine call_lent false [10000000] (con_l1Below l hl i3 h3 hi3 5 (by omega)) (by simp (disch := omega) only [go_sem]) (by simp (disch := omega) only [go_sem]) rfl (lend_cons (z := 0) (cs := [.sl l.length (bytesA l), .v (.int .i64 (i3)), .v (.int .i64 (h3))]) (by simp (disch := omega) only [go_sem]) (by simp (disch := omega) only [go_sem])) (by intro n hn; exact ⟨_, List.mem_cons_self .., by rw [List.mem_singleton.1 hn]; rfl⟩) ?_
  rintro r hs bs ⟨rfl, ⟨y, hy, rfl⟩, i4, h4, hi4, rfl⟩ -
  refine ⟨by simp [freeN], ?_⟩
  simp (disch := omega) only [go_sem]
  have hy2 := hy.2 (by omega)
  have hb : bl (x - 20).natAbs ≤ 6 := bl_le.2 (by omega)
  refine call_oI (con_l4make (decide (x - 20 < 0)) (x - 20).natAbs (y - 2) (by omega) (by omega)) ?_
  simp (disch := omega) only [go_sem]
  have q4 := bl_mono (oM_le (x - 20).natAbs)
  have q5 := oE_rng (m := (x - 20).natAbs) (e := y - 2) (lo := -2) (hi := 3) (Nat.le_refl _) (by omega) (by omega) (by omega)
  refine call_cI (con_l5round (oS (decide (x - 20 < 0)) (x - 20).natAbs) (oM (x - 20).natAbs) (oE (x - 20).natAbs (y - 2)) 0 false (oM_odd _) (oS_z _ _) (by omega) (by omega) (by omega)) ?_
  simp (disch := omega) only [go_sem]
  generalize flV (oS (decide (x - 20 < 0)) (x - 20).natAbs) (oM (x - 20).natAbs) (oE (x - 20).natAbs (y - 2)) 0 false = V
  refine fin_intro [] [] [.own 0 [.sl l.length (bytesA l), .v (.int .i64 (i4)), .v (.int .i64 (h4))]] [.ag [.v (.int .i64 (V.k)), .v (.bool (V.s)), .v (.int .i64 (V.m)), .v (.int .i64 (V.e))]] rfl (by simp (disch := omega) only [go_sem]) (by simp (disch := omega) only [go_sem]) (by simp) (by simp) ⟨rfl, ⟨V, rfl⟩, _, _, by omega, rfl⟩
 simp (disch := omega) only [go_sem, c0, c1, c2, c3, c4]
 refine call_lent false [10000000] (con_l1Below l hl i2 h2 hi2 1073741824 (by omega)) (by simp (disch := omega) only [go_sem]) (by simp (disch := omega) only [go_sem]) rfl (lend_cons (z := 0) (cs := [.sl l.length (bytesA l), .v (.int .i64 (i2)), .v (.int .i64 (h2))]) (by simp (disch := omega) only [go_sem]) (by simp (disch := omega) only [go_sem])) (by intro n hn; exact ⟨_, List.mem_cons_self .., by rw [List.mem_singleton.1 hn]; rfl⟩) ?_
 rintro r hs bs ⟨rfl, ⟨x, hx, rfl⟩, i3, h3, hi3, rfl⟩ -
 refine ⟨by simp [freeN], ?_⟩
 simp (disch := omega) only [go_sem]
 have hx2 := hx.2 (by omega)
 refine call_lent false [10000000] (con_l1Below l hl i3 h3 hi3 999 (by omega)) (by simp (disch := omega) only [go_sem]) (by simp (disch := omega) only [go_sem]) rfl (lend_cons (z := 0) (cs := [.sl l.length (bytesA l), .v (.int .i64 (i3)), .v (.int .i64 (h3))]) (by simp (disch := omega) only [go_sem]) (by simp (disch := omega) only [go_sem])) (by intro n hn; exact ⟨_, List.mem_cons_self .., by rw [List.mem_singleton.1 hn]; rfl⟩) ?_
 rintro r hs bs ⟨rfl, ⟨y, hy, rfl⟩, i4, h4, hi4, rfl⟩ -
 refine ⟨by simp [freeN], ?_⟩
 simp (disch := omega) only [go_sem]
 have hy2 := hy.2 (by omega)
 refine call_lent false [10000000] (con_l1Once l hl i4 h4 hi4 3 (by omega)) (by simp (disch := omega) only [go_sem]) (by simp (disch := omega) only [go_sem]) rfl (lend_cons (z := 0) (cs := [.sl l.length (bytesA l), .v (.int .i64 (i4)), .v (.int .i64 (h4))]) (by simp (disch := omega) only [go_sem]) (by simp (disch := omega) only [go_sem])) (by intro n hn; exact ⟨_, List.mem_cons_self .., by rw [List.mem_singleton.1 hn]; rfl⟩) ?_
 rintro r hs bs ⟨rfl, ⟨b2, rfl⟩, i5, h5, hi5, rfl⟩ -
 refine ⟨by simp [freeN], ?_⟩
 simp (disch := omega) only [go_sem]
 cases b2
 ·simp (disch := omega) only [go_sem]
  refine call_lent false [10000000] (con_l1Below l hl i5 h5 hi5 40 (by omega)) (by simp (disch := omega) only [go_sem]) (by simp (disch := omega) only [go_sem]) rfl (lend_cons (z := 0) (cs := [.sl l.length (bytesA l), .v (.int .i64 (i5)), .v (.int .i64 (h5))]) (by simp (disch := omega) only [go_sem]) (by simp (disch := omega) only [go_sem])) (by intro n hn; exact ⟨_, List.mem_cons_self .., by rw [List.mem_singleton.1 hn]; rfl⟩) ?_
  rintro r hs bs ⟨rfl, ⟨z, hz, rfl⟩, i6, h6, hi6, rfl⟩ -
  refine ⟨by simp [freeN], ?_⟩
  simp (disch := omega) only [go_sem]
  have hz2 := hz.2 (by omega)
  have hL7 : [AV.v (Value.int IntKind.i64 (-52)), AV.v (Value.int IntKind.i64 (-50)), AV.v (Value.int IntKind.i64 (-55)), AV.v (Value.int IntKind.i64 (-53)), AV.v (Value.int IntKind.i64 (-60)), AV.v (Value.int IntKind.i64 (0)), AV.v (Value.int IntKind.i64 (10)), AV.v (Value.int IntKind.i64 (-600)), AV.v (Value.int IntKind.i64 (500)), AV.v (Value.int IntKind.i64 (-1000)), AV.v (Value.int IntKind.i64 (900)), AV.v (Value.int IntKind.i64 (z - 70))] = ints ([-52, -50, -55, -53, -60, 0, 10, -600, 500, -1000, 900, z - 70] : List Int) := rfl
  have cc7 := con_l1PickInt l hl i6 h6 hi6 [-52, -50, -55, -53, -60, 0, 10, -600, 500, -1000, 900, z - 70] (by simp) (by simp)
  generalize hG7 : ([-52, -50, -55, -53, -60, 0, 10, -600, 500, -1000, 900, z - 70] : List Int) = xs7 at hL7 cc7
  have hN7 : xs7.length = 12 := by rw [← hG7]; rfl
  rw [hL7]
  rw [hN7] at cc7
  refine call_lent false [10000000, 740000000] cc7 (by simp (disch := omega) only [go_sem]) (by simp (disch := omega) only [go_sem]) rfl (lend_two (z := 0) (cs := [.sl l.length (bytesA l), .v (.int .i64 (i6)), .v (.int .i64 (h6))]) (z' := 1) (cs' := ints xs7) (by simp (disch := omega) only [go_sem]) (by simp (disch := omega) only [go_sem]) (by simp (disch := omega) only [go_sem]) (by simp (disch := omega) only [go_sem])) (by intro n hn; simp only [List.mem_cons, List.not_mem_nil, or_false] at hn; rcases hn with rfl | rfl <;> simp [AV.top]) ?_
  rintro r hs bs ⟨rfl, ⟨u, hu, rfl⟩, i7, h7, hi7, rfl⟩ -
  clear cc7 hL7 hu hG7 hN7
  refine ⟨by simp [freeN], ?_⟩
  simp (disch := omega) only [go_sem]
  refine fin_intro [] [] [.own 0 [.sl l.length (bytesA l), .v (.int .i64 (i7)), .v (.int .i64 (h7))]] [.ag [.v (.int .i64 (1)), .v (.bool (b)), .v (.int .i64 (4503599627370496 + x * 4000000 + y)), .v (.int .i64 (u))]] rfl (by simp (disch := omega) only [go_sem]) (by simp (disch := omega) only [go_sem]) (by simp) (by simp) ⟨rfl, ⟨⟨_, _, _, _⟩, rfl⟩, _, _, by omega, rfl⟩
 ·simp (disch := omega) only [go_sem]
  have hL8 : [AV.v (Value.int IntKind.i64 (1)), AV.v (Value.int IntKind.i64 (3)), AV.v (Value.int IntKind.i64 (2251799813685248)), AV.v (Value.int IntKind.i64 (1073741824))] = ints ([1, 3, 2251799813685248, 1073741824] : List Int) := rfl
  have cc8 := con_l1PickInt l hl i5 h5 hi5 [1, 3, 2251799813685248, 1073741824] (by simp) (by simp)
  generalize hG8 : ([1, 3, 2251799813685248, 1073741824] : List Int) = xs8 at hL8 cc8
  have hN8 : xs8.length = 4 := by rw [← hG8]; rfl
  rw [hL8]
  rw [hN8] at cc8
  refine call_lent false [10000000, 650000000] cc8 (by simp (disch := omega) only [go_sem]) (by simp (disch := omega) only [go_sem]) rfl (lend_two (z := 0) (cs := [.sl l.length (bytesA l), .v (.int .i64 (i5)), .v (.int .i64 (h5))]) (z' := 1) (cs' := ints xs8) (by simp (disch := omega) only [go_sem]) (by simp (disch := omega) only [go_sem]) (by simp (disch := omega) only [go_sem]) (by simp (disch := omega) only [go_sem])) (by intro n hn; simp only [List.mem_cons, List.not_mem_nil, or_false] at hn; rcases hn with rfl | rfl <;> simp [AV.top]) ?_
  rintro r hs bs ⟨rfl, ⟨v, hv, rfl⟩, i8, h8, hi8, rfl⟩ -
  have hv_b : 0 ≤ v ∧ v ≤ 2251799813685248 := by
   rw [← hG8] at hv
   simp only [List.mem_cons, List.not_mem_nil, or_false] at hv
   omega
  clear cc8 hL8 hv hG8 hN8
  refine ⟨by simp [freeN], ?_⟩
  simp (disch := omega) only [go_sem]
  refine call_lent false [10000000] (con_l1Below l hl i8 h8 hi8 40 (by omega)) (by simp (disch := omega) only [go_sem]) (by simp (disch := omega) only [go_sem]) rfl (lend_cons (z := 0) (cs := [.sl l.length (bytesA l), .v (.int .i64 (i8)), .v (.int .i64 (h8))]) (by simp (disch := omega) only [go_sem]) (by simp (disch := omega) only [go_sem])) (by intro n hn; exact ⟨_, List.mem_cons_self .., by rw [List.mem_singleton.1 hn]; rfl⟩) ?_
  rintro r hs bs ⟨rfl, ⟨z, hz, rfl⟩, i6, h6, hi6, rfl⟩ -
  refine ⟨by simp [freeN], ?_⟩
  simp (disch := omega) only [go_sem]
  have hz2 := hz.2 (by omega)
  have hL7 : [AV.v (Value.int IntKind.i64 (-52)), AV.v (Value.int IntKind.i64 (-50)), AV.v (Value.int IntKind.i64 (-55)), AV.v (Value.int IntKind.i64 (-53)), AV.v (Value.int IntKind.i64 (-60)), AV.v (Value.int IntKind.i64 (0)), AV.v (Value.int IntKind.i64 (10)), AV.v (Value.int IntKind.i64 (-600)), AV.v (Value.int IntKind.i64 (500)), AV.v (Value.int IntKind.i64 (-1000)), AV.v (Value.int IntKind.i64 (900)), AV.v (Value.int IntKind.i64 (z - 70))] = ints ([-52, -50, -55, -53, -60, 0, 10, -600, 500, -1000, 900, z - 70] : List Int) := rfl
  have cc7 := con_l1PickInt l hl i6 h6 hi6 [-52, -50, -55, -53, -60, 0, 10, -600, 500, -1000, 900, z - 70] (by simp) (by simp)
  generalize hG7 : ([-52, -50, -55, -53, -60, 0, 10, -600, 500, -1000, 900, z - 70] : List Int) = xs7 at hL7 cc7
  have hN7 : xs7.length = 12 := by rw [← hG7]; rfl
  rw [hL7]
  rw [hN7] at cc7
  refine call_lent false [10000000, 740000000] cc7 (by simp (disch := omega) only [go_sem]) (by simp (disch := omega) only [go_sem]) rfl (lend_two (z := 0) (cs := [.sl l.length (bytesA l), .v (.int .i64 (i6)), .v (.int .i64 (h6))]) (z' := 1) (cs' := ints xs7) (by simp (disch := omega) only [go_sem]) (by simp (disch := omega) only [go_sem]) (by simp (disch := omega) only [go_sem]) (by simp (disch := omega) only [go_sem])) (by intro n hn; simp only [List.mem_cons, List.not_mem_nil, or_false] at hn; rcases hn with rfl | rfl <;> simp [AV.top]) ?_
  rintro r hs bs ⟨rfl, ⟨u, hu, rfl⟩, i7, h7, hi7, rfl⟩ -
  clear cc7 hL7 hu hG7 hN7
  refine ⟨by simp [freeN], ?_⟩
  simp (disch := omega) only [go_sem]
  refine fin_intro [] [] [.own 0 [.sl l.length (bytesA l), .v (.int .i64 (i7)), .v (.int .i64 (h7))]] [.ag [.v (.int .i64 (1)), .v (.bool (b)), .v (.int .i64 (4503599627370496 + v)), .v (.int .i64 (u))]] rfl (by simp (disch := omega) only [go_sem]) (by simp (disch := omega) only [go_sem]) (by simp) (by simp) ⟨rfl, ⟨⟨_, _, _, _⟩, rfl⟩, _, _, by omega, rfl⟩
theorem con_l5bent : Con Tryz.prog 115 false [.pt 10000000 0] [.own 0 [.sl l.length (bytesA l), .v (.int .i64 i), .v (.int .i64 h)]] (curR l fun r => ∃ x : FlV, r = .ag x.cs) := by
 refine Con.of_aw Tryz.func115 rfl Tryz.ntmps115 (by simp) (by simp) (by simp) (W.sound ?_)
 show @W Tryz.prog 33 ⟨_⟩ ⟨fun x σ => @retW _ _ _ ⟨_⟩ _ ⟨_⟩ x σ⟩ _ _
 simp (disch := omega) only [go_sem]
 refine call_lent false [10000000] (con_l5draw l hl i h hi) (by simp (disch := omega) only [go_sem]) (by simp (disch := omega) only [go_sem]) rfl (lend_cons (z := 0) (cs := [.sl l.length (bytesA l), .v (.int .i64 (i)), .v (.int .i64 (h))]) (by simp (disch := omega) only [go_sem]) (by simp (disch := omega) only [go_sem])) (by intro n hn; exact ⟨_, List.mem_cons_self .., by rw [List.mem_singleton.1 hn]; rfl⟩) ?_
 rintro r hs bs ⟨rfl, ⟨V, rfl⟩, i1, h1, hi1, rfl⟩ -
 refine ⟨by simp [freeN], ?_⟩
 simp (disch := omega) only [go_sem]
 unfold FlV.cs
 simp (disch := omega) only [go_sem]
 refine call_lent false [10000000] (con_l1Once l hl i1 h1 hi1 12 (by omega)) (by simp (disch := omega) only [go_sem]) (by simp (disch := omega) only [go_sem]) rfl (lend_cons (z := 0) (cs := [.sl l.length (bytesA l), .v (.int .i64 (i1)), .v (.int .i64 (h1))]) (by simp (disch := omega) only [go_sem]) (by simp (disch := omega) only [go_sem])) (by intro n hn; exact ⟨_, List.mem_cons_self .., by rw [List.mem_singleton.1 hn]; rfl⟩) ?_
 rintro r hs bs ⟨rfl, ⟨b, rfl⟩, i2, h2, hi2, rfl⟩ -
 refine ⟨by simp [freeN], ?_⟩
 simp (disch := omega) only [go_sem]
 cases b
 ·simp (disch := omega) only [go_sem]
  refine fin_intro [] [] [.own 0 [.sl l.length (bytesA l), .v (.int .i64 (i2)), .v (.int .i64 (h2))]] [.ag [.v (.int .i64 (V.k)), .v (.bool (V.s)), .v (.int .i64 (V.m)), .v (.int .i64 (V.e))]] rfl (by simp (disch := omega) only [go_sem]) (by simp (disch := omega) only [go_sem]) (by simp) (by simp) ⟨rfl, ⟨V, rfl⟩, _, _, by omega, rfl⟩
 ·simp (disch := omega) only [go_sem]
  refine call_lent false [10000000] (con_l1Below l hl i2 h2 hi2 4 (by omega)) (by simp (disch := omega) only [go_sem]) (by simp (disch := omega) only [go_sem]) rfl (lend_cons (z := 0) (cs := [.sl l.length (bytesA l), .v (.int .i64 (i2)), .v (.int .i64 (h2))]) (by simp (disch := omega) only [go_sem]) (by simp (disch := omega) only [go_sem])) (by intro n hn; exact ⟨_, List.mem_cons_self .., by rw [List.mem_singleton.1 hn]; rfl⟩) ?_
  rintro r hs bs ⟨rfl, ⟨k, hk, rfl⟩, i3, h3, hi3, rfl⟩ -
  refine ⟨by simp [freeN], ?_⟩
  simp (disch := omega) only [go_sem]
  by_cases c0 : k = 0
  ·simp (disch := omega) only [go_sem, c0]
   refine call_lent false [10000000] (con_l1Below l hl i3 h3 hi3 6 (by omega)) (by simp (disch := omega) only [go_sem]) (by simp (disch := omega) only [go_sem]) rfl (lend_cons (z := 0) (cs := [.sl l.length (bytesA l), .v (.int .i64 (i3)), .v (.int .i64 (h3))]) (by simp (disch := omega) only [go_sem]) (by simp (disch := omega) only [go_sem])) (by intro n hn; exact ⟨_, List.mem_cons_self .., by rw [List.mem_singleton.1 hn]; rfl⟩) ?_
   rintro r hs bs ⟨rfl, ⟨x, hx, rfl⟩, i4, h4, hi4, rfl⟩ -
   refine ⟨by simp [freeN], ?_⟩
   simp (disch := omega) only [go_sem]
   have hx2 := hx.2 (by omega)
   refine fin_intro [] [] [.own 0 [.sl l.length (bytesA l), .v (.int .i64 (i4)), .v (.int .i64 (h4))]] [.ag [.v (.int .i64 (x - 1)), .v (.bool (V.s)), .v (.int .i64 (V.m)), .v (.int .i64 (V.e))]] rfl (by simp (disch := omega) only [go_sem]) (by simp (disch := omega) only [go_sem]) (by simp) (by simp) ⟨rfl, ⟨⟨x - 1, V.s, V.m, V.e⟩, rfl⟩, _, _, by omega, rfl⟩
  by_cases c1 : k = 1
  ·simp (disch := omega) only [go_sem, c0, c1]
   have hL4 : [AV.v (Value.int IntKind.i64 (0)), AV.v (Value.int IntKind.i64 (-1)), AV.v (Value.int IntKind.i64 (1)), AV.v (Value.int IntKind.i64 (9007199254740992))] = ints ([0, -1, 1, 9007199254740992] : List Int) := rfl
   have cc4 := con_l1PickInt l hl i3 h3 hi3 [0, -1, 1, 9007199254740992] (by simp) (by simp)
   generalize hG4 : ([0, -1, 1, 9007199254740992] : List Int) = xs4 at hL4 cc4
   have hN4 : xs4.length = 4 := by rw [← hG4]; rfl
   rw [hL4]
   rw [hN4] at cc4
   refine call_lent false [10000000, 250000000] cc4 (by simp (disch := omega) only [go_sem]) (by simp (disch := omega) only [go_sem]) rfl (lend_two (z := 0) (cs := [.sl l.length (bytesA l), .v (.int .i64 (i3)), .v (.int .i64 (h3))]) (z' := 1) (cs' := ints xs4) (by simp (disch := omega) only [go_sem]) (by simp (disch := omega) only [go_sem]) (by simp (disch := omega) only [go_sem]) (by simp (disch := omega) only [go_sem])) (by intro n hn; simp only [List.mem_cons, List.not_mem_nil, or_false] at hn; rcases hn with rfl | rfl <;> simp [AV.top]) ?_
   rintro r hs bs ⟨rfl, ⟨x, hx, rfl⟩, i4, h4, hi4, rfl⟩ -
   clear cc4 hL4 hx hG4 hN4
   refine ⟨by simp [freeN], ?_⟩
   simp (disch := omega) only [go_sem]
   refine fin_intro [] [] [.own 0 [.sl l.length (bytesA l), .v (.int .i64 (i4)), .v (.int .i64 (h4))]] [.ag [.v (.int .i64 (V.k)), .v (.bool (V.s)), .v (.int .i64 (x)), .v (.int .i64 (V.e))]] rfl (by simp (disch := omega) only [go_sem]) (by simp (disch := omega) only [go_sem]) (by simp) (by simp) ⟨rfl, ⟨⟨V.k, V.s, x, V.e⟩, rfl⟩, _, _, by omega, rfl⟩
  by_cases c2 : k = 2
  ·simp (disch := omega) only [go_sem, c0, c1, c2]
   have hL4 : [AV.v (Value.int IntKind.i64 (-1075)), AV.v (Value.int IntKind.i64 (972)), AV.v (Value.int IntKind.i64 (0))] = ints ([-1075, 972, 0] : List Int) := rfl
   have cc4 := con_l1PickInt l hl i3 h3 hi3 [-1075, 972, 0] (by simp) (by simp)
   generalize hG4 : ([-1075, 972, 0] : List Int) = xs4 at hL4 cc4
   have hN4 : xs4.length = 3 := by rw [← hG4]; rfl
   rw [hL4]
   rw [hN4] at cc4
   refine call_lent false [10000000, 310000000] cc4 (by simp (disch := omega) only [go_sem]) (by simp (disch := omega) only [go_sem]) rfl (lend_two (z := 0) (cs := [.sl l.length (bytesA l), .v (.int .i64 (i3)), .v (.int .i64 (h3))]) (z' := 1) (cs' := ints xs4) (by simp (disch := omega) only [go_sem]) (by simp (disch := omega) only [go_sem]) (by simp (disch := omega) only [go_sem]) (by simp (disch := omega) only [go_sem])) (by intro n hn; simp only [List.mem_cons, List.not_mem_nil, or_false] at hn; rcases hn with rfl | rfl <;> simp [AV.top]) ?_
   rintro r hs bs ⟨rfl, ⟨x, hx, rfl⟩, i4, h4, hi4, rfl⟩ -
   clear cc4 hL4 hx hG4 hN4
   refine ⟨by simp [freeN], ?_⟩
   simp (disch := omega) only [go_sem]
   refine fin_intro [] [] [.own 0 [.sl l.length (bytesA l), .v (.int .i64 (i4)), .v (.int .i64 (h4))]] [.ag [.v (.int .i64 (V.k)), .v (.bool (V.s)), .v (.int .i64 (V.m)), .v (.int .i64 (x))]] rfl (by simp (disch := omega) only [go_sem]) (by simp (disch := omega) only [go_sem]) (by simp) (by simp) ⟨rfl, ⟨⟨V.k, V.s, V.m, x⟩, rfl⟩, _, _, by omega, rfl⟩
  ·simp (disch := omega) only [go_sem, c0, c1, c2]
   refine fin_intro [] [] [.own 0 [.sl l.length (bytesA l), .v (.int .i64 (i3)), .v (.int .i64 (h3))]] [.ag [.v (.int .i64 (V.k)), .v (.bool (!V.s)), .v (.int .i64 (V.m)), .v (.int .i64 (V.e))]] rfl (by simp (disch := omega) only [go_sem]) (by simp (disch := omega) only [go_sem]) (by simp) (by simp) ⟨rfl, ⟨⟨V.k, !V.s, V.m, V.e⟩, rfl⟩, _, _, by omega, rfl⟩
end
end Go.Ab
namespace Go.Ab
open Go
set_option linter.unusedVariables false
set_option linter.unusedSimpArgs false
end Go.Ab
namespace Go.Ab
open Go Go.Proofs
set_option linter.unusedVariables false
set_option linter.unusedSimpArgs false
end Go.Ab
namespace Go.Ab
open Go Go.Proofs
set_option linter.unusedVariables false
set_option linter.unusedSimpArgs false
theorem con_l5neg (k : Int) (s : Bool) (m e : Int) : Con Tryz.prog 197 true [.ag [.v (.int .i64 (k)), .v (.bool (s)), .v (.int .i64 (m)), .v (.int .i64 (e))]] [] (isA (.ag [.v (.int .i64 (k)), .v (.bool (ngS k s)), .v (.int .i64 (m)), .v (.int .i64 (e))])) := by
 refine Con.of_w (rs := [.cell 2 63]) Tryz.func197 rfl Tryz.ntmps197 rfl ?_
 simp (disch := omega) only [go_sem]
 refine ifW_not (fun h => ?_) (fun h => ?_)
 ·simp (disch := omega) only [go_sem, h]
  unfold ngS
  rw [if_neg h]
  exact fin_cI
 ·subst h
  simp (disch := omega) only [go_sem]
  exact fin_cI
end Go.Ab
namespace Go.Ab
open Go Go.Proofs
set_option linter.unusedVariables false
set_option linter.unusedSimpArgs false
section
variable (l : List UInt8) (hl : l.length ≤ 9223372036854775807) (i h : Int) (hi : 0 ≤ i ∧ i ≤ l.length)
include hl hi
theorem con_l5pair : Con Tryz.prog 120 false [.pt 10000000 0] [.own 0 [.sl l.length (bytesA l), .v (.int .i64 i), .v (.int .i64 h)]] (curR l fun r => ∃ x y : FlV, r = .tu [.ag x.cs, .ag y.cs]) := by
 refine Con.of_aw Tryz.func120 rfl Tryz.ntmps120 (by simp) (by simp) (by simp) (W.sound ?_)
 show @W Tryz.prog 16 ⟨_⟩ ⟨fun x σ => @retW _ _ _ ⟨_⟩ _ ⟨_⟩ x σ⟩ _ _
 simp (disch := omega) only [go_sem]
 refine call_lent false [10000000] (con_l5bent l hl i h hi) (by simp (disch := omega) only [go_sem]) (by simp (disch := omega) only [go_sem]) rfl (lend_cons (z := 0) (cs := [.sl l.length (bytesA l), .v (.int .i64 (i)), .v (.int .i64 (h))]) (by simp (disch := omega) only [go_sem]) (by simp (disch := omega) only [go_sem])) (by intro n hn; exact ⟨_, List.mem_cons_self .., by rw [List.mem_singleton.1 hn]; rfl⟩) ?_
 rintro r hs bs ⟨rfl, ⟨V, rfl⟩, i1, h1, hi1, rfl⟩ -
 refine ⟨by simp [freeN], ?_⟩
 simp (disch := omega) only [go_sem]
 unfold FlV.cs
 simp (disch := omega) only [go_sem]
 refine call_lent false [10000000] (con_l1Once l hl i1 h1 hi1 4 (by omega)) (by simp (disch := omega) only [go_sem]) (by simp (disch := omega) only [go_sem]) rfl (lend_cons (z := 0) (cs := [.sl l.length (bytesA l), .v (.int .i64 (i1)), .v (.int .i64 (h1))]) (by simp (disch := omega) only [go_sem]) (by simp (disch := omega) only [go_sem])) (by intro n hn; exact ⟨_, List.mem_cons_self .., by rw [List.mem_singleton.1 hn]; rfl⟩) ?_
 rintro r hs bs ⟨rfl, ⟨b, rfl⟩, i2, h2, hi2, rfl⟩ -
 refine ⟨by simp [freeN], ?_⟩
 simp (disch := omega) only [go_sem]
 cases b
 ·simp (disch := omega) only [go_sem]
  refine draw_of rfl [⟨0, [], []⟩, ⟨1, [0], []⟩, ⟨2, [0], []⟩, ⟨3, [], []⟩, ⟨4, [], []⟩] (by kernel_rfl) ?_
  simp (disch := omega) only [go_sem]
  refine call_lent false [10000000] (con_l5bent l hl i2 h2 hi2) (by simp (disch := omega) only [go_sem]) (by simp (disch := omega) only [go_sem]) rfl (lend_cons (z := 0) (cs := [.sl l.length (bytesA l), .v (.int .i64 (i2)), .v (.int .i64 (h2))]) (by simp (disch := omega) only [go_sem]) (by simp (disch := omega) only [go_sem])) (by intro n hn; exact ⟨_, List.mem_cons_self .., by rw [List.mem_singleton.1 hn]; rfl⟩) ?_
  rintro r hs bs ⟨rfl, ⟨U, rfl⟩, i3, h3, hi3, rfl⟩ -
  refine ⟨by simp [freeN], ?_⟩
  simp (disch := omega) only [go_sem]
  unfold FlV.cs
  simp (disch := omega) only [go_sem]
  refine fin_intro [] [] [.own 0 [.sl l.length (bytesA l), .v (.int .i64 (i3)), .v (.int .i64 (h3))]] [.ag [.v (.int .i64 (V.k)), .v (.bool (V.s)), .v (.int .i64 (V.m)), .v (.int .i64 (V.e))], .ag [.v (.int .i64 (U.k)), .v (.bool (U.s)), .v (.int .i64 (U.m)), .v (.int .i64 (U.e))]] rfl (by simp (disch := omega) only [go_sem]) (by simp (disch := omega) only [go_sem]) (by simp) (by simp) ⟨rfl, ⟨V, U, rfl⟩, _, _, by omega, rfl⟩
 ·simp (disch := omega) only [go_sem]
  refine draw_of rfl [⟨0, [], []⟩, ⟨1, [0], []⟩, ⟨2, [0], []⟩, ⟨3, [0], []⟩, ⟨4, [], []⟩, ⟨5, [], []⟩] (by kernel_rfl) ?_
  simp (disch := omega) only [go_sem]
  refine call_closed (con_FlNextE V.k V.s V.m V.e) (by simp (disch := omega) only [go_sem]) ?_
  rintro r hs ⟨rfl, -, ⟨U, rfl⟩⟩
  refine ⟨by simp [freeN], ?_⟩
  unfold FlV.cs
  simp (disch := omega) only [go_sem]
  refine call_cI (con_l5neg U.k U.s U.m U.e) ?_
  simp (disch := omega) only [go_sem]
  refine fin_intro [] [] [.own 0 [.sl l.length (bytesA l), .v (.int .i64 (i2)), .v (.int .i64 (h2))]] [.ag [.v (.int .i64 (V.k)), .v (.bool (V.s)), .v (.int .i64 (V.m)), .v (.int .i64 (V.e))], .ag [.v (.int .i64 (U.k)), .v (.bool (ngS U.k U.s)), .v (.int .i64 (U.m)), .v (.int .i64 (U.e))]] rfl (by simp (disch := omega) only [go_sem]) (by simp (disch := omega) only [go_sem]) (by simp) (by simp) ⟨rfl, ⟨V, ⟨U.k, ngS U.k U.s, U.m, U.e⟩, rfl⟩, _, _, by omega, rfl⟩
end
theorem con_l1New (l : List UInt8) (hl : l.length ≤ 9223372036854775807) : Con Tryz.prog 56 false [.sl l.length (bytesA l)] [] (fun r hs bs => r = .pt 0 0 ∧ bs = [] ∧ ∃ h : Int, hs = [.own 0 [.sl l.length (bytesA l), .v (.int .i64 0), .v (.int .i64 h)]]) := by
 refine Con.of_aw Tryz.func56 rfl Tryz.ntmps56 (by simp) (by simp) (by simp) (W.sound ?_)
 show @W Tryz.prog 32 ⟨_⟩ ⟨fun x σ => @retW _ _ _ ⟨_⟩ _ ⟨_⟩ x σ⟩ _ _
 simp (disch := omega) only [go_sem]
 refine loop_intro (fun x : Nat × Int => [(0, .sl l.length (bytesA l)), (3, .v (.int .i64 x.2)), (4, .v (.int .i64 x.1))]) (fun _ => []) (fun x => x.1 ≤ l.length) (fun x => l.length - x.1) (0, IntKind.i64.wrap (38282 + l.length)) (by simp)
  (Le.lst [] _ _ rfl (by simp (disch := omega) only [go_sem]) (by simp (disch := omega) only [go_sem])) ?_
 rintro ⟨i, h⟩ hi
 dsimp only at hi ⊢
 have hfin : ∀ l' : List AV, l' = [.pt 0 0] → (fun r hs bs => r = .pt 0 0 ∧ bs = [] ∧ ∃ h : Int, hs = [.own 0 [.sl l.length (bytesA l), .v (.int .i64 0), .v (.int .i64 h)]] : AV → List Ob → List Ob → Prop) (tupA l') [.own 0 [.sl l.length (bytesA l), .v (.int .i64 0), .v (.int .i64 h)]] [] := fun l' e => by subst e; exact ⟨rfl, rfl, h, rfl⟩
 by_cases h1 : (i : Int) < l.length
 ·by_cases h2 : (i : Int) < 4000
  ·simp (disch := omega) only [go_sem, h1, h2]
   generalize IntKind.i64.wrap (IntKind.i64.wrap (IntKind.i64.wrap (h * 131) + IntKind.i64.wrap ((l.getD i 0).toNat : Int)) + 7) % 1073741824 = h'
   exact ⟨⟨by omega, by omega⟩, by omega, next_intro (i + 1, h') [] (by show i + 1 ≤ _; omega) (by show l.length - (i + 1) < l.length - i; omega) rfl (by simp (disch := omega) only [go_sem]; try omega) (by simp (disch := omega) only [go_sem])⟩
  ·simp (disch := omega) only [go_sem, h1, h2]
   refine fin_intro [(0, 330000000)] [.own 0 [.sl l.length (bytesA l), .v (.int .i64 0), .v (.int .i64 h)]] [] [.pt 0 0] rfl (by simp (disch := omega) only [go_sem]) (by simp (disch := omega) only [go_sem]) (by simp) (by simp) (hfin _ rfl)
 ·simp (disch := omega) only [go_sem, h1]
  refine fin_intro [(0, 330000000)] [.own 0 [.sl l.length (bytesA l), .v (.int .i64 0), .v (.int .i64 h)]] [] [.pt 0 0] rfl (by simp (disch := omega) only [go_sem]) (by simp (disch := omega) only [go_sem]) (by simp) (by simp) (hfin _ rfl)
theorem con_DrawFlAdd (l : List UInt8) (hl : l.length ≤ 9223372036854775807) : Con Tryz.prog 45 false [.sl l.length (bytesA l)] [] (fun r hs bs => hs = [] ∧ bs = [] ∧ ∃ (x y : FlV) (m : Int), r = .tu [.ag x.cs, .ag y.cs, .v (.int .i64 m)]) := by
 refine Con.of_aw Tryz.func45 rfl Tryz.ntmps45 (by simp) (by simp) (by simp) (W.sound ?_)
 show @W Tryz.prog 19 ⟨_⟩ ⟨fun x σ => @retW _ _ _ ⟨_⟩ _ ⟨_⟩ x σ⟩ _ _
 simp (disch := omega) only [go_sem]
 refine call_open (con_l1New l hl) (by simp (disch := omega) only [go_sem]) ?_
 rintro r hs ⟨rfl, -, ⟨h, rfl⟩⟩
 refine ⟨by simp (disch := omega) only [go_sem], ?_⟩
 simp (disch := omega) only [go_sem]
 refine call_lent false [110000000] (con_l5pair l hl 0 h (by omega)) (by simp (disch := omega) only [go_sem]) (by simp (disch := omega) only [go_sem]) rfl (lend_cons (z := 0) (cs := [.sl l.length (bytesA l), .v (.int .i64 (0)), .v (.int .i64 (h))]) (by simp (disch := omega) only [go_sem]) (by simp (disch := omega) only [go_sem])) (by intro n hn; exact ⟨_, List.mem_cons_self .., by rw [List.mem_singleton.1 hn]; rfl⟩) ?_
 rintro r hs bs ⟨rfl, ⟨V, U, rfl⟩, i1, h1, hi1, rfl⟩ -
 refine ⟨by simp [freeN], ?_⟩
 simp (disch := omega) only [go_sem]
 unfold FlV.cs
 simp (disch := omega) only [go_sem]
 refine draw_of rfl [⟨0, [], []⟩, ⟨1, [0], []⟩, ⟨2, [0, 1], []⟩, ⟨3, [0, 1], []⟩, ⟨4, [1], []⟩, ⟨5, [], []⟩, ⟨6, [], []⟩] (by kernel_rfl) ?_
 simp (disch := omega) only [go_sem]
 refine call_lent false [110000000] (con_l4drawMode l hl i1 h1 hi1) (by simp (disch := omega) only [go_sem]) (by simp (disch := omega) only [go_sem]) rfl (lend_cons (z := 0) (cs := [.sl l.length (bytesA l), .v (.int .i64 (i1)), .v (.int .i64 (h1))]) (by simp (disch := omega) only [go_sem]) (by simp (disch := omega) only [go_sem])) (by intro n hn; exact ⟨_, List.mem_cons_self .., by rw [List.mem_singleton.1 hn]; rfl⟩) ?_
 rintro r hs bs ⟨rfl, ⟨m, rfl⟩, i2, h2, hi2, rfl⟩ -
 refine ⟨by simp [freeN], ?_⟩
 simp (disch := omega) only [go_sem]
 exact fin_val (by simp (disch := omega) only [go_sem]) ⟨rfl, rfl, V, U, m, rfl⟩
end Go.Ab
namespace Go.Ab
open Go Go.Proofs
set_option linter.unusedVariables false
set_option linter.unusedSimpArgs false
theorem fle_run (w : World) (k m e k' m' e' : Int) (s s' : Bool) : (Op.equal 63 (.agg #[.int .i64 k, .bool s, .int .i64 m, .int .i64 e]) (.agg #[.int .i64 k', .bool s', .int .i64 m', .int .i64 e'])).run Tryz.prog w = .ok (flEq k s m e k' s' m' e') w := by
 have hf : Tryz.prog.fieldsOf 63 = #[{ name := "Kind", type := 3, offset := 0, embedded := false, tag := "", pkgPath := "", byteOffset := 0 }, { name := "Neg", type := 4, offset := 1, embedded := false, tag := "", pkgPath := "", byteOffset := 8 }, { name := "M", type := 3, offset := 2, embedded := false, tag := "", pkgPath := "", byteOffset := 16 }, { name := "E", type := 3, offset := 3, embedded := false, tag := "", pkgPath := "", byteOffset := 24 }] := by unfold Program.fieldsOf; rw [Tryz.underlying63]
 have h0 : Tryz.prog.underlying 63 = some (.struct (Tryz.prog.fieldsOf 63)) := by unfold Program.fieldsOf; rw [Tryz.underlying63]
 have hp : Tryz.prog.stoodInHeld 63 = false := by kernel_rfl
 have i3 : ∀ a b : Int, (Op.equalIn 9999 3 (.int .i64 a) (.int .i64 b)).run Tryz.prog w = .ok (a == b) w := fun a b => run_equalIn_int w 9998 _ .i64 .i64 a b Tryz.underlying3
 have i4 : ∀ a b : Bool, (Op.equalIn 9999 4 (.bool a) (.bool b)).run Tryz.prog w = .ok (a == b) w := fun a b => run_equalIn_bool' w 9998 _ a b Tryz.underlying4
 have p3 : ∀ (xs : Array Value) (o : Nat) (v : Value), xs[o]? = some v → (part 3 xs o).run Tryz.prog w = .ok v w := fun xs o v h => by
  unfold part
  simp only [Sem.run_bind, run_isAgg tf3, Result.andThen, h, ti3_agg, Bool.false_eq_true, if_false, Sem.run_pure]
 have p4 : ∀ (xs : Array Value) (o : Nat) (v : Value), xs[o]? = some v → (part 4 xs o).run Tryz.prog w = .ok v w := fun xs o v h => by
  unfold part
  simp only [Sem.run_bind, run_isAgg tf4, Result.andThen, h, ti4_agg, Bool.false_eq_true, if_false, Sem.run_pure]
 have q0 : ∀ a b c d : Value, (part 3 #[a, b, c, d] 0).run Tryz.prog w = .ok a w := fun a b c d => p3 _ 0 a rfl
 have q1 : ∀ a b c d : Value, (part 4 #[a, b, c, d] 1).run Tryz.prog w = .ok b w := fun a b c d => p4 _ 1 b rfl
 have q2 : ∀ a b c d : Value, (part 3 #[a, b, c, d] 2).run Tryz.prog w = .ok c w := fun a b c d => p3 _ 2 c rfl
 have q3 : ∀ a b c d : Value, (part 3 #[a, b, c, d] 3).run Tryz.prog w = .ok d w := fun a b c d => p3 _ 3 d rfl
 show (Op.equalIn (9999 + 1) _ _ _).run _ _ = _
 rw [run_equalIn_struct w 9999 _ _ _ h0 hp, hf]
 have n1 : ("Kind" ≠ "_") = True := by simp
 have n2 : ("Neg" ≠ "_") = True := by simp
 have n3 : ("M" ≠ "_") = True := by simp
 have n4 : ("E" ≠ "_") = True := by simp
 simp only [Op.eqFields, n1, n2, n3, n4, if_true, Sem.run_bind, q0, Result.andThen, i3]
 unfold flEq
 have q : ∀ a b : Int, (a == b) = decide (a = b) := fun a b => by rfl
 rw [q]
 cases decide (k = k')
 ·simp only [Bool.not_false, if_true, Sem.run_pure, Bool.false_and]
 simp only [Bool.not_true, Bool.false_eq_true, if_false, Sem.run_bind, q1, Result.andThen, i4]
 cases (s == s')
 ·simp only [Bool.not_false, if_true, Sem.run_pure, Bool.false_and, Bool.and_false]
 simp only [Bool.not_true, Bool.false_eq_true, if_false, Sem.run_bind, q2, Result.andThen, i3]
 rw [q]
 cases decide (m = m')
 ·simp only [Bool.not_false, if_true, Sem.run_pure, Bool.false_and, Bool.and_false]
 simp only [Bool.not_true, Bool.false_eq_true, if_false, Sem.run_bind, q3, Result.andThen, i3]
 rw [q]
 cases decide (e = e') <;> rfl
instance : FlE Tryz.prog 63 := ⟨fle_run, by kernel_rfl⟩
end Go.Ab
namespace Go.Ab
open Go Go.Proofs
set_option linter.unusedVariables false
set_option linter.unusedSimpArgs false
end Go.Ab
namespace Go.Ab
set_option linter.unusedVariables false
theorem flV_zz (s : Bool) (m : Nat) (e mode : Int) (z z' : Bool) : (flV s m e mode z).k = (flV s m e mode z').k ∧ ((flV s m e mode z').k ≠ 0 → flV s m e mode z = flV s m e mode z') := by
 unfold flV
 by_cases h : m = 0
 ·rw [if_pos h, if_pos h]; exact ⟨rfl, fun h => absurd rfl h⟩
 ·rw [if_neg h, if_neg h]; exact ⟨rfl, fun _ => rfl⟩
end Go.Ab
namespace Go.Ab
open Go Go.Proofs
set_option linter.unusedVariables false
set_option linter.unusedSimpArgs false
theorem sterbenz {s : Bool} {a b : Nat} {e f : Int} (ha : a < 2 ^ 53) (hb : b < 2 ^ 53) (he : -1074 ≤ e ∧ e ≤ 971) (hf : -1074 ≤ f ∧ f ≤ 971)
  (h1 : dv 1074 false a e ≤ 2 * dv 1074 false b f) (h2 : dv 1074 false b f ≤ 2 * dv 1074 false a e) :
  ∃ (S : Bool) (M : Nat) (E : Int), bl M ≤ 53 ∧ -1074 ≤ E ∧ (bl M : Int) + E ≤ 1024 ∧ dv 1074 S M E = dv 1074 s a e - dv 1074 s b f := by
 obtain ⟨E, hE⟩ : ∃ E : Int, E = min e f := ⟨_, rfl⟩
 have hE1 : -1074 ≤ E ∧ E ≤ 971 ∧ E ≤ e ∧ E ≤ f ∧ (E = e ∨ E = f) := by omega
 obtain ⟨A, hA⟩ : ∃ A, A = a * 2 ^ (e - E).toNat := ⟨_, rfl⟩
 obtain ⟨B, hB⟩ : ∃ B, B = b * 2 ^ (f - E).toNat := ⟨_, rfl⟩
 have dA : ∀ t : Bool, dv 1074 t a e = sv t A * 2 ^ (E + ((1074 : Nat) : Int)).toNat := fun t => by
  unfold dv
  rw [hA, sv_mul, show (e + ((1074 : Nat) : Int)).toNat = (e - E).toNat + (E + ((1074 : Nat) : Int)).toNat by omega, Int.pow_add, Int.natCast_pow, Int.mul_assoc]; rfl
 have dB : ∀ t : Bool, dv 1074 t b f = sv t B * 2 ^ (E + ((1074 : Nat) : Int)).toNat := fun t => by
  unfold dv
  rw [hB, sv_mul, show (f + ((1074 : Nat) : Int)).toNat = (f - E).toNat + (E + ((1074 : Nat) : Int)).toNat by omega, Int.pow_add, Int.natCast_pow, Int.mul_assoc]; rfl
 have small : A < 2 ^ 53 ∨ B < 2 ^ 53 := by
  rcases hE1.2.2.2.2 with h | h
  ·left; rw [hA, show (e - E).toNat = 0 by omega]; omega
  ·right; rw [hB, show (f - E).toNat = 0 by omega]; omega
 have hp : (0 : Int) < 2 ^ (E + ((1074 : Nat) : Int)).toNat := Int.pow_pos (by omega)
 rw [dA, dB] at h1 h2
 have g1 : (A : Int) ≤ 2 * B := by
  have : (A : Int) * 2 ^ (E + ((1074 : Nat) : Int)).toNat ≤ (2 * B) * 2 ^ (E + ((1074 : Nat) : Int)).toNat := by rw [Int.mul_assoc]; simpa [sv] using h1
  exact Int.le_of_mul_le_mul_right this hp
 have g2 : (B : Int) ≤ 2 * A := by
  have : (B : Int) * 2 ^ (E + ((1074 : Nat) : Int)).toNat ≤ (2 * A) * 2 ^ (E + ((1074 : Nat) : Int)).toNat := by rw [Int.mul_assoc]; simpa [sv] using h2
  exact Int.le_of_mul_le_mul_right this hp
 refine ⟨decide (sv s A - sv s B < 0), (sv s A - sv s B).natAbs, E, ?_, hE1.1, ?_, ?_⟩
 ·refine bl_le.2 ?_
  unfold sv; split <;> omega
 ·have : bl (sv s A - sv s B).natAbs ≤ 53 := bl_le.2 (by unfold sv; split <;> omega)
  omega
 ·rw [dA, dB]
  unfold dv
  rw [sv_mk, Int.sub_mul]
theorem flEq_self' (k : Int) (s : Bool) (m e : Int) : flEq k s m e k s m e = true := by unfold flEq; simp
theorem dec_self' (k : Int) : decide (k = k) = true := by simp
section
variable {V U : FlV} {mode : Int}
theorem fin_k (hk : (decide (V.k = 0) || decide (V.k = 1)) = true) : V.k ≠ 3 ∧ V.k ≠ 2 := by
 simp only [Bool.or_eq_true, decide_eq_true_eq] at hk; omega
theorem add_true (h1 : flB V.k V.s V.m V.e = true) (h2 : flB U.k U.s U.m U.e = true) (k1 : (decide (V.k = 0) || decide (V.k = 1)) = true) (k2 : (decide (U.k = 0) || decide (U.k = 1)) = true) {x : ExV} (he : -1074 ≤ x.e) (hv : x.val 1074 = (flD V).val 1074 + (flD U).val 1074) :
  addG V.k V.s V.m V.e U.k U.s U.m U.e mode = flG x.s x.m x.e mode ∧ (addV V.k V.s V.m V.e U.k U.s U.m U.e mode).k = (flV x.s x.m x.e mode false).k ∧
   ((flV x.s x.m x.e mode false).k ≠ 0 → addV V.k V.s V.m V.e U.k U.s U.m U.e mode = flV x.s x.m x.e mode false) := by
 obtain ⟨a1, a2, _⟩ := flB_rng h1
 obtain ⟨b1, b2, _⟩ := flB_rng h2
 rw [(addV_fin (fin_k k1).1 (fin_k k1).2 (fin_k k2).1 (fin_k k2).2).1, (addV_fin (fin_k k1).1 (fin_k k1).2 (fin_k k2).1 (fin_k k2).2).2]
 have hs := fun z => flV_same (K := 1074) (s := adS (xS V.k V.s) V.m.toNat V.e (xS U.k U.s) U.m.toNat U.e) (m := adM (xS V.k V.s) V.m.toNat V.e (xS U.k U.s) U.m.toNat U.e) (e := alE V.m.toNat V.e U.m.toNat U.e)
  (s' := x.s) (m' := x.m) (e' := x.e) mode z (alE_ge (by omega) (by omega)) (by omega) (by
   rw [ad_dv (by omega) (by omega), ← flD_val h1, ← flD_val h2, ← hv]; rfl)
 rw [(hs _).1, (hs false).2]
 have hz := flV_zz x.s x.m x.e mode (adZ V.k V.s U.k U.s mode) false
 exact ⟨rfl, hz.1, hz.2⟩
theorem mul_true (h1 : flB V.k V.s V.m V.e = true) (h2 : flB U.k U.s U.m U.e = true) (k1 : (decide (V.k = 0) || decide (V.k = 1)) = true) (k2 : (decide (U.k = 0) || decide (U.k = 1)) = true) {x : ExV} (he : -2148 ≤ x.e) (hv : x.val 2148 = (flD V).val 1074 * (flD U).val 1074) :
  mulG V.k V.s V.m V.e U.k U.s U.m U.e mode = flG x.s x.m x.e mode ∧ (mulV V.k V.s V.m V.e U.k U.s U.m U.e mode).k = (flV x.s x.m x.e mode false).k ∧
   ((flV x.s x.m x.e mode false).k ≠ 0 → mulV V.k V.s V.m V.e U.k U.s U.m U.e mode = flV x.s x.m x.e mode false) := by
 obtain ⟨a1, a2, _⟩ := flB_rng h1
 obtain ⟨b1, b2, _⟩ := flB_rng h2
 have c3 : ¬ (V.k = 3 ∨ U.k = 3) := by have := fin_k k1; have := fin_k k2; omega
 have c2 : ¬ (V.k = 2 ∨ U.k = 2) := by have := fin_k k1; have := fin_k k2; omega
 rw [(mulV_fin c3 c2).1, (mulV_fin c3 c2).2]
 have e0 : muS V.k V.s V.m U.k U.s U.m = ((xS V.k V.s != xS U.k U.s) && decide (V.m.toNat * U.m.toNat ≠ 0)) := rfl
 have hs := fun z => flV_same (K := 2148) (s := muS V.k V.s V.m U.k U.s U.m) (m := V.m.toNat * U.m.toNat) (e := V.e + U.e) (s' := x.s) (m' := x.m) (e' := x.e) mode z (by omega) (by omega) (by
  rw [e0, dv_and, show (2148 : Nat) = 1074 + 1074 from rfl, dv_mul (by omega) (by omega), ← flD_val h1, ← flD_val h2, ← hv]; rfl)
 rw [(hs _).1, (hs false).2]
 have hz := flV_zz x.s x.m x.e mode (V.s != U.s) false
 exact ⟨rfl, hz.1, hz.2⟩
theorem ng_fl (h : flB U.k U.s U.m U.e = true) (k : (decide (U.k = 0) || decide (U.k = 1)) = true) : flB U.k (ngS U.k U.s) U.m U.e = true ∧ dv 1074 (xS U.k (ngS U.k U.s)) U.m.toNat U.e = -dv 1074 (xS U.k U.s) U.m.toNat U.e := by
 have hk := fin_k k
 have hn : ngS U.k U.s = !U.s := if_neg hk.1
 rw [hn]
 refine ⟨?_, ?_⟩
 ·unfold flB at h ⊢
  by_cases h1 : U.k = 1
  ·rw [if_pos h1] at h ⊢; exact h
  ·have h0 : U.k = 0 := by simp only [Bool.or_eq_true, decide_eq_true_eq] at k; omega
   rw [h0] at h ⊢
   simp at h ⊢
   exact h
 ·by_cases h1 : U.k = 1
  ·unfold xS
   rw [decide_eq_true h1, Bool.and_true, Bool.and_true]
   unfold dv; rw [sv_not, Int.neg_mul]
  ·obtain ⟨_, _, _, a4, _⟩ := flB_rng h
   obtain ⟨hm, he⟩ := a4 h1
   rw [hm, show (0 : Int).toNat = 0 from rfl, dv_zero, dv_zero]; rfl
theorem sub_near (h1 : flB V.k V.s V.m V.e = true) (h2 : flB U.k U.s U.m U.e = true) (k1 : (decide (V.k = 0) || decide (V.k = 1)) = true) (k2 : (decide (U.k = 0) || decide (U.k = 1)) = true)
  (hs : (flD V).s = (flD U).s) (n1 : (flD V).abs.val 1074 ≤ 2 * (flD U).abs.val 1074) (n2 : (flD U).abs.val 1074 ≤ 2 * (flD V).abs.val 1074) {W : FlV} (hW : W = addV V.k V.s V.m V.e U.k (ngS U.k U.s) U.m U.e mode) :
  addG V.k V.s V.m V.e U.k (ngS U.k U.s) U.m U.e mode = 0 ∧ flB W.k W.s W.m W.e = true ∧ (decide (W.k = 0) || decide (W.k = 1)) = true ∧ (flD W).val 1074 = (flD V).val 1074 - (flD U).val 1074 := by
 obtain ⟨a1, a2, _⟩ := flB_rng h1
 obtain ⟨b1, b2, _⟩ := flB_rng h2
 obtain ⟨g1, g2⟩ := ng_fl h2 k2
 obtain ⟨c1, c2⟩ := fin_k k1
 obtain ⟨d1, d2⟩ := fin_k k2
 -- with the sign of the first
 have key : ∃ (S : Bool) (M : Nat) (E : Int), bl M ≤ 53 ∧ -1074 ≤ E ∧ (bl M : Int) + E ≤ 1024 ∧ dv 1074 S M E = (flD V).val 1074 - (flD U).val 1074 := by
  have ab : ∀ F : FlV, flB F.k F.s F.m F.e = true → (flD F).abs.val 1074 = dv 1074 false F.m.toNat F.e ∧ (flD F).val 1074 = dv 1074 (flD F).s F.m.toNat F.e := fun F h => by
   obtain ⟨p1, p2, _⟩ := flB_rng h
   refine ⟨?_, ?_⟩
   ·show dv 1074 false (oM F.m.toNat) (oE F.m.toNat F.e) = _
    rw [dv_norm (by omega)]
   ·show dv 1074 (flD F).s (oM F.m.toNat) (oE F.m.toNat F.e) = _
    rw [dv_norm (by omega)]
  rw [(ab V h1).1, (ab U h2).1] at n1 n2
  rw [(ab V h1).2, (ab U h2).2, ← hs]
  exact sterbenz (by omega) (by omega) a2 b2 n1 n2
 obtain ⟨S, M, E, m1, m2, m3, m4⟩ := key
 rw [(addV_fin c1 c2 d1 d2).1] at hW
 rw [(addV_fin c1 c2 d1 d2).2]
 have hsame := fun z => flV_same (K := 1074) (s := adS (xS V.k V.s) V.m.toNat V.e (xS U.k (ngS U.k U.s)) U.m.toNat U.e) (m := adM (xS V.k V.s) V.m.toNat V.e (xS U.k (ngS U.k U.s)) U.m.toNat U.e) (e := alE V.m.toNat V.e U.m.toNat U.e)
  (s' := S) (m' := M) (e' := E) mode z (alE_ge (by omega) (by omega)) (by omega) (by
   rw [ad_dv (by omega) (by omega), g2, ← flD_val h1, ← flD_val h2, m4]; omega)
 rw [(hsame _).1] at hW
 rw [(hsame false).2]
 obtain ⟨x1, x2, x3, x4⟩ := fl_ex (s := S) mode (adZ V.k V.s U.k (ngS U.k U.s) mode) m2 m1 m3
 rw [← hW] at x1 x2 x4
 refine ⟨x3, x1, by rcases x2 with h | h <;> rw [h] <;> rfl, ?_⟩
 rw [flD_val x1, x4, m4]
end
theorem con_dyTwo : Con Tryz.prog 17 false [.v (.int .i64 2), .v (.int .i64 0)] [] (isA (.ag [.v (.bool (false)), .sl (lim (1)).length (ints (lim (1))), .v (.int .i64 (1))])) := by
 refine Con.frzA ?_
 have t2 : tz 2 = 1 := tz_uniq (a := 0) (by decide)
 have hm : oM 2 = 1 := by unfold oM; rw [t2]
 have hE : oE 2 0 = 1 := by unfold oE; rw [t2]; rfl
 have hl2 : lim 2 = [2] := by rw [lim_pos (by omega)]; simp [lim_zero]
 have hf : dyFit 2 0 = true := by
  unfold dyFit natFit; rw [hm, hE, lim_one]; decide
 have c1 := con_DyOfS false 2 0 (by rw [hl2]; decide) (by omega)
 rw [if_pos hf, hm, hE] at c1
 have c0 := con_WholeOfS 2 (by omega)
 have e1 : decide ((2 : Int) < 0) = false := rfl
 have e2 : (2 : Int).natAbs = 2 := rfl
 rw [e1, e2] at c0
 refine Con.of_aw Tryz.func17 rfl Tryz.ntmps17 (by simp) (by simp) (by simp) (W.sound ?_)
 show @W Tryz.prog 15 ⟨_⟩ ⟨fun x σ => @retW _ _ _ ⟨_⟩ _ ⟨_⟩ x σ⟩ _ _
 simp (disch := omega) only [go_sem]
 refine call_oI (c0) ?_
 simp (disch := omega) only [go_sem]
 refine call_oI (c1) ?_
 simp (disch := omega) only [go_sem]
 refine fin_val (by simp (disch := omega) only [go_sem]) ?_
 show snap _ 6 _ = _
 rfl
def exT : ExV := ⟨false, 1, 1⟩
theorem exT_ok : exT.ok = true := by show dyB false (lim 1) 1 = true; rw [lim_one]; decide
theorem twice_val {x : ExV} (h : -3000 ≤ x.e) : (x.times exT).val 3000 = 2 * x.val 3000 := by
 have h1 := times_val (K := 3000) (K' := 0) (x := x) (y := exT) (by omega) (by decide)
 have h2 : exT.val 0 = 2 := by decide
 rw [h2] at h1
 have h1' : (x.times exT).val 3000 = x.val 3000 * 2 := h1
 rw [h1', Int.mul_comm]
set_option maxRecDepth 100000 in
set_option maxHeartbeats 4000000 in
theorem law_FlExact (l : List UInt8) (hl : l.length ≤ 9223372036854775807) : Con Tryz.prog 9 true [.sl l.length (bytesA l)] [] (isA (.v (.bool true))) := by
 refine Con.of_w (rs := [.tmp 2]) Tryz.func9 rfl Tryz.ntmps9 rfl ?_
 simp (disch := omega) only [go_sem]
 refine call_open (con_DrawFlAdd l hl) (by simp (disch := omega) only [go_sem]) ?_
 rintro r hs ⟨rfl, -, ⟨V, U, m, rfl⟩⟩
 refine ⟨by simp [freeN], ?_⟩
 unfold FlV.cs
 simp (disch := omega) only [go_sem]
 cases q1 : (flB V.k V.s V.m V.e && (decide (V.k = 0) || decide (V.k = 1)))
 ·have d1 := con_flDno V q1
  cases q2 : (flB U.k U.s U.m U.e && (decide (U.k = 0) || decide (U.k = 1)))
  ·refine call_oI (d1) ?_
   simp (disch := omega) only [go_sem]
   refine call_oI (con_flDno U q2) ?_
   simp (disch := omega) only [go_sem]
   refine call_cI (con_alive) ?_
   simp (disch := omega) only [go_sem]
   exact fin_cI
  ·have q2' := (Bool.and_eq_true _ _).mp q2
   refine call_oI (d1) ?_
   simp (disch := omega) only [go_sem]
   refine call_oI (con_flD U q2'.1 q2'.2) ?_
   simp (disch := omega) only [go_sem]
   refine call_cI (con_alive) ?_
   simp (disch := omega) only [go_sem]
   exact fin_cI
 have q1' := (Bool.and_eq_true _ _).mp q1
 have d1 := con_flD V q1'.1 q1'.2
 have x_ok := flD_ok q1'.1
 have x_e := flD_e q1'.1
 cases q2 : (flB U.k U.s U.m U.e && (decide (U.k = 0) || decide (U.k = 1)))
 ·refine call_oI (d1) ?_
  simp (disch := omega) only [go_sem]
  refine call_oI (con_flDno U q2) ?_
  simp (disch := omega) only [go_sem]
  refine call_cI (con_alive) ?_
  simp (disch := omega) only [go_sem]
  exact fin_cI
 have q2' := (Bool.and_eq_true _ _).mp q2
 have d2 := con_flD U q2'.1 q2'.2
 have y_ok := flD_ok q2'.1
 have y_e := flD_e q2'.1
 by_cases v4 : m < 0
 ·refine call_oI (d1) ?_
  simp (disch := omega) only [go_sem]
  refine call_oI (d2) ?_
  simp (disch := omega) only [go_sem]
  simp (disch := omega) only [go_sem, v4]
  refine call_cI (con_alive) ?_
  simp (disch := omega) only [go_sem]
  exact fin_cI
 by_cases v5 : 4 < m
 ·refine call_oI (d1) ?_
  simp (disch := omega) only [go_sem]
  refine call_oI (d2) ?_
  simp (disch := omega) only [go_sem]
  simp (disch := omega) only [go_sem, v4, v5]
  refine call_cI (con_alive) ?_
  simp (disch := omega) only [go_sem]
  exact fin_cI
 have vm : modeB m = true := by unfold modeB; rw [decide_eq_true (show 0 ≤ m by omega), decide_eq_true (show m ≤ 4 by omega)]; rfl
 have cA := con_FlAdd V.k V.s V.m V.e U.k U.s U.m U.e m
 rw [if_pos (by rw [vm, q1'.1, q2'.1]; rfl)] at cA
 have cM := con_FlMul V.k V.s V.m V.e U.k U.s U.m U.e m
 rw [if_pos (by rw [vm, q1'.1, q2'.1]; rfl)] at cM
 have cS := con_FlSub V.k V.s V.m V.e U.k U.s U.m U.e m
 rw [if_pos (by rw [vm, q1'.1, q2'.1]; rfl)] at cS
 have hA := fun x he hv => @add_true V U m q1'.1 q2'.1 q1'.2 q2'.2 x he hv
 have hM := fun x he hv => @mul_true V U m q1'.1 q2'.1 q1'.2 q2'.2 x he hv
 have hN := fun hs n1 n2 W hW => @sub_near V U m q1'.1 q2'.1 q1'.2 q2'.2 hs n1 n2 W hW
 generalize addV V.k V.s V.m V.e U.k U.s U.m U.e m = P at *
 generalize addG V.k V.s V.m V.e U.k U.s U.m U.e m = PG at *
 generalize mulV V.k V.s V.m V.e U.k U.s U.m U.e m = Z at *
 generalize mulG V.k V.s V.m V.e U.k U.s U.m U.e m = ZG at *
 generalize addV V.k V.s V.m V.e U.k (ngS U.k U.s) U.m U.e m = D at *
 generalize addG V.k V.s V.m V.e U.k (ngS U.k U.s) U.m U.e m = DG at *
 generalize flD V = x at *
 generalize flD U = y at *
 refine call_oI (d1) ?_
 simp (disch := omega) only [go_sem]
 refine call_oI (d2) ?_
 simp (disch := omega) only [go_sem]
 simp (disch := omega) only [go_sem, v4, v5]
 refine call_oI (con_addV x y true x_ok y_ok) ?_
 simp (disch := omega) only [go_sem]
 refine call_oI (con_mulV x y ((x.plus y).fit && true) x_ok y_ok) ?_
 simp (disch := omega) only [go_sem]
 refine draw_of rfl [⟨0, [], []⟩, ⟨1, [0], []⟩, ⟨3, [0, 1], []⟩, ⟨8, [0, 1], []⟩, ⟨2, [0], [150000000]⟩, ⟨4, [], [150000000]⟩, ⟨5, [], [150000000]⟩, ⟨6, [], [150000000]⟩, ⟨7, [], [150000000]⟩, ⟨9, [], []⟩, ⟨10, [], []⟩] (by kernel_rfl) ?_
 simp (disch := omega) only [go_sem]
 refine call_oI (con_lnegV y y_ok) ?_
 simp (disch := omega) only [go_sem]
 refine call_oI (con_addV x y.neg ((x.times y).fit && ((x.plus y).fit && true)) x_ok (neg_ok y_ok)) ?_
 simp (disch := omega) only [go_sem]
 cases f1 : (x.plus y).fit
 ·simp (disch := omega) only [go_sem, f1, Bool.false_and, Bool.and_false]
  exact fin_cI
 cases f2 : (x.times y).fit
 ·simp (disch := omega) only [go_sem, f2, Bool.false_and, Bool.and_false]
  exact fin_cI
 cases f3 : (x.plus y.neg).fit
 ·simp (disch := omega) only [go_sem, f3, Bool.false_and, Bool.and_false]
  exact fin_cI
 have s_ok := tel_ok (x.plus y)
 have p_ok := tel_ok (x.times y)
 have t_ok := tel_ok (x.plus y.neg)
 obtain ⟨a1, a2, a3⟩ := hA (x.plus y).tel (by rw [tel_fit f1]; exact can_e (plus_e x_e.1 y_e.1) (by decide)) (by rw [tel_fit f1, can_val (plus_e x_e.1 y_e.1), plus_val x_e.1 y_e.1])
 have te : -2148 ≤ (x.times y).e := by show -2148 ≤ x.e + y.e; omega
 obtain ⟨b1, b2, b3⟩ := hM (x.times y).tel (by rw [tel_fit f2]; exact can_e te (by decide)) (by rw [tel_fit f2, can_val te]; exact times_val (K := 1074) (K' := 1074) x_e.1 y_e.1)
 have hpe : -1074 ≤ (x.plus y.neg).e := plus_e (y := y.neg) x_e.1 y_e.1
 have hd : (x.plus y.neg).tel.val 1074 = x.val 1074 - y.val 1074 := by
  rw [tel_fit f3, can_val hpe, plus_val (K := 1074) (x := x) (y := y.neg) x_e.1 y_e.1, neg_val, Int.sub_eq_add_neg]
 have hde : -1074 ≤ (x.plus y.neg).tel.e := by rw [tel_fit f3]; exact can_e hpe (by decide)
 have cRs := con_FlRoundV (x.plus y).tel m s_ok vm
 have cRp := con_FlRoundV (x.times y).tel m p_ok vm
 generalize flV (x.plus y).tel.s (x.plus y).tel.m (x.plus y).tel.e m false = RS at *
 generalize flV (x.times y).tel.s (x.times y).tel.m (x.times y).tel.e m false = RP at *
 rw [← a1] at cRs
 rw [← b1] at cRp
 clear a1 b1 hA hM
 generalize (x.plus y).tel = S at *
 generalize (x.times y).tel = T at *
 generalize hTD : (x.plus y.neg).tel = TD at *
 simp (disch := omega) only [go_sem, f1, f2, f3, Bool.true_and]
 refine call_cI (cA) ?_
 simp (disch := omega) only [go_sem]
 refine call_cI (cM) ?_
 simp (disch := omega) only [go_sem]
 refine call_cI (cS) ?_
 simp (disch := omega) only [go_sem]
 refine call_cI (cRs) ?_
 simp (disch := omega) only [go_sem]
 refine call_cI (cRp) ?_
 simp (disch := omega) only [go_sem]
 have ax_ok := abs_ok x_ok
 have ay_ok := abs_ok y_ok
 have axv : x.abs.val 3000 = x.abs.val 1074 * 2 ^ 1926 := val_up (K := 1074) (j := 1926) x_e.1
 have ayv : y.abs.val 3000 = y.abs.val 1074 * 2 ^ 1926 := val_up (K := 1074) (j := 1926) y_e.1
 have hp : (0 : Int) < 2 ^ 1926 := Int.pow_pos (by omega)
 have nax : 0 ≤ x.abs.val 3000 := by rw [abs_val]; omega
 have nay : 0 ≤ y.abs.val 3000 := by rw [abs_val]; omega
 have near : ∀ lo hi : ExV, (lo = x.abs ∧ hi = y.abs ∨ lo = y.abs ∧ hi = x.abs) → lo.val 3000 ≤ hi.val 3000 → ¬ (2 * lo.val 3000 < hi.val 3000) → x.s = y.s → DG = 0 ∧ flB D.k D.s D.m D.e = true ∧ (decide (D.k = 0) || decide (D.k = 1)) = true ∧ flD D = TD := by
  intro lo hi hlh h1 h2 hs
  have m1 : x.abs.val 1074 ≤ 2 * y.abs.val 1074 := by
   have : x.abs.val 1074 * 2 ^ 1926 ≤ 2 * y.abs.val 1074 * 2 ^ 1926 := by
    rw [Int.mul_assoc, ← axv, ← ayv]
    rcases hlh with ⟨rfl, rfl⟩ | ⟨rfl, rfl⟩ <;> omega
   exact Int.le_of_mul_le_mul_right this hp
  have m2 : y.abs.val 1074 ≤ 2 * x.abs.val 1074 := by
   have : y.abs.val 1074 * 2 ^ 1926 ≤ 2 * x.abs.val 1074 * 2 ^ 1926 := by
    rw [Int.mul_assoc, ← axv, ← ayv]
    rcases hlh with ⟨rfl, rfl⟩ | ⟨rfl, rfl⟩ <;> omega
   exact Int.le_of_mul_le_mul_right this hp
  obtain ⟨g1, g2, g3, g4⟩ := hN hs m1 m2 D rfl
  exact ⟨g1, g2, g3, ok_inj (flD_ok g2) t_ok (flD_e g2).1 hde (by rw [g4, hd])⟩
 by_cases hz1 : RS.k = 0
 ·have r1 : decide (P.k = 0) = true := decide_eq_true (by rw [a2]; exact hz1)
  have r1' : decide (P.k = RS.k) = true := decide_eq_true a2
  by_cases hz2 : RP.k = 0
  ·have r2 : decide (Z.k = 0) = true := decide_eq_true (by rw [b2]; exact hz2)
   have r2' : decide (Z.k = RP.k) = true := decide_eq_true b2
   simp (disch := omega) only [go_sem, dec_self', r1, r1', r2, r2']
   refine draw_of rfl [⟨0, [], []⟩, ⟨2, [0], []⟩, ⟨4, [0, 2], []⟩, ⟨5, [0, 2], [280000000]⟩, ⟨1, [2], [280000000, 290000000]⟩, ⟨3, [], [280000000, 290000000]⟩, ⟨6, [], []⟩, ⟨7, [], []⟩] (by kernel_rfl) ?_
   simp (disch := omega) only [go_sem]
   refine call_oI (con_labsV x x_ok) ?_
   simp (disch := omega) only [go_sem]
   refine call_oI (con_labsV y y_ok) ?_
   simp (disch := omega) only [go_sem]
   refine call_cI (con_dcmpV x.abs y.abs ax_ok ay_ok) ?_
   simp (disch := omega) only [go_sem]
   refine ifW_dec (fun c1 => ?_) (fun c1 => ?_)
   ·simp (disch := omega) only [go_sem, c1]
    refine draw_of rfl [⟨0, [], []⟩, ⟨6, [0], []⟩, ⟨1, [0], [300000000]⟩, ⟨2, [], [300000000]⟩, ⟨3, [], [300000000]⟩, ⟨4, [], [300000000]⟩, ⟨5, [], [300000000]⟩, ⟨7, [], []⟩, ⟨8, [], []⟩] (by kernel_rfl) ?_
    simp (disch := omega) only [go_sem]
    refine call_oI (con_dyTwo) ?_
    simp (disch := omega) only [go_sem]
    refine call_oI (con_mulV y.abs exT true ay_ok exT_ok) ?_ (by simp (disch := omega) only [go_sem, exT])
    simp (disch := omega) only [go_sem]
    have hle : y.abs.val 3000 ≤ x.abs.val 3000 := by have := (cmpI_le (x.abs.val 3000) (y.abs.val 3000)).1; omega
    cases g1 : (y.abs.times exT).fit
    ·simp (disch := omega) only [go_sem, g1, Bool.false_and]
     exact fin_cI
    have tv : (y.abs.times exT).tel.val 3000 = 2 * y.abs.val 3000 := by
     have le : -1074 ≤ y.abs.e := y_e.1
     rw [tel_fit g1, can_val (by show -3000 ≤ y.abs.e + 1; omega), twice_val (by omega)]
    have hq := con_dcmpV (y.abs.times exT).tel x.abs (tel_ok _) ax_ok
    have hcl := (cmpI_le ((y.abs.times exT).tel.val 3000) (x.abs.val 3000)).2.1
    rw [tv] at hcl hq
    generalize cmpI (2 * y.abs.val 3000) (x.abs.val 3000) = C at *
    generalize (y.abs.times exT).tel = TW at *
    simp (disch := omega) only [go_sem, g1, Bool.true_and]
    by_cases sg : x.s = y.s
    ·have sg' : (x.s != y.s) = false := by rw [sg]; cases y.s <;> rfl
     simp (disch := omega) only [go_sem, sg']
     refine call_cI (hq) ?_
     simp (disch := omega) only [go_sem]
     refine ifW_dec (fun c2 => ?_) (fun c2 => ?_)
     ·simp (disch := omega) only [go_sem, c2]
      exact fin_cI
     ·obtain ⟨n1, n2, n3, n4⟩ := near y.abs x.abs (.inr ⟨rfl, rfl⟩) hle (fun h => c2 (hcl.2 h)) sg
      have dd := con_flD D n2 n3
      rw [n4] at dd
      have ss := con_sameV TD TD t_ok t_ok
      rw [decide_eq_true (show TD = TD from rfl)] at ss
      simp (disch := omega) only [go_sem, c2]
      refine call_oI (dd) ?_
      simp (disch := omega) only [go_sem]
      simp (disch := omega) only [go_sem, n1]
      refine call_cI (ss) ?_
      simp (disch := omega) only [go_sem]
      exact fin_cI
    ·have sg' : (x.s != y.s) = true := by simpa using sg
     simp (disch := omega) only [go_sem, sg']
     exact fin_cI
   ·simp (disch := omega) only [go_sem, c1]
    refine draw_of rfl [⟨0, [], []⟩, ⟨6, [0], []⟩, ⟨1, [0], [300000000]⟩, ⟨2, [], [300000000]⟩, ⟨3, [], [300000000]⟩, ⟨4, [], [300000000]⟩, ⟨5, [], [300000000]⟩, ⟨7, [], []⟩, ⟨8, [], []⟩] (by kernel_rfl) ?_
    simp (disch := omega) only [go_sem]
    refine call_oI (con_dyTwo) ?_
    simp (disch := omega) only [go_sem]
    refine call_oI (con_mulV x.abs exT true ax_ok exT_ok) ?_ (by simp (disch := omega) only [go_sem, exT])
    simp (disch := omega) only [go_sem]
    have hle : x.abs.val 3000 ≤ y.abs.val 3000 := by have := (cmpI_le (x.abs.val 3000) (y.abs.val 3000)).1; omega
    cases g1 : (x.abs.times exT).fit
    ·simp (disch := omega) only [go_sem, g1, Bool.false_and]
     exact fin_cI
    have tv : (x.abs.times exT).tel.val 3000 = 2 * x.abs.val 3000 := by
     have le : -1074 ≤ x.abs.e := x_e.1
     rw [tel_fit g1, can_val (by show -3000 ≤ x.abs.e + 1; omega), twice_val (by omega)]
    have hq := con_dcmpV (x.abs.times exT).tel y.abs (tel_ok _) ay_ok
    have hcl := (cmpI_le ((x.abs.times exT).tel.val 3000) (y.abs.val 3000)).2.1
    rw [tv] at hcl hq
    generalize cmpI (2 * x.abs.val 3000) (y.abs.val 3000) = C at *
    generalize (x.abs.times exT).tel = TW at *
    simp (disch := omega) only [go_sem, g1, Bool.true_and]
    by_cases sg : x.s = y.s
    ·have sg' : (x.s != y.s) = false := by rw [sg]; cases y.s <;> rfl
     simp (disch := omega) only [go_sem, sg']
     refine call_cI (hq) ?_
     simp (disch := omega) only [go_sem]
     refine ifW_dec (fun c2 => ?_) (fun c2 => ?_)
     ·simp (disch := omega) only [go_sem, c2]
      exact fin_cI
     ·obtain ⟨n1, n2, n3, n4⟩ := near x.abs y.abs (.inl ⟨rfl, rfl⟩) hle (fun h => c2 (hcl.2 h)) sg
      have dd := con_flD D n2 n3
      rw [n4] at dd
      have ss := con_sameV TD TD t_ok t_ok
      rw [decide_eq_true (show TD = TD from rfl)] at ss
      simp (disch := omega) only [go_sem, c2]
      refine call_oI (dd) ?_
      simp (disch := omega) only [go_sem]
      simp (disch := omega) only [go_sem, n1]
      refine call_cI (ss) ?_
      simp (disch := omega) only [go_sem]
      exact fin_cI
    ·have sg' : (x.s != y.s) = true := by simpa using sg
     simp (disch := omega) only [go_sem, sg']
     exact fin_cI
  ·have r2' := b3 hz2
   have r2 : decide (RP.k = 0) = false := decide_eq_false hz2
   subst r2'
   simp (disch := omega) only [go_sem, dec_self', flEq_self', r1, r1', r2]
   refine draw_of rfl [⟨0, [], []⟩, ⟨2, [0], []⟩, ⟨4, [0, 2], []⟩, ⟨5, [0, 2], [280000000]⟩, ⟨1, [2], [280000000, 290000000]⟩, ⟨3, [], [280000000, 290000000]⟩, ⟨6, [], []⟩, ⟨7, [], []⟩] (by kernel_rfl) ?_
   simp (disch := omega) only [go_sem]
   refine call_oI (con_labsV x x_ok) ?_
   simp (disch := omega) only [go_sem]
   refine call_oI (con_labsV y y_ok) ?_
   simp (disch := omega) only [go_sem]
   refine call_cI (con_dcmpV x.abs y.abs ax_ok ay_ok) ?_
   simp (disch := omega) only [go_sem]
   refine ifW_dec (fun c1 => ?_) (fun c1 => ?_)
   ·simp (disch := omega) only [go_sem, c1]
    refine draw_of rfl [⟨0, [], []⟩, ⟨6, [0], []⟩, ⟨1, [0], [300000000]⟩, ⟨2, [], [300000000]⟩, ⟨3, [], [300000000]⟩, ⟨4, [], [300000000]⟩, ⟨5, [], [300000000]⟩, ⟨7, [], []⟩, ⟨8, [], []⟩] (by kernel_rfl) ?_
    simp (disch := omega) only [go_sem]
    refine call_oI (con_dyTwo) ?_
    simp (disch := omega) only [go_sem]
    refine call_oI (con_mulV y.abs exT true ay_ok exT_ok) ?_ (by simp (disch := omega) only [go_sem, exT])
    simp (disch := omega) only [go_sem]
    have hle : y.abs.val 3000 ≤ x.abs.val 3000 := by have := (cmpI_le (x.abs.val 3000) (y.abs.val 3000)).1; omega
    cases g1 : (y.abs.times exT).fit
    ·simp (disch := omega) only [go_sem, g1, Bool.false_and]
     exact fin_cI
    have tv : (y.abs.times exT).tel.val 3000 = 2 * y.abs.val 3000 := by
     have le : -1074 ≤ y.abs.e := y_e.1
     rw [tel_fit g1, can_val (by show -3000 ≤ y.abs.e + 1; omega), twice_val (by omega)]
    have hq := con_dcmpV (y.abs.times exT).tel x.abs (tel_ok _) ax_ok
    have hcl := (cmpI_le ((y.abs.times exT).tel.val 3000) (x.abs.val 3000)).2.1
    rw [tv] at hcl hq
    generalize cmpI (2 * y.abs.val 3000) (x.abs.val 3000) = C at *
    generalize (y.abs.times exT).tel = TW at *
    simp (disch := omega) only [go_sem, g1, Bool.true_and]
    by_cases sg : x.s = y.s
    ·have sg' : (x.s != y.s) = false := by rw [sg]; cases y.s <;> rfl
     simp (disch := omega) only [go_sem, sg']
     refine call_cI (hq) ?_
     simp (disch := omega) only [go_sem]
     refine ifW_dec (fun c2 => ?_) (fun c2 => ?_)
     ·simp (disch := omega) only [go_sem, c2]
      exact fin_cI
     ·obtain ⟨n1, n2, n3, n4⟩ := near y.abs x.abs (.inr ⟨rfl, rfl⟩) hle (fun h => c2 (hcl.2 h)) sg
      have dd := con_flD D n2 n3
      rw [n4] at dd
      have ss := con_sameV TD TD t_ok t_ok
      rw [decide_eq_true (show TD = TD from rfl)] at ss
      simp (disch := omega) only [go_sem, c2]
      refine call_oI (dd) ?_
      simp (disch := omega) only [go_sem]
      simp (disch := omega) only [go_sem, n1]
      refine call_cI (ss) ?_
      simp (disch := omega) only [go_sem]
      exact fin_cI
    ·have sg' : (x.s != y.s) = true := by simpa using sg
     simp (disch := omega) only [go_sem, sg']
     exact fin_cI
   ·simp (disch := omega) only [go_sem, c1]
    refine draw_of rfl [⟨0, [], []⟩, ⟨6, [0], []⟩, ⟨1, [0], [300000000]⟩, ⟨2, [], [300000000]⟩, ⟨3, [], [300000000]⟩, ⟨4, [], [300000000]⟩, ⟨5, [], [300000000]⟩, ⟨7, [], []⟩, ⟨8, [], []⟩] (by kernel_rfl) ?_
    simp (disch := omega) only [go_sem]
    refine call_oI (con_dyTwo) ?_
    simp (disch := omega) only [go_sem]
    refine call_oI (con_mulV x.abs exT true ax_ok exT_ok) ?_ (by simp (disch := omega) only [go_sem, exT])
    simp (disch := omega) only [go_sem]
    have hle : x.abs.val 3000 ≤ y.abs.val 3000 := by have := (cmpI_le (x.abs.val 3000) (y.abs.val 3000)).1; omega
    cases g1 : (x.abs.times exT).fit
    ·simp (disch := omega) only [go_sem, g1, Bool.false_and]
     exact fin_cI
    have tv : (x.abs.times exT).tel.val 3000 = 2 * x.abs.val 3000 := by
     have le : -1074 ≤ x.abs.e := x_e.1
     rw [tel_fit g1, can_val (by show -3000 ≤ x.abs.e + 1; omega), twice_val (by omega)]
    have hq := con_dcmpV (x.abs.times exT).tel y.abs (tel_ok _) ay_ok
    have hcl := (cmpI_le ((x.abs.times exT).tel.val 3000) (y.abs.val 3000)).2.1
    rw [tv] at hcl hq
    generalize cmpI (2 * x.abs.val 3000) (y.abs.val 3000) = C at *
    generalize (x.abs.times exT).tel = TW at *
    simp (disch := omega) only [go_sem, g1, Bool.true_and]
    by_cases sg : x.s = y.s
    ·have sg' : (x.s != y.s) = false := by rw [sg]; cases y.s <;> rfl
     simp (disch := omega) only [go_sem, sg']
     refine call_cI (hq) ?_
     simp (disch := omega) only [go_sem]
     refine ifW_dec (fun c2 => ?_) (fun c2 => ?_)
     ·simp (disch := omega) only [go_sem, c2]
      exact fin_cI
     ·obtain ⟨n1, n2, n3, n4⟩ := near x.abs y.abs (.inl ⟨rfl, rfl⟩) hle (fun h => c2 (hcl.2 h)) sg
      have dd := con_flD D n2 n3
      rw [n4] at dd
      have ss := con_sameV TD TD t_ok t_ok
      rw [decide_eq_true (show TD = TD from rfl)] at ss
      simp (disch := omega) only [go_sem, c2]
      refine call_oI (dd) ?_
      simp (disch := omega) only [go_sem]
      simp (disch := omega) only [go_sem, n1]
      refine call_cI (ss) ?_
      simp (disch := omega) only [go_sem]
      exact fin_cI
    ·have sg' : (x.s != y.s) = true := by simpa using sg
     simp (disch := omega) only [go_sem, sg']
     exact fin_cI
 ·have r1' := a3 hz1
  have r1 : decide (RS.k = 0) = false := decide_eq_false hz1
  subst r1'
  by_cases hz2 : RP.k = 0
  ·have r2 : decide (Z.k = 0) = true := decide_eq_true (by rw [b2]; exact hz2)
   have r2' : decide (Z.k = RP.k) = true := decide_eq_true b2
   simp (disch := omega) only [go_sem, dec_self', flEq_self', r1, r2, r2']
   refine draw_of rfl [⟨0, [], []⟩, ⟨2, [0], []⟩, ⟨4, [0, 2], []⟩, ⟨5, [0, 2], [280000000]⟩, ⟨1, [2], [280000000, 290000000]⟩, ⟨3, [], [280000000, 290000000]⟩, ⟨6, [], []⟩, ⟨7, [], []⟩] (by kernel_rfl) ?_
   simp (disch := omega) only [go_sem]
   refine call_oI (con_labsV x x_ok) ?_
   simp (disch := omega) only [go_sem]
   refine call_oI (con_labsV y y_ok) ?_
   simp (disch := omega) only [go_sem]
   refine call_cI (con_dcmpV x.abs y.abs ax_ok ay_ok) ?_
   simp (disch := omega) only [go_sem]
   refine ifW_dec (fun c1 => ?_) (fun c1 => ?_)
   ·simp (disch := omega) only [go_sem, c1]
    refine draw_of rfl [⟨0, [], []⟩, ⟨6, [0], []⟩, ⟨1, [0], [300000000]⟩, ⟨2, [], [300000000]⟩, ⟨3, [], [300000000]⟩, ⟨4, [], [300000000]⟩, ⟨5, [], [300000000]⟩, ⟨7, [], []⟩, ⟨8, [], []⟩] (by kernel_rfl) ?_
    simp (disch := omega) only [go_sem]
    refine call_oI (con_dyTwo) ?_
    simp (disch := omega) only [go_sem]
    refine call_oI (con_mulV y.abs exT true ay_ok exT_ok) ?_ (by simp (disch := omega) only [go_sem, exT])
    simp (disch := omega) only [go_sem]
    have hle : y.abs.val 3000 ≤ x.abs.val 3000 := by have := (cmpI_le (x.abs.val 3000) (y.abs.val 3000)).1; omega
    cases g1 : (y.abs.times exT).fit
    ·simp (disch := omega) only [go_sem, g1, Bool.false_and]
     exact fin_cI
    have tv : (y.abs.times exT).tel.val 3000 = 2 * y.abs.val 3000 := by
     have le : -1074 ≤ y.abs.e := y_e.1
     rw [tel_fit g1, can_val (by show -3000 ≤ y.abs.e + 1; omega), twice_val (by omega)]
    have hq := con_dcmpV (y.abs.times exT).tel x.abs (tel_ok _) ax_ok
    have hcl := (cmpI_le ((y.abs.times exT).tel.val 3000) (x.abs.val 3000)).2.1
    rw [tv] at hcl hq
    generalize cmpI (2 * y.abs.val 3000) (x.abs.val 3000) = C at *
    generalize (y.abs.times exT).tel = TW at *
    simp (disch := omega) only [go_sem, g1, Bool.true_and]
    by_cases sg : x.s = y.s
    ·have sg' : (x.s != y.s) = false := by rw [sg]; cases y.s <;> rfl
     simp (disch := omega) only [go_sem, sg']
     refine call_cI (hq) ?_
     simp (disch := omega) only [go_sem]
     refine ifW_dec (fun c2 => ?_) (fun c2 => ?_)
     ·simp (disch := omega) only [go_sem, c2]
      exact fin_cI
     ·obtain ⟨n1, n2, n3, n4⟩ := near y.abs x.abs (.inr ⟨rfl, rfl⟩) hle (fun h => c2 (hcl.2 h)) sg
      have dd := con_flD D n2 n3
      rw [n4] at dd
      have ss := con_sameV TD TD t_ok t_ok
      rw [decide_eq_true (show TD = TD from rfl)] at ss
      simp (disch := omega) only [go_sem, c2]
      refine call_oI (dd) ?_
      simp (disch := omega) only [go_sem]
      simp (disch := omega) only [go_sem, n1]
      refine call_cI (ss) ?_
      simp (disch := omega) only [go_sem]
      exact fin_cI
    ·have sg' : (x.s != y.s) = true := by simpa using sg
     simp (disch := omega) only [go_sem, sg']
     exact fin_cI
   ·simp (disch := omega) only [go_sem, c1]
    refine draw_of rfl [⟨0, [], []⟩, ⟨6, [0], []⟩, ⟨1, [0], [300000000]⟩, ⟨2, [], [300000000]⟩, ⟨3, [], [300000000]⟩, ⟨4, [], [300000000]⟩, ⟨5, [], [300000000]⟩, ⟨7, [], []⟩, ⟨8, [], []⟩] (by kernel_rfl) ?_
    simp (disch := omega) only [go_sem]
    refine call_oI (con_dyTwo) ?_
    simp (disch := omega) only [go_sem]
    refine call_oI (con_mulV x.abs exT true ax_ok exT_ok) ?_ (by simp (disch := omega) only [go_sem, exT])
    simp (disch := omega) only [go_sem]
    have hle : x.abs.val 3000 ≤ y.abs.val 3000 := by have := (cmpI_le (x.abs.val 3000) (y.abs.val 3000)).1; omega
    cases g1 : (x.abs.times exT).fit
    ·simp (disch := omega) only [go_sem, g1, Bool.false_and]
     exact fin_cI
    have tv : (x.abs.times exT).tel.val 3000 = 2 * x.abs.val 3000 := by
     have le : -1074 ≤ x.abs.e := x_e.1
     rw [tel_fit g1, can_val (by show -3000 ≤ x.abs.e + 1; omega), twice_val (by omega)]
    have hq := con_dcmpV (x.abs.times exT).tel y.abs (tel_ok _) ay_ok
    have hcl := (cmpI_le ((x.abs.times exT).tel.val 3000) (y.abs.val 3000)).2.1
    rw [tv] at hcl hq
    generalize cmpI (2 * x.abs.val 3000) (y.abs.val 3000) = C at *
    generalize (x.abs.times exT).tel = TW at *
    simp (disch := omega) only [go_sem, g1, Bool.true_and]
    by_cases sg : x.s = y.s
    ·have sg' : (x.s != y.s) = false := by rw [sg]; cases y.s <;> rfl
     simp (disch := omega) only [go_sem, sg']
     refine call_cI (hq) ?_
     simp (disch := omega) only [go_sem]
     refine ifW_dec (fun c2 => ?_) (fun c2 => ?_)
     ·simp (disch := omega) only [go_sem, c2]
      exact fin_cI
     ·obtain ⟨n1, n2, n3, n4⟩ := near x.abs y.abs (.inl ⟨rfl, rfl⟩) hle (fun h => c2 (hcl.2 h)) sg
      have dd := con_flD D n2 n3
      rw [n4] at dd
      have ss := con_sameV TD TD t_ok t_ok
      rw [decide_eq_true (show TD = TD from rfl)] at ss
      simp (disch := omega) only [go_sem, c2]
      refine call_oI (dd) ?_
      simp (disch := omega) only [go_sem]
      simp (disch := omega) only [go_sem, n1]
      refine call_cI (ss) ?_
      simp (disch := omega) only [go_sem]
      exact fin_cI
    ·have sg' : (x.s != y.s) = true := by simpa using sg
     simp (disch := omega) only [go_sem, sg']
     exact fin_cI
  ·have r2' := b3 hz2
   have r2 : decide (RP.k = 0) = false := decide_eq_false hz2
   subst r2'
   simp (disch := omega) only [go_sem, dec_self', flEq_self', r1, r2]
   refine draw_of rfl [⟨0, [], []⟩, ⟨2, [0], []⟩, ⟨4, [0, 2], []⟩, ⟨5, [0, 2], [280000000]⟩, ⟨1, [2], [280000000, 290000000]⟩, ⟨3, [], [280000000, 290000000]⟩, ⟨6, [], []⟩, ⟨7, [], []⟩] (by kernel_rfl) ?_
   simp (disch := omega) only [go_sem]
   refine call_oI (con_labsV x x_ok) ?_
   simp (disch := omega) only [go_sem]
   refine call_oI (con_labsV y y_ok) ?_
   simp (disch := omega) only [go_sem]
   refine call_cI (con_dcmpV x.abs y.abs ax_ok ay_ok) ?_
   simp (disch := omega) only [go_sem]
   refine ifW_dec (fun c1 => ?_) (fun c1 => ?_)
   ·simp (disch := omega) only [go_sem, c1]
    refine draw_of rfl [⟨0, [], []⟩, ⟨6, [0], []⟩, ⟨1, [0], [300000000]⟩, ⟨2, [], [300000000]⟩, ⟨3, [], [300000000]⟩, ⟨4, [], [300000000]⟩, ⟨5, [], [300000000]⟩, ⟨7, [], []⟩, ⟨8, [], []⟩] (by kernel_rfl) ?_
    simp (disch := omega) only [go_sem]
    refine call_oI (con_dyTwo) ?_
    simp (disch := omega) only [go_sem]
    refine call_oI (con_mulV y.abs exT true ay_ok exT_ok) ?_ (by simp (disch := omega) only [go_sem, exT])
    simp (disch := omega) only [go_sem]
    have hle : y.abs.val 3000 ≤ x.abs.val 3000 := by have := (cmpI_le (x.abs.val 3000) (y.abs.val 3000)).1; omega
    cases g1 : (y.abs.times exT).fit
    ·simp (disch := omega) only [go_sem, g1, Bool.false_and]
     exact fin_cI
    have tv : (y.abs.times exT).tel.val 3000 = 2 * y.abs.val 3000 := by
     have le : -1074 ≤ y.abs.e := y_e.1
     rw [tel_fit g1, can_val (by show -3000 ≤ y.abs.e + 1; omega), twice_val (by omega)]
    have hq := con_dcmpV (y.abs.times exT).tel x.abs (tel_ok _) ax_ok
    have hcl := (cmpI_le ((y.abs.times exT).tel.val 3000) (x.abs.val 3000)).2.1
    rw [tv] at hcl hq
    generalize cmpI (2 * y.abs.val 3000) (x.abs.val 3000) = C at *
    generalize (y.abs.times exT).tel = TW at *
    simp (disch := omega) only [go_sem, g1, Bool.true_and]
    by_cases sg : x.s = y.s
    ·have sg' : (x.s != y.s) = false := by rw [sg]; cases y.s <;> rfl
     simp (disch := omega) only [go_sem, sg']
     refine call_cI (hq) ?_
     simp (disch := omega) only [go_sem]
     refine ifW_dec (fun c2 => ?_) (fun c2 => ?_)
     ·simp (disch := omega) only [go_sem, c2]
      exact fin_cI
     ·obtain ⟨n1, n2, n3, n4⟩ := near y.abs x.abs (.inr ⟨rfl, rfl⟩) hle (fun h => c2 (hcl.2 h)) sg
      have dd := con_flD D n2 n3
      rw [n4] at dd
      have ss := con_sameV TD TD t_ok t_ok
      rw [decide_eq_true (show TD = TD from rfl)] at ss
      simp (disch := omega) only [go_sem, c2]
      refine call_oI (dd) ?_
      simp (disch := omega) only [go_sem]
      simp (disch := omega) only [go_sem, n1]
      refine call_cI (ss) ?_
      simp (disch := omega) only [go_sem]
      exact fin_cI
    ·have sg' : (x.s != y.s) = true := by simpa using sg
     simp (disch := omega) only [go_sem, sg']
     exact fin_cI
   ·simp (disch := omega) only [go_sem, c1]
    refine draw_of rfl [⟨0, [], []⟩, ⟨6, [0], []⟩, ⟨1, [0], [300000000]⟩, ⟨2, [], [300000000]⟩, ⟨3, [], [300000000]⟩, ⟨4, [], [300000000]⟩, ⟨5, [], [300000000]⟩, ⟨7, [], []⟩, ⟨8, [], []⟩] (by kernel_rfl) ?_
    simp (disch := omega) only [go_sem]
    refine call_oI (con_dyTwo) ?_
    simp (disch := omega) only [go_sem]
    refine call_oI (con_mulV x.abs exT true ax_ok exT_ok) ?_ (by simp (disch := omega) only [go_sem, exT])
    simp (disch := omega) only [go_sem]
    have hle : x.abs.val 3000 ≤ y.abs.val 3000 := by have := (cmpI_le (x.abs.val 3000) (y.abs.val 3000)).1; omega
    cases g1 : (x.abs.times exT).fit
    ·simp (disch := omega) only [go_sem, g1, Bool.false_and]
     exact fin_cI
    have tv : (x.abs.times exT).tel.val 3000 = 2 * x.abs.val 3000 := by
     have le : -1074 ≤ x.abs.e := x_e.1
     rw [tel_fit g1, can_val (by show -3000 ≤ x.abs.e + 1; omega), twice_val (by omega)]
    have hq := con_dcmpV (x.abs.times exT).tel y.abs (tel_ok _) ay_ok
    have hcl := (cmpI_le ((x.abs.times exT).tel.val 3000) (y.abs.val 3000)).2.1
    rw [tv] at hcl hq
    generalize cmpI (2 * x.abs.val 3000) (y.abs.val 3000) = C at *
    generalize (x.abs.times exT).tel = TW at *
    simp (disch := omega) only [go_sem, g1, Bool.true_and]
    by_cases sg : x.s = y.s
    ·have sg' : (x.s != y.s) = false := by rw [sg]; cases y.s <;> rfl
     simp (disch := omega) only [go_sem, sg']
     refine call_cI (hq) ?_
     simp (disch := omega) only [go_sem]
     refine ifW_dec (fun c2 => ?_) (fun c2 => ?_)
     ·simp (disch := omega) only [go_sem, c2]
      exact fin_cI
     ·obtain ⟨n1, n2, n3, n4⟩ := near x.abs y.abs (.inl ⟨rfl, rfl⟩) hle (fun h => c2 (hcl.2 h)) sg
      have dd := con_flD D n2 n3
      rw [n4] at dd
      have ss := con_sameV TD TD t_ok t_ok
      rw [decide_eq_true (show TD = TD from rfl)] at ss
      simp (disch := omega) only [go_sem, c2]
      refine call_oI (dd) ?_
      simp (disch := omega) only [go_sem]
      simp (disch := omega) only [go_sem, n1]
      refine call_cI (ss) ?_
      simp (disch := omega) only [go_sem]
      exact fin_cI
    ·have sg' : (x.s != y.s) = true := by simpa using sg
     simp (disch := omega) only [go_sem, sg']
     exact fin_cI
end Go.Ab
namespace Go.Proofs.YtjkhfpjccemboaaGreatDoor
open Go.ChangeShapes Go.WideShapes Go.ChangeAt Go.RowKit Go.Ab
theorem own : ownKnob Tryz.prog.godebug = none := by kernel_rfl
theorem laidOut : laidOutB Tryz.prog = true := by kernel_rfl
theorem tabs_g1 : Tryz.prog.globalNamed "math/bits.deBruijn64tab" = some 1 := by kernel_rfl
theorem tabs_t1 : (Tryz.prog.globals[1]?).map (·.type) = some 257 := by kernel_rfl
theorem tabs_u1 : Tryz.prog.underlying 257 = some (.array 64 5) := by kernel_rfl
theorem tabs_e1 : Tryz.prog.underlying 5 = some (.int .u8) := by kernel_rfl
theorem tabs_c1 : Tryz.prog.cellsOf 5 = 1 := by kernel_rfl
theorem tabs_k1 : Tryz.prog.cellsOf 257 = 64 := by kernel_rfl
noncomputable def laidList : List (String × DataW Unit) := [("math/bits.deBruijn32tab", Rows.laid_math_bits_deBruijn32tab), ("math/bits.deBruijn64tab", Rows.laid_math_bits_deBruijn64tab)]
theorem tabs_gd {W : World} (h : laidMetH Tryz.prog laidList W) : Gd W := by
 have h' : laidMet Tryz.prog laidList W := h
 have h2 : laidMet Tryz.prog [("math/bits.deBruijn64tab", Lib.tabData .u8 (Lib.deBruijn64tab.map Int.ofNat))] W := laidMet.tail h'
 have hT := Lib.tabIs_of_head tabs_g1 tabs_t1 tabs_u1 tabs_e1 tabs_c1 tabs_k1 h2
 intro g l hg
 unfold glb at hg
 split at hg
 ·rename_i e
  subst e
  cases hg
  have hc : ∀ i, i < Lib.deBruijn64tab.length → W.cell? ⟨1, i, none⟩ = some (.int .u8 ((Lib.deBruijn64tab.getD i 0 : Nat) : Int)) := fun i hi => by
   have := hT.cell tabs_g1 i (by simpa using hi)
   rw [this]
   simp [List.getD, hi]
  exact ⟨cell_blk (hc 0 (by decide)), hc⟩
 ·cases hg
noncomputable def laidWorld (os : Os) : World :=
 let w0 := World.holding Tryz.prog os ⟨#[], #[], []⟩
 { w0 with heap := (w0.heap.modify 1 fun
   | .cells _ t frozen => .cells (Lib.deBruijn64tab.map fun z => Value.int .u8 (Int.ofNat z)).toArray t frozen
   | o => o).modify 0 fun
   | .cells _ t frozen => .cells (Lib.deBruijn32tab.map fun z => Value.int .u8 (Int.ofNat z)).toArray t frozen
   | o => o }
theorem laidWorld_met (os : Os) (args : Array Value) : laidMetH Tryz.prog laidList ((laidWorld os).forCall (fun _ _ => 0) ⟨#[], args, []⟩).memory :=
 laidMetH_of_parts (laidMet_of_run' 8 (by kernel_rfl) (by kernel_rfl)) (by kernel_rfl)
end Go.Proofs.YtjkhfpjccemboaaGreatDoor
