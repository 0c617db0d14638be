/- What the proof of this claim stands on: the walks of the functions and the plain laws, part 8. -/
import Derived.Test.YtjkhfpjccemboaaGreatDoorFnFlDivsLib7
import Derived.Laws.StructEq
import Derived.Test.YtjkhfpjccemboaaGreatDoorRows
import Derived.Test.YtjkhfpjccemboaaGreatDoorCards
import Derived.Test.YtjkhfpjccemboaaGreatDoorTie
import Derived.Handed
import Derived.ChangeSame
import Derived.JoinedOf
import Derived.RowKit
import Derived.WalkKit
import Derived.ProofKit
import Derived.OpenShut
import Derived.LaidLaws
import Derived.LaidHandle
import Derived.SevenTiedAt
import Derived.Stop.LaidErr
import Derived.Lib.LaidTab
namespace Go.Ab
open Go Go.Proofs
set_option linter.unusedVariables false
set_option linter.unusedSimpArgs false
section
variable (l : List UInt8) (hl : l.length ≤ 9223372036854775807) (i h : Int) (hi : 0 ≤ i ∧ i ≤ l.length)
include hl hi
set_option maxRecDepth 100000 in
theorem con_l5draw : Con Tryz.prog 128 false [.pt 10000000 0] [.own 0 [.sl l.length (bytesA l), .v (.int .i64 i), .v (.int .i64 h)]] (curR l fun r => ∃ x : FlV, r = .ag x.cs) := by
 refine Con.of_aw Tryz.func128 rfl Tryz.ntmps128 (by simp) (by simp) (by simp) (W.sound ?_)
 show @W Tryz.prog 75 ⟨_⟩ ⟨fun x σ => @retW _ _ _ ⟨_⟩ _ ⟨_⟩ x σ⟩ _ _
 simp (disch := omega) only [go_sem]
 refine call_lent false [10000000] (con_l1Once l hl i h hi 2 (by omega)) (by simp (disch := omega) only [go_sem]) (by simp (disch := omega) only [go_sem]) rfl (lend_cons (z := 0) (cs := [.sl l.length (bytesA l), .v (.int .i64 (i)), .v (.int .i64 (h))]) (by simp (disch := omega) only [go_sem]) (by simp (disch := omega) only [go_sem])) (by intro n hn; exact ⟨_, List.mem_cons_self .., by rw [List.mem_singleton.1 hn]; rfl⟩) ?_
 rintro r hs bs ⟨rfl, ⟨b, rfl⟩, i1, h1, hi1, rfl⟩ -
 refine ⟨by simp [freeN], ?_⟩
 simp (disch := omega) only [go_sem]
 refine call_lent false [10000000] (con_l1Below l hl i1 h1 hi1 9 (by omega)) (by simp (disch := omega) only [go_sem]) (by simp (disch := omega) only [go_sem]) rfl (lend_cons (z := 0) (cs := [.sl l.length (bytesA l), .v (.int .i64 (i1)), .v (.int .i64 (h1))]) (by simp (disch := omega) only [go_sem]) (by simp (disch := omega) only [go_sem])) (by intro n hn; exact ⟨_, List.mem_cons_self .., by rw [List.mem_singleton.1 hn]; rfl⟩) ?_
 rintro r hs bs ⟨rfl, ⟨k, hk, rfl⟩, i2, h2, hi2, rfl⟩ -
 refine ⟨by simp [freeN], ?_⟩
 simp (disch := omega) only [go_sem]
 by_cases c0 : k = 0
 ·simp (disch := omega) only [go_sem, c0]
  have hL3 : [AV.v (Value.int IntKind.i64 (0)), AV.v (Value.int IntKind.i64 (2))] = ints ([0, 2] : List Int) := rfl
  have cc3 := con_l1PickInt l hl i2 h2 hi2 [0, 2] (by simp) (by simp)
  generalize hG3 : ([0, 2] : List Int) = xs3 at hL3 cc3
  have hN3 : xs3.length = 2 := by rw [← hG3]; rfl
  rw [hL3]
  rw [hN3] at cc3
  refine call_lent false [10000000, 160000000] cc3 (by simp (disch := omega) only [go_sem]) (by simp (disch := omega) only [go_sem]) rfl (lend_two (z := 0) (cs := [.sl l.length (bytesA l), .v (.int .i64 (i2)), .v (.int .i64 (h2))]) (z' := 1) (cs' := ints xs3) (by simp (disch := omega) only [go_sem]) (by simp (disch := omega) only [go_sem]) (by simp (disch := omega) only [go_sem]) (by simp (disch := omega) only [go_sem])) (by intro n hn; simp only [List.mem_cons, List.not_mem_nil, or_false] at hn; rcases hn with rfl | rfl <;> simp [AV.top]) ?_
  rintro r hs bs ⟨rfl, ⟨x, hx, rfl⟩, i3, h3, hi3, rfl⟩ -
  clear cc3 hL3 hx hG3 hN3
  refine ⟨by simp [freeN], ?_⟩
  simp (disch := omega) only [go_sem]
  refine fin_intro [] [] [.own 0 [.sl l.length (bytesA l), .v (.int .i64 (i3)), .v (.int .i64 (h3))]] [.ag [.v (.int .i64 (x)), .v (.bool (b)), .v (.int .i64 (0)), .v (.int .i64 (0))]] rfl (by simp (disch := omega) only [go_sem]) (by simp (disch := omega) only [go_sem]) (by simp) (by simp) ⟨rfl, ⟨⟨_, _, _, _⟩, rfl⟩, _, _, by omega, rfl⟩
 by_cases c1 : k = 1
 ·simp (disch := omega) only [go_sem, c0, c1]
  refine call_cI (con_l5nan) ?_
  simp (disch := omega) only [go_sem]
  refine fin_intro [] [] [.own 0 [.sl l.length (bytesA l), .v (.int .i64 (i2)), .v (.int .i64 (h2))]] [.ag [.v (.int .i64 (3)), .v (.bool (false)), .v (.int .i64 (0)), .v (.int .i64 (0))]] rfl (by simp (disch := omega) only [go_sem]) (by simp (disch := omega) only [go_sem]) (by simp) (by simp) ⟨rfl, ⟨⟨_, _, _, _⟩, rfl⟩, _, _, by omega, rfl⟩
 by_cases c2 : k = 2
 ·simp (disch := omega) only [go_sem, c0, c1, c2]
  have hL3 : [AV.v (Value.int IntKind.i64 (1)), AV.v (Value.int IntKind.i64 (2)), AV.v (Value.int IntKind.i64 (4503599627370495)), AV.v (Value.int IntKind.i64 (4503599627370496)), AV.v (Value.int IntKind.i64 (4503599627370497)), AV.v (Value.int IntKind.i64 (12345))] = ints ([1, 2, 4503599627370495, 4503599627370496, 4503599627370497, 12345] : List Int) := rfl
  have cc3 := con_l1PickInt l hl i2 h2 hi2 [1, 2, 4503599627370495, 4503599627370496, 4503599627370497, 12345] (by simp) (by simp)
  generalize hG3 : ([1, 2, 4503599627370495, 4503599627370496, 4503599627370497, 12345] : List Int) = xs3 at hL3 cc3
  have hN3 : xs3.length = 6 := by rw [← hG3]; rfl
  rw [hL3]
  rw [hN3] at cc3
  refine call_lent false [10000000, 270000000] cc3 (by simp (disch := omega) only [go_sem]) (by simp (disch := omega) only [go_sem]) rfl (lend_two (z := 0) (cs := [.sl l.length (bytesA l), .v (.int .i64 (i2)), .v (.int .i64 (h2))]) (z' := 1) (cs' := ints xs3) (by simp (disch := omega) only [go_sem]) (by simp (disch := omega) only [go_sem]) (by simp (disch := omega) only [go_sem]) (by simp (disch := omega) only [go_sem])) (by intro n hn; simp only [List.mem_cons, List.not_mem_nil, or_false] at hn; rcases hn with rfl | rfl <;> simp [AV.top]) ?_
  rintro r hs bs ⟨rfl, ⟨x, hx, rfl⟩, i3, h3, hi3, rfl⟩ -
  clear cc3 hL3 hx hG3 hN3
  refine ⟨by simp [freeN], ?_⟩
  simp (disch := omega) only [go_sem]
  refine fin_intro [] [] [.own 0 [.sl l.length (bytesA l), .v (.int .i64 (i3)), .v (.int .i64 (h3))]] [.ag [.v (.int .i64 (1)), .v (.bool (b)), .v (.int .i64 (x)), .v (.int .i64 (-1074))]] rfl (by simp (disch := omega) only [go_sem]) (by simp (disch := omega) only [go_sem]) (by simp) (by simp) ⟨rfl, ⟨⟨_, _, _, _⟩, rfl⟩, _, _, by omega, rfl⟩
 by_cases c3 : k = 3
 ·simp (disch := omega) only [go_sem, c0, c1, c2, c3]
  have hL3 : [AV.v (Value.int IntKind.i64 (4503599627370496)), AV.v (Value.int IntKind.i64 (9007199254740991)), AV.v (Value.int IntKind.i64 (9007199254740990))] = ints ([4503599627370496, 9007199254740991, 9007199254740990] : List Int) := rfl
  have cc3 := con_l1PickInt l hl i2 h2 hi2 [4503599627370496, 9007199254740991, 9007199254740990] (by simp) (by simp)
  generalize hG3 : ([4503599627370496, 9007199254740991, 9007199254740990] : List Int) = xs3 at hL3 cc3
  have hN3 : xs3.length = 3 := by rw [← hG3]; rfl
  rw [hL3]
  rw [hN3] at cc3
  refine call_lent false [10000000, 340000000] cc3 (by simp (disch := omega) only [go_sem]) (by simp (disch := omega) only [go_sem]) rfl (lend_two (z := 0) (cs := [.sl l.length (bytesA l), .v (.int .i64 (i2)), .v (.int .i64 (h2))]) (z' := 1) (cs' := ints xs3) (by simp (disch := omega) only [go_sem]) (by simp (disch := omega) only [go_sem]) (by simp (disch := omega) only [go_sem]) (by simp (disch := omega) only [go_sem])) (by intro n hn; simp only [List.mem_cons, List.not_mem_nil, or_false] at hn; rcases hn with rfl | rfl <;> simp [AV.top]) ?_
  rintro r hs bs ⟨rfl, ⟨x, hx, rfl⟩, i3, h3, hi3, rfl⟩ -
  clear cc3 hL3 hx hG3 hN3
  refine ⟨by simp [freeN], ?_⟩
  simp (disch := omega) only [go_sem]
  have hL4 : [AV.v (Value.int IntKind.i64 (971)), AV.v (Value.int IntKind.i64 (970)), AV.v (Value.int IntKind.i64 (0)), AV.v (Value.int IntKind.i64 (-52)), AV.v (Value.int IntKind.i64 (-1000))] = ints ([971, 970, 0, -52, -1000] : List Int) := rfl
  have cc4 := con_l1PickInt l hl i3 h3 hi3 [971, 970, 0, -52, -1000] (by simp) (by simp)
  generalize hG4 : ([971, 970, 0, -52, -1000] : List Int) = xs4 at hL4 cc4
  have hN4 : xs4.length = 5 := by rw [← hG4]; rfl
  rw [hL4]
  rw [hN4] at cc4
  refine call_lent false [10000000, 370000000] cc4 (by simp (disch := omega) only [go_sem]) (by simp (disch := omega) only [go_sem]) rfl (lend_two (z := 0) (cs := [.sl l.length (bytesA l), .v (.int .i64 (i3)), .v (.int .i64 (h3))]) (z' := 1) (cs' := ints xs4) (by simp (disch := omega) only [go_sem]) (by simp (disch := omega) only [go_sem]) (by simp (disch := omega) only [go_sem]) (by simp (disch := omega) only [go_sem])) (by intro n hn; simp only [List.mem_cons, List.not_mem_nil, or_false] at hn; rcases hn with rfl | rfl <;> simp [AV.top]) ?_
  rintro r hs bs ⟨rfl, ⟨y, hy, rfl⟩, i4, h4, hi4, rfl⟩ -
  clear cc4 hL4 hy hG4 hN4
  refine ⟨by simp [freeN], ?_⟩
  simp (disch := omega) only [go_sem]
  refine fin_intro [] [] [.own 0 [.sl l.length (bytesA l), .v (.int .i64 (i4)), .v (.int .i64 (h4))]] [.ag [.v (.int .i64 (1)), .v (.bool (b)), .v (.int .i64 (x)), .v (.int .i64 (y))]] rfl (by simp (disch := omega) only [go_sem]) (by simp (disch := omega) only [go_sem]) (by simp) (by simp) ⟨rfl, ⟨⟨_, _, _, _⟩, rfl⟩, _, _, by omega, rfl⟩
 by_cases c4 : k = 4
 ·simp (disch := omega) only [go_sem, c0, c1, c2, c3, c4]
  refine call_lent false [10000000] (con_l1Below l hl i2 h2 hi2 40 (by omega)) (by simp (disch := omega) only [go_sem]) (by simp (disch := omega) only [go_sem]) rfl (lend_cons (z := 0) (cs := [.sl l.length (bytesA l), .v (.int .i64 (i2)), .v (.int .i64 (h2))]) (by simp (disch := omega) only [go_sem]) (by simp (disch := omega) only [go_sem])) (by intro n hn; exact ⟨_, List.mem_cons_self .., by rw [List.mem_singleton.1 hn]; rfl⟩) ?_
  rintro r hs bs ⟨rfl, ⟨x, hx, rfl⟩, i3, h3, hi3, rfl⟩ -
  refine ⟨by simp [freeN], ?_⟩
  simp (disch := omega) only [go_sem]
  have hx2 := hx.2 (by omega)
  refine call_oI (con_l3of (x - 20) (by omega)) ?_
  simp (disch := omega) only [go_sem]
  refine call_lent false [10000000] (con_l1Below l hl i3 h3 hi3 5 (by omega)) (by simp (disch := omega) only [go_sem]) (by simp (disch := omega) only [go_sem]) rfl (lend_cons (z := 0) (cs := [.sl l.length (bytesA l), .v (.int .i64 (i3)), .v (.int .i64 (h3))]) (by simp (disch := omega) only [go_sem]) (by simp (disch := omega) only [go_sem])) (by intro n hn; exact ⟨_, List.mem_cons_self .., by rw [List.mem_singleton.1 hn]; rfl⟩) ?_
  rintro r hs bs ⟨rfl, ⟨y, hy, rfl⟩, i4, h4, hi4, rfl⟩ -
  refine ⟨by simp [freeN], ?_⟩
  simp (disch := omega) only [go_sem]
  have hy2 := hy.2 (by omega)
  have hb : bl (x - 20).natAbs ≤ 6 := bl_le.2 (by omega)
  refine call_oI (con_l4make (decide (x - 20 < 0)) (x - 20).natAbs (y - 2) (by omega) (by omega)) ?_
  simp (disch := omega) only [go_sem]
  have q4 := bl_mono (oM_le (x - 20).natAbs)
  have q5 := oE_rng (m := (x - 20).natAbs) (e := y - 2) (lo := -2) (hi := 3) (Nat.le_refl _) (by omega) (by omega) (by omega)
  refine call_cI (con_l5round (oS (decide (x - 20 < 0)) (x - 20).natAbs) (oM (x - 20).natAbs) (oE (x - 20).natAbs (y - 2)) 0 false (oM_odd _) (oS_z _ _) (by omega) (by omega) (by omega)) ?_
  simp (disch := omega) only [go_sem]
  generalize flV (oS (decide (x - 20 < 0)) (x - 20).natAbs) (oM (x - 20).natAbs) (oE (x - 20).natAbs (y - 2)) 0 false = V
  refine fin_intro [] [] [.own 0 [.sl l.length (bytesA l), .v (.int .i64 (i4)), .v (.int .i64 (h4))]] [.ag [.v (.int .i64 (V.k)), .v (.bool (V.s)), .v (.int .i64 (V.m)), .v (.int .i64 (V.e))]] rfl (by simp (disch := omega) only [go_sem]) (by simp (disch := omega) only [go_sem]) (by simp) (by simp) ⟨rfl, ⟨V, rfl⟩, _, _, by omega, rfl⟩
 simp (disch := omega) only [go_sem, c0, c1, c2, c3, c4]
 refine call_lent false [10000000] (con_l1Below l hl i2 h2 hi2 1073741824 (by omega)) (by simp (disch := omega) only [go_sem]) (by simp (disch := omega) only [go_sem]) rfl (lend_cons (z := 0) (cs := [.sl l.length (bytesA l), .v (.int .i64 (i2)), .v (.int .i64 (h2))]) (by simp (disch := omega) only [go_sem]) (by simp (disch := omega) only [go_sem])) (by intro n hn; exact ⟨_, List.mem_cons_self .., by rw [List.mem_singleton.1 hn]; rfl⟩) ?_
 rintro r hs bs ⟨rfl, ⟨x, hx, rfl⟩, i3, h3, hi3, rfl⟩ -
 refine ⟨by simp [freeN], ?_⟩
 simp (disch := omega) only [go_sem]
 have hx2 := hx.2 (by omega)
 refine call_lent false [10000000] (con_l1Below l hl i3 h3 hi3 999 (by omega)) (by simp (disch := omega) only [go_sem]) (by simp (disch := omega) only [go_sem]) rfl (lend_cons (z := 0) (cs := [.sl l.length (bytesA l), .v (.int .i64 (i3)), .v (.int .i64 (h3))]) (by simp (disch := omega) only [go_sem]) (by simp (disch := omega) only [go_sem])) (by intro n hn; exact ⟨_, List.mem_cons_self .., by rw [List.mem_singleton.1 hn]; rfl⟩) ?_
 rintro r hs bs ⟨rfl, ⟨y, hy, rfl⟩, i4, h4, hi4, rfl⟩ -
 refine ⟨by simp [freeN], ?_⟩
 simp (disch := omega) only [go_sem]
 have hy2 := hy.2 (by omega)
 refine call_lent false [10000000] (con_l1Once l hl i4 h4 hi4 3 (by omega)) (by simp (disch := omega) only [go_sem]) (by simp (disch := omega) only [go_sem]) rfl (lend_cons (z := 0) (cs := [.sl l.length (bytesA l), .v (.int .i64 (i4)), .v (.int .i64 (h4))]) (by simp (disch := omega) only [go_sem]) (by simp (disch := omega) only [go_sem])) (by intro n hn; exact ⟨_, List.mem_cons_self .., by rw [List.mem_singleton.1 hn]; rfl⟩) ?_
 rintro r hs bs ⟨rfl, ⟨b2, rfl⟩, i5, h5, hi5, rfl⟩ -
 refine ⟨by simp [freeN], ?_⟩
 simp (disch := omega) only [go_sem]
 cases b2
 ·simp (disch := omega) only [go_sem]
  refine call_lent false [10000000] (con_l1Below l hl i5 h5 hi5 40 (by omega)) (by simp (disch := omega) only [go_sem]) (by simp (disch := omega) only [go_sem]) rfl (lend_cons (z := 0) (cs := [.sl l.length (bytesA l), .v (.int .i64 (i5)), .v (.int .i64 (h5))]) (by simp (disch := omega) only [go_sem]) (by simp (disch := omega) only [go_sem])) (by intro n hn; exact ⟨_, List.mem_cons_self .., by rw [List.mem_singleton.1 hn]; rfl⟩) ?_
  rintro r hs bs ⟨rfl, ⟨z, hz, rfl⟩, i6, h6, hi6, rfl⟩ -
  refine ⟨by simp [freeN], ?_⟩
  simp (disch := omega) only [go_sem]
  have hz2 := hz.2 (by omega)
  have hL7 : [AV.v (Value.int IntKind.i64 (-52)), AV.v (Value.int IntKind.i64 (-50)), AV.v (Value.int IntKind.i64 (-55)), AV.v (Value.int IntKind.i64 (-53)), AV.v (Value.int IntKind.i64 (-60)), AV.v (Value.int IntKind.i64 (0)), AV.v (Value.int IntKind.i64 (10)), AV.v (Value.int IntKind.i64 (-600)), AV.v (Value.int IntKind.i64 (500)), AV.v (Value.int IntKind.i64 (-1000)), AV.v (Value.int IntKind.i64 (900)), AV.v (Value.int IntKind.i64 (z - 70))] = ints ([-52, -50, -55, -53, -60, 0, 10, -600, 500, -1000, 900, z - 70] : List Int) := rfl
  have cc7 := con_l1PickInt l hl i6 h6 hi6 [-52, -50, -55, -53, -60, 0, 10, -600, 500, -1000, 900, z - 70] (by simp) (by simp)
  generalize hG7 : ([-52, -50, -55, -53, -60, 0, 10, -600, 500, -1000, 900, z - 70] : List Int) = xs7 at hL7 cc7
  have hN7 : xs7.length = 12 := by rw [← hG7]; rfl
  rw [hL7]
  rw [hN7] at cc7
  refine call_lent false [10000000, 740000000] cc7 (by simp (disch := omega) only [go_sem]) (by simp (disch := omega) only [go_sem]) rfl (lend_two (z := 0) (cs := [.sl l.length (bytesA l), .v (.int .i64 (i6)), .v (.int .i64 (h6))]) (z' := 1) (cs' := ints xs7) (by simp (disch := omega) only [go_sem]) (by simp (disch := omega) only [go_sem]) (by simp (disch := omega) only [go_sem]) (by simp (disch := omega) only [go_sem])) (by intro n hn; simp only [List.mem_cons, List.not_mem_nil, or_false] at hn; rcases hn with rfl | rfl <;> simp [AV.top]) ?_
  rintro r hs bs ⟨rfl, ⟨u, hu, rfl⟩, i7, h7, hi7, rfl⟩ -
  clear cc7 hL7 hu hG7 hN7
  refine ⟨by simp [freeN], ?_⟩
  simp (disch := omega) only [go_sem]
  refine fin_intro [] [] [.own 0 [.sl l.length (bytesA l), .v (.int .i64 (i7)), .v (.int .i64 (h7))]] [.ag [.v (.int .i64 (1)), .v (.bool (b)), .v (.int .i64 (4503599627370496 + x * 4000000 + y)), .v (.int .i64 (u))]] rfl (by simp (disch := omega) only [go_sem]) (by simp (disch := omega) only [go_sem]) (by simp) (by simp) ⟨rfl, ⟨⟨_, _, _, _⟩, rfl⟩, _, _, by omega, rfl⟩
 ·simp (disch := omega) only [go_sem]
  have hL8 : [AV.v (Value.int IntKind.i64 (1)), AV.v (Value.int IntKind.i64 (3)), AV.v (Value.int IntKind.i64 (2251799813685248)), AV.v (Value.int IntKind.i64 (1073741824))] = ints ([1, 3, 2251799813685248, 1073741824] : List Int) := rfl
  have cc8 := con_l1PickInt l hl i5 h5 hi5 [1, 3, 2251799813685248, 1073741824] (by simp) (by simp)
  generalize hG8 : ([1, 3, 2251799813685248, 1073741824] : List Int) = xs8 at hL8 cc8
  have hN8 : xs8.length = 4 := by rw [← hG8]; rfl
  rw [hL8]
  rw [hN8] at cc8
  refine call_lent false [10000000, 650000000] cc8 (by simp (disch := omega) only [go_sem]) (by simp (disch := omega) only [go_sem]) rfl (lend_two (z := 0) (cs := [.sl l.length (bytesA l), .v (.int .i64 (i5)), .v (.int .i64 (h5))]) (z' := 1) (cs' := ints xs8) (by simp (disch := omega) only [go_sem]) (by simp (disch := omega) only [go_sem]) (by simp (disch := omega) only [go_sem]) (by simp (disch := omega) only [go_sem])) (by intro n hn; simp only [List.mem_cons, List.not_mem_nil, or_false] at hn; rcases hn with rfl | rfl <;> simp [AV.top]) ?_
  rintro r hs bs ⟨rfl, ⟨v, hv, rfl⟩, i8, h8, hi8, rfl⟩ -
  have hv_b : 0 ≤ v ∧ v ≤ 2251799813685248 := by
   rw [← hG8] at hv
   simp only [List.mem_cons, List.not_mem_nil, or_false] at hv
   omega
  clear cc8 hL8 hv hG8 hN8
  refine ⟨by simp [freeN], ?_⟩
  simp (disch := omega) only [go_sem]
  refine call_lent false [10000000] (con_l1Below l hl i8 h8 hi8 40 (by omega)) (by simp (disch := omega) only [go_sem]) (by simp (disch := omega) only [go_sem]) rfl (lend_cons (z := 0) (cs := [.sl l.length (bytesA l), .v (.int .i64 (i8)), .v (.int .i64 (h8))]) (by simp (disch := omega) only [go_sem]) (by simp (disch := omega) only [go_sem])) (by intro n hn; exact ⟨_, List.mem_cons_self .., by rw [List.mem_singleton.1 hn]; rfl⟩) ?_
  rintro r hs bs ⟨rfl, ⟨z, hz, rfl⟩, i6, h6, hi6, rfl⟩ -
  refine ⟨by simp [freeN], ?_⟩
  simp (disch := omega) only [go_sem]
  have hz2 := hz.2 (by omega)
  have hL7 : [AV.v (Value.int IntKind.i64 (-52)), AV.v (Value.int IntKind.i64 (-50)), AV.v (Value.int IntKind.i64 (-55)), AV.v (Value.int IntKind.i64 (-53)), AV.v (Value.int IntKind.i64 (-60)), AV.v (Value.int IntKind.i64 (0)), AV.v (Value.int IntKind.i64 (10)), AV.v (Value.int IntKind.i64 (-600)), AV.v (Value.int IntKind.i64 (500)), AV.v (Value.int IntKind.i64 (-1000)), AV.v (Value.int IntKind.i64 (900)), AV.v (Value.int IntKind.i64 (z - 70))] = ints ([-52, -50, -55, -53, -60, 0, 10, -600, 500, -1000, 900, z - 70] : List Int) := rfl
  have cc7 := con_l1PickInt l hl i6 h6 hi6 [-52, -50, -55, -53, -60, 0, 10, -600, 500, -1000, 900, z - 70] (by simp) (by simp)
  generalize hG7 : ([-52, -50, -55, -53, -60, 0, 10, -600, 500, -1000, 900, z - 70] : List Int) = xs7 at hL7 cc7
  have hN7 : xs7.length = 12 := by rw [← hG7]; rfl
  rw [hL7]
  rw [hN7] at cc7
  refine call_lent false [10000000, 740000000] cc7 (by simp (disch := omega) only [go_sem]) (by simp (disch := omega) only [go_sem]) rfl (lend_two (z := 0) (cs := [.sl l.length (bytesA l), .v (.int .i64 (i6)), .v (.int .i64 (h6))]) (z' := 1) (cs' := ints xs7) (by simp (disch := omega) only [go_sem]) (by simp (disch := omega) only [go_sem]) (by simp (disch := omega) only [go_sem]) (by simp (disch := omega) only [go_sem])) (by intro n hn; simp only [List.mem_cons, List.not_mem_nil, or_false] at hn; rcases hn with rfl | rfl <;> simp [AV.top]) ?_
  rintro r hs bs ⟨rfl, ⟨u, hu, rfl⟩, i7, h7, hi7, rfl⟩ -
  clear cc7 hL7 hu hG7 hN7
  refine ⟨by simp [freeN], ?_⟩
  simp (disch := omega) only [go_sem]
  refine fin_intro [] [] [.own 0 [.sl l.length (bytesA l), .v (.int .i64 (i7)), .v (.int .i64 (h7))]] [.ag [.v (.int .i64 (1)), .v (.bool (b)), .v (.int .i64 (4503599627370496 + v)), .v (.int .i64 (u))]] rfl (by simp (disch := omega) only [go_sem]) (by simp (disch := omega) only [go_sem]) (by simp) (by simp) ⟨rfl, ⟨⟨_, _, _, _⟩, rfl⟩, _, _, by omega, rfl⟩
theorem con_l5bent : Con Tryz.prog 115 false [.pt 10000000 0] [.own 0 [.sl l.length (bytesA l), .v (.int .i64 i), .v (.int .i64 h)]] (curR l fun r => ∃ x : FlV, r = .ag x.cs) := by
 refine Con.of_aw Tryz.func115 rfl Tryz.ntmps115 (by simp) (by simp) (by simp) (W.sound ?_)
 show @W Tryz.prog 33 ⟨_⟩ ⟨fun x σ => @retW _ _ _ ⟨_⟩ _ ⟨_⟩ x σ⟩ _ _
 simp (disch := omega) only [go_sem]
 refine call_lent false [10000000] (con_l5draw l hl i h hi) (by simp (disch := omega) only [go_sem]) (by simp (disch := omega) only [go_sem]) rfl (lend_cons (z := 0) (cs := [.sl l.length (bytesA l), .v (.int .i64 (i)), .v (.int .i64 (h))]) (by simp (disch := omega) only [go_sem]) (by simp (disch := omega) only [go_sem])) (by intro n hn; exact ⟨_, List.mem_cons_self .., by rw [List.mem_singleton.1 hn]; rfl⟩) ?_
 rintro r hs bs ⟨rfl, ⟨V, rfl⟩, i1, h1, hi1, rfl⟩ -
 refine ⟨by simp [freeN], ?_⟩
 simp (disch := omega) only [go_sem]
 unfold FlV.cs
 simp (disch := omega) only [go_sem]
 refine call_lent false [10000000] (con_l1Once l hl i1 h1 hi1 12 (by omega)) (by simp (disch := omega) only [go_sem]) (by simp (disch := omega) only [go_sem]) rfl (lend_cons (z := 0) (cs := [.sl l.length (bytesA l), .v (.int .i64 (i1)), .v (.int .i64 (h1))]) (by simp (disch := omega) only [go_sem]) (by simp (disch := omega) only [go_sem])) (by intro n hn; exact ⟨_, List.mem_cons_self .., by rw [List.mem_singleton.1 hn]; rfl⟩) ?_
 rintro r hs bs ⟨rfl, ⟨b, rfl⟩, i2, h2, hi2, rfl⟩ -
 refine ⟨by simp [freeN], ?_⟩
 simp (disch := omega) only [go_sem]
 cases b
 ·simp (disch := omega) only [go_sem]
  refine fin_intro [] [] [.own 0 [.sl l.length (bytesA l), .v (.int .i64 (i2)), .v (.int .i64 (h2))]] [.ag [.v (.int .i64 (V.k)), .v (.bool (V.s)), .v (.int .i64 (V.m)), .v (.int .i64 (V.e))]] rfl (by simp (disch := omega) only [go_sem]) (by simp (disch := omega) only [go_sem]) (by simp) (by simp) ⟨rfl, ⟨V, rfl⟩, _, _, by omega, rfl⟩
 ·simp (disch := omega) only [go_sem]
  refine call_lent false [10000000] (con_l1Below l hl i2 h2 hi2 4 (by omega)) (by simp (disch := omega) only [go_sem]) (by simp (disch := omega) only [go_sem]) rfl (lend_cons (z := 0) (cs := [.sl l.length (bytesA l), .v (.int .i64 (i2)), .v (.int .i64 (h2))]) (by simp (disch := omega) only [go_sem]) (by simp (disch := omega) only [go_sem])) (by intro n hn; exact ⟨_, List.mem_cons_self .., by rw [List.mem_singleton.1 hn]; rfl⟩) ?_
  rintro r hs bs ⟨rfl, ⟨k, hk, rfl⟩, i3, h3, hi3, rfl⟩ -
  refine ⟨by simp [freeN], ?_⟩
  simp (disch := omega) only [go_sem]
  by_cases c0 : k = 0
  ·simp (disch := omega) only [go_sem, c0]
   refine call_lent false [10000000] (con_l1Below l hl i3 h3 hi3 6 (by omega)) (by simp (disch := omega) only [go_sem]) (by simp (disch := omega) only [go_sem]) rfl (lend_cons (z := 0) (cs := [.sl l.length (bytesA l), .v (.int .i64 (i3)), .v (.int .i64 (h3))]) (by simp (disch := omega) only [go_sem]) (by simp (disch := omega) only [go_sem])) (by intro n hn; exact ⟨_, List.mem_cons_self .., by rw [List.mem_singleton.1 hn]; rfl⟩) ?_
   rintro r hs bs ⟨rfl, ⟨x, hx, rfl⟩, i4, h4, hi4, rfl⟩ -
   refine ⟨by simp [freeN], ?_⟩
   simp (disch := omega) only [go_sem]
   have hx2 := hx.2 (by omega)
   refine fin_intro [] [] [.own 0 [.sl l.length (bytesA l), .v (.int .i64 (i4)), .v (.int .i64 (h4))]] [.ag [.v (.int .i64 (x - 1)), .v (.bool (V.s)), .v (.int .i64 (V.m)), .v (.int .i64 (V.e))]] rfl (by simp (disch := omega) only [go_sem]) (by simp (disch := omega) only [go_sem]) (by simp) (by simp) ⟨rfl, ⟨⟨x - 1, V.s, V.m, V.e⟩, rfl⟩, _, _, by omega, rfl⟩
  by_cases c1 : k = 1
  ·simp (disch := omega) only [go_sem, c0, c1]
   have hL4 : [AV.v (Value.int IntKind.i64 (0)), AV.v (Value.int IntKind.i64 (-1)), AV.v (Value.int IntKind.i64 (1)), AV.v (Value.int IntKind.i64 (9007199254740992))] = ints ([0, -1, 1, 9007199254740992] : List Int) := rfl
   have cc4 := con_l1PickInt l hl i3 h3 hi3 [0, -1, 1, 9007199254740992] (by simp) (by simp)
   generalize hG4 : ([0, -1, 1, 9007199254740992] : List Int) = xs4 at hL4 cc4
   have hN4 : xs4.length = 4 := by rw [← hG4]; rfl
   rw [hL4]
   rw [hN4] at cc4
   refine call_lent false [10000000, 250000000] cc4 (by simp (disch := omega) only [go_sem]) (by simp (disch := omega) only [go_sem]) rfl (lend_two (z := 0) (cs := [.sl l.length (bytesA l), .v (.int .i64 (i3)), .v (.int .i64 (h3))]) (z' := 1) (cs' := ints xs4) (by simp (disch := omega) only [go_sem]) (by simp (disch := omega) only [go_sem]) (by simp (disch := omega) only [go_sem]) (by simp (disch := omega) only [go_sem])) (by intro n hn; simp only [List.mem_cons, List.not_mem_nil, or_false] at hn; rcases hn with rfl | rfl <;> simp [AV.top]) ?_
   rintro r hs bs ⟨rfl, ⟨x, hx, rfl⟩, i4, h4, hi4, rfl⟩ -
   clear cc4 hL4 hx hG4 hN4
   refine ⟨by simp [freeN], ?_⟩
   simp (disch := omega) only [go_sem]
   refine fin_intro [] [] [.own 0 [.sl l.length (bytesA l), .v (.int .i64 (i4)), .v (.int .i64 (h4))]] [.ag [.v (.int .i64 (V.k)), .v (.bool (V.s)), .v (.int .i64 (x)), .v (.int .i64 (V.e))]] rfl (by simp (disch := omega) only [go_sem]) (by simp (disch := omega) only [go_sem]) (by simp) (by simp) ⟨rfl, ⟨⟨V.k, V.s, x, V.e⟩, rfl⟩, _, _, by omega, rfl⟩
  by_cases c2 : k = 2
  ·simp (disch := omega) only [go_sem, c0, c1, c2]
   have hL4 : [AV.v (Value.int IntKind.i64 (-1075)), AV.v (Value.int IntKind.i64 (972)), AV.v (Value.int IntKind.i64 (0))] = ints ([-1075, 972, 0] : List Int) := rfl
   have cc4 := con_l1PickInt l hl i3 h3 hi3 [-1075, 972, 0] (by simp) (by simp)
   generalize hG4 : ([-1075, 972, 0] : List Int) = xs4 at hL4 cc4
   have hN4 : xs4.length = 3 := by rw [← hG4]; rfl
   rw [hL4]
   rw [hN4] at cc4
   refine call_lent false [10000000, 310000000] cc4 (by simp (disch := omega) only [go_sem]) (by simp (disch := omega) only [go_sem]) rfl (lend_two (z := 0) (cs := [.sl l.length (bytesA l), .v (.int .i64 (i3)), .v (.int .i64 (h3))]) (z' := 1) (cs' := ints xs4) (by simp (disch := omega) only [go_sem]) (by simp (disch := omega) only [go_sem]) (by simp (disch := omega) only [go_sem]) (by simp (disch := omega) only [go_sem])) (by intro n hn; simp only [List.mem_cons, List.not_mem_nil, or_false] at hn; rcases hn with rfl | rfl <;> simp [AV.top]) ?_
   rintro r hs bs ⟨rfl, ⟨x, hx, rfl⟩, i4, h4, hi4, rfl⟩ -
   clear cc4 hL4 hx hG4 hN4
   refine ⟨by simp [freeN], ?_⟩
   simp (disch := omega) only [go_sem]
   refine fin_intro [] [] [.own 0 [.sl l.length (bytesA l), .v (.int .i64 (i4)), .v (.int .i64 (h4))]] [.ag [.v (.int .i64 (V.k)), .v (.bool (V.s)), .v (.int .i64 (V.m)), .v (.int .i64 (x))]] rfl (by simp (disch := omega) only [go_sem]) (by simp (disch := omega) only [go_sem]) (by simp) (by simp) ⟨rfl, ⟨⟨V.k, V.s, V.m, x⟩, rfl⟩, _, _, by omega, rfl⟩
  ·simp (disch := omega) only [go_sem, c0, c1, c2]
   refine fin_intro [] [] [.own 0 [.sl l.length (bytesA l), .v (.int .i64 (i3)), .v (.int .i64 (h3))]] [.ag [.v (.int .i64 (V.k)), .v (.bool (!V.s)), .v (.int .i64 (V.m)), .v (.int .i64 (V.e))]] rfl (by simp (disch := omega) only [go_sem]) (by simp (disch := omega) only [go_sem]) (by simp) (by simp) ⟨rfl, ⟨⟨V.k, !V.s, V.m, V.e⟩, rfl⟩, _, _, by omega, rfl⟩
end
end Go.Ab
namespace Go.Ab
open Go
set_option linter.unusedVariables false
set_option linter.unusedSimpArgs false
end Go.Ab
namespace Go.Ab
open Go Go.Proofs
set_option linter.unusedVariables false
set_option linter.unusedSimpArgs false
end Go.Ab
namespace Go.Ab
open Go Go.Proofs
set_option linter.unusedVariables false
set_option linter.unusedSimpArgs false
end Go.Ab
namespace Go.Ab
open Go Go.Proofs
set_option linter.unusedVariables false
set_option linter.unusedSimpArgs false
end Go.Ab
namespace Go.Ab
open Go Go.Proofs
set_option linter.unusedVariables false
set_option linter.unusedSimpArgs false
theorem con_l5neg (k : Int) (s : Bool) (m e : Int) : Con Tryz.prog 197 true [.ag [.v (.int .i64 (k)), .v (.bool (s)), .v (.int .i64 (m)), .v (.int .i64 (e))]] [] (isA (.ag [.v (.int .i64 (k)), .v (.bool (ngS k s)), .v (.int .i64 (m)), .v (.int .i64 (e))])) := by
 refine Con.of_w (rs := [.cell 2 63]) Tryz.func197 rfl Tryz.ntmps197 rfl ?_
 simp (disch := omega) only [go_sem]
 refine ifW_not (fun h => ?_) (fun h => ?_)
 ·simp (disch := omega) only [go_sem, h]
  unfold ngS
  rw [if_neg h]
  exact fin_cI
 ·subst h
  simp (disch := omega) only [go_sem]
  exact fin_cI
end Go.Ab
namespace Go.Ab
open Go Go.Proofs
set_option linter.unusedVariables false
set_option linter.unusedSimpArgs false
section
variable (l : List UInt8) (hl : l.length ≤ 9223372036854775807) (i h : Int) (hi : 0 ≤ i ∧ i ≤ l.length)
include hl hi
theorem con_l5pair : Con Tryz.prog 120 false [.pt 10000000 0] [.own 0 [.sl l.length (bytesA l), .v (.int .i64 i), .v (.int .i64 h)]] (curR l fun r => ∃ x y : FlV, r = .tu [.ag x.cs, .ag y.cs]) := by
 refine Con.of_aw Tryz.func120 rfl Tryz.ntmps120 (by simp) (by simp) (by simp) (W.sound ?_)
 show @W Tryz.prog 16 ⟨_⟩ ⟨fun x σ => @retW _ _ _ ⟨_⟩ _ ⟨_⟩ x σ⟩ _ _
 simp (disch := omega) only [go_sem]
 refine call_lent false [10000000] (con_l5bent l hl i h hi) (by simp (disch := omega) only [go_sem]) (by simp (disch := omega) only [go_sem]) rfl (lend_cons (z := 0) (cs := [.sl l.length (bytesA l), .v (.int .i64 (i)), .v (.int .i64 (h))]) (by simp (disch := omega) only [go_sem]) (by simp (disch := omega) only [go_sem])) (by intro n hn; exact ⟨_, List.mem_cons_self .., by rw [List.mem_singleton.1 hn]; rfl⟩) ?_
 rintro r hs bs ⟨rfl, ⟨V, rfl⟩, i1, h1, hi1, rfl⟩ -
 refine ⟨by simp [freeN], ?_⟩
 simp (disch := omega) only [go_sem]
 unfold FlV.cs
 simp (disch := omega) only [go_sem]
 refine call_lent false [10000000] (con_l1Once l hl i1 h1 hi1 4 (by omega)) (by simp (disch := omega) only [go_sem]) (by simp (disch := omega) only [go_sem]) rfl (lend_cons (z := 0) (cs := [.sl l.length (bytesA l), .v (.int .i64 (i1)), .v (.int .i64 (h1))]) (by simp (disch := omega) only [go_sem]) (by simp (disch := omega) only [go_sem])) (by intro n hn; exact ⟨_, List.mem_cons_self .., by rw [List.mem_singleton.1 hn]; rfl⟩) ?_
 rintro r hs bs ⟨rfl, ⟨b, rfl⟩, i2, h2, hi2, rfl⟩ -
 refine ⟨by simp [freeN], ?_⟩
 simp (disch := omega) only [go_sem]
 cases b
 ·simp (disch := omega) only [go_sem]
  refine draw_of rfl [⟨0, [], []⟩, ⟨1, [0], []⟩, ⟨2, [0], []⟩, ⟨3, [], []⟩, ⟨4, [], []⟩] (by kernel_rfl) ?_
  simp (disch := omega) only [go_sem]
  refine call_lent false [10000000] (con_l5bent l hl i2 h2 hi2) (by simp (disch := omega) only [go_sem]) (by simp (disch := omega) only [go_sem]) rfl (lend_cons (z := 0) (cs := [.sl l.length (bytesA l), .v (.int .i64 (i2)), .v (.int .i64 (h2))]) (by simp (disch := omega) only [go_sem]) (by simp (disch := omega) only [go_sem])) (by intro n hn; exact ⟨_, List.mem_cons_self .., by rw [List.mem_singleton.1 hn]; rfl⟩) ?_
  rintro r hs bs ⟨rfl, ⟨U, rfl⟩, i3, h3, hi3, rfl⟩ -
  refine ⟨by simp [freeN], ?_⟩
  simp (disch := omega) only [go_sem]
  unfold FlV.cs
  simp (disch := omega) only [go_sem]
  refine fin_intro [] [] [.own 0 [.sl l.length (bytesA l), .v (.int .i64 (i3)), .v (.int .i64 (h3))]] [.ag [.v (.int .i64 (V.k)), .v (.bool (V.s)), .v (.int .i64 (V.m)), .v (.int .i64 (V.e))], .ag [.v (.int .i64 (U.k)), .v (.bool (U.s)), .v (.int .i64 (U.m)), .v (.int .i64 (U.e))]] rfl (by simp (disch := omega) only [go_sem]) (by simp (disch := omega) only [go_sem]) (by simp) (by simp) ⟨rfl, ⟨V, U, rfl⟩, _, _, by omega, rfl⟩
 ·simp (disch := omega) only [go_sem]
  refine draw_of rfl [⟨0, [], []⟩, ⟨1, [0], []⟩, ⟨2, [0], []⟩, ⟨3, [0], []⟩, ⟨4, [], []⟩, ⟨5, [], []⟩] (by kernel_rfl) ?_
  simp (disch := omega) only [go_sem]
  refine call_closed (con_FlNextE V.k V.s V.m V.e) (by simp (disch := omega) only [go_sem]) ?_
  rintro r hs ⟨rfl, -, ⟨U, rfl⟩⟩
  refine ⟨by simp [freeN], ?_⟩
  unfold FlV.cs
  simp (disch := omega) only [go_sem]
  refine call_cI (con_l5neg U.k U.s U.m U.e) ?_
  simp (disch := omega) only [go_sem]
  refine fin_intro [] [] [.own 0 [.sl l.length (bytesA l), .v (.int .i64 (i2)), .v (.int .i64 (h2))]] [.ag [.v (.int .i64 (V.k)), .v (.bool (V.s)), .v (.int .i64 (V.m)), .v (.int .i64 (V.e))], .ag [.v (.int .i64 (U.k)), .v (.bool (ngS U.k U.s)), .v (.int .i64 (U.m)), .v (.int .i64 (U.e))]] rfl (by simp (disch := omega) only [go_sem]) (by simp (disch := omega) only [go_sem]) (by simp) (by simp) ⟨rfl, ⟨V, ⟨U.k, ngS U.k U.s, U.m, U.e⟩, rfl⟩, _, _, by omega, rfl⟩
end
theorem con_l1New (l : List UInt8) (hl : l.length ≤ 9223372036854775807) : Con Tryz.prog 56 false [.sl l.length (bytesA l)] [] (fun r hs bs => r = .pt 0 0 ∧ bs = [] ∧ ∃ h : Int, hs = [.own 0 [.sl l.length (bytesA l), .v (.int .i64 0), .v (.int .i64 h)]]) := by
 refine Con.of_aw Tryz.func56 rfl Tryz.ntmps56 (by simp) (by simp) (by simp) (W.sound ?_)
 show @W Tryz.prog 32 ⟨_⟩ ⟨fun x σ => @retW _ _ _ ⟨_⟩ _ ⟨_⟩ x σ⟩ _ _
 simp (disch := omega) only [go_sem]
 refine loop_intro (fun x : Nat × Int => [(0, .sl l.length (bytesA l)), (3, .v (.int .i64 x.2)), (4, .v (.int .i64 x.1))]) (fun _ => []) (fun x => x.1 ≤ l.length) (fun x => l.length - x.1) (0, IntKind.i64.wrap (38282 + l.length)) (by simp)
  (Le.lst [] _ _ rfl (by simp (disch := omega) only [go_sem]) (by simp (disch := omega) only [go_sem])) ?_
 rintro ⟨i, h⟩ hi
 dsimp only at hi ⊢
 have hfin : ∀ l' : List AV, l' = [.pt 0 0] → (fun r hs bs => r = .pt 0 0 ∧ bs = [] ∧ ∃ h : Int, hs = [.own 0 [.sl l.length (bytesA l), .v (.int .i64 0), .v (.int .i64 h)]] : AV → List Ob → List Ob → Prop) (tupA l') [.own 0 [.sl l.length (bytesA l), .v (.int .i64 0), .v (.int .i64 h)]] [] := fun l' e => by subst e; exact ⟨rfl, rfl, h, rfl⟩
 by_cases h1 : (i : Int) < l.length
 ·by_cases h2 : (i : Int) < 4000
  ·simp (disch := omega) only [go_sem, h1, h2]
   generalize IntKind.i64.wrap (IntKind.i64.wrap (IntKind.i64.wrap (h * 131) + IntKind.i64.wrap ((l.getD i 0).toNat : Int)) + 7) % 1073741824 = h'
   exact ⟨⟨by omega, by omega⟩, by omega, next_intro (i + 1, h') [] (by show i + 1 ≤ _; omega) (by show l.length - (i + 1) < l.length - i; omega) rfl (by simp (disch := omega) only [go_sem]; try omega) (by simp (disch := omega) only [go_sem])⟩
  ·simp (disch := omega) only [go_sem, h1, h2]
   refine fin_intro [(0, 330000000)] [.own 0 [.sl l.length (bytesA l), .v (.int .i64 0), .v (.int .i64 h)]] [] [.pt 0 0] rfl (by simp (disch := omega) only [go_sem]) (by simp (disch := omega) only [go_sem]) (by simp) (by simp) (hfin _ rfl)
 ·simp (disch := omega) only [go_sem, h1]
  refine fin_intro [(0, 330000000)] [.own 0 [.sl l.length (bytesA l), .v (.int .i64 0), .v (.int .i64 h)]] [] [.pt 0 0] rfl (by simp (disch := omega) only [go_sem]) (by simp (disch := omega) only [go_sem]) (by simp) (by simp) (hfin _ rfl)
theorem con_DrawFlAdd (l : List UInt8) (hl : l.length ≤ 9223372036854775807) : Con Tryz.prog 45 false [.sl l.length (bytesA l)] [] (fun r hs bs => hs = [] ∧ bs = [] ∧ ∃ (x y : FlV) (m : Int), r = .tu [.ag x.cs, .ag y.cs, .v (.int .i64 m)]) := by
 refine Con.of_aw Tryz.func45 rfl Tryz.ntmps45 (by simp) (by simp) (by simp) (W.sound ?_)
 show @W Tryz.prog 19 ⟨_⟩ ⟨fun x σ => @retW _ _ _ ⟨_⟩ _ ⟨_⟩ x σ⟩ _ _
 simp (disch := omega) only [go_sem]
 refine call_open (con_l1New l hl) (by simp (disch := omega) only [go_sem]) ?_
 rintro r hs ⟨rfl, -, ⟨h, rfl⟩⟩
 refine ⟨by simp (disch := omega) only [go_sem], ?_⟩
 simp (disch := omega) only [go_sem]
 refine call_lent false [110000000] (con_l5pair l hl 0 h (by omega)) (by simp (disch := omega) only [go_sem]) (by simp (disch := omega) only [go_sem]) rfl (lend_cons (z := 0) (cs := [.sl l.length (bytesA l), .v (.int .i64 (0)), .v (.int .i64 (h))]) (by simp (disch := omega) only [go_sem]) (by simp (disch := omega) only [go_sem])) (by intro n hn; exact ⟨_, List.mem_cons_self .., by rw [List.mem_singleton.1 hn]; rfl⟩) ?_
 rintro r hs bs ⟨rfl, ⟨V, U, rfl⟩, i1, h1, hi1, rfl⟩ -
 refine ⟨by simp [freeN], ?_⟩
 simp (disch := omega) only [go_sem]
 unfold FlV.cs
 simp (disch := omega) only [go_sem]
 refine draw_of rfl [⟨0, [], []⟩, ⟨1, [0], []⟩, ⟨2, [0, 1], []⟩, ⟨3, [0, 1], []⟩, ⟨4, [1], []⟩, ⟨5, [], []⟩, ⟨6, [], []⟩] (by kernel_rfl) ?_
 simp (disch := omega) only [go_sem]
 refine call_lent false [110000000] (con_l4drawMode l hl i1 h1 hi1) (by simp (disch := omega) only [go_sem]) (by simp (disch := omega) only [go_sem]) rfl (lend_cons (z := 0) (cs := [.sl l.length (bytesA l), .v (.int .i64 (i1)), .v (.int .i64 (h1))]) (by simp (disch := omega) only [go_sem]) (by simp (disch := omega) only [go_sem])) (by intro n hn; exact ⟨_, List.mem_cons_self .., by rw [List.mem_singleton.1 hn]; rfl⟩) ?_
 rintro r hs bs ⟨rfl, ⟨m, rfl⟩, i2, h2, hi2, rfl⟩ -
 refine ⟨by simp [freeN], ?_⟩
 simp (disch := omega) only [go_sem]
 exact fin_val (by simp (disch := omega) only [go_sem]) ⟨rfl, rfl, V, U, m, rfl⟩
end Go.Ab
namespace Go.Ab
open Go Go.Proofs
set_option linter.unusedVariables false
set_option linter.unusedSimpArgs false
theorem fle_run (w : World) (k m e k' m' e' : Int) (s s' : Bool) : (Op.equal 63 (.agg #[.int .i64 k, .bool s, .int .i64 m, .int .i64 e]) (.agg #[.int .i64 k', .bool s', .int .i64 m', .int .i64 e'])).run Tryz.prog w = .ok (flEq k s m e k' s' m' e') w := by
 have hf : Tryz.prog.fieldsOf 63 = #[{ name := "Kind", type := 3, offset := 0, embedded := false, tag := "", pkgPath := "", byteOffset := 0 }, { name := "Neg", type := 4, offset := 1, embedded := false, tag := "", pkgPath := "", byteOffset := 8 }, { name := "M", type := 3, offset := 2, embedded := false, tag := "", pkgPath := "", byteOffset := 16 }, { name := "E", type := 3, offset := 3, embedded := false, tag := "", pkgPath := "", byteOffset := 24 }] := by unfold Program.fieldsOf; rw [Tryz.underlying63]
 have h0 : Tryz.prog.underlying 63 = some (.struct (Tryz.prog.fieldsOf 63)) := by unfold Program.fieldsOf; rw [Tryz.underlying63]
 have hp : Tryz.prog.stoodInHeld 63 = false := by kernel_rfl
 have i3 : ∀ a b : Int, (Op.equalIn 9999 3 (.int .i64 a) (.int .i64 b)).run Tryz.prog w = .ok (a == b) w := fun a b => run_equalIn_int w 9998 _ .i64 .i64 a b Tryz.underlying3
 have i4 : ∀ a b : Bool, (Op.equalIn 9999 4 (.bool a) (.bool b)).run Tryz.prog w = .ok (a == b) w := fun a b => run_equalIn_bool' w 9998 _ a b Tryz.underlying4
 have p3 : ∀ (xs : Array Value) (o : Nat) (v : Value), xs[o]? = some v → (part 3 xs o).run Tryz.prog w = .ok v w := fun xs o v h => by
  unfold part
  simp only [Sem.run_bind, run_isAgg tf3, Result.andThen, h, ti3_agg, Bool.false_eq_true, if_false, Sem.run_pure]
 have p4 : ∀ (xs : Array Value) (o : Nat) (v : Value), xs[o]? = some v → (part 4 xs o).run Tryz.prog w = .ok v w := fun xs o v h => by
  unfold part
  simp only [Sem.run_bind, run_isAgg tf4, Result.andThen, h, ti4_agg, Bool.false_eq_true, if_false, Sem.run_pure]
 have q0 : ∀ a b c d : Value, (part 3 #[a, b, c, d] 0).run Tryz.prog w = .ok a w := fun a b c d => p3 _ 0 a rfl
 have q1 : ∀ a b c d : Value, (part 4 #[a, b, c, d] 1).run Tryz.prog w = .ok b w := fun a b c d => p4 _ 1 b rfl
 have q2 : ∀ a b c d : Value, (part 3 #[a, b, c, d] 2).run Tryz.prog w = .ok c w := fun a b c d => p3 _ 2 c rfl
 have q3 : ∀ a b c d : Value, (part 3 #[a, b, c, d] 3).run Tryz.prog w = .ok d w := fun a b c d => p3 _ 3 d rfl
 show (Op.equalIn (9999 + 1) _ _ _).run _ _ = _
 rw [run_equalIn_struct w 9999 _ _ _ h0 hp, hf]
 have n1 : ("Kind" ≠ "_") = True := by simp
 have n2 : ("Neg" ≠ "_") = True := by simp
 have n3 : ("M" ≠ "_") = True := by simp
 have n4 : ("E" ≠ "_") = True := by simp
 simp only [Op.eqFields, n1, n2, n3, n4, if_true, Sem.run_bind, q0, Result.andThen, i3]
 unfold flEq
 have q : ∀ a b : Int, (a == b) = decide (a = b) := fun a b => by rfl
 rw [q]
 cases decide (k = k')
 ·simp only [Bool.not_false, if_true, Sem.run_pure, Bool.false_and]
 simp only [Bool.not_true, Bool.false_eq_true, if_false, Sem.run_bind, q1, Result.andThen, i4]
 cases (s == s')
 ·simp only [Bool.not_false, if_true, Sem.run_pure, Bool.false_and, Bool.and_false]
 simp only [Bool.not_true, Bool.false_eq_true, if_false, Sem.run_bind, q2, Result.andThen, i3]
 rw [q]
 cases decide (m = m')
 ·simp only [Bool.not_false, if_true, Sem.run_pure, Bool.false_and, Bool.and_false]
 simp only [Bool.not_true, Bool.false_eq_true, if_false, Sem.run_bind, q3, Result.andThen, i3]
 rw [q]
 cases decide (e = e') <;> rfl
instance : FlE Tryz.prog 63 := ⟨fle_run, by kernel_rfl⟩
end Go.Ab
namespace Go.Ab
open Go Go.Proofs
set_option linter.unusedVariables false
set_option linter.unusedSimpArgs false
theorem con_DrawFlDiv (l : List UInt8) (hl : l.length ≤ 9223372036854775807) : Con Tryz.prog 39 false [.sl l.length (bytesA l)] [] (fun r hs bs => hs = [] ∧ bs = [] ∧ ∃ (x y : FlV) (m : Int), r = .tu [.ag x.cs, .ag y.cs, .v (.int .i64 m)]) := by
 refine Con.of_aw Tryz.func39 rfl Tryz.ntmps39 (by simp) (by simp) (by simp) (W.sound ?_)
 show @W Tryz.prog 10 ⟨_⟩ ⟨fun x σ => @retW _ _ _ ⟨_⟩ _ ⟨_⟩ x σ⟩ _ _
 simp (disch := omega) only [go_sem]
 refine call_open (con_DrawFlAdd l hl) (by simp (disch := omega) only [go_sem]) ?_
 rintro r hs ⟨rfl, -, ⟨V, U, m, rfl⟩⟩
 refine ⟨by simp (disch := omega) only [go_sem], ?_⟩
 unfold FlV.cs
 simp (disch := omega) only [go_sem]
 exact fin_val (by simp (disch := omega) only [go_sem]) ⟨rfl, rfl, V, U, m, rfl⟩
def dvF (V U : FlV) (m : Int) : FlV := if (modeB m && (flB V.k V.s V.m V.e && flB U.k U.s U.m U.e)) = true then dvV V.k V.s V.m V.e U.k U.s U.m U.e m else ⟨3, false, 0, 0⟩
def dvFG (V U : FlV) (m : Int) : Int := if (modeB m && (flB V.k V.s V.m V.e && flB U.k U.s U.m U.e)) = true then dvG V.k V.s V.m V.e U.k U.s U.m U.e m else 16
theorem con_FlDivF (V U : FlV) (m : Int) : Con Tryz.prog 40 true [.ag [.v (.int .i64 (V.k)), .v (.bool (V.s)), .v (.int .i64 (V.m)), .v (.int .i64 (V.e))], .ag [.v (.int .i64 (U.k)), .v (.bool (U.s)), .v (.int .i64 (U.m)), .v (.int .i64 (U.e))], .v (.int .i64 m)] [] (isA (.tu [.ag [.v (.int .i64 ((dvF V U m).k)), .v (.bool ((dvF V U m).s)), .v (.int .i64 ((dvF V U m).m)), .v (.int .i64 ((dvF V U m).e))], .v (.int .i64 (dvFG V U m))])) := by
 have c := con_FlDiv V.k V.s V.m V.e U.k U.s U.m U.e m
 unfold dvF dvFG
 by_cases h : (modeB m && (flB V.k V.s V.m V.e && flB U.k U.s U.m U.e)) = true
 ·rw [if_pos h] at c; rw [if_pos h, if_pos h]; exact c
 ·rw [if_neg h] at c; rw [if_neg h, if_neg h]; exact c
theorem dvF_ok (V U : FlV) (m : Int) : flB (dvF V U m).k (dvF V U m).s (dvF V U m).m (dvF V U m).e = true := by
 unfold dvF
 split
 ·rename_i h
  simp only [Bool.and_eq_true] at h
  exact dv_ok h.2.1 h.2.2
 ·decide
theorem flEq_selfD (k : Int) (s : Bool) (m e : Int) : flEq k s m e k s m e = true := by unfold flEq; simp
def flX (F : FlV) : ExV := if isN F = true then flD F else ex0
theorem con_flX (F : FlV) (h : flB F.k F.s F.m F.e = true) : Con Tryz.prog 41 false [.ag [.v (.int .i64 (F.k)), .v (.bool (F.s)), .v (.int .i64 (F.m)), .v (.int .i64 (F.e))]] [] (isA (.tu [.ag [.v (.bool (flX F).s), .sl (lim (flX F).m).length (ints (lim (flX F).m)), .v (.int .i64 (flX F).e)], .v (.bool (isN F))])) := by
 unfold flX
 cases hk : isN F
 ·rw [if_neg (by simp)]
  exact con_flDno F (by rw [h]; exact hk)
 ·rw [if_pos rfl]
  exact con_flD F h hk
theorem flX_n {F : FlV} (h : isN F = true) : flX F = flD F := if_pos h
theorem tm_cmp {a b x : ExV} (ha : -1074 ≤ a.e) (hb : -1074 ≤ b.e) (hx : -1074 ≤ x.e) (hf : (a.times b).fit = true) : ∃ P : Int, 0 < P ∧ (a.times b).tel.val 3000 = a.val 1074 * b.val 1074 * P ∧ x.val 3000 = x.val 1074 * 2 ^ 1074 * P := by
 have he : -2148 ≤ (a.times b).e := by show -2148 ≤ a.e + b.e; omega
 refine ⟨2 ^ 852, Int.pow_pos (by omega), ?_, ?_⟩
 ·rw [tel_fit hf, can_val (by omega), show (3000 : Nat) = 2148 + 852 from rfl, val_up (K := 2148) he]
  exact congrArg (· * _) (times_val (K := 1074) (K' := 1074) ha hb)
 ·rw [show (3000 : Nat) = 1074 + (1074 + 852) from rfl, val_up (K := 1074) hx, Int.mul_assoc, ← Int.pow_add]
set_option maxRecDepth 100000 in
set_option maxHeartbeats 4000000 in
theorem law_FlDivs (l : List UInt8) (hl : l.length ≤ 9223372036854775807) : Con Tryz.prog 7 true [.sl l.length (bytesA l)] [] (isA (.v (.bool true))) := by
 refine Con.of_w (rs := [.tmp 2]) Tryz.func7 rfl Tryz.ntmps7 rfl ?_
 simp (disch := omega) only [go_sem]
 refine call_open (con_DrawFlDiv l hl) (by simp (disch := omega) only [go_sem]) ?_
 rintro r hs ⟨rfl, -, ⟨V, U, m, rfl⟩⟩
 refine ⟨by simp [freeN], ?_⟩
 unfold FlV.cs
 simp (disch := omega) only [go_sem]
 have cF := con_FlDivF V U m
 have oF := dvF_ok V U m
 have eF : (modeB m && (flB V.k V.s V.m V.e && flB U.k U.s U.m U.e)) = true → dvF V U m = dvV V.k V.s V.m V.e U.k U.s U.m U.e m ∧ dvFG V U m = dvG V.k V.s V.m V.e U.k U.s U.m U.e m := fun h => ⟨if_pos h, if_pos h⟩
 generalize dvF V U m = F at *
 generalize dvFG V U m = G at *
 have cK := con_flokS F.k F.s F.m F.e
 rw [oF] at cK
 refine call_cI (cF) ?_
 simp (disch := omega) only [go_sem]
 cases q1 : (flB V.k V.s V.m V.e && (decide (V.k = 0) || decide (V.k = 1)))
 ·have d1 := con_flDno V q1
  cases q2 : (flB U.k U.s U.m U.e && (decide (U.k = 0) || decide (U.k = 1)))
  ·refine call_oI (d1) ?_
   simp (disch := omega) only [go_sem]
   refine call_oI (con_flDno U q2) ?_
   simp (disch := omega) only [go_sem]
   refine call_cI (cK) ?_
   simp (disch := omega) only [go_sem]
   refine call_cI (con_alive) ?_
   simp (disch := omega) only [go_sem]
   exact fin_cI
  ·have q2' := (Bool.and_eq_true _ _).mp q2
   refine call_oI (d1) ?_
   simp (disch := omega) only [go_sem]
   refine call_oI (con_flD U q2'.1 q2'.2) ?_
   simp (disch := omega) only [go_sem]
   refine call_cI (cK) ?_
   simp (disch := omega) only [go_sem]
   refine call_cI (con_alive) ?_
   simp (disch := omega) only [go_sem]
   exact fin_cI
 have q1' := (Bool.and_eq_true _ _).mp q1
 have d1 := con_flD V q1'.1 q1'.2
 cases q2 : (flB U.k U.s U.m U.e && (decide (U.k = 0) || decide (U.k = 1)))
 ·refine call_oI (d1) ?_
  simp (disch := omega) only [go_sem]
  refine call_oI (con_flDno U q2) ?_
  simp (disch := omega) only [go_sem]
  refine call_cI (cK) ?_
  simp (disch := omega) only [go_sem]
  refine call_cI (con_alive) ?_
  simp (disch := omega) only [go_sem]
  exact fin_cI
 have q2' := (Bool.and_eq_true _ _).mp q2
 have d2 := con_flD U q2'.1 q2'.2
 by_cases v4 : m < 0
 ·refine call_oI (d1) ?_
  simp (disch := omega) only [go_sem]
  refine call_oI (d2) ?_
  simp (disch := omega) only [go_sem]
  simp (disch := omega) only [go_sem, v4]
  refine call_cI (cK) ?_
  simp (disch := omega) only [go_sem]
  refine call_cI (con_alive) ?_
  simp (disch := omega) only [go_sem]
  exact fin_cI
 by_cases v5 : 4 < m
 ·refine call_oI (d1) ?_
  simp (disch := omega) only [go_sem]
  refine call_oI (d2) ?_
  simp (disch := omega) only [go_sem]
  simp (disch := omega) only [go_sem, v4, v5]
  refine call_cI (cK) ?_
  simp (disch := omega) only [go_sem]
  refine call_cI (con_alive) ?_
  simp (disch := omega) only [go_sem]
  exact fin_cI
 by_cases v6 : U.k = 0
 ·refine call_oI (d1) ?_
  simp (disch := omega) only [go_sem]
  refine call_oI (d2) ?_
  simp (disch := omega) only [go_sem]
  simp (disch := omega) only [go_sem, v4, v5, v6]
  refine call_cI (cK) ?_
  simp (disch := omega) only [go_sem]
  refine call_cI (con_alive) ?_
  simp (disch := omega) only [go_sem]
  exact fin_cI
 have vm : modeB m = true := by unfold modeB; rw [decide_eq_true (show 0 ≤ m by omega), decide_eq_true (show m ≤ 4 by omega)]; rfl
 have k1 : V.k = 0 ∨ V.k = 1 := by simpa using q1'.2
 have k2 : U.k = 1 := by
  have : U.k = 0 ∨ U.k = 1 := by simpa using q2'.2
  omega
 obtain ⟨rfl, rfl⟩ := eF (by rw [vm, q1'.1, q2'.1]; rfl)
 have vv : ∀ n, modeB n = true → (modeB n && (flB V.k V.s V.m V.e && flB U.k U.s U.m U.e)) = true := fun n hn => by rw [hn, q1'.1, q2'.1]; rfl
 have cD := con_FlDivF V U 3
 have cT := con_FlDivF V U 2
 have oD := dvF_ok V U 3
 have oT := dvF_ok V U 2
 obtain ⟨m1, m2, m3, m4⟩ := dv_main q1'.1 q2'.1 k1 k2 m rfl rfl rfl rfl
 rw [show dvF V U 3 = dvV V.k V.s V.m V.e U.k U.s U.m U.e 3 from if_pos (vv 3 rfl)] at cD oD
 rw [show dvF V U 2 = dvV V.k V.s V.m V.e U.k U.s U.m U.e 2 from if_pos (vv 2 rfl)] at cT oT
 generalize dvV V.k V.s V.m V.e U.k U.s U.m U.e m = F at *
 generalize dvV V.k V.s V.m V.e U.k U.s U.m U.e 3 = D at *
 generalize dvV V.k V.s V.m V.e U.k U.s U.m U.e 2 = T at *
 generalize dvG V.k V.s V.m V.e U.k U.s U.m U.e m = G at *
 generalize dvFG V U 3 = G3 at *
 generalize dvFG V U 2 = G2 at *
 have x_ok := flD_ok q1'.1
 have x_e := flD_e q1'.1
 have y_ok := flD_ok q2'.1
 have y_e := flD_e q2'.1
 generalize flD V = x at *
 generalize flD U = y at *
 clear cF eF vv cK
 refine call_oI (d1) ?_
 simp (disch := omega) only [go_sem]
 refine call_oI (d2) ?_
 simp (disch := omega) only [go_sem]
 simp (disch := omega) only [go_sem, v4, v5, v6]
 refine call_cI (cD) ?_
 simp (disch := omega) only [go_sem]
 refine call_cI (cT) ?_
 simp (disch := omega) only [go_sem]
 rcases m1 with rfl | rfl
 ·simp (disch := omega) only [go_sem, flEq_selfD]
  refine call_oI (con_flX F oF) ?_
  simp (disch := omega) only [go_sem]
  by_cases g : G = 0
  ·obtain ⟨i1, hv⟩ := m3 g
   simp (disch := omega) only [go_sem, g, i1]
   rw [flX_n i1]
   refine call_oI (con_mulV (flD F) y true (flD_ok oF) y_ok) ?_
   simp (disch := omega) only [go_sem]
   cases f1 : ((flD F).times y).fit
   ·simp (disch := omega) only [go_sem, f1, Bool.false_and]
    exact fin_cI
   ·have hx : ((flD F).times y).tel = x := by
     have he : -2148 ≤ ((flD F).times y).e := by show -2148 ≤ (flD F).e + y.e; have := (flD_e oF).1; omega
     refine ok_inj (K := 2148) (tel_ok _) x_ok (by rw [tel_fit f1]; exact can_e he (by decide)) (by omega) ?_
     rw [tel_fit f1, can_val he, show (2148 : Nat) = 1074 + 1074 from rfl, val_up (K := 1074) x_e.1, ← hv]
     exact times_val (K := 1074) (K' := 1074) (flD_e oF).1 y_e.1
    have hs := con_sameV x x x_ok x_ok
    rw [decide_eq_true (show x = x from rfl)] at hs
    rw [hx]
    simp (disch := omega) only [go_sem, f1, Bool.true_and]
    refine call_cI (hs) ?_
    simp (disch := omega) only [go_sem]
    exact fin_cI
  ·have gp : 0 < G := by omega
   have gp' : decide (0 < G) = true := decide_eq_true gp
   simp (disch := omega) only [go_sem, g]
   refine call_oI (con_flX F oD) ?_
   simp (disch := omega) only [go_sem]
   refine call_oI (con_flX T oT) ?_
   simp (disch := omega) only [go_sem]
   cases i2 : isN F
   ·simp (disch := omega) only [go_sem, i2, gp]
    exact fin_cI
   cases i3 : isN T
   ·simp (disch := omega) only [go_sem, i2, i3, gp]
    exact fin_cI
   simp (disch := omega) only [go_sem, i2, i3]
   rw [flX_n i2, flX_n i3]
   refine call_oI (con_mulV (flD F) y true (flD_ok oD) y_ok) ?_
   simp (disch := omega) only [go_sem]
   refine call_oI (con_mulV (flD T) y (((flD F).times y).fit && true) (flD_ok oT) y_ok) ?_
   simp (disch := omega) only [go_sem]
   cases f1 : ((flD F).times y).fit
   ·cases sy : y.s
    ·simp (disch := omega) only [go_sem, f1, sy, Bool.and_false, Bool.false_and]
     exact fin_cI
    ·simp (disch := omega) only [go_sem, f1, sy, Bool.and_false, Bool.false_and]
     exact fin_cI
   cases f2 : ((flD T).times y).fit
   ·cases sy : y.s
    ·simp (disch := omega) only [go_sem, f1, f2, sy, Bool.and_false, Bool.false_and]
     exact fin_cI
    ·simp (disch := omega) only [go_sem, f1, f2, sy, Bool.and_false, Bool.false_and]
     exact fin_cI
   obtain ⟨P, hP, p1, p2⟩ := tm_cmp (flD_e oD).1 y_e.1 x_e.1 f1
   obtain ⟨P', hP', p3, p4⟩ := tm_cmp (flD_e oT).1 y_e.1 x_e.1 f2
   have key := m4 i2 i3 g
   have c1 := con_dcmpV ((flD F).times y).tel x (tel_ok _) x_ok
   have c2 := con_dcmpV x ((flD T).times y).tel x_ok (tel_ok _)
   have c3 := con_dcmpV ((flD T).times y).tel x (tel_ok _) x_ok
   have c4 := con_dcmpV x ((flD F).times y).tel x_ok (tel_ok _)
   have l1 : ∀ u v : Int, u < v → decide (cmpI u v < 0) = true := fun u v h => decide_eq_true ((cmpI_le u v).2.1.2 h)
   have l2 : ∀ u v w Q : Int, 0 < Q → u < v → u * Q < v * Q := fun u v w Q hQ h => Int.mul_lt_mul_of_pos_right h hQ
   cases sy : y.s
   ·obtain ⟨k3, k4⟩ := key.1 sy
    have a1 := l1 _ _ (show ((flD F).times y).tel.val 3000 < x.val 3000 by rw [p1, p2]; exact Int.mul_lt_mul_of_pos_right k3 hP)
    have a2 := l1 _ _ (show x.val 3000 < ((flD T).times y).tel.val 3000 by rw [p3, p4]; exact Int.mul_lt_mul_of_pos_right k4 hP')
    simp (disch := omega) only [go_sem, f1, f2, sy, Bool.and_true]
    refine call_cI (c1) ?_
    simp (disch := omega) only [go_sem]
    simp (disch := omega) only [go_sem, a1]
    refine call_cI (c2) ?_
    simp (disch := omega) only [go_sem]
    simp (disch := omega) only [go_sem, a2]
    exact fin_cI
   ·obtain ⟨k3, k4⟩ := key.2 sy
    have a1 := l1 _ _ (show ((flD T).times y).tel.val 3000 < x.val 3000 by rw [p3, p4]; exact Int.mul_lt_mul_of_pos_right k3 hP')
    have a2 := l1 _ _ (show x.val 3000 < ((flD F).times y).tel.val 3000 by rw [p1, p2]; exact Int.mul_lt_mul_of_pos_right k4 hP)
    simp (disch := omega) only [go_sem, f1, f2, sy, Bool.and_true]
    refine call_cI (c3) ?_
    simp (disch := omega) only [go_sem]
    simp (disch := omega) only [go_sem, a1]
    refine call_cI (c4) ?_
    simp (disch := omega) only [go_sem]
    simp (disch := omega) only [go_sem, a2]
    exact fin_cI
 ·cases hE : flEq F.k F.s F.m F.e D.k D.s D.m D.e
  ·simp (disch := omega) only [go_sem, hE, flEq_selfD]
   refine call_oI (con_flX F oF) ?_
   simp (disch := omega) only [go_sem]
   by_cases g : G = 0
   ·obtain ⟨i1, hv⟩ := m3 g
    simp (disch := omega) only [go_sem, g, i1]
    rw [flX_n i1]
    refine call_oI (con_mulV (flD F) y true (flD_ok oF) y_ok) ?_
    simp (disch := omega) only [go_sem]
    cases f1 : ((flD F).times y).fit
    ·simp (disch := omega) only [go_sem, f1, Bool.false_and]
     exact fin_cI
    ·have hx : ((flD F).times y).tel = x := by
      have he : -2148 ≤ ((flD F).times y).e := by show -2148 ≤ (flD F).e + y.e; have := (flD_e oF).1; omega
      refine ok_inj (K := 2148) (tel_ok _) x_ok (by rw [tel_fit f1]; exact can_e he (by decide)) (by omega) ?_
      rw [tel_fit f1, can_val he, show (2148 : Nat) = 1074 + 1074 from rfl, val_up (K := 1074) x_e.1, ← hv]
      exact times_val (K := 1074) (K' := 1074) (flD_e oF).1 y_e.1
     have hs := con_sameV x x x_ok x_ok
     rw [decide_eq_true (show x = x from rfl)] at hs
     rw [hx]
     simp (disch := omega) only [go_sem, f1, Bool.true_and]
     refine call_cI (hs) ?_
     simp (disch := omega) only [go_sem]
     exact fin_cI
   ·have gp : 0 < G := by omega
    have gp' : decide (0 < G) = true := decide_eq_true gp
    simp (disch := omega) only [go_sem, g]
    refine call_oI (con_flX D oD) ?_
    simp (disch := omega) only [go_sem]
    refine call_oI (con_flX F oT) ?_
    simp (disch := omega) only [go_sem]
    cases i2 : isN D
    ·simp (disch := omega) only [go_sem, i2, gp]
     exact fin_cI
    cases i3 : isN F
    ·simp (disch := omega) only [go_sem, i2, i3, gp]
     exact fin_cI
    simp (disch := omega) only [go_sem, i2, i3]
    rw [flX_n i2, flX_n i3]
    refine call_oI (con_mulV (flD D) y true (flD_ok oD) y_ok) ?_
    simp (disch := omega) only [go_sem]
    refine call_oI (con_mulV (flD F) y (((flD D).times y).fit && true) (flD_ok oT) y_ok) ?_
    simp (disch := omega) only [go_sem]
    cases f1 : ((flD D).times y).fit
    ·cases sy : y.s
     ·simp (disch := omega) only [go_sem, f1, sy, Bool.and_false, Bool.false_and]
      exact fin_cI
     ·simp (disch := omega) only [go_sem, f1, sy, Bool.and_false, Bool.false_and]
      exact fin_cI
    cases f2 : ((flD F).times y).fit
    ·cases sy : y.s
     ·simp (disch := omega) only [go_sem, f1, f2, sy, Bool.and_false, Bool.false_and]
      exact fin_cI
     ·simp (disch := omega) only [go_sem, f1, f2, sy, Bool.and_false, Bool.false_and]
      exact fin_cI
    obtain ⟨P, hP, p1, p2⟩ := tm_cmp (flD_e oD).1 y_e.1 x_e.1 f1
    obtain ⟨P', hP', p3, p4⟩ := tm_cmp (flD_e oT).1 y_e.1 x_e.1 f2
    have key := m4 i2 i3 g
    have c1 := con_dcmpV ((flD D).times y).tel x (tel_ok _) x_ok
    have c2 := con_dcmpV x ((flD F).times y).tel x_ok (tel_ok _)
    have c3 := con_dcmpV ((flD F).times y).tel x (tel_ok _) x_ok
    have c4 := con_dcmpV x ((flD D).times y).tel x_ok (tel_ok _)
    have l1 : ∀ u v : Int, u < v → decide (cmpI u v < 0) = true := fun u v h => decide_eq_true ((cmpI_le u v).2.1.2 h)
    have l2 : ∀ u v w Q : Int, 0 < Q → u < v → u * Q < v * Q := fun u v w Q hQ h => Int.mul_lt_mul_of_pos_right h hQ
    cases sy : y.s
    ·obtain ⟨k3, k4⟩ := key.1 sy
     have a1 := l1 _ _ (show ((flD D).times y).tel.val 3000 < x.val 3000 by rw [p1, p2]; exact Int.mul_lt_mul_of_pos_right k3 hP)
     have a2 := l1 _ _ (show x.val 3000 < ((flD F).times y).tel.val 3000 by rw [p3, p4]; exact Int.mul_lt_mul_of_pos_right k4 hP')
     simp (disch := omega) only [go_sem, f1, f2, sy, Bool.and_true]
     refine call_cI (c1) ?_
     simp (disch := omega) only [go_sem]
     simp (disch := omega) only [go_sem, a1]
     refine call_cI (c2) ?_
     simp (disch := omega) only [go_sem]
     simp (disch := omega) only [go_sem, a2]
     exact fin_cI
    ·obtain ⟨k3, k4⟩ := key.2 sy
     have a1 := l1 _ _ (show ((flD F).times y).tel.val 3000 < x.val 3000 by rw [p3, p4]; exact Int.mul_lt_mul_of_pos_right k3 hP')
     have a2 := l1 _ _ (show x.val 3000 < ((flD D).times y).tel.val 3000 by rw [p1, p2]; exact Int.mul_lt_mul_of_pos_right k4 hP)
     simp (disch := omega) only [go_sem, f1, f2, sy, Bool.and_true]
     refine call_cI (c3) ?_
     simp (disch := omega) only [go_sem]
     simp (disch := omega) only [go_sem, a1]
     refine call_cI (c4) ?_
     simp (disch := omega) only [go_sem]
     simp (disch := omega) only [go_sem, a2]
     exact fin_cI
  ·simp (disch := omega) only [go_sem, hE, flEq_selfD]
   refine call_oI (con_flX F oF) ?_
   simp (disch := omega) only [go_sem]
   by_cases g : G = 0
   ·obtain ⟨i1, hv⟩ := m3 g
    simp (disch := omega) only [go_sem, g, i1]
    rw [flX_n i1]
    refine call_oI (con_mulV (flD F) y true (flD_ok oF) y_ok) ?_
    simp (disch := omega) only [go_sem]
    cases f1 : ((flD F).times y).fit
    ·simp (disch := omega) only [go_sem, f1, Bool.false_and]
     exact fin_cI
    ·have hx : ((flD F).times y).tel = x := by
      have he : -2148 ≤ ((flD F).times y).e := by show -2148 ≤ (flD F).e + y.e; have := (flD_e oF).1; omega
      refine ok_inj (K := 2148) (tel_ok _) x_ok (by rw [tel_fit f1]; exact can_e he (by decide)) (by omega) ?_
      rw [tel_fit f1, can_val he, show (2148 : Nat) = 1074 + 1074 from rfl, val_up (K := 1074) x_e.1, ← hv]
      exact times_val (K := 1074) (K' := 1074) (flD_e oF).1 y_e.1
     have hs := con_sameV x x x_ok x_ok
     rw [decide_eq_true (show x = x from rfl)] at hs
     rw [hx]
     simp (disch := omega) only [go_sem, f1, Bool.true_and]
     refine call_cI (hs) ?_
     simp (disch := omega) only [go_sem]
     exact fin_cI
   ·have gp : 0 < G := by omega
    have gp' : decide (0 < G) = true := decide_eq_true gp
    simp (disch := omega) only [go_sem, g]
    refine call_oI (con_flX D oD) ?_
    simp (disch := omega) only [go_sem]
    refine call_oI (con_flX F oT) ?_
    simp (disch := omega) only [go_sem]
    cases i2 : isN D
    ·simp (disch := omega) only [go_sem, i2, gp]
     exact fin_cI
    cases i3 : isN F
    ·simp (disch := omega) only [go_sem, i2, i3, gp]
     exact fin_cI
    simp (disch := omega) only [go_sem, i2, i3]
    rw [flX_n i2, flX_n i3]
    refine call_oI (con_mulV (flD D) y true (flD_ok oD) y_ok) ?_
    simp (disch := omega) only [go_sem]
    refine call_oI (con_mulV (flD F) y (((flD D).times y).fit && true) (flD_ok oT) y_ok) ?_
    simp (disch := omega) only [go_sem]
    cases f1 : ((flD D).times y).fit
    ·cases sy : y.s
     ·simp (disch := omega) only [go_sem, f1, sy, Bool.and_false, Bool.false_and]
      exact fin_cI
     ·simp (disch := omega) only [go_sem, f1, sy, Bool.and_false, Bool.false_and]
      exact fin_cI
    cases f2 : ((flD F).times y).fit
    ·cases sy : y.s
     ·simp (disch := omega) only [go_sem, f1, f2, sy, Bool.and_false, Bool.false_and]
      exact fin_cI
     ·simp (disch := omega) only [go_sem, f1, f2, sy, Bool.and_false, Bool.false_and]
      exact fin_cI
    obtain ⟨P, hP, p1, p2⟩ := tm_cmp (flD_e oD).1 y_e.1 x_e.1 f1
    obtain ⟨P', hP', p3, p4⟩ := tm_cmp (flD_e oT).1 y_e.1 x_e.1 f2
    have key := m4 i2 i3 g
    have c1 := con_dcmpV ((flD D).times y).tel x (tel_ok _) x_ok
    have c2 := con_dcmpV x ((flD F).times y).tel x_ok (tel_ok _)
    have c3 := con_dcmpV ((flD F).times y).tel x (tel_ok _) x_ok
    have c4 := con_dcmpV x ((flD D).times y).tel x_ok (tel_ok _)
    have l1 : ∀ u v : Int, u < v → decide (cmpI u v < 0) = true := fun u v h => decide_eq_true ((cmpI_le u v).2.1.2 h)
    have l2 : ∀ u v w Q : Int, 0 < Q → u < v → u * Q < v * Q := fun u v w Q hQ h => Int.mul_lt_mul_of_pos_right h hQ
    cases sy : y.s
    ·obtain ⟨k3, k4⟩ := key.1 sy
     have a1 := l1 _ _ (show ((flD D).times y).tel.val 3000 < x.val 3000 by rw [p1, p2]; exact Int.mul_lt_mul_of_pos_right k3 hP)
     have a2 := l1 _ _ (show x.val 3000 < ((flD F).times y).tel.val 3000 by rw [p3, p4]; exact Int.mul_lt_mul_of_pos_right k4 hP')
     simp (disch := omega) only [go_sem, f1, f2, sy, Bool.and_true]
     refine call_cI (c1) ?_
     simp (disch := omega) only [go_sem]
     simp (disch := omega) only [go_sem, a1]
     refine call_cI (c2) ?_
     simp (disch := omega) only [go_sem]
     simp (disch := omega) only [go_sem, a2]
     exact fin_cI
    ·obtain ⟨k3, k4⟩ := key.2 sy
     have a1 := l1 _ _ (show ((flD F).times y).tel.val 3000 < x.val 3000 by rw [p3, p4]; exact Int.mul_lt_mul_of_pos_right k3 hP')
     have a2 := l1 _ _ (show x.val 3000 < ((flD D).times y).tel.val 3000 by rw [p1, p2]; exact Int.mul_lt_mul_of_pos_right k4 hP)
     simp (disch := omega) only [go_sem, f1, f2, sy, Bool.and_true]
     refine call_cI (c3) ?_
     simp (disch := omega) only [go_sem]
     simp (disch := omega) only [go_sem, a1]
     refine call_cI (c4) ?_
     simp (disch := omega) only [go_sem]
     simp (disch := omega) only [go_sem, a2]
     exact fin_cI
end Go.Ab
namespace Go.Proofs.YtjkhfpjccemboaaGreatDoor
open Go.ChangeShapes Go.WideShapes Go.ChangeAt Go.RowKit Go.Ab
theorem own : ownKnob Tryz.prog.godebug = none := by kernel_rfl
theorem laidOut : laidOutB Tryz.prog = true := by kernel_rfl
theorem tabs_g1 : Tryz.prog.globalNamed "math/bits.deBruijn64tab" = some 1 := by kernel_rfl
theorem tabs_t1 : (Tryz.prog.globals[1]?).map (·.type) = some 257 := by kernel_rfl
theorem tabs_u1 : Tryz.prog.underlying 257 = some (.array 64 5) := by kernel_rfl
theorem tabs_e1 : Tryz.prog.underlying 5 = some (.int .u8) := by kernel_rfl
theorem tabs_c1 : Tryz.prog.cellsOf 5 = 1 := by kernel_rfl
theorem tabs_k1 : Tryz.prog.cellsOf 257 = 64 := by kernel_rfl
noncomputable def laidList : List (String × DataW Unit) := [("math/bits.deBruijn32tab", Rows.laid_math_bits_deBruijn32tab), ("math/bits.deBruijn64tab", Rows.laid_math_bits_deBruijn64tab)]
theorem tabs_gd {W : World} (h : laidMetH Tryz.prog laidList W) : Gd W := by
 have h' : laidMet Tryz.prog laidList W := h
 have h2 : laidMet Tryz.prog [("math/bits.deBruijn64tab", Lib.tabData .u8 (Lib.deBruijn64tab.map Int.ofNat))] W := laidMet.tail h'
 have hT := Lib.tabIs_of_head tabs_g1 tabs_t1 tabs_u1 tabs_e1 tabs_c1 tabs_k1 h2
 intro g l hg
 unfold glb at hg
 split at hg
 ·rename_i e
  subst e
  cases hg
  have hc : ∀ i, i < Lib.deBruijn64tab.length → W.cell? ⟨1, i, none⟩ = some (.int .u8 ((Lib.deBruijn64tab.getD i 0 : Nat) : Int)) := fun i hi => by
   have := hT.cell tabs_g1 i (by simpa using hi)
   rw [this]
   simp [List.getD, hi]
  exact ⟨cell_blk (hc 0 (by decide)), hc⟩
 ·cases hg
noncomputable def laidWorld (os : Os) : World :=
 let w0 := World.holding Tryz.prog os ⟨#[], #[], []⟩
 { w0 with heap := (w0.heap.modify 1 fun
   | .cells _ t frozen => .cells (Lib.deBruijn64tab.map fun z => Value.int .u8 (Int.ofNat z)).toArray t frozen
   | o => o).modify 0 fun
   | .cells _ t frozen => .cells (Lib.deBruijn32tab.map fun z => Value.int .u8 (Int.ofNat z)).toArray t frozen
   | o => o }
theorem laidWorld_met (os : Os) (args : Array Value) : laidMetH Tryz.prog laidList ((laidWorld os).forCall (fun _ _ => 0) ⟨#[], args, []⟩).memory :=
 laidMetH_of_parts (laidMet_of_run' 8 (by kernel_rfl) (by kernel_rfl)) (by kernel_rfl)
end Go.Proofs.YtjkhfpjccemboaaGreatDoor
