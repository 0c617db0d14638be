/- What the proof of this claim stands on: the walks of the functions and the plain laws, part 7. -/
import Derived.Test.YtjkhfpjccemboaaGreatDoorFnFlDivsLib6
namespace Go.Ab
open Go Go.Proofs
set_option linter.unusedVariables false
set_option linter.unusedSimpArgs false
theorem con_l2cmp (a b : Nat) (la : (lim a).length ≤ 2 ^ 40) (lb : (lim b).length ≤ 2 ^ 40) :
  Con Tryz.prog 236 true [.ag [.sl (lim (a)).length (ints (lim (a)))], .ag [.sl (lim (b)).length (ints (lim (b)))]] [] (isA (.v (.int .i64 (cmpI a b)))) := by
 refine Con.of_w (rs := [.tmp 4]) Tryz.func236 rfl Tryz.ntmps236 rfl ?_
 simp (disch := omega) only [go_sem]
 refine ifW_not (fun h1 => ?_) (fun h1 => ?_)
 ·simp (disch := omega) only [go_sem, h1]
  refine ifW_dec (fun h2 => ?_) (fun h2 => ?_)
  ·simp (disch := omega) only [go_sem, h2]
   have := lim_lt_of (a := a) (b := b) (by omega)
   rw [show cmpI (a : Int) (b : Int) = -1 by unfold cmpI; rw [if_pos (by omega)]]
   exact fin_cI
  ·simp (disch := omega) only [go_sem, h2]
   have := lim_lt_of (a := b) (b := a) (by omega)
   rw [show cmpI (a : Int) (b : Int) = 1 by unfold cmpI; rw [if_neg (by omega), if_pos (by omega)]]
   exact fin_cI
 ·simp (disch := omega) only [go_sem, h1]
  have hl : (lim a).length = (lim b).length := by omega
  refine loop_intro (fun k : Nat => [(2, .pt 40000000 0), (3, .pt 50000000 0), (5, .v (.int .i64 ((k : Int) - 1)))])
   (fun _ => [(40000000, .own 0 [.sl (lim (a)).length (ints (lim (a)))]), (50000000, .own 0 [.sl (lim (b)).length (ints (lim (b)))])]) (fun k => k ≤ (lim a).length ∧ (lim a).drop k = (lim b).drop k) (fun k => k) (lim a).length ⟨Nat.le_refl _, by rw [List.drop_length, hl, List.drop_length]⟩ (Le.lst [] _ _ rfl (by simp (disch := omega) only [go_sem]; try omega) (by simp (disch := omega) only [go_sem])) ?_
  rintro k ⟨hk, hd⟩
  simp (disch := omega) only [go_sem]
  refine ifW_dec (fun h2 => ?_) (fun h2 => ?_)
  ·obtain ⟨i, rfl⟩ : ∃ i, k = i + 1 := ⟨k - 1, by omega⟩
   have ei : ((i + 1 : Nat) : Int) - 1 = (i : Nat) := by omega
   have hva := vl_lim a
   have hvb := vl_lim b
   simp (disch := omega) only [go_sem, h2, ei]
   refine draw_of rfl [⟨0, [], []⟩, ⟨1, [], []⟩, ⟨2, [1], []⟩, ⟨3, [], []⟩, ⟨4, [], []⟩, ⟨5, [1, 4], []⟩, ⟨6, [1, 4], []⟩, ⟨7, [1, 4, 6], []⟩, ⟨8, [1, 4], []⟩, ⟨9, [1, 4], []⟩, ⟨10, [], []⟩] (by kernel_rfl) ?_
   simp (disch := omega) only [go_sem, ei]
   refine ⟨by omega, by omega, by omega, by omega, ?_⟩
   refine ifW_dec (fun h3 => ?_) (fun h3 => ?_)
   ·simp (disch := omega) only [go_sem, h3]
    have := vl_lt_of (gd_lim a) (gd_lim b) (by omega) hl hd h3
    rw [show cmpI (a : Int) (b : Int) = -1 by unfold cmpI; rw [if_pos (by omega)]]
    exact fin_cI
   ·simp (disch := omega) only [go_sem, h3]
    refine draw_of rfl [⟨0, [], []⟩, ⟨1, [], []⟩, ⟨2, [1], []⟩, ⟨3, [], []⟩, ⟨4, [], []⟩, ⟨5, [1, 4], []⟩, ⟨6, [1, 4], []⟩, ⟨7, [1, 4, 6], []⟩, ⟨8, [1, 4], []⟩, ⟨9, [1, 4], []⟩, ⟨10, [], []⟩] (by kernel_rfl) ?_
    simp (disch := omega) only [go_sem, ei]
    refine ⟨by omega, by omega, by omega, by omega, ?_⟩
    refine ifW_dec (fun h4 => ?_) (fun h4 => ?_)
    ·simp (disch := omega) only [go_sem, h4]
     have := vl_lt_of (gd_lim b) (gd_lim a) (by omega) hl.symm hd.symm h4
     rw [show cmpI (a : Int) (b : Int) = 1 by unfold cmpI; rw [if_neg (by omega), if_pos (by omega)]]
     exact fin_cI
    ·simp (disch := omega) only [go_sem, h4]
     refine next_intro i [] ⟨by omega, ?_⟩ (by show i < i + 1; omega) rfl (by simp (disch := omega) only [go_sem]; try omega) (by simp (disch := omega) only [go_sem])
     have h5 : (lim a).getD i 0 = (lim b).getD i 0 := by omega
     rw [drop_getD (l := lim a) (by omega), drop_getD (l := lim b) (by omega), h5, hd]
  ·simp (disch := omega) only [go_sem, h2]
   have : k = 0 := by omega
   subst this
   rw [List.drop_zero, List.drop_zero] at hd
   have := lim_inj hd
   subst this
   rw [show cmpI (a : Int) (a : Int) = 0 by simp [cmpI]]
   exact fin_cI
theorem con_l2sub (cl : Bool) (a b : Nat) (hle : b ≤ a) (la : (lim a).length ≤ 1000000) : Con Tryz.prog 258 cl [.ag [.sl (lim (a)).length (ints (lim (a)))], .ag [.sl (lim (b)).length (ints (lim (b)))]] [] (natR (a - b)) := by
 have lB : (lim b).length ≤ (lim a).length := lim_mono hle
 have hA := gd_lim a
 have hB := gd_lim b
 refine Con.of_aw Tryz.func258 rfl Tryz.ntmps258 (by simp) (by simp) (by simp) (W.sound ?_)
 show @W Tryz.prog 45 ⟨_⟩ ⟨fun x σ => @retW _ _ _ ⟨_⟩ _ ⟨_⟩ x σ⟩ _ _
 simp (disch := omega) only [go_sem]
 refine loop_intro (fun x : Nat × List Int × Int => [(2, .pt 2 0), (3, .pt 3 0), (4, .pt 4 0), (5, .rf 1 0 x.2.1.length), (6, .v (.int .i64 x.2.2)), (7, .v (.int .i64 x.1))])
  (fun x => [(1, .own 1 (ints x.2.1)), (2, .own 0 [.sl (lim (a)).length (ints (lim (a)))]), (3, .own 0 [.sl (lim (b)).length (ints (lim (b)))]), (4, .own 0 [.v (.slice none 0 0)])])
  (fun x => x.1 ≤ (lim a).length ∧ x.2.1.length = x.1 ∧ gd x.2.1 ∧ (0 ≤ x.2.2 ∧ x.2.2 ≤ 1) ∧ vl x.2.1 - 65536 ^ x.1 * x.2.2 = vl ((lim a).take x.1) - vl ((lim b).take x.1))
  (fun x => (lim a).length - x.1) (0, [], 0) ⟨by simp, rfl, gd_nil, by simp, by simp [vl]⟩
  ((Le.ghost 5 1 1 (by simp (disch := omega) only [go_sem]) (by simp (disch := omega) only [go_sem])).trans (Le.lst [(2, 40000000), (3, 50000000), (4, 60000000)] _ _ rfl (by simp (disch := omega) only [go_sem]) (by simp (disch := omega) only [go_sem]))) ?_
 rintro ⟨i, out, bo⟩ ⟨hi, hol, hog, hbo, hov⟩
 dsimp only at hi hol hog hbo hov ⊢
 simp (disch := omega) only [go_sem]
 refine ifW_dec (fun h1 => ?_) (fun h1 => ?_)
 ·have hx := gd_getD hA i
  have hy := gd_getD hB i
  have hstep : ∀ z b' : Int, (lim a).getD i 0 - bo - (lim b).getD i 0 = z - 65536 * b' → vl (out ++ [z]) - 65536 ^ (i + 1) * b' = vl ((lim a).take (i + 1)) - vl ((lim b).take (i + 1)) := by
   intro z b' hz
   rw [vl_snoc, vl_take_any, vl_take_any, hol, Int.pow_succ]
   generalize (65536 : Int) ^ i = Pi at *
   grind
  have hyz : ¬ i < (lim b).length → (lim b).getD i 0 = 0 := fun h => by rw [List.getD_eq_getElem?_getD, List.getElem?_eq_none (by omega)]; rfl
  simp (disch := omega) only [go_sem, h1]
  refine ⟨by omega, by omega, ifW_dec (fun h2 => ?_) (fun h2 => ?_)⟩
  ·simp (disch := omega) only [go_sem, h2]
   refine ⟨by omega, by omega, ifW_dec (fun h3 => ?_) (fun h3 => ?_)⟩
   ·simp (disch := omega) only [go_sem, h3]
    refine ⟨by omega, next_intro (i + 1, out ++ [(lim a).getD i 0 - bo - (lim b).getD i 0 + 65536], 1) [(1, 440000000)] ⟨by show i + 1 ≤ _; omega, by simp [hol], gd_append.2 ⟨hog, gd_one.2 (by omega)⟩, by simp, hstep ((lim a).getD i 0 - bo - (lim b).getD i 0 + 65536) 1 (by omega)⟩ (by show (lim a).length - (i + 1) < (lim a).length - i; omega) rfl (by simp (disch := omega) only [go_sem, List.length_append]; try omega) (by simp (disch := omega) only [go_sem])⟩
   ·simp (disch := omega) only [go_sem, h3]
    refine ⟨by omega, next_intro (i + 1, out ++ [(lim a).getD i 0 - bo - (lim b).getD i 0], 0) [(1, 440000000)] ⟨by show i + 1 ≤ _; omega, by simp [hol], gd_append.2 ⟨hog, gd_one.2 (by omega)⟩, by simp, hstep ((lim a).getD i 0 - bo - (lim b).getD i 0) 0 (by omega)⟩ (by show (lim a).length - (i + 1) < (lim a).length - i; omega) rfl (by simp (disch := omega) only [go_sem, List.length_append]; try omega) (by simp (disch := omega) only [go_sem])⟩
  ·simp (disch := omega) only [go_sem, h2]
   refine ifW_dec (fun h3 => ?_) (fun h3 => ?_)
   ·simp (disch := omega) only [go_sem, h3]
    have hy0 := hyz (by omega)
    refine ⟨by omega, next_intro (i + 1, out ++ [(lim a).getD i 0 - bo + 65536], 1) [(1, 440000000)] ⟨by show i + 1 ≤ _; omega, by simp [hol], gd_append.2 ⟨hog, gd_one.2 (by omega)⟩, by simp, hstep ((lim a).getD i 0 - bo + 65536) 1 (by omega)⟩ (by show (lim a).length - (i + 1) < (lim a).length - i; omega) rfl (by simp (disch := omega) only [go_sem, List.length_append]; try omega) (by simp (disch := omega) only [go_sem])⟩
   ·simp (disch := omega) only [go_sem, h3]
    have hy0 := hyz (by omega)
    refine ⟨by omega, next_intro (i + 1, out ++ [(lim a).getD i 0 - bo], 0) [(1, 440000000)] ⟨by show i + 1 ≤ _; omega, by simp [hol], gd_append.2 ⟨hog, gd_one.2 (by omega)⟩, by simp, hstep ((lim a).getD i 0 - bo) 0 (by omega)⟩ (by show (lim a).length - (i + 1) < (lim a).length - i; omega) rfl (by simp (disch := omega) only [go_sem, List.length_append]; try omega) (by simp (disch := omega) only [go_sem])⟩
 ·simp (disch := omega) only [go_sem, h1]
  have hiA : i = (lim a).length := by omega
  subst hiA
  rw [List.take_length, List.take_of_length_le lB] at hov
  have hva := vl_lim a
  have hvb := vl_lim b
  have hb0 : bo = 0 := by
   have h2 := vl_lt hog
   rw [hol] at h2
   rcases (by omega : bo = 0 ∨ bo = 1) with h | h
   ·exact h
   ·subst h; omega
  subst hb0
  have hov2 : vl out = ((a - b : Nat) : Int) := by omega
  refine call_closed (con_l2norm true out (a - b) (by omega) hog hov2) (by simp (disch := omega) only [go_sem]) ?_
  rintro r hs (⟨h0, rfl, rfl⟩ | ⟨zs, rfl, rfl⟩)
  ·refine ⟨⟨by simp, by simp (disch := omega) only [go_sem]⟩, ?_⟩
   simp (disch := omega) only [go_sem]
   refine fin_intro [] [] [] [.ag [.v (.slice none 0 0)]] rfl (by simp (disch := omega) only [go_sem]) (by simp (disch := omega) only [go_sem]) (by simp) (by intro _; simp [tupA, AV.pu, AV.pu.puL, Ob.pu, pu_ints]) (.inl ⟨h0, rfl, rfl⟩)
  ·refine ⟨⟨by simp, by simp (disch := omega) only [go_sem]⟩, ?_⟩
   simp (disch := omega) only [go_sem]
   refine fin_intro [(0, 460000000)] [.own 1 (ints (lim (a - b) ++ zs))] [] [.ag [.rf 0 0 (lim (a - b)).length]] rfl (by simp (disch := omega) only [go_sem]) (by simp (disch := omega) only [go_sem]) (by simp) (by intro _; simp [tupA, AV.pu, AV.pu.puL, Ob.pu, pu_ints]) (.inr ⟨zs, rfl, rfl⟩)
end Go.Ab
namespace Go.Ab
open Go Go.Proofs
set_option linter.unusedVariables false
set_option linter.unusedSimpArgs false
theorem con_l2subF (a b : Nat) (hle : b ≤ a) (la : (lim a).length ≤ 1000000) : Con Tryz.prog 258 false [.ag [.sl (lim (a)).length (ints (lim (a)))], .ag [.sl (lim (b)).length (ints (lim (b)))]] [] (isA (.ag [.sl (lim (a - b)).length (ints (lim (a - b)))])) := (con_l2sub false a b hle la).natF
theorem con_l3add (s1 : Bool) (m1 : Nat) (s2 : Bool) (m2 : Nat) (h1 : bl m1 ≤ 6000000) (h2 : bl m2 ≤ 6000000) :
  Con Tryz.prog 201 false [.ag [.v (.bool (s1)), .sl (lim (m1)).length (ints (lim (m1)))], .ag [.v (.bool (s2)), .sl (lim (m2)).length (ints (lim (m2)))]] [] (isA (.ag [.v (.bool (suS s1 m1 s2 m2)), .sl (lim (suM s1 m1 s2 m2)).length (ints (lim (suM s1 m1 s2 m2)))])) := by
 refine Con.frzA ?_
 have l1 := len_bl h1
 have l2 := len_bl h2
 have hge : (0 ≤ cmpI (m1 : Int) (m2 : Int)) ↔ m2 ≤ m1 := by rw [cmp_pos.2.2]; omega
 have hb := bl_suM (s1 := s1) (s2 := s2) h1 h2
 have l3 := len_bl hb
 rw [← sgS_and]
 refine Con.of_w (rs := [.cell 4 27]) Tryz.func201 rfl Tryz.ntmps201 rfl ?_
 simp (disch := omega) only [go_sem]
 refine ifW_b (fun c1 => ?_) (fun c1 => ?_)
 ·have c1' : s1 = s2 := by simpa using c1
  simp (disch := omega) only [go_sem, c1]
  subst c1'
  rw [sgS_same, suM_same] at *
  refine draw_of rfl [⟨0, [], []⟩, ⟨1, [], []⟩, ⟨2, [1], []⟩, ⟨3, [1], []⟩, ⟨4, [1, 3], []⟩, ⟨5, [1, 3], []⟩, ⟨6, [1], []⟩, ⟨7, [], []⟩, ⟨8, [], []⟩] (by kernel_rfl) ?_
  simp (disch := omega) only [go_sem]
  refine call_oI (con_l2addF m1 m2 (by omega) (by omega)) ?_
  simp (disch := omega) only [go_sem]
  refine call_oI (con_l3make s1 (m1 + m2) (by omega)) ?_
  simp (disch := omega) only [go_sem]
  exact fin_frz
 ·have c1' : s1 ≠ s2 := by simpa using c1
  simp (disch := omega) only [go_sem, c1]
  refine call_cI (con_l2cmp m1 m2 (by omega) (by omega)) ?_
  simp (disch := omega) only [go_sem]
  refine ifW_dec (fun c2 => ?_) (fun c2 => ?_)
  ·have c2' : m2 ≤ m1 := hge.1 (by omega)
   rw [sgS_ge c1' c2', suM_ge c1' c2'] at *
   simp (disch := omega) only [go_sem, c2]
   refine draw_of rfl [⟨0, [], []⟩, ⟨1, [], []⟩, ⟨2, [1], []⟩, ⟨3, [1], []⟩, ⟨4, [1, 3], []⟩, ⟨5, [1, 3], []⟩, ⟨6, [1], []⟩, ⟨7, [], []⟩, ⟨8, [], []⟩] (by kernel_rfl) ?_
   simp (disch := omega) only [go_sem]
   refine call_oI (con_l2subF m1 m2 c2' (by omega)) ?_
   simp (disch := omega) only [go_sem]
   refine call_oI (con_l3make s1 (m1 - m2) (by omega)) ?_
   simp (disch := omega) only [go_sem]
   exact fin_frz
  ·have c2' : ¬ m2 ≤ m1 := fun h => c2 (by have := hge.2 h; omega)
   rw [sgS_lt c1' c2', suM_lt c1' c2'] at *
   simp (disch := omega) only [go_sem, c2]
   refine draw_of rfl [⟨0, [], []⟩, ⟨1, [], []⟩, ⟨2, [1], []⟩, ⟨3, [1], []⟩, ⟨4, [1, 3], []⟩, ⟨5, [1, 3], []⟩, ⟨6, [1], []⟩, ⟨7, [], []⟩, ⟨8, [], []⟩] (by kernel_rfl) ?_
   simp (disch := omega) only [go_sem]
   refine call_oI (con_l2subF m2 m1 (by omega) (by omega)) ?_
   simp (disch := omega) only [go_sem]
   refine call_oI (con_l3make s2 (m2 - m1) (by omega)) ?_
   simp (disch := omega) only [go_sem]
   exact fin_frz
theorem con_l3neg (s : Bool) (m : Nat) (hl : (lim m).length ≤ 2 ^ 39) : Con Tryz.prog 257 false [.ag [.v (.bool (s)), .sl (lim (m)).length (ints (lim (m)))]] [] (isA (.ag [.v (.bool ((!s) && decide (m ≠ 0))), .sl (lim (m)).length (ints (lim (m)))])) := by
 refine Con.frzA ?_
 refine Con.of_w (rs := [.cell 2 27]) Tryz.func257 rfl Tryz.ntmps257 rfl ?_
 simp (disch := omega) only [go_sem]
 refine call_oI (con_l3make (!s) m hl) ?_
 simp (disch := omega) only [go_sem]
 exact fin_frz
theorem con_l4neg (s : Bool) (m : Nat) (e : Int) (hl : (lim m).length ≤ 2 ^ 39) : Con Tryz.prog 199 false [.ag [.v (.bool (s)), .sl (lim (m)).length (ints (lim (m))), .v (.int .i64 (e))]] [] (isA (.ag [.v (.bool ((!s) && decide (m ≠ 0))), .sl (lim (m)).length (ints (lim (m))), .v (.int .i64 (e))])) := by
 refine Con.frzA ?_
 refine Con.of_w (rs := [.cell 2 29]) Tryz.func199 rfl Tryz.ntmps199 rfl ?_
 simp (disch := omega) only [go_sem]
 refine draw_of rfl [⟨0, [], []⟩, ⟨1, [], []⟩, ⟨3, [1], []⟩, ⟨4, [1], []⟩, ⟨2, [4], []⟩, ⟨5, [], []⟩, ⟨6, [], []⟩] (by kernel_rfl) ?_
 simp (disch := omega) only [go_sem]
 refine call_oI (con_l3neg s m hl) ?_
 simp (disch := omega) only [go_sem]
 exact fin_frz
def alF (m1 : Nat) (e1 : Int) (m2 : Nat) (e2 : Int) : Int := if m1 = 0 then e2 else if m2 = 0 then e1 else if e1 ≤ e2 then e1 else e2
theorem alF_eq (m1 : Nat) (e1 : Int) (m2 : Nat) (e2 : Int) (h : ¬ (m1 = 0 ∧ m2 = 0)) : alF m1 e1 m2 e2 = alE m1 e1 m2 e2 := by
 unfold alF alE
 repeat' split
 all_goals omega
theorem con_l4align (s1 : Bool) (m1 : Nat) (e1 : Int) (s2 : Bool) (m2 : Nat) (e2 : Int) (h1 : bl m1 ≤ 4000000) (h2 : bl m2 ≤ 4000000) (he1 : -1000000 ≤ e1 ∧ e1 ≤ 1000000) (he2 : -1000000 ≤ e2 ∧ e2 ≤ 1000000) (z1 : m1 = 0 → s1 = false) (z2 : m2 = 0 → s2 = false) :
  Con Tryz.prog 157 false [.ag [.v (.bool (s1)), .sl (lim (m1)).length (ints (lim (m1))), .v (.int .i64 (e1))], .ag [.v (.bool (s2)), .sl (lim (m2)).length (ints (lim (m2))), .v (.int .i64 (e2))]] [] (isA (.tu [.ag [.v (.bool (s1)), .sl (lim (alA m1 e1 (alE m1 e1 m2 e2))).length (ints (lim (alA m1 e1 (alE m1 e1 m2 e2))))], .ag [.v (.bool (s2)), .sl (lim (alA m2 e2 (alE m1 e1 m2 e2))).length (ints (lim (alA m2 e2 (alE m1 e1 m2 e2))))], .v (.int .i64 (alF m1 e1 m2 e2))])) := by
 refine Con.frzA ?_
 have l1 := len_bl h1
 have l2 := len_bl h2
 refine Con.of_aw Tryz.func157 rfl Tryz.ntmps157 (by simp) (by simp) (by simp) (W.sound ?_)
 show @W Tryz.prog 70 ⟨_⟩ ⟨fun x σ => @retW _ _ _ ⟨_⟩ _ ⟨_⟩ x σ⟩ _ _
 simp (disch := omega) only [go_sem]
 refine ifW_dec (fun c1 => ?_) (fun c1 => ?_)
 ·have y1 : m1 = 0 := lim_eq_nil.1 (List.length_eq_zero_iff.1 (by omega))
  have eF : alF m1 e1 m2 e2 = e2 := by unfold alF; rw [if_pos y1]
  have a1 : alA m1 e1 (alE m1 e1 m2 e2) = m1 := by rw [y1]; unfold alA; rw [Nat.zero_mul]
  have a2 : alA m2 e2 (alE m1 e1 m2 e2) = m2 := by
   by_cases y2 : m2 = 0
   ·rw [y2]; unfold alA; rw [Nat.zero_mul]
   ·unfold alA alE; rw [if_neg y2, if_pos y1, Int.sub_self]; simp
  simp (disch := omega) only [go_sem, c1]
  refine draw_of rfl [⟨0, [], []⟩, ⟨1, [], []⟩, ⟨2, [1], []⟩, ⟨3, [1], []⟩, ⟨4, [1, 3], []⟩, ⟨5, [1, 3], []⟩, ⟨6, [3, 5], []⟩, ⟨7, [5], []⟩, ⟨8, [], []⟩] (by kernel_rfl) ?_
  simp (disch := omega) only [go_sem]
  refine fin_val (by simp (disch := omega) only [go_sem]) ?_
  show snap _ 6 _ = _
  rw [eF, a1, a2]
  simp (disch := omega) only [go_sem]
 ·have y1 : m1 ≠ 0 := fun e => c1 (by rw [e, lim_zero]; rfl)
  simp (disch := omega) only [go_sem, c1]
  refine ifW_dec (fun c2 => ?_) (fun c2 => ?_)
  ·have y2 : m2 = 0 := lim_eq_nil.1 (List.length_eq_zero_iff.1 (by omega))
   have eF : alF m1 e1 m2 e2 = e1 := by unfold alF; rw [if_neg y1, if_pos y2]
   have a1 : alA m1 e1 (alE m1 e1 m2 e2) = m1 := by unfold alA alE; rw [if_pos y2, Int.sub_self]; simp
   have a2 : alA m2 e2 (alE m1 e1 m2 e2) = m2 := by rw [y2]; unfold alA; rw [Nat.zero_mul]
   simp (disch := omega) only [go_sem, c2]
   refine draw_of rfl [⟨0, [], []⟩, ⟨1, [], []⟩, ⟨2, [1], []⟩, ⟨3, [1], []⟩, ⟨4, [1, 3], []⟩, ⟨5, [1, 3], []⟩, ⟨6, [3, 5], []⟩, ⟨7, [5], []⟩, ⟨8, [], []⟩] (by kernel_rfl) ?_
   simp (disch := omega) only [go_sem]
   refine fin_val (by simp (disch := omega) only [go_sem]) ?_
   show snap _ 6 _ = _
   rw [eF, a1, a2]
   simp (disch := omega) only [go_sem]
  ·have y2 : m2 ≠ 0 := fun e => c2 (by rw [e, lim_zero]; rfl)
   simp (disch := omega) only [go_sem, c2]
   refine ifW_dec (fun c3 => ?_) (fun c3 => ?_)
   ·have eF : alF m1 e1 m2 e2 = e1 := by unfold alF; rw [if_neg y1, if_neg y2, if_pos c3]
    have eE : alE m1 e1 m2 e2 = e1 := by unfold alE; rw [if_neg y2, if_neg y1, if_neg (by omega)]
    have a1 : alA m1 e1 (alE m1 e1 m2 e2) = m1 := by rw [eE]; unfold alA; rw [Int.sub_self]; simp
    have ek : e2 - e1 = (((e2 - e1).toNat : Nat) : Int) := by omega
    have hb : bl (m2 * 2 ^ (e2 - e1).toNat) ≤ 6000000 := by have := bl_up m2 (e2 - e1).toNat; omega
    have l3 := len_bl hb
    have hn : m2 * 2 ^ (e2 - e1).toNat ≠ 0 := Nat.mul_ne_zero y2 (Nat.pos_iff_ne_zero.1 (Nat.pow_pos (by omega)))
    have hd : decide (m2 * 2 ^ (e2 - e1).toNat ≠ 0) = true := decide_eq_true hn
    simp (disch := omega) only [go_sem, c3]
    refine draw_of rfl [⟨0, [], []⟩, ⟨1, [], []⟩, ⟨2, [1], []⟩, ⟨3, [1], []⟩, ⟨4, [1], []⟩, ⟨5, [1, 4], []⟩, ⟨6, [1, 4], []⟩, ⟨7, [1, 4], []⟩, ⟨8, [1, 4, 7], []⟩, ⟨9, [1, 4, 7], []⟩, ⟨10, [1, 4, 7, 9], []⟩, ⟨11, [1, 4, 7, 9], []⟩, ⟨12, [1, 4, 7], []⟩, ⟨15, [1, 4, 7, 9, 11], []⟩, ⟨16, [1, 4, 7, 9, 11], []⟩, ⟨13, [1, 4, 16], []⟩, ⟨14, [1, 16], []⟩, ⟨17, [16], []⟩, ⟨18, [16], []⟩, ⟨19, [], []⟩] (by kernel_rfl) ?_
    simp (disch := omega) only [go_sem]
    refine call_open (con_l2shlF m2 (e2 - e1).toNat (by omega) (by omega)) (by simp (disch := omega) only [go_sem, ← ek]) ?_
    rintro r hs ⟨rfl, rfl, _⟩
    refine ⟨by simp [freeN], ?_⟩
    simp (disch := omega) only [go_sem]
    refine call_oI (con_l3make s2 (m2 * 2 ^ (e2 - e1).toNat) (by omega)) ?_
    simp (disch := omega) only [go_sem]
    refine fin_val (by simp (disch := omega) only [go_sem]) ?_
    show snap _ 6 _ = _
    rw [eF, a1, eE, hd]; unfold alA
    simp (disch := omega) only [go_sem, Bool.and_true]
   ·have eF : alF m1 e1 m2 e2 = e2 := by unfold alF; rw [if_neg y1, if_neg y2, if_neg c3]
    have eE : alE m1 e1 m2 e2 = e2 := by unfold alE; rw [if_neg y2, if_neg y1, if_pos (by omega)]
    have a2 : alA m2 e2 (alE m1 e1 m2 e2) = m2 := by rw [eE]; unfold alA; rw [Int.sub_self]; simp
    have ek : e1 - e2 = (((e1 - e2).toNat : Nat) : Int) := by omega
    have hb : bl (m1 * 2 ^ (e1 - e2).toNat) ≤ 6000000 := by have := bl_up m1 (e1 - e2).toNat; omega
    have l3 := len_bl hb
    have hn : m1 * 2 ^ (e1 - e2).toNat ≠ 0 := Nat.mul_ne_zero y1 (Nat.pos_iff_ne_zero.1 (Nat.pow_pos (by omega)))
    have hd : decide (m1 * 2 ^ (e1 - e2).toNat ≠ 0) = true := decide_eq_true hn
    simp (disch := omega) only [go_sem, c3]
    refine draw_of rfl [⟨0, [], []⟩, ⟨1, [], []⟩, ⟨2, [], []⟩, ⟨3, [2], []⟩, ⟨4, [2], []⟩, ⟨5, [2], []⟩, ⟨6, [2, 5], []⟩, ⟨7, [2, 5], []⟩, ⟨8, [2, 5, 7], []⟩, ⟨9, [2, 5, 7], []⟩, ⟨10, [2, 5], []⟩, ⟨13, [2, 5, 7, 9], []⟩, ⟨14, [2, 5, 7, 9], []⟩, ⟨15, [2, 5, 7, 9, 14], []⟩, ⟨16, [2, 5, 7, 9, 14], []⟩, ⟨11, [2, 14, 16], []⟩, ⟨12, [14, 16], []⟩, ⟨17, [14, 16], []⟩, ⟨18, [16], []⟩, ⟨19, [], []⟩] (by kernel_rfl) ?_
    simp (disch := omega) only [go_sem]
    refine call_open (con_l2shlF m1 (e1 - e2).toNat (by omega) (by omega)) (by simp (disch := omega) only [go_sem, ← ek]) ?_
    rintro r hs ⟨rfl, rfl, _⟩
    refine ⟨by simp [freeN], ?_⟩
    simp (disch := omega) only [go_sem]
    refine call_oI (con_l3make s1 (m1 * 2 ^ (e1 - e2).toNat) (by omega)) ?_
    simp (disch := omega) only [go_sem]
    refine fin_val (by simp (disch := omega) only [go_sem]) ?_
    show snap _ 6 _ = _
    rw [eF, a2, eE, hd]; unfold alA
    simp (disch := omega) only [go_sem, Bool.and_true]
theorem con_l4add (s1 : Bool) (m1 : Nat) (e1 : Int) (s2 : Bool) (m2 : Nat) (e2 : Int) (h1 : bl m1 ≤ 4000000) (h2 : bl m2 ≤ 4000000) (he1 : -1000000 ≤ e1 ∧ e1 ≤ 1000000) (he2 : -1000000 ≤ e2 ∧ e2 ≤ 1000000) (z1 : m1 = 0 → s1 = false) (z2 : m2 = 0 → s2 = false) :
  Con Tryz.prog 126 false [.ag [.v (.bool (s1)), .sl (lim (m1)).length (ints (lim (m1))), .v (.int .i64 (e1))], .ag [.v (.bool (s2)), .sl (lim (m2)).length (ints (lim (m2))), .v (.int .i64 (e2))]] [] (isA (.ag [.v (.bool (oS (adS s1 m1 e1 s2 m2 e2) (adM s1 m1 e1 s2 m2 e2))), .sl (lim (oM (adM s1 m1 e1 s2 m2 e2))).length (ints (lim (oM (adM s1 m1 e1 s2 m2 e2)))), .v (.int .i64 (oE (adM s1 m1 e1 s2 m2 e2) (alE m1 e1 m2 e2)))])) := by
 refine Con.frzA ?_
 have hE := alE_ge (m1 := m1) (m2 := m2) he1.1 he2.1
 have b1 := bl_alA (e := e1) (E := alE m1 e1 m2 e2) (C := 2000000) h1 (by omega)
 have b2 := bl_alA (e := e2) (E := alE m1 e1 m2 e2) (C := 2000000) h2 (by omega)
 have hF : -1000000 ≤ alF m1 e1 m2 e2 ∧ alF m1 e1 m2 e2 ≤ 1000000 := by
  unfold alF
  repeat' split
  all_goals omega
 have hX : oE (adM s1 m1 e1 s2 m2 e2) (alE m1 e1 m2 e2) = oE (adM s1 m1 e1 s2 m2 e2) (alF m1 e1 m2 e2) := by
  by_cases h : m1 = 0 ∧ m2 = 0
  ·have : adM s1 m1 e1 s2 m2 e2 = 0 := by rw [h.1, h.2]; unfold adM alA; rw [Nat.zero_mul, Nat.zero_mul]; unfold suM; rw [sv_zero, sv_zero]; rfl
   rw [this]; rfl
  ·rw [alF_eq _ _ _ _ h]
 rw [hX]
 have l1 := len_bl h1
 have l2 := len_bl h2
 refine Con.of_w (rs := [.cell 4 29]) Tryz.func126 rfl Tryz.ntmps126 rfl ?_
 simp (disch := omega) only [go_sem]
 refine call_oI (con_l4align s1 m1 e1 s2 m2 e2 h1 h2 he1 he2 z1 z2) ?_
 simp (disch := omega) only [go_sem]
 unfold adS adM
 generalize alA m1 e1 (alE m1 e1 m2 e2) = A at *
 generalize alA m2 e2 (alE m1 e1 m2 e2) = B at *
 generalize alF m1 e1 m2 e2 = E at *
 refine call_oI (con_l3add s1 A s2 B (by omega) (by omega)) ?_
 simp (disch := omega) only [go_sem]
 have hb := bl_suM (s1 := s1) (s2 := s2) b1 b2
 refine call_oI (con_l4make (suS s1 A s2 B) (suM s1 A s2 B) E (by omega) (by omega)) ?_
 simp (disch := omega) only [go_sem]
 exact fin_frz
end Go.Ab
namespace Go.Ab
open Go Go.Proofs
set_option linter.unusedVariables false
set_option linter.unusedSimpArgs false
theorem con_l4ups (neg : Bool) (m k : Nat) (mode : Int) (hl : (lim m).length ≤ 2 ^ 40) (hk : 1 ≤ k) (hk2 : k ≤ 2 ^ 40) : Con Tryz.prog 291 true [.v (.bool neg), .ag [.sl (lim (m)).length (ints (lim (m)))], .v (.int .i64 k), .v (.int .i64 mode)] [] (isA (.v (.bool (upsB neg m k mode)))) := by
 refine Con.of_aw Tryz.func291 rfl Tryz.ntmps291 (by simp) (by simp) (by simp) (W.sound ?_)
 show @W Tryz.prog 44 ⟨_⟩ ⟨fun x σ => @retW _ _ _ ⟨_⟩ _ ⟨_⟩ x σ⟩ _ _
 have ek : ((k : Int) - 1) = ((k - 1 : Nat) : Int) := by omega
 have e1 : decide (((m / 2 ^ (k - 1) % 2 : Nat) : Int) = 1) = decide (m / 2 ^ (k - 1) % 2 = 1) := by rw [decide_eq_decide]; omega
 have e2 : decide (((m / 2 ^ k % 2 : Nat) : Int) = 1) = decide (m / 2 ^ k % 2 = 1) := by rw [decide_eq_decide]; omega
 have e3 : decide ((tz m : Int) < ((k - 1 : Nat) : Int)) = decide (tz m < k - 1) := by rw [decide_eq_decide]; omega
 simp (disch := omega) only [go_sem, ek]
 refine call_closed (con_l2bit m ((k - 1 : Nat) : Int) hl (by omega) (by omega)) (by simp (disch := omega) only [go_sem, ek]) ?_
 rintro r hs ⟨rfl, rfl, _⟩
 refine ⟨by simp [freeN], ?_⟩
 simp (disch := omega) only [go_sem, ek, e1]
 refine call_cI (con_l2trail m hl) ?_
 simp (disch := omega) only [go_sem]
 refine ifW_dec (fun h1 => ?_) (fun h1 => ?_)
 ·simp (disch := omega) only [go_sem, h1]
  exact fin_valc (by simp (disch := omega) only [go_sem]) (by simp (disch := omega) only [go_sem]) ⟨by simp [tupA, upsB, h1], rfl, rfl⟩
 ·simp (disch := omega) only [go_sem, h1]
  refine ifW_dec (fun h2 => ?_) (fun h2 => ?_)
  ·simp (disch := omega) only [go_sem, h2]
   exact fin_valc (by simp (disch := omega) only [go_sem]) (by simp (disch := omega) only [go_sem]) ⟨by simp [tupA, upsB, h2], rfl, rfl⟩
  ·simp (disch := omega) only [go_sem, h2]
   refine ifW_dec (fun h3 => ?_) (fun h3 => ?_)
   ·simp (disch := omega) only [go_sem, h3]
    exact fin_valc (by simp (disch := omega) only [go_sem]) (by simp (disch := omega) only [go_sem]) ⟨by simp [tupA, upsB, h3], rfl, rfl⟩
   ·simp (disch := omega) only [go_sem, h3]
    refine ifW_dec (fun h4 => ?_) (fun h4 => ?_)
    ·simp (disch := omega) only [go_sem, h4]
     exact fin_valc (by simp (disch := omega) only [go_sem]) (by simp (disch := omega) only [go_sem]) ⟨by simp [tupA, upsB, h4], rfl, rfl⟩
    ·simp (disch := omega) only [go_sem, h4]
     refine ifW_b (fun h5 => ?_) (fun h5 => ?_)
     ·simp (disch := omega) only [go_sem, h5]
      refine ifW_nb (fun h6 => ?_) (fun h6 => ?_)
      ·simp (disch := omega) only [go_sem, h6]
       refine call_cI (con_l2bit m (k : Int) hl (by omega) (by omega)) ?_
       simp (disch := omega) only [go_sem]
       have h7 : decide (tz m < k - 1) = false := by rw [← e3, ← ek]; exact h6
       rw [e2]
       refine fin_valc (by simp (disch := omega) only [go_sem]) (by simp (disch := omega) only [go_sem]) ⟨?_, rfl, rfl⟩
       show AV.v (.bool _) = AV.v (.bool _)
       unfold upsB; rw [if_neg h1, if_neg h2, if_neg h3, if_neg h4, h5, h7]; rfl
      ·simp (disch := omega) only [go_sem, h6]
       have h7 : decide (tz m < k - 1) = true := by rw [← e3, ← ek]; exact h6
       refine fin_valc (by simp (disch := omega) only [go_sem]) (by simp (disch := omega) only [go_sem]) ⟨?_, rfl, rfl⟩
       show AV.v (.bool _) = AV.v (.bool _)
       unfold upsB; rw [if_neg h1, if_neg h2, if_neg h3, if_neg h4, h5, h7]; rfl
     ·simp (disch := omega) only [go_sem, h5]
      refine fin_valc (by simp (disch := omega) only [go_sem]) (by simp (disch := omega) only [go_sem]) ⟨?_, rfl, rfl⟩
      show AV.v (.bool _) = AV.v (.bool _)
      unfold upsB; rw [if_neg h1, if_neg h2, if_neg h3, if_neg h4, h5]; rfl
def srM (s : Bool) (m : Nat) (e low mode : Int) : Nat := oM (roM s m e low mode)
def srE (s : Bool) (m : Nat) (e low mode : Int) : Int := if low ≤ e ∨ m = 0 then e else oE (roM s m e low mode) low
theorem con_l4round (s : Bool) (m : Nat) (e low mode : Int) (hodd : m % 2 = 1 ∨ m = 0) (hs : m = 0 → s = false) (hmode : 0 ≤ mode ∧ mode ≤ 4) (hm : bl m ≤ 4000000) (he : -1000000 ≤ e ∧ e ≤ 1000000) (hlo : -1000000 ≤ low ∧ low ≤ 1000000) :
  Con Tryz.prog 261 false [.ag [.v (.bool (s)), .sl (lim (m)).length (ints (lim (m))), .v (.int .i64 (e))], .v (.int .i64 low), .v (.int .i64 mode)] []
   (isA (.tu [.ag [.v (.bool (oS (roS s m e low mode) (roM s m e low mode))), .sl (lim (srM s m e low mode)).length (ints (lim (srM s m e low mode))), .v (.int .i64 (srE s m e low mode))], .v (.bool (roX m e low))])) := by
 refine Con.frzA ?_
 have l1 := len_bl hm
 refine Con.of_aw Tryz.func261 rfl Tryz.ntmps261 (by simp) (by simp) (by simp) (W.sound ?_)
 show @W Tryz.prog 51 ⟨_⟩ ⟨fun x σ => @retW _ _ _ ⟨_⟩ _ ⟨_⟩ x σ⟩ _ _
 simp (disch := omega) only [go_sem]
 refine ifW_not (fun h1 => ?_) (fun h1 => ?_)
 ·have h0 : m ≠ 0 := fun e => h1 (by rw [e, lim_zero]; rfl)
  have hod : m % 2 = 1 := hodd.resolve_right h0
  simp (disch := omega) only [go_sem, h1]
  refine ifW_dec (fun h2 => ?_) (fun h2 => ?_)
  ·simp (disch := omega) only [go_sem, h2]
   refine fin_val (by simp (disch := omega) only [go_sem]) ?_
   show snap _ 6 _ = _
   have ht := tz_odd hod
   have e3 : oM m = m := by unfold oM; rw [ht]; simp
   simp only [srM, srE, roM, roS, roX, h2, true_or, if_true, oS, if_neg h0, e3]
   simp (disch := omega) only [go_sem]
  ·simp (disch := omega) only [go_sem, h2]
   have ek : low - e = (((low - e).toNat : Nat) : Int) := by omega
   have hk1 : 1 ≤ (low - e).toNat := by omega
   refine call_open (con_l2shr m (low - e).toNat (by omega) (by omega)) (by simp (disch := omega) only [go_sem, ← ek]) ?_
   rintro r hs ⟨rfl, rfl, _⟩
   refine ⟨by simp [freeN], ?_⟩
   simp (disch := omega) only [go_sem]
   refine call_closed (con_l4ups s m (low - e).toNat mode (by omega) hk1 (by omega)) (by simp (disch := omega) only [go_sem, ← ek]) ?_
   rintro r hs ⟨rfl, rfl, _⟩
   refine ⟨by simp [freeN], ?_⟩
   simp (disch := omega) only [go_sem]
   have hc : ¬ (low ≤ e ∨ m = 0) := by omega
   have hne := odd_mod hod hk1
   have hups := ups_eq (neg := s) hod hk1 hmode
   have hq : roM s m e low mode = if upsB s m (low - e).toNat mode = true then m / 2 ^ (low - e).toNat + 1 else m / 2 ^ (low - e).toNat := by
    unfold roM rq
    rw [if_neg hc, if_neg hne, ← hups]
   have hro : roS s m e low mode = (s && decide (roM s m e low mode ≠ 0)) := by unfold roS roM; rw [if_neg hc, if_neg hc]
   have hblq : bl (m / 2 ^ (low - e).toNat + 1) ≤ 4000001 := by
    have h3 := bl_succ (m / 2 ^ (low - e).toNat)
    have h4 := bl_divle m (2 ^ (low - e).toNat)
    omega
   have hblq0 : bl (m / 2 ^ (low - e).toNat) ≤ 4000001 := Nat.le_trans (bl_mono (by omega)) hblq
   have lq := len_bl hblq
   have lq0 := len_bl hblq0
   have hrx : roX m e low = false := by unfold roX; rw [if_neg hc]; simp [hne]
   have hfin : ∀ q, roM s m e low mode = q → bl q ≤ 4000001 → AV.ag [.v (.bool (oS (s && decide (q ≠ 0)) q)), .sl (lim (oM q)).length (ints (lim (oM q))), .v (.int .i64 (oE q low))] = AV.ag [.v (.bool (oS (roS s m e low mode) (roM s m e low mode))), .sl (lim (srM s m e low mode)).length (ints (lim (srM s m e low mode))), .v (.int .i64 (srE s m e low mode))] := by
    intro q hq' _
    rw [hro, hq']
    unfold srM srE
    rw [if_neg hc, hq']
   refine ifW_b (fun h3 => ?_) (fun h3 => ?_)
   ·rw [if_pos h3] at hq
    simp (disch := omega) only [go_sem, h3]
    refine draw_of rfl [⟨0, [], []⟩, ⟨1, [0], []⟩, ⟨2, [], []⟩, ⟨3, [], []⟩] (by kernel_rfl) ?_
    simp (disch := omega) only [go_sem]
    refine call_oI (con_l2ofF 1 (by omega)) ?_
    simp (disch := omega) only [go_sem]
    refine call_oI (con_l2addF (m / 2 ^ (low - e).toNat) 1 (by omega) (by have := len_bl (m := 1) (B := 1) (by decide); omega)) ?_
    simp (disch := omega) only [go_sem]
    refine call_oI (con_l3make s (m / 2 ^ (low - e).toNat + 1) (by omega)) ?_
    simp (disch := omega) only [go_sem]
    refine call_oI (con_l4make (s && decide (m / 2 ^ (low - e).toNat + 1 ≠ 0)) (m / 2 ^ (low - e).toNat + 1) low (by omega) (by omega)) ?_
    simp (disch := omega) only [go_sem]
    refine fin_val (by simp (disch := omega) only [go_sem]) ?_
    show snap _ 6 _ = _
    rw [← hfin _ hq hblq, hrx]
    simp (disch := omega) only [go_sem]
   ·rw [if_neg (by rw [h3]; simp)] at hq
    simp (disch := omega) only [go_sem, h3]
    refine call_oI (con_l3make s (m / 2 ^ (low - e).toNat) (by omega)) ?_
    simp (disch := omega) only [go_sem]
    refine call_oI (con_l4make (s && decide (m / 2 ^ (low - e).toNat ≠ 0)) (m / 2 ^ (low - e).toNat) low (by omega) (by omega)) ?_
    simp (disch := omega) only [go_sem]
    refine fin_val (by simp (disch := omega) only [go_sem]) ?_
    show snap _ 6 _ = _
    rw [← hfin _ hq hblq0, hrx]
    simp (disch := omega) only [go_sem]
 ·have h0 : m = 0 := lim_eq_nil.1 (List.length_eq_zero_iff.1 (by omega))
  simp (disch := omega) only [go_sem, h1]
  refine fin_val (by simp (disch := omega) only [go_sem]) ?_
  show snap _ 6 _ = _
  have hs0 := hs h0
  subst h0
  subst hs0
  simp only [srM, srE, roM, roS, roX, or_true, if_true, oS, oM_zero]
  simp (disch := omega) only [go_sem]
end Go.Ab
namespace Go.Ab
open Go Go.Proofs
set_option linter.unusedVariables false
set_option linter.unusedSimpArgs false
theorem con_l5nan : Con Tryz.prog 204 true [] [] (isA (.ag [.v (.int .i64 (3)), .v (.bool (false)), .v (.int .i64 (0)), .v (.int .i64 (0))])) := by
 refine Con.of_w (rs := [.cell 0 63]) Tryz.func204 rfl Tryz.ntmps204 rfl ?_
 simp (disch := omega) only [go_sem]
 exact fin_cI
theorem con_l5most (s : Bool) : Con Tryz.prog 256 true [.v (.bool s)] [] (isA (.ag [.v (.int .i64 (1)), .v (.bool (s)), .v (.int .i64 (9007199254740991)), .v (.int .i64 (971))])) := by
 refine Con.of_w (rs := [.cell 2 63]) Tryz.func256 rfl Tryz.ntmps256 rfl ?_
 simp (disch := omega) only [go_sem]
 exact fin_cI
theorem sr_eq {s : Bool} {m : Nat} {e low mode : Int} (hodd : m % 2 = 1) : srM s m e low mode = oM (roM s m e low mode) ∧ srE s m e low mode = oE (roM s m e low mode) (roE m e low) := by
 refine ⟨rfl, ?_⟩
 unfold srE
 by_cases h : low ≤ e ∨ m = 0
 ·have h0 : m ≠ 0 := fun e => by omega
  rw [if_pos h]
  unfold roM roE oE
  rw [if_pos h, if_pos h, if_neg h0, tz_odd hodd]; simp
 ·rw [if_neg h]
  unfold roE
  rw [if_neg h]
theorem roS_eq {s : Bool} {m : Nat} {e low mode : Int} (h : roM s m e low mode ≠ 0) : oS (roS s m e low mode) (roM s m e low mode) = s := by
 unfold oS; rw [if_neg h]
 unfold roS roM at *
 by_cases hc : low ≤ e ∨ m = 0
 ·rw [if_pos hc]
 ·rw [if_neg hc] at h ⊢
  simp [h]
theorem oE_bnd {m : Nat} {e : Int} {B : Nat} (h : bl m ≤ B) (he : -1000000 ≤ e ∧ e ≤ 1000000) : -1000000 ≤ oE m e ∧ oE m e ≤ 1000000 + B := by
 unfold oE
 by_cases h0 : m = 0
 ·rw [if_pos h0]; omega
 ·rw [if_neg h0]; have := tz_lt_bl h0; omega
set_option maxRecDepth 100000 in
set_option maxHeartbeats 1000000 in
theorem con_l5round (s : Bool) (m : Nat) (e mode : Int) (z : Bool) (hodd : m % 2 = 1 ∨ m = 0) (hs : m = 0 → s = false) (hmode : 0 ≤ mode ∧ mode ≤ 4) (hm : bl m ≤ 100000) (he : -100000 ≤ e ∧ e ≤ 100000) :
  Con Tryz.prog 205 true [.ag [.v (.bool (s)), .sl (lim (m)).length (ints (lim (m))), .v (.int .i64 (e))], .v (.int .i64 mode), .v (.bool z)] []
   (isA (.tu [.ag [.v (.int .i64 ((flV s m e mode z).k)), .v (.bool ((flV s m e mode z).s)), .v (.int .i64 ((flV s m e mode z).m)), .v (.int .i64 ((flV s m e mode z).e))], .v (.int .i64 (flG s m e mode))])) := by
 have hl := len_bl hm
 refine Con.of_aw Tryz.func205 rfl Tryz.ntmps205 (by simp) (by simp) (by simp) (W.sound ?_)
 show @W Tryz.prog 105 ⟨_⟩ ⟨fun x σ => @retW _ _ _ ⟨_⟩ _ ⟨_⟩ x σ⟩ _ _
 simp (disch := omega) only [go_sem]
 refine ifW_dec (fun h1 => ?_) (fun h1 => ?_)
 ·have h0 : m = 0 := lim_eq_nil.1 (List.length_eq_zero_iff.1 (by omega))
  simp (disch := omega) only [go_sem, h1]
  refine fin_valc (by simp (disch := omega) only [go_sem]) (by simp (disch := omega) only [go_sem]) ⟨?_, rfl, rfl⟩
  simp only [tupA, flV, flG, h0, if_true]
 ·have h0 : m ≠ 0 := fun e => h1 (by rw [e, lim_zero]; rfl)
  have hod : m % 2 = 1 := hodd.resolve_right h0
  simp (disch := omega) only [go_sem, h1]
  have etop : (if m = 0 then (0 : Int) else e + (bl m : Int)) = (bl m : Int) + e := by rw [if_neg h0]; omega
  refine call_cI (con_l4top s m e (by omega) (by omega)) ?_ (by simp (disch := omega) only [go_sem, etop])
  simp (disch := omega) only [go_sem]
  simp (disch := omega) only [go_sem, etop]
  have hL0 : flLow ((bl m : Int) + e) = (if -1074 > (bl m : Int) + e - 53 then -1074 else (bl m : Int) + e - 53) := rfl
  have hVG : ∀ (k mm ee fg : Int), flK s mode (roM s m e (flLow (bl m + e)) mode) (roE m e (flLow (bl m + e))) = k → flMm s mode (roM s m e (flLow (bl m + e)) mode) (roE m e (flLow (bl m + e))) = mm → flEe s mode (roM s m e (flLow (bl m + e)) mode) (roE m e (flLow (bl m + e))) = ee →
    flFl (bl m + e) (roX m e (flLow (bl m + e))) (roM s m e (flLow (bl m + e)) mode) (roE m e (flLow (bl m + e))) = fg →
    AV.tu [.ag [.v (.int .i64 k), .v (.bool s), .v (.int .i64 mm), .v (.int .i64 ee)], .v (.int .i64 fg)] = .tu [.ag [.v (.int .i64 ((flV s m e mode z).k)), .v (.bool ((flV s m e mode z).s)), .v (.int .i64 ((flV s m e mode z).m)), .v (.int .i64 ((flV s m e mode z).e))], .v (.int .i64 (flG s m e mode))] := by
   intro k mm ee fg g1 g2 g3 g4
   unfold flV flG
   rw [if_neg h0, if_neg h0, g1, g2, g3, g4]
  have hform := ro_form (s := s) (m := m) (e := e) (mode := mode) h0
  refine ifW_dec (fun h2 => ?_) (fun h2 => ?_)
  ·have hL : flLow ((bl m : Int) + e) = -1074 := by unfold flLow; rw [if_pos (by omega)]
   simp (disch := omega) only [go_sem, h2]
   have hbl := ro_bl (s := s) (e := e) (low := -1074) (mode := mode) hm
   have hroE : -1000000 ≤ roE m e (-1074) ∧ roE m e (-1074) ≤ 1000000 := by unfold roE; split <;> omega
   obtain ⟨q1, q2⟩ := sr_eq (s := s) (e := e) (low := -1074) (mode := mode) hod
   have q3 := roS_eq (s := s) (m := m) (e := e) (low := -1074) (mode := mode)
   refine call_oI (con_l4round s m e (-1074) mode hodd hs hmode (by omega) (by omega) (by omega)) ?_ (by simp (disch := omega) only [go_sem, etop])
   simp (disch := omega) only [go_sem]
   rw [hL] at hVG hform
   generalize srM s m e (-1074) mode = xm at *
   generalize srE s m e (-1074) mode = xe at *
   generalize oS (roS s m e (-1074) mode) (roM s m e (-1074) mode) = xs at *
   generalize hrm : roM s m e (-1074) mode = rm at *
   generalize hre : roE m e (-1074) = re at *
   generalize hrx : roX m e (-1074) = same at *
   have hxm0 : ((lim xm).length : Int) = 0 ↔ rm = 0 := by rw [q1, ← oM_eq_zero]; exact ⟨fun h => lim_eq_nil.1 (List.length_eq_zero_iff.1 (by omega)), fun h => by rw [h, lim_zero]; rfl⟩
   have hxmb : bl xm ≤ 100001 := by rw [q1]; exact Nat.le_trans (bl_mono (oM_le rm)) hbl
   have lxm := len_bl hxmb
   have hxeb : -2000000 ≤ xe ∧ xe ≤ 2000000 := by have := oE_bnd hbl hroE; omega
   have etop2 : rm ≠ 0 → (if xm = 0 then (0 : Int) else xe + (bl xm : Int)) = (bl rm : Int) + re := fun h => by
    have h2 := bl_oM h
    have h3 : xm ≠ 0 := by rw [q1]; exact fun e => h (oM_eq_zero.1 e)
    rw [if_neg h3, q2, q1]; unfold oE; rw [if_neg h]; omega
   refine ifW_nb (fun h3 => ?_) (fun h3 => ?_)
   ·simp (disch := omega) only [go_sem, h3]
    refine call_cI (con_l4top s m e (by omega) (by omega)) ?_ (by simp (disch := omega) only [go_sem, etop])
    simp (disch := omega) only [go_sem]
    simp (disch := omega) only [go_sem, etop]
    refine ifW_dec (fun h4 => ?_) (fun h4 => ?_)
    ·have hfl : flFlags (bl m + e) same = 5 := by unfold flFlags; rw [h3, if_neg (by simp), if_pos (by omega)]
     have e5 : ((1 ||| 4 : Nat) : Int) = 5 := rfl
     simp (disch := omega) only [go_sem, h4, e5]
     refine ifW_dec (fun h5 => ?_) (fun h5 => ?_)
     ·have hr0 : rm = 0 := hxm0.1 h5
      simp (disch := omega) only [go_sem, h5]
      refine fin_valc (by simp (disch := omega) only [go_sem]) (by simp (disch := omega) only [go_sem]) ⟨?_, rfl, rfl⟩
      refine hVG 0 0 0 5 (by simp [flK, hr0]) (by simp [flMm, hr0]) (by simp [flEe, hr0]) (by simp [flFl, hr0, hfl])
     ·have hr0 : rm ≠ 0 := fun e => h5 (hxm0.2 e)
      have et2 := etop2 hr0
      have hxs : xs = s := q3 hr0
      have hff := hform hr0
      have hM := flM_lt hr0 hff
      simp (disch := omega) only [go_sem, h5]
      refine call_cI (con_l4top xs xm xe (by omega) (by omega)) ?_ (by simp (disch := omega) only [go_sem, et2])
      simp (disch := omega) only [go_sem]
      simp (disch := omega) only [go_sem, et2]
      refine ifW_dec (fun h6 => ?_) (fun h6 => ?_)
      ·have hov : ∀ (k mm ee : Int), k = (if ovB s mode then 1 else 2) → mm = (if ovB s mode then 9007199254740991 else 0) → ee = (if ovB s mode then 971 else 0) → AV.tu [.ag [.v (.int .i64 k), .v (.bool s), .v (.int .i64 mm), .v (.int .i64 ee)], .v (.int .i64 3)] = .tu [.ag [.v (.int .i64 ((flV s m e mode z).k)), .v (.bool ((flV s m e mode z).s)), .v (.int .i64 ((flV s m e mode z).m)), .v (.int .i64 ((flV s m e mode z).e))], .v (.int .i64 (flG s m e mode))] := by
        rintro k mm ee rfl rfl rfl
        exact hVG _ _ _ 3 (by unfold flK; rw [if_neg hr0, if_pos h6]) (by unfold flMm; rw [if_neg hr0, if_pos h6]) (by unfold flEe; rw [if_neg hr0, if_pos h6]) (by unfold flFl; rw [if_pos ⟨hr0, h6⟩])
       clear hVG hform hrm hrx q3 hxs et2 hfl
       obtain rfl | rfl | rfl | rfl | rfl : mode = 0 ∨ mode = 1 ∨ mode = 2 ∨ mode = 3 ∨ mode = 4 := by omega
       ·cases s
        ·simp (disch := omega) only [go_sem, h6]
         refine fin_valc (by simp (disch := omega) only [go_sem]) (by simp (disch := omega) only [go_sem]) ⟨?_, rfl, rfl⟩
         exact hov _ _ _ rfl rfl rfl
        ·simp (disch := omega) only [go_sem, h6]
         refine fin_valc (by simp (disch := omega) only [go_sem]) (by simp (disch := omega) only [go_sem]) ⟨?_, rfl, rfl⟩
         exact hov _ _ _ rfl rfl rfl
       ·cases s
        ·simp (disch := omega) only [go_sem, h6]
         refine call_cI (con_l5most false) ?_
         simp (disch := omega) only [go_sem]
         refine fin_valc (by simp (disch := omega) only [go_sem]) (by simp (disch := omega) only [go_sem]) ⟨?_, rfl, rfl⟩
         exact hov _ _ _ rfl rfl rfl
        ·simp (disch := omega) only [go_sem, h6]
         refine call_cI (con_l5most true) ?_
         simp (disch := omega) only [go_sem]
         refine fin_valc (by simp (disch := omega) only [go_sem]) (by simp (disch := omega) only [go_sem]) ⟨?_, rfl, rfl⟩
         exact hov _ _ _ rfl rfl rfl
       ·cases s
        ·simp (disch := omega) only [go_sem, h6]
         refine fin_valc (by simp (disch := omega) only [go_sem]) (by simp (disch := omega) only [go_sem]) ⟨?_, rfl, rfl⟩
         exact hov _ _ _ rfl rfl rfl
        ·simp (disch := omega) only [go_sem, h6]
         refine call_cI (con_l5most true) ?_
         simp (disch := omega) only [go_sem]
         refine fin_valc (by simp (disch := omega) only [go_sem]) (by simp (disch := omega) only [go_sem]) ⟨?_, rfl, rfl⟩
         exact hov _ _ _ rfl rfl rfl
       ·cases s
        ·simp (disch := omega) only [go_sem, h6]
         refine call_cI (con_l5most false) ?_
         simp (disch := omega) only [go_sem]
         refine fin_valc (by simp (disch := omega) only [go_sem]) (by simp (disch := omega) only [go_sem]) ⟨?_, rfl, rfl⟩
         exact hov _ _ _ rfl rfl rfl
        ·simp (disch := omega) only [go_sem, h6]
         refine fin_valc (by simp (disch := omega) only [go_sem]) (by simp (disch := omega) only [go_sem]) ⟨?_, rfl, rfl⟩
         exact hov _ _ _ rfl rfl rfl
       ·cases s
        ·simp (disch := omega) only [go_sem, h6]
         refine fin_valc (by simp (disch := omega) only [go_sem]) (by simp (disch := omega) only [go_sem]) ⟨?_, rfl, rfl⟩
         exact hov _ _ _ rfl rfl rfl
        ·simp (disch := omega) only [go_sem, h6]
         refine fin_valc (by simp (disch := omega) only [go_sem]) (by simp (disch := omega) only [go_sem]) ⟨?_, rfl, rfl⟩
         exact hov _ _ _ rfl rfl rfl
      ·simp (disch := omega) only [go_sem, h6]
       refine call_cI (con_l4top xs xm xe (by omega) (by omega)) ?_ (by simp (disch := omega) only [go_sem, et2])
       simp (disch := omega) only [go_sem]
       simp (disch := omega) only [go_sem, et2]
       have hfin : ∀ mm : Int, mm = (flM rm re : Int) → AV.tu [.ag [.v (.int .i64 1), .v (.bool xs), .v (.int .i64 mm), .v (.int .i64 (flE rm re))], .v (.int .i64 5)] = .tu [.ag [.v (.int .i64 ((flV s m e mode z).k)), .v (.bool ((flV s m e mode z).s)), .v (.int .i64 ((flV s m e mode z).m)), .v (.int .i64 ((flV s m e mode z).e))], .v (.int .i64 (flG s m e mode))] := by
        rintro mm rfl
        rw [hxs]
        exact hVG 1 _ _ 5 (by unfold flK; rw [if_neg hr0, if_neg (by omega)]) (by unfold flMm; rw [if_neg hr0, if_neg (by omega)]) (by unfold flEe; rw [if_neg hr0, if_neg (by omega)]) (by unfold flFl; rw [if_neg (by omega), hfl])
       have ek : xe - flE rm re = (((oE rm re - flE rm re).toNat : Nat) : Int) := by omega
       have hk9 : (oE rm re - flE rm re).toNat ≤ 53 := by have h9 := hM; unfold flM at h9; rw [bl_mul_pow (fun e => hr0 (oM_eq_zero.1 e))] at h9; omega
       have hM6 : flM rm re < 2 ^ 53 := Nat.lt_of_lt_of_le (bl_lt _) (Nat.pow_le_pow_right (by omega) hM)
       have eM : xm * 2 ^ (oE rm re - flE rm re).toNat = flM rm re := by rw [q1]; rfl
       generalize hkk : (oE rm re - flE rm re).toNat = kk at *
       refine ifW_dec (fun h7 => ?_) (fun h7 => ?_)
       ·have eE : flE rm re = -1074 := by unfold flE flLow; rw [if_pos (by omega)]
        simp (disch := omega) only [go_sem, h7]
        rw [eE] at ek hfin
        try rw [← et2] at hfin
        refine draw_of rfl [⟨0, [], []⟩, ⟨1, [], []⟩, ⟨2, [], []⟩, ⟨3, [2], []⟩, ⟨4, [2], []⟩, ⟨5, [2], []⟩, ⟨6, [2, 5], []⟩, ⟨7, [2, 5], []⟩, ⟨8, [2, 5, 7], []⟩, ⟨9, [2, 5], []⟩, ⟨12, [2, 5, 7], []⟩, ⟨14, [2, 5, 7], []⟩, ⟨10, [2], []⟩, ⟨11, [2], []⟩, ⟨13, [], []⟩, ⟨15, [], []⟩, ⟨16, [], []⟩] (by kernel_rfl) ?_
        simp (disch := omega) only [go_sem]
        refine call_open (con_l2shlF xm kk (by omega) (by omega)) (by simp (disch := omega) only [go_sem, ek, et2]) ?_
        rintro r hs ⟨rfl, rfl, _⟩
        refine ⟨by simp [freeN], ?_⟩
        simp (disch := omega) only [go_sem]
        refine call_cI (con_l2int (xm * 2 ^ kk) (by rw [eM]; omega)) ?_
        simp (disch := omega) only [go_sem]
        refine fin_valc (by simp (disch := omega) only [go_sem]) (by simp (disch := omega) only [go_sem]) ⟨?_, rfl, rfl⟩
        exact hfin ((xm * 2 ^ kk : Nat) : Int) (by rw [eM])
       ·have eE : flE rm re = (bl rm : Int) + re - 53 := by unfold flE flLow; rw [if_neg (by omega)]
        simp (disch := omega) only [go_sem, h7]
        rw [eE] at ek hfin
        try rw [← et2] at hfin
        refine draw_of rfl [⟨0, [], []⟩, ⟨1, [], []⟩, ⟨2, [], []⟩, ⟨3, [2], []⟩, ⟨4, [2], []⟩, ⟨5, [2], []⟩, ⟨6, [2, 5], []⟩, ⟨7, [2, 5], []⟩, ⟨8, [2, 5, 7], []⟩, ⟨9, [2, 5], []⟩, ⟨12, [2, 5, 7], []⟩, ⟨14, [2, 5, 7], []⟩, ⟨10, [2], []⟩, ⟨11, [2], []⟩, ⟨13, [], []⟩, ⟨15, [], []⟩, ⟨16, [], []⟩] (by kernel_rfl) ?_
        simp (disch := omega) only [go_sem]
        refine call_open (con_l2shlF xm kk (by omega) (by omega)) (by simp (disch := omega) only [go_sem, ek, et2]) ?_
        rintro r hs ⟨rfl, rfl, _⟩
        refine ⟨by simp [freeN], ?_⟩
        simp (disch := omega) only [go_sem]
        refine call_cI (con_l2int (xm * 2 ^ kk) (by rw [eM]; omega)) ?_
        simp (disch := omega) only [go_sem]
        refine fin_valc (by simp (disch := omega) only [go_sem]) (by simp (disch := omega) only [go_sem]) ⟨?_, rfl, rfl⟩
        exact hfin ((xm * 2 ^ kk : Nat) : Int) (by rw [eM])
    ·have hfl : flFlags (bl m + e) same = 1 := by unfold flFlags; rw [h3, if_neg (by simp), if_neg (by omega)]
     have e5 := (rfl : (0 : Nat) = 0)
     simp (disch := omega) only [go_sem, h4]
     refine ifW_dec (fun h5 => ?_) (fun h5 => ?_)
     ·have hr0 : rm = 0 := hxm0.1 h5
      simp (disch := omega) only [go_sem, h5]
      refine fin_valc (by simp (disch := omega) only [go_sem]) (by simp (disch := omega) only [go_sem]) ⟨?_, rfl, rfl⟩
      refine hVG 0 0 0 1 (by simp [flK, hr0]) (by simp [flMm, hr0]) (by simp [flEe, hr0]) (by simp [flFl, hr0, hfl])
     ·have hr0 : rm ≠ 0 := fun e => h5 (hxm0.2 e)
      have et2 := etop2 hr0
      have hxs : xs = s := q3 hr0
      have hff := hform hr0
      have hM := flM_lt hr0 hff
      simp (disch := omega) only [go_sem, h5]
      refine call_cI (con_l4top xs xm xe (by omega) (by omega)) ?_ (by simp (disch := omega) only [go_sem, et2])
      simp (disch := omega) only [go_sem]
      simp (disch := omega) only [go_sem, et2]
      refine ifW_dec (fun h6 => ?_) (fun h6 => ?_)
      ·have hov : ∀ (k mm ee : Int), k = (if ovB s mode then 1 else 2) → mm = (if ovB s mode then 9007199254740991 else 0) → ee = (if ovB s mode then 971 else 0) → AV.tu [.ag [.v (.int .i64 k), .v (.bool s), .v (.int .i64 mm), .v (.int .i64 ee)], .v (.int .i64 3)] = .tu [.ag [.v (.int .i64 ((flV s m e mode z).k)), .v (.bool ((flV s m e mode z).s)), .v (.int .i64 ((flV s m e mode z).m)), .v (.int .i64 ((flV s m e mode z).e))], .v (.int .i64 (flG s m e mode))] := by
        rintro k mm ee rfl rfl rfl
        exact hVG _ _ _ 3 (by unfold flK; rw [if_neg hr0, if_pos h6]) (by unfold flMm; rw [if_neg hr0, if_pos h6]) (by unfold flEe; rw [if_neg hr0, if_pos h6]) (by unfold flFl; rw [if_pos ⟨hr0, h6⟩])
       clear hVG hform hrm hrx q3 hxs et2 hfl
       obtain rfl | rfl | rfl | rfl | rfl : mode = 0 ∨ mode = 1 ∨ mode = 2 ∨ mode = 3 ∨ mode = 4 := by omega
       ·cases s
        ·simp (disch := omega) only [go_sem, h6]
         refine fin_valc (by simp (disch := omega) only [go_sem]) (by simp (disch := omega) only [go_sem]) ⟨?_, rfl, rfl⟩
         exact hov _ _ _ rfl rfl rfl
        ·simp (disch := omega) only [go_sem, h6]
         refine fin_valc (by simp (disch := omega) only [go_sem]) (by simp (disch := omega) only [go_sem]) ⟨?_, rfl, rfl⟩
         exact hov _ _ _ rfl rfl rfl
       ·cases s
        ·simp (disch := omega) only [go_sem, h6]
         refine call_cI (con_l5most false) ?_
         simp (disch := omega) only [go_sem]
         refine fin_valc (by simp (disch := omega) only [go_sem]) (by simp (disch := omega) only [go_sem]) ⟨?_, rfl, rfl⟩
         exact hov _ _ _ rfl rfl rfl
        ·simp (disch := omega) only [go_sem, h6]
         refine call_cI (con_l5most true) ?_
         simp (disch := omega) only [go_sem]
         refine fin_valc (by simp (disch := omega) only [go_sem]) (by simp (disch := omega) only [go_sem]) ⟨?_, rfl, rfl⟩
         exact hov _ _ _ rfl rfl rfl
       ·cases s
        ·simp (disch := omega) only [go_sem, h6]
         refine fin_valc (by simp (disch := omega) only [go_sem]) (by simp (disch := omega) only [go_sem]) ⟨?_, rfl, rfl⟩
         exact hov _ _ _ rfl rfl rfl
        ·simp (disch := omega) only [go_sem, h6]
         refine call_cI (con_l5most true) ?_
         simp (disch := omega) only [go_sem]
         refine fin_valc (by simp (disch := omega) only [go_sem]) (by simp (disch := omega) only [go_sem]) ⟨?_, rfl, rfl⟩
         exact hov _ _ _ rfl rfl rfl
       ·cases s
        ·simp (disch := omega) only [go_sem, h6]
         refine call_cI (con_l5most false) ?_
         simp (disch := omega) only [go_sem]
         refine fin_valc (by simp (disch := omega) only [go_sem]) (by simp (disch := omega) only [go_sem]) ⟨?_, rfl, rfl⟩
         exact hov _ _ _ rfl rfl rfl
        ·simp (disch := omega) only [go_sem, h6]
         refine fin_valc (by simp (disch := omega) only [go_sem]) (by simp (disch := omega) only [go_sem]) ⟨?_, rfl, rfl⟩
         exact hov _ _ _ rfl rfl rfl
       ·cases s
        ·simp (disch := omega) only [go_sem, h6]
         refine fin_valc (by simp (disch := omega) only [go_sem]) (by simp (disch := omega) only [go_sem]) ⟨?_, rfl, rfl⟩
         exact hov _ _ _ rfl rfl rfl
        ·simp (disch := omega) only [go_sem, h6]
         refine fin_valc (by simp (disch := omega) only [go_sem]) (by simp (disch := omega) only [go_sem]) ⟨?_, rfl, rfl⟩
         exact hov _ _ _ rfl rfl rfl
      ·simp (disch := omega) only [go_sem, h6]
       refine call_cI (con_l4top xs xm xe (by omega) (by omega)) ?_ (by simp (disch := omega) only [go_sem, et2])
       simp (disch := omega) only [go_sem]
       simp (disch := omega) only [go_sem, et2]
       have hfin : ∀ mm : Int, mm = (flM rm re : Int) → AV.tu [.ag [.v (.int .i64 1), .v (.bool xs), .v (.int .i64 mm), .v (.int .i64 (flE rm re))], .v (.int .i64 1)] = .tu [.ag [.v (.int .i64 ((flV s m e mode z).k)), .v (.bool ((flV s m e mode z).s)), .v (.int .i64 ((flV s m e mode z).m)), .v (.int .i64 ((flV s m e mode z).e))], .v (.int .i64 (flG s m e mode))] := by
        rintro mm rfl
        rw [hxs]
        exact hVG 1 _ _ 1 (by unfold flK; rw [if_neg hr0, if_neg (by omega)]) (by unfold flMm; rw [if_neg hr0, if_neg (by omega)]) (by unfold flEe; rw [if_neg hr0, if_neg (by omega)]) (by unfold flFl; rw [if_neg (by omega), hfl])
       have ek : xe - flE rm re = (((oE rm re - flE rm re).toNat : Nat) : Int) := by omega
       have hk9 : (oE rm re - flE rm re).toNat ≤ 53 := by have h9 := hM; unfold flM at h9; rw [bl_mul_pow (fun e => hr0 (oM_eq_zero.1 e))] at h9; omega
       have hM6 : flM rm re < 2 ^ 53 := Nat.lt_of_lt_of_le (bl_lt _) (Nat.pow_le_pow_right (by omega) hM)
       have eM : xm * 2 ^ (oE rm re - flE rm re).toNat = flM rm re := by rw [q1]; rfl
       generalize hkk : (oE rm re - flE rm re).toNat = kk at *
       refine ifW_dec (fun h7 => ?_) (fun h7 => ?_)
       ·have eE : flE rm re = -1074 := by unfold flE flLow; rw [if_pos (by omega)]
        simp (disch := omega) only [go_sem, h7]
        rw [eE] at ek hfin
        try rw [← et2] at hfin
        refine draw_of rfl [⟨0, [], []⟩, ⟨1, [], []⟩, ⟨2, [], []⟩, ⟨3, [2], []⟩, ⟨4, [2], []⟩, ⟨5, [2], []⟩, ⟨6, [2, 5], []⟩, ⟨7, [2, 5], []⟩, ⟨8, [2, 5, 7], []⟩, ⟨9, [2, 5], []⟩, ⟨12, [2, 5, 7], []⟩, ⟨14, [2, 5, 7], []⟩, ⟨10, [2], []⟩, ⟨11, [2], []⟩, ⟨13, [], []⟩, ⟨15, [], []⟩, ⟨16, [], []⟩] (by kernel_rfl) ?_
        simp (disch := omega) only [go_sem]
        refine call_open (con_l2shlF xm kk (by omega) (by omega)) (by simp (disch := omega) only [go_sem, ek, et2]) ?_
        rintro r hs ⟨rfl, rfl, _⟩
        refine ⟨by simp [freeN], ?_⟩
        simp (disch := omega) only [go_sem]
        refine call_cI (con_l2int (xm * 2 ^ kk) (by rw [eM]; omega)) ?_
        simp (disch := omega) only [go_sem]
        refine fin_valc (by simp (disch := omega) only [go_sem]) (by simp (disch := omega) only [go_sem]) ⟨?_, rfl, rfl⟩
        exact hfin ((xm * 2 ^ kk : Nat) : Int) (by rw [eM])
       ·have eE : flE rm re = (bl rm : Int) + re - 53 := by unfold flE flLow; rw [if_neg (by omega)]
        simp (disch := omega) only [go_sem, h7]
        rw [eE] at ek hfin
        try rw [← et2] at hfin
        refine draw_of rfl [⟨0, [], []⟩, ⟨1, [], []⟩, ⟨2, [], []⟩, ⟨3, [2], []⟩, ⟨4, [2], []⟩, ⟨5, [2], []⟩, ⟨6, [2, 5], []⟩, ⟨7, [2, 5], []⟩, ⟨8, [2, 5, 7], []⟩, ⟨9, [2, 5], []⟩, ⟨12, [2, 5, 7], []⟩, ⟨14, [2, 5, 7], []⟩, ⟨10, [2], []⟩, ⟨11, [2], []⟩, ⟨13, [], []⟩, ⟨15, [], []⟩, ⟨16, [], []⟩] (by kernel_rfl) ?_
        simp (disch := omega) only [go_sem]
        refine call_open (con_l2shlF xm kk (by omega) (by omega)) (by simp (disch := omega) only [go_sem, ek, et2]) ?_
        rintro r hs ⟨rfl, rfl, _⟩
        refine ⟨by simp [freeN], ?_⟩
        simp (disch := omega) only [go_sem]
        refine call_cI (con_l2int (xm * 2 ^ kk) (by rw [eM]; omega)) ?_
        simp (disch := omega) only [go_sem]
        refine fin_valc (by simp (disch := omega) only [go_sem]) (by simp (disch := omega) only [go_sem]) ⟨?_, rfl, rfl⟩
        exact hfin ((xm * 2 ^ kk : Nat) : Int) (by rw [eM])
   ·have hfl : flFlags (bl m + e) same = 0 := by unfold flFlags; rw [h3, if_pos rfl]
    have e5 := (rfl : (0 : Nat) = 0)
    simp (disch := omega) only [go_sem, h3]
    refine ifW_dec (fun h5 => ?_) (fun h5 => ?_)
    ·have hr0 : rm = 0 := hxm0.1 h5
     simp (disch := omega) only [go_sem, h5]
     refine fin_valc (by simp (disch := omega) only [go_sem]) (by simp (disch := omega) only [go_sem]) ⟨?_, rfl, rfl⟩
     refine hVG 0 0 0 0 (by simp [flK, hr0]) (by simp [flMm, hr0]) (by simp [flEe, hr0]) (by simp [flFl, hr0, hfl])
    ·have hr0 : rm ≠ 0 := fun e => h5 (hxm0.2 e)
     have et2 := etop2 hr0
     have hxs : xs = s := q3 hr0
     have hff := hform hr0
     have hM := flM_lt hr0 hff
     simp (disch := omega) only [go_sem, h5]
     refine call_cI (con_l4top xs xm xe (by omega) (by omega)) ?_ (by simp (disch := omega) only [go_sem, et2])
     simp (disch := omega) only [go_sem]
     simp (disch := omega) only [go_sem, et2]
     refine ifW_dec (fun h6 => ?_) (fun h6 => ?_)
     ·have hov : ∀ (k mm ee : Int), k = (if ovB s mode then 1 else 2) → mm = (if ovB s mode then 9007199254740991 else 0) → ee = (if ovB s mode then 971 else 0) → AV.tu [.ag [.v (.int .i64 k), .v (.bool s), .v (.int .i64 mm), .v (.int .i64 ee)], .v (.int .i64 3)] = .tu [.ag [.v (.int .i64 ((flV s m e mode z).k)), .v (.bool ((flV s m e mode z).s)), .v (.int .i64 ((flV s m e mode z).m)), .v (.int .i64 ((flV s m e mode z).e))], .v (.int .i64 (flG s m e mode))] := by
       rintro k mm ee rfl rfl rfl
       exact hVG _ _ _ 3 (by unfold flK; rw [if_neg hr0, if_pos h6]) (by unfold flMm; rw [if_neg hr0, if_pos h6]) (by unfold flEe; rw [if_neg hr0, if_pos h6]) (by unfold flFl; rw [if_pos ⟨hr0, h6⟩])
      clear hVG hform hrm hrx q3 hxs et2 hfl
      obtain rfl | rfl | rfl | rfl | rfl : mode = 0 ∨ mode = 1 ∨ mode = 2 ∨ mode = 3 ∨ mode = 4 := by omega
      ·cases s
       ·simp (disch := omega) only [go_sem, h6]
        refine fin_valc (by simp (disch := omega) only [go_sem]) (by simp (disch := omega) only [go_sem]) ⟨?_, rfl, rfl⟩
        exact hov _ _ _ rfl rfl rfl
       ·simp (disch := omega) only [go_sem, h6]
        refine fin_valc (by simp (disch := omega) only [go_sem]) (by simp (disch := omega) only [go_sem]) ⟨?_, rfl, rfl⟩
        exact hov _ _ _ rfl rfl rfl
      ·cases s
       ·simp (disch := omega) only [go_sem, h6]
        refine call_cI (con_l5most false) ?_
        simp (disch := omega) only [go_sem]
        refine fin_valc (by simp (disch := omega) only [go_sem]) (by simp (disch := omega) only [go_sem]) ⟨?_, rfl, rfl⟩
        exact hov _ _ _ rfl rfl rfl
       ·simp (disch := omega) only [go_sem, h6]
        refine call_cI (con_l5most true) ?_
        simp (disch := omega) only [go_sem]
        refine fin_valc (by simp (disch := omega) only [go_sem]) (by simp (disch := omega) only [go_sem]) ⟨?_, rfl, rfl⟩
        exact hov _ _ _ rfl rfl rfl
      ·cases s
       ·simp (disch := omega) only [go_sem, h6]
        refine fin_valc (by simp (disch := omega) only [go_sem]) (by simp (disch := omega) only [go_sem]) ⟨?_, rfl, rfl⟩
        exact hov _ _ _ rfl rfl rfl
       ·simp (disch := omega) only [go_sem, h6]
        refine call_cI (con_l5most true) ?_
        simp (disch := omega) only [go_sem]
        refine fin_valc (by simp (disch := omega) only [go_sem]) (by simp (disch := omega) only [go_sem]) ⟨?_, rfl, rfl⟩
        exact hov _ _ _ rfl rfl rfl
      ·cases s
       ·simp (disch := omega) only [go_sem, h6]
        refine call_cI (con_l5most false) ?_
        simp (disch := omega) only [go_sem]
        refine fin_valc (by simp (disch := omega) only [go_sem]) (by simp (disch := omega) only [go_sem]) ⟨?_, rfl, rfl⟩
        exact hov _ _ _ rfl rfl rfl
       ·simp (disch := omega) only [go_sem, h6]
        refine fin_valc (by simp (disch := omega) only [go_sem]) (by simp (disch := omega) only [go_sem]) ⟨?_, rfl, rfl⟩
        exact hov _ _ _ rfl rfl rfl
      ·cases s
       ·simp (disch := omega) only [go_sem, h6]
        refine fin_valc (by simp (disch := omega) only [go_sem]) (by simp (disch := omega) only [go_sem]) ⟨?_, rfl, rfl⟩
        exact hov _ _ _ rfl rfl rfl
       ·simp (disch := omega) only [go_sem, h6]
        refine fin_valc (by simp (disch := omega) only [go_sem]) (by simp (disch := omega) only [go_sem]) ⟨?_, rfl, rfl⟩
        exact hov _ _ _ rfl rfl rfl
     ·simp (disch := omega) only [go_sem, h6]
      refine call_cI (con_l4top xs xm xe (by omega) (by omega)) ?_ (by simp (disch := omega) only [go_sem, et2])
      simp (disch := omega) only [go_sem]
      simp (disch := omega) only [go_sem, et2]
      have hfin : ∀ mm : Int, mm = (flM rm re : Int) → AV.tu [.ag [.v (.int .i64 1), .v (.bool xs), .v (.int .i64 mm), .v (.int .i64 (flE rm re))], .v (.int .i64 0)] = .tu [.ag [.v (.int .i64 ((flV s m e mode z).k)), .v (.bool ((flV s m e mode z).s)), .v (.int .i64 ((flV s m e mode z).m)), .v (.int .i64 ((flV s m e mode z).e))], .v (.int .i64 (flG s m e mode))] := by
       rintro mm rfl
       rw [hxs]
       exact hVG 1 _ _ 0 (by unfold flK; rw [if_neg hr0, if_neg (by omega)]) (by unfold flMm; rw [if_neg hr0, if_neg (by omega)]) (by unfold flEe; rw [if_neg hr0, if_neg (by omega)]) (by unfold flFl; rw [if_neg (by omega), hfl])
      have ek : xe - flE rm re = (((oE rm re - flE rm re).toNat : Nat) : Int) := by omega
      have hk9 : (oE rm re - flE rm re).toNat ≤ 53 := by have h9 := hM; unfold flM at h9; rw [bl_mul_pow (fun e => hr0 (oM_eq_zero.1 e))] at h9; omega
      have hM6 : flM rm re < 2 ^ 53 := Nat.lt_of_lt_of_le (bl_lt _) (Nat.pow_le_pow_right (by omega) hM)
      have eM : xm * 2 ^ (oE rm re - flE rm re).toNat = flM rm re := by rw [q1]; rfl
      generalize hkk : (oE rm re - flE rm re).toNat = kk at *
      refine ifW_dec (fun h7 => ?_) (fun h7 => ?_)
      ·have eE : flE rm re = -1074 := by unfold flE flLow; rw [if_pos (by omega)]
       simp (disch := omega) only [go_sem, h7]
       rw [eE] at ek hfin
       try rw [← et2] at hfin
       refine draw_of rfl [⟨0, [], []⟩, ⟨1, [], []⟩, ⟨2, [], []⟩, ⟨3, [2], []⟩, ⟨4, [2], []⟩, ⟨5, [2], []⟩, ⟨6, [2, 5], []⟩, ⟨7, [2, 5], []⟩, ⟨8, [2, 5, 7], []⟩, ⟨9, [2, 5], []⟩, ⟨12, [2, 5, 7], []⟩, ⟨14, [2, 5, 7], []⟩, ⟨10, [2], []⟩, ⟨11, [2], []⟩, ⟨13, [], []⟩, ⟨15, [], []⟩, ⟨16, [], []⟩] (by kernel_rfl) ?_
       simp (disch := omega) only [go_sem]
       refine call_open (con_l2shlF xm kk (by omega) (by omega)) (by simp (disch := omega) only [go_sem, ek, et2]) ?_
       rintro r hs ⟨rfl, rfl, _⟩
       refine ⟨by simp [freeN], ?_⟩
       simp (disch := omega) only [go_sem]
       refine call_cI (con_l2int (xm * 2 ^ kk) (by rw [eM]; omega)) ?_
       simp (disch := omega) only [go_sem]
       refine fin_valc (by simp (disch := omega) only [go_sem]) (by simp (disch := omega) only [go_sem]) ⟨?_, rfl, rfl⟩
       exact hfin ((xm * 2 ^ kk : Nat) : Int) (by rw [eM])
      ·have eE : flE rm re = (bl rm : Int) + re - 53 := by unfold flE flLow; rw [if_neg (by omega)]
       simp (disch := omega) only [go_sem, h7]
       rw [eE] at ek hfin
       try rw [← et2] at hfin
       refine draw_of rfl [⟨0, [], []⟩, ⟨1, [], []⟩, ⟨2, [], []⟩, ⟨3, [2], []⟩, ⟨4, [2], []⟩, ⟨5, [2], []⟩, ⟨6, [2, 5], []⟩, ⟨7, [2, 5], []⟩, ⟨8, [2, 5, 7], []⟩, ⟨9, [2, 5], []⟩, ⟨12, [2, 5, 7], []⟩, ⟨14, [2, 5, 7], []⟩, ⟨10, [2], []⟩, ⟨11, [2], []⟩, ⟨13, [], []⟩, ⟨15, [], []⟩, ⟨16, [], []⟩] (by kernel_rfl) ?_
       simp (disch := omega) only [go_sem]
       refine call_open (con_l2shlF xm kk (by omega) (by omega)) (by simp (disch := omega) only [go_sem, ek, et2]) ?_
       rintro r hs ⟨rfl, rfl, _⟩
       refine ⟨by simp [freeN], ?_⟩
       simp (disch := omega) only [go_sem]
       refine call_cI (con_l2int (xm * 2 ^ kk) (by rw [eM]; omega)) ?_
       simp (disch := omega) only [go_sem]
       refine fin_valc (by simp (disch := omega) only [go_sem]) (by simp (disch := omega) only [go_sem]) ⟨?_, rfl, rfl⟩
       exact hfin ((xm * 2 ^ kk : Nat) : Int) (by rw [eM])
  ·have hL : flLow ((bl m : Int) + e) = (bl m : Int) + e - 53 := by unfold flLow; rw [if_neg (by omega)]
   simp (disch := omega) only [go_sem, h2]
   have hbl := ro_bl (s := s) (e := e) (low := (bl m : Int) + e - 53) (mode := mode) hm
   have hroE : -1000000 ≤ roE m e ((bl m : Int) + e - 53) ∧ roE m e ((bl m : Int) + e - 53) ≤ 1000000 := by unfold roE; split <;> omega
   obtain ⟨q1, q2⟩ := sr_eq (s := s) (e := e) (low := (bl m : Int) + e - 53) (mode := mode) hod
   have q3 := roS_eq (s := s) (m := m) (e := e) (low := (bl m : Int) + e - 53) (mode := mode)
   refine call_oI (con_l4round s m e ((bl m : Int) + e - 53) mode hodd hs hmode (by omega) (by omega) (by omega)) ?_ (by simp (disch := omega) only [go_sem, etop])
   simp (disch := omega) only [go_sem]
   rw [hL] at hVG hform
   generalize srM s m e ((bl m : Int) + e - 53) mode = xm at *
   generalize srE s m e ((bl m : Int) + e - 53) mode = xe at *
   generalize oS (roS s m e ((bl m : Int) + e - 53) mode) (roM s m e ((bl m : Int) + e - 53) mode) = xs at *
   generalize hrm : roM s m e ((bl m : Int) + e - 53) mode = rm at *
   generalize hre : roE m e ((bl m : Int) + e - 53) = re at *
   generalize hrx : roX m e ((bl m : Int) + e - 53) = same at *
   have hxm0 : ((lim xm).length : Int) = 0 ↔ rm = 0 := by rw [q1, ← oM_eq_zero]; exact ⟨fun h => lim_eq_nil.1 (List.length_eq_zero_iff.1 (by omega)), fun h => by rw [h, lim_zero]; rfl⟩
   have hxmb : bl xm ≤ 100001 := by rw [q1]; exact Nat.le_trans (bl_mono (oM_le rm)) hbl
   have lxm := len_bl hxmb
   have hxeb : -2000000 ≤ xe ∧ xe ≤ 2000000 := by have := oE_bnd hbl hroE; omega
   have etop2 : rm ≠ 0 → (if xm = 0 then (0 : Int) else xe + (bl xm : Int)) = (bl rm : Int) + re := fun h => by
    have h2 := bl_oM h
    have h3 : xm ≠ 0 := by rw [q1]; exact fun e => h (oM_eq_zero.1 e)
    rw [if_neg h3, q2, q1]; unfold oE; rw [if_neg h]; omega
   refine ifW_nb (fun h3 => ?_) (fun h3 => ?_)
   ·simp (disch := omega) only [go_sem, h3]
    refine call_cI (con_l4top s m e (by omega) (by omega)) ?_ (by simp (disch := omega) only [go_sem, etop])
    simp (disch := omega) only [go_sem]
    simp (disch := omega) only [go_sem, etop]
    refine ifW_dec (fun h4 => ?_) (fun h4 => ?_)
    ·have hfl : flFlags (bl m + e) same = 5 := by unfold flFlags; rw [h3, if_neg (by simp), if_pos (by omega)]
     have e5 : ((1 ||| 4 : Nat) : Int) = 5 := rfl
     simp (disch := omega) only [go_sem, h4, e5]
     refine ifW_dec (fun h5 => ?_) (fun h5 => ?_)
     ·have hr0 : rm = 0 := hxm0.1 h5
      simp (disch := omega) only [go_sem, h5]
      refine fin_valc (by simp (disch := omega) only [go_sem]) (by simp (disch := omega) only [go_sem]) ⟨?_, rfl, rfl⟩
      refine hVG 0 0 0 5 (by simp [flK, hr0]) (by simp [flMm, hr0]) (by simp [flEe, hr0]) (by simp [flFl, hr0, hfl])
     ·have hr0 : rm ≠ 0 := fun e => h5 (hxm0.2 e)
      have et2 := etop2 hr0
      have hxs : xs = s := q3 hr0
      have hff := hform hr0
      have hM := flM_lt hr0 hff
      simp (disch := omega) only [go_sem, h5]
      refine call_cI (con_l4top xs xm xe (by omega) (by omega)) ?_ (by simp (disch := omega) only [go_sem, et2])
      simp (disch := omega) only [go_sem]
      simp (disch := omega) only [go_sem, et2]
      refine ifW_dec (fun h6 => ?_) (fun h6 => ?_)
      ·have hov : ∀ (k mm ee : Int), k = (if ovB s mode then 1 else 2) → mm = (if ovB s mode then 9007199254740991 else 0) → ee = (if ovB s mode then 971 else 0) → AV.tu [.ag [.v (.int .i64 k), .v (.bool s), .v (.int .i64 mm), .v (.int .i64 ee)], .v (.int .i64 3)] = .tu [.ag [.v (.int .i64 ((flV s m e mode z).k)), .v (.bool ((flV s m e mode z).s)), .v (.int .i64 ((flV s m e mode z).m)), .v (.int .i64 ((flV s m e mode z).e))], .v (.int .i64 (flG s m e mode))] := by
        rintro k mm ee rfl rfl rfl
        exact hVG _ _ _ 3 (by unfold flK; rw [if_neg hr0, if_pos h6]) (by unfold flMm; rw [if_neg hr0, if_pos h6]) (by unfold flEe; rw [if_neg hr0, if_pos h6]) (by unfold flFl; rw [if_pos ⟨hr0, h6⟩])
       clear hVG hform hrm hrx q3 hxs et2 hfl
       obtain rfl | rfl | rfl | rfl | rfl : mode = 0 ∨ mode = 1 ∨ mode = 2 ∨ mode = 3 ∨ mode = 4 := by omega
       ·cases s
        ·simp (disch := omega) only [go_sem, h6]
         refine fin_valc (by simp (disch := omega) only [go_sem]) (by simp (disch := omega) only [go_sem]) ⟨?_, rfl, rfl⟩
         exact hov _ _ _ rfl rfl rfl
        ·simp (disch := omega) only [go_sem, h6]
         refine fin_valc (by simp (disch := omega) only [go_sem]) (by simp (disch := omega) only [go_sem]) ⟨?_, rfl, rfl⟩
         exact hov _ _ _ rfl rfl rfl
       ·cases s
        ·simp (disch := omega) only [go_sem, h6]
         refine call_cI (con_l5most false) ?_
         simp (disch := omega) only [go_sem]
         refine fin_valc (by simp (disch := omega) only [go_sem]) (by simp (disch := omega) only [go_sem]) ⟨?_, rfl, rfl⟩
         exact hov _ _ _ rfl rfl rfl
        ·simp (disch := omega) only [go_sem, h6]
         refine call_cI (con_l5most true) ?_
         simp (disch := omega) only [go_sem]
         refine fin_valc (by simp (disch := omega) only [go_sem]) (by simp (disch := omega) only [go_sem]) ⟨?_, rfl, rfl⟩
         exact hov _ _ _ rfl rfl rfl
       ·cases s
        ·simp (disch := omega) only [go_sem, h6]
         refine fin_valc (by simp (disch := omega) only [go_sem]) (by simp (disch := omega) only [go_sem]) ⟨?_, rfl, rfl⟩
         exact hov _ _ _ rfl rfl rfl
        ·simp (disch := omega) only [go_sem, h6]
         refine call_cI (con_l5most true) ?_
         simp (disch := omega) only [go_sem]
         refine fin_valc (by simp (disch := omega) only [go_sem]) (by simp (disch := omega) only [go_sem]) ⟨?_, rfl, rfl⟩
         exact hov _ _ _ rfl rfl rfl
       ·cases s
        ·simp (disch := omega) only [go_sem, h6]
         refine call_cI (con_l5most false) ?_
         simp (disch := omega) only [go_sem]
         refine fin_valc (by simp (disch := omega) only [go_sem]) (by simp (disch := omega) only [go_sem]) ⟨?_, rfl, rfl⟩
         exact hov _ _ _ rfl rfl rfl
        ·simp (disch := omega) only [go_sem, h6]
         refine fin_valc (by simp (disch := omega) only [go_sem]) (by simp (disch := omega) only [go_sem]) ⟨?_, rfl, rfl⟩
         exact hov _ _ _ rfl rfl rfl
       ·cases s
        ·simp (disch := omega) only [go_sem, h6]
         refine fin_valc (by simp (disch := omega) only [go_sem]) (by simp (disch := omega) only [go_sem]) ⟨?_, rfl, rfl⟩
         exact hov _ _ _ rfl rfl rfl
        ·simp (disch := omega) only [go_sem, h6]
         refine fin_valc (by simp (disch := omega) only [go_sem]) (by simp (disch := omega) only [go_sem]) ⟨?_, rfl, rfl⟩
         exact hov _ _ _ rfl rfl rfl
      ·simp (disch := omega) only [go_sem, h6]
       refine call_cI (con_l4top xs xm xe (by omega) (by omega)) ?_ (by simp (disch := omega) only [go_sem, et2])
       simp (disch := omega) only [go_sem]
       simp (disch := omega) only [go_sem, et2]
       have hfin : ∀ mm : Int, mm = (flM rm re : Int) → AV.tu [.ag [.v (.int .i64 1), .v (.bool xs), .v (.int .i64 mm), .v (.int .i64 (flE rm re))], .v (.int .i64 5)] = .tu [.ag [.v (.int .i64 ((flV s m e mode z).k)), .v (.bool ((flV s m e mode z).s)), .v (.int .i64 ((flV s m e mode z).m)), .v (.int .i64 ((flV s m e mode z).e))], .v (.int .i64 (flG s m e mode))] := by
        rintro mm rfl
        rw [hxs]
        exact hVG 1 _ _ 5 (by unfold flK; rw [if_neg hr0, if_neg (by omega)]) (by unfold flMm; rw [if_neg hr0, if_neg (by omega)]) (by unfold flEe; rw [if_neg hr0, if_neg (by omega)]) (by unfold flFl; rw [if_neg (by omega), hfl])
       have ek : xe - flE rm re = (((oE rm re - flE rm re).toNat : Nat) : Int) := by omega
       have hk9 : (oE rm re - flE rm re).toNat ≤ 53 := by have h9 := hM; unfold flM at h9; rw [bl_mul_pow (fun e => hr0 (oM_eq_zero.1 e))] at h9; omega
       have hM6 : flM rm re < 2 ^ 53 := Nat.lt_of_lt_of_le (bl_lt _) (Nat.pow_le_pow_right (by omega) hM)
       have eM : xm * 2 ^ (oE rm re - flE rm re).toNat = flM rm re := by rw [q1]; rfl
       generalize hkk : (oE rm re - flE rm re).toNat = kk at *
       refine ifW_dec (fun h7 => ?_) (fun h7 => ?_)
       ·have eE : flE rm re = -1074 := by unfold flE flLow; rw [if_pos (by omega)]
        simp (disch := omega) only [go_sem, h7]
        rw [eE] at ek hfin
        try rw [← et2] at hfin
        refine draw_of rfl [⟨0, [], []⟩, ⟨1, [], []⟩, ⟨2, [], []⟩, ⟨3, [2], []⟩, ⟨4, [2], []⟩, ⟨5, [2], []⟩, ⟨6, [2, 5], []⟩, ⟨7, [2, 5], []⟩, ⟨8, [2, 5, 7], []⟩, ⟨9, [2, 5], []⟩, ⟨12, [2, 5, 7], []⟩, ⟨14, [2, 5, 7], []⟩, ⟨10, [2], []⟩, ⟨11, [2], []⟩, ⟨13, [], []⟩, ⟨15, [], []⟩, ⟨16, [], []⟩] (by kernel_rfl) ?_
        simp (disch := omega) only [go_sem]
        refine call_open (con_l2shlF xm kk (by omega) (by omega)) (by simp (disch := omega) only [go_sem, ek, et2]) ?_
        rintro r hs ⟨rfl, rfl, _⟩
        refine ⟨by simp [freeN], ?_⟩
        simp (disch := omega) only [go_sem]
        refine call_cI (con_l2int (xm * 2 ^ kk) (by rw [eM]; omega)) ?_
        simp (disch := omega) only [go_sem]
        refine fin_valc (by simp (disch := omega) only [go_sem]) (by simp (disch := omega) only [go_sem]) ⟨?_, rfl, rfl⟩
        exact hfin ((xm * 2 ^ kk : Nat) : Int) (by rw [eM])
       ·have eE : flE rm re = (bl rm : Int) + re - 53 := by unfold flE flLow; rw [if_neg (by omega)]
        simp (disch := omega) only [go_sem, h7]
        rw [eE] at ek hfin
        try rw [← et2] at hfin
        refine draw_of rfl [⟨0, [], []⟩, ⟨1, [], []⟩, ⟨2, [], []⟩, ⟨3, [2], []⟩, ⟨4, [2], []⟩, ⟨5, [2], []⟩, ⟨6, [2, 5], []⟩, ⟨7, [2, 5], []⟩, ⟨8, [2, 5, 7], []⟩, ⟨9, [2, 5], []⟩, ⟨12, [2, 5, 7], []⟩, ⟨14, [2, 5, 7], []⟩, ⟨10, [2], []⟩, ⟨11, [2], []⟩, ⟨13, [], []⟩, ⟨15, [], []⟩, ⟨16, [], []⟩] (by kernel_rfl) ?_
        simp (disch := omega) only [go_sem]
        refine call_open (con_l2shlF xm kk (by omega) (by omega)) (by simp (disch := omega) only [go_sem, ek, et2]) ?_
        rintro r hs ⟨rfl, rfl, _⟩
        refine ⟨by simp [freeN], ?_⟩
        simp (disch := omega) only [go_sem]
        refine call_cI (con_l2int (xm * 2 ^ kk) (by rw [eM]; omega)) ?_
        simp (disch := omega) only [go_sem]
        refine fin_valc (by simp (disch := omega) only [go_sem]) (by simp (disch := omega) only [go_sem]) ⟨?_, rfl, rfl⟩
        exact hfin ((xm * 2 ^ kk : Nat) : Int) (by rw [eM])
    ·have hfl : flFlags (bl m + e) same = 1 := by unfold flFlags; rw [h3, if_neg (by simp), if_neg (by omega)]
     have e5 := (rfl : (0 : Nat) = 0)
     simp (disch := omega) only [go_sem, h4]
     refine ifW_dec (fun h5 => ?_) (fun h5 => ?_)
     ·have hr0 : rm = 0 := hxm0.1 h5
      simp (disch := omega) only [go_sem, h5]
      refine fin_valc (by simp (disch := omega) only [go_sem]) (by simp (disch := omega) only [go_sem]) ⟨?_, rfl, rfl⟩
      refine hVG 0 0 0 1 (by simp [flK, hr0]) (by simp [flMm, hr0]) (by simp [flEe, hr0]) (by simp [flFl, hr0, hfl])
     ·have hr0 : rm ≠ 0 := fun e => h5 (hxm0.2 e)
      have et2 := etop2 hr0
      have hxs : xs = s := q3 hr0
      have hff := hform hr0
      have hM := flM_lt hr0 hff
      simp (disch := omega) only [go_sem, h5]
      refine call_cI (con_l4top xs xm xe (by omega) (by omega)) ?_ (by simp (disch := omega) only [go_sem, et2])
      simp (disch := omega) only [go_sem]
      simp (disch := omega) only [go_sem, et2]
      refine ifW_dec (fun h6 => ?_) (fun h6 => ?_)
      ·have hov : ∀ (k mm ee : Int), k = (if ovB s mode then 1 else 2) → mm = (if ovB s mode then 9007199254740991 else 0) → ee = (if ovB s mode then 971 else 0) → AV.tu [.ag [.v (.int .i64 k), .v (.bool s), .v (.int .i64 mm), .v (.int .i64 ee)], .v (.int .i64 3)] = .tu [.ag [.v (.int .i64 ((flV s m e mode z).k)), .v (.bool ((flV s m e mode z).s)), .v (.int .i64 ((flV s m e mode z).m)), .v (.int .i64 ((flV s m e mode z).e))], .v (.int .i64 (flG s m e mode))] := by
        rintro k mm ee rfl rfl rfl
        exact hVG _ _ _ 3 (by unfold flK; rw [if_neg hr0, if_pos h6]) (by unfold flMm; rw [if_neg hr0, if_pos h6]) (by unfold flEe; rw [if_neg hr0, if_pos h6]) (by unfold flFl; rw [if_pos ⟨hr0, h6⟩])
       clear hVG hform hrm hrx q3 hxs et2 hfl
       obtain rfl | rfl | rfl | rfl | rfl : mode = 0 ∨ mode = 1 ∨ mode = 2 ∨ mode = 3 ∨ mode = 4 := by omega
       ·cases s
        ·simp (disch := omega) only [go_sem, h6]
         refine fin_valc (by simp (disch := omega) only [go_sem]) (by simp (disch := omega) only [go_sem]) ⟨?_, rfl, rfl⟩
         exact hov _ _ _ rfl rfl rfl
        ·simp (disch := omega) only [go_sem, h6]
         refine fin_valc (by simp (disch := omega) only [go_sem]) (by simp (disch := omega) only [go_sem]) ⟨?_, rfl, rfl⟩
         exact hov _ _ _ rfl rfl rfl
       ·cases s
        ·simp (disch := omega) only [go_sem, h6]
         refine call_cI (con_l5most false) ?_
         simp (disch := omega) only [go_sem]
         refine fin_valc (by simp (disch := omega) only [go_sem]) (by simp (disch := omega) only [go_sem]) ⟨?_, rfl, rfl⟩
         exact hov _ _ _ rfl rfl rfl
        ·simp (disch := omega) only [go_sem, h6]
         refine call_cI (con_l5most true) ?_
         simp (disch := omega) only [go_sem]
         refine fin_valc (by simp (disch := omega) only [go_sem]) (by simp (disch := omega) only [go_sem]) ⟨?_, rfl, rfl⟩
         exact hov _ _ _ rfl rfl rfl
       ·cases s
        ·simp (disch := omega) only [go_sem, h6]
         refine fin_valc (by simp (disch := omega) only [go_sem]) (by simp (disch := omega) only [go_sem]) ⟨?_, rfl, rfl⟩
         exact hov _ _ _ rfl rfl rfl
        ·simp (disch := omega) only [go_sem, h6]
         refine call_cI (con_l5most true) ?_
         simp (disch := omega) only [go_sem]
         refine fin_valc (by simp (disch := omega) only [go_sem]) (by simp (disch := omega) only [go_sem]) ⟨?_, rfl, rfl⟩
         exact hov _ _ _ rfl rfl rfl
       ·cases s
        ·simp (disch := omega) only [go_sem, h6]
         refine call_cI (con_l5most false) ?_
         simp (disch := omega) only [go_sem]
         refine fin_valc (by simp (disch := omega) only [go_sem]) (by simp (disch := omega) only [go_sem]) ⟨?_, rfl, rfl⟩
         exact hov _ _ _ rfl rfl rfl
        ·simp (disch := omega) only [go_sem, h6]
         refine fin_valc (by simp (disch := omega) only [go_sem]) (by simp (disch := omega) only [go_sem]) ⟨?_, rfl, rfl⟩
         exact hov _ _ _ rfl rfl rfl
       ·cases s
        ·simp (disch := omega) only [go_sem, h6]
         refine fin_valc (by simp (disch := omega) only [go_sem]) (by simp (disch := omega) only [go_sem]) ⟨?_, rfl, rfl⟩
         exact hov _ _ _ rfl rfl rfl
        ·simp (disch := omega) only [go_sem, h6]
         refine fin_valc (by simp (disch := omega) only [go_sem]) (by simp (disch := omega) only [go_sem]) ⟨?_, rfl, rfl⟩
         exact hov _ _ _ rfl rfl rfl
      ·simp (disch := omega) only [go_sem, h6]
       refine call_cI (con_l4top xs xm xe (by omega) (by omega)) ?_ (by simp (disch := omega) only [go_sem, et2])
       simp (disch := omega) only [go_sem]
       simp (disch := omega) only [go_sem, et2]
       have hfin : ∀ mm : Int, mm = (flM rm re : Int) → AV.tu [.ag [.v (.int .i64 1), .v (.bool xs), .v (.int .i64 mm), .v (.int .i64 (flE rm re))], .v (.int .i64 1)] = .tu [.ag [.v (.int .i64 ((flV s m e mode z).k)), .v (.bool ((flV s m e mode z).s)), .v (.int .i64 ((flV s m e mode z).m)), .v (.int .i64 ((flV s m e mode z).e))], .v (.int .i64 (flG s m e mode))] := by
        rintro mm rfl
        rw [hxs]
        exact hVG 1 _ _ 1 (by unfold flK; rw [if_neg hr0, if_neg (by omega)]) (by unfold flMm; rw [if_neg hr0, if_neg (by omega)]) (by unfold flEe; rw [if_neg hr0, if_neg (by omega)]) (by unfold flFl; rw [if_neg (by omega), hfl])
       have ek : xe - flE rm re = (((oE rm re - flE rm re).toNat : Nat) : Int) := by omega
       have hk9 : (oE rm re - flE rm re).toNat ≤ 53 := by have h9 := hM; unfold flM at h9; rw [bl_mul_pow (fun e => hr0 (oM_eq_zero.1 e))] at h9; omega
       have hM6 : flM rm re < 2 ^ 53 := Nat.lt_of_lt_of_le (bl_lt _) (Nat.pow_le_pow_right (by omega) hM)
       have eM : xm * 2 ^ (oE rm re - flE rm re).toNat = flM rm re := by rw [q1]; rfl
       generalize hkk : (oE rm re - flE rm re).toNat = kk at *
       refine ifW_dec (fun h7 => ?_) (fun h7 => ?_)
       ·have eE : flE rm re = -1074 := by unfold flE flLow; rw [if_pos (by omega)]
        simp (disch := omega) only [go_sem, h7]
        rw [eE] at ek hfin
        try rw [← et2] at hfin
        refine draw_of rfl [⟨0, [], []⟩, ⟨1, [], []⟩, ⟨2, [], []⟩, ⟨3, [2], []⟩, ⟨4, [2], []⟩, ⟨5, [2], []⟩, ⟨6, [2, 5], []⟩, ⟨7, [2, 5], []⟩, ⟨8, [2, 5, 7], []⟩, ⟨9, [2, 5], []⟩, ⟨12, [2, 5, 7], []⟩, ⟨14, [2, 5, 7], []⟩, ⟨10, [2], []⟩, ⟨11, [2], []⟩, ⟨13, [], []⟩, ⟨15, [], []⟩, ⟨16, [], []⟩] (by kernel_rfl) ?_
        simp (disch := omega) only [go_sem]
        refine call_open (con_l2shlF xm kk (by omega) (by omega)) (by simp (disch := omega) only [go_sem, ek, et2]) ?_
        rintro r hs ⟨rfl, rfl, _⟩
        refine ⟨by simp [freeN], ?_⟩
        simp (disch := omega) only [go_sem]
        refine call_cI (con_l2int (xm * 2 ^ kk) (by rw [eM]; omega)) ?_
        simp (disch := omega) only [go_sem]
        refine fin_valc (by simp (disch := omega) only [go_sem]) (by simp (disch := omega) only [go_sem]) ⟨?_, rfl, rfl⟩
        exact hfin ((xm * 2 ^ kk : Nat) : Int) (by rw [eM])
       ·have eE : flE rm re = (bl rm : Int) + re - 53 := by unfold flE flLow; rw [if_neg (by omega)]
        simp (disch := omega) only [go_sem, h7]
        rw [eE] at ek hfin
        try rw [← et2] at hfin
        refine draw_of rfl [⟨0, [], []⟩, ⟨1, [], []⟩, ⟨2, [], []⟩, ⟨3, [2], []⟩, ⟨4, [2], []⟩, ⟨5, [2], []⟩, ⟨6, [2, 5], []⟩, ⟨7, [2, 5], []⟩, ⟨8, [2, 5, 7], []⟩, ⟨9, [2, 5], []⟩, ⟨12, [2, 5, 7], []⟩, ⟨14, [2, 5, 7], []⟩, ⟨10, [2], []⟩, ⟨11, [2], []⟩, ⟨13, [], []⟩, ⟨15, [], []⟩, ⟨16, [], []⟩] (by kernel_rfl) ?_
        simp (disch := omega) only [go_sem]
        refine call_open (con_l2shlF xm kk (by omega) (by omega)) (by simp (disch := omega) only [go_sem, ek, et2]) ?_
        rintro r hs ⟨rfl, rfl, _⟩
        refine ⟨by simp [freeN], ?_⟩
        simp (disch := omega) only [go_sem]
        refine call_cI (con_l2int (xm * 2 ^ kk) (by rw [eM]; omega)) ?_
        simp (disch := omega) only [go_sem]
        refine fin_valc (by simp (disch := omega) only [go_sem]) (by simp (disch := omega) only [go_sem]) ⟨?_, rfl, rfl⟩
        exact hfin ((xm * 2 ^ kk : Nat) : Int) (by rw [eM])
   ·have hfl : flFlags (bl m + e) same = 0 := by unfold flFlags; rw [h3, if_pos rfl]
    have e5 := (rfl : (0 : Nat) = 0)
    simp (disch := omega) only [go_sem, h3]
    refine ifW_dec (fun h5 => ?_) (fun h5 => ?_)
    ·have hr0 : rm = 0 := hxm0.1 h5
     simp (disch := omega) only [go_sem, h5]
     refine fin_valc (by simp (disch := omega) only [go_sem]) (by simp (disch := omega) only [go_sem]) ⟨?_, rfl, rfl⟩
     refine hVG 0 0 0 0 (by simp [flK, hr0]) (by simp [flMm, hr0]) (by simp [flEe, hr0]) (by simp [flFl, hr0, hfl])
    ·have hr0 : rm ≠ 0 := fun e => h5 (hxm0.2 e)
     have et2 := etop2 hr0
     have hxs : xs = s := q3 hr0
     have hff := hform hr0
     have hM := flM_lt hr0 hff
     simp (disch := omega) only [go_sem, h5]
     refine call_cI (con_l4top xs xm xe (by omega) (by omega)) ?_ (by simp (disch := omega) only [go_sem, et2])
     simp (disch := omega) only [go_sem]
     simp (disch := omega) only [go_sem, et2]
     refine ifW_dec (fun h6 => ?_) (fun h6 => ?_)
     ·have hov : ∀ (k mm ee : Int), k = (if ovB s mode then 1 else 2) → mm = (if ovB s mode then 9007199254740991 else 0) → ee = (if ovB s mode then 971 else 0) → AV.tu [.ag [.v (.int .i64 k), .v (.bool s), .v (.int .i64 mm), .v (.int .i64 ee)], .v (.int .i64 3)] = .tu [.ag [.v (.int .i64 ((flV s m e mode z).k)), .v (.bool ((flV s m e mode z).s)), .v (.int .i64 ((flV s m e mode z).m)), .v (.int .i64 ((flV s m e mode z).e))], .v (.int .i64 (flG s m e mode))] := by
       rintro k mm ee rfl rfl rfl
       exact hVG _ _ _ 3 (by unfold flK; rw [if_neg hr0, if_pos h6]) (by unfold flMm; rw [if_neg hr0, if_pos h6]) (by unfold flEe; rw [if_neg hr0, if_pos h6]) (by unfold flFl; rw [if_pos ⟨hr0, h6⟩])
      clear hVG hform hrm hrx q3 hxs et2 hfl
      obtain rfl | rfl | rfl | rfl | rfl : mode = 0 ∨ mode = 1 ∨ mode = 2 ∨ mode = 3 ∨ mode = 4 := by omega
      ·cases s
       ·simp (disch := omega) only [go_sem, h6]
        refine fin_valc (by simp (disch := omega) only [go_sem]) (by simp (disch := omega) only [go_sem]) ⟨?_, rfl, rfl⟩
        exact hov _ _ _ rfl rfl rfl
       ·simp (disch := omega) only [go_sem, h6]
        refine fin_valc (by simp (disch := omega) only [go_sem]) (by simp (disch := omega) only [go_sem]) ⟨?_, rfl, rfl⟩
        exact hov _ _ _ rfl rfl rfl
      ·cases s
       ·simp (disch := omega) only [go_sem, h6]
        refine call_cI (con_l5most false) ?_
        simp (disch := omega) only [go_sem]
        refine fin_valc (by simp (disch := omega) only [go_sem]) (by simp (disch := omega) only [go_sem]) ⟨?_, rfl, rfl⟩
        exact hov _ _ _ rfl rfl rfl
       ·simp (disch := omega) only [go_sem, h6]
        refine call_cI (con_l5most true) ?_
        simp (disch := omega) only [go_sem]
        refine fin_valc (by simp (disch := omega) only [go_sem]) (by simp (disch := omega) only [go_sem]) ⟨?_, rfl, rfl⟩
        exact hov _ _ _ rfl rfl rfl
      ·cases s
       ·simp (disch := omega) only [go_sem, h6]
        refine fin_valc (by simp (disch := omega) only [go_sem]) (by simp (disch := omega) only [go_sem]) ⟨?_, rfl, rfl⟩
        exact hov _ _ _ rfl rfl rfl
       ·simp (disch := omega) only [go_sem, h6]
        refine call_cI (con_l5most true) ?_
        simp (disch := omega) only [go_sem]
        refine fin_valc (by simp (disch := omega) only [go_sem]) (by simp (disch := omega) only [go_sem]) ⟨?_, rfl, rfl⟩
        exact hov _ _ _ rfl rfl rfl
      ·cases s
       ·simp (disch := omega) only [go_sem, h6]
        refine call_cI (con_l5most false) ?_
        simp (disch := omega) only [go_sem]
        refine fin_valc (by simp (disch := omega) only [go_sem]) (by simp (disch := omega) only [go_sem]) ⟨?_, rfl, rfl⟩
        exact hov _ _ _ rfl rfl rfl
       ·simp (disch := omega) only [go_sem, h6]
        refine fin_valc (by simp (disch := omega) only [go_sem]) (by simp (disch := omega) only [go_sem]) ⟨?_, rfl, rfl⟩
        exact hov _ _ _ rfl rfl rfl
      ·cases s
       ·simp (disch := omega) only [go_sem, h6]
        refine fin_valc (by simp (disch := omega) only [go_sem]) (by simp (disch := omega) only [go_sem]) ⟨?_, rfl, rfl⟩
        exact hov _ _ _ rfl rfl rfl
       ·simp (disch := omega) only [go_sem, h6]
        refine fin_valc (by simp (disch := omega) only [go_sem]) (by simp (disch := omega) only [go_sem]) ⟨?_, rfl, rfl⟩
        exact hov _ _ _ rfl rfl rfl
     ·simp (disch := omega) only [go_sem, h6]
      refine call_cI (con_l4top xs xm xe (by omega) (by omega)) ?_ (by simp (disch := omega) only [go_sem, et2])
      simp (disch := omega) only [go_sem]
      simp (disch := omega) only [go_sem, et2]
      have hfin : ∀ mm : Int, mm = (flM rm re : Int) → AV.tu [.ag [.v (.int .i64 1), .v (.bool xs), .v (.int .i64 mm), .v (.int .i64 (flE rm re))], .v (.int .i64 0)] = .tu [.ag [.v (.int .i64 ((flV s m e mode z).k)), .v (.bool ((flV s m e mode z).s)), .v (.int .i64 ((flV s m e mode z).m)), .v (.int .i64 ((flV s m e mode z).e))], .v (.int .i64 (flG s m e mode))] := by
       rintro mm rfl
       rw [hxs]
       exact hVG 1 _ _ 0 (by unfold flK; rw [if_neg hr0, if_neg (by omega)]) (by unfold flMm; rw [if_neg hr0, if_neg (by omega)]) (by unfold flEe; rw [if_neg hr0, if_neg (by omega)]) (by unfold flFl; rw [if_neg (by omega), hfl])
      have ek : xe - flE rm re = (((oE rm re - flE rm re).toNat : Nat) : Int) := by omega
      have hk9 : (oE rm re - flE rm re).toNat ≤ 53 := by have h9 := hM; unfold flM at h9; rw [bl_mul_pow (fun e => hr0 (oM_eq_zero.1 e))] at h9; omega
      have hM6 : flM rm re < 2 ^ 53 := Nat.lt_of_lt_of_le (bl_lt _) (Nat.pow_le_pow_right (by omega) hM)
      have eM : xm * 2 ^ (oE rm re - flE rm re).toNat = flM rm re := by rw [q1]; rfl
      generalize hkk : (oE rm re - flE rm re).toNat = kk at *
      refine ifW_dec (fun h7 => ?_) (fun h7 => ?_)
      ·have eE : flE rm re = -1074 := by unfold flE flLow; rw [if_pos (by omega)]
       simp (disch := omega) only [go_sem, h7]
       rw [eE] at ek hfin
       try rw [← et2] at hfin
       refine draw_of rfl [⟨0, [], []⟩, ⟨1, [], []⟩, ⟨2, [], []⟩, ⟨3, [2], []⟩, ⟨4, [2], []⟩, ⟨5, [2], []⟩, ⟨6, [2, 5], []⟩, ⟨7, [2, 5], []⟩, ⟨8, [2, 5, 7], []⟩, ⟨9, [2, 5], []⟩, ⟨12, [2, 5, 7], []⟩, ⟨14, [2, 5, 7], []⟩, ⟨10, [2], []⟩, ⟨11, [2], []⟩, ⟨13, [], []⟩, ⟨15, [], []⟩, ⟨16, [], []⟩] (by kernel_rfl) ?_
       simp (disch := omega) only [go_sem]
       refine call_open (con_l2shlF xm kk (by omega) (by omega)) (by simp (disch := omega) only [go_sem, ek, et2]) ?_
       rintro r hs ⟨rfl, rfl, _⟩
       refine ⟨by simp [freeN], ?_⟩
       simp (disch := omega) only [go_sem]
       refine call_cI (con_l2int (xm * 2 ^ kk) (by rw [eM]; omega)) ?_
       simp (disch := omega) only [go_sem]
       refine fin_valc (by simp (disch := omega) only [go_sem]) (by simp (disch := omega) only [go_sem]) ⟨?_, rfl, rfl⟩
       exact hfin ((xm * 2 ^ kk : Nat) : Int) (by rw [eM])
      ·have eE : flE rm re = (bl rm : Int) + re - 53 := by unfold flE flLow; rw [if_neg (by omega)]
       simp (disch := omega) only [go_sem, h7]
       rw [eE] at ek hfin
       try rw [← et2] at hfin
       refine draw_of rfl [⟨0, [], []⟩, ⟨1, [], []⟩, ⟨2, [], []⟩, ⟨3, [2], []⟩, ⟨4, [2], []⟩, ⟨5, [2], []⟩, ⟨6, [2, 5], []⟩, ⟨7, [2, 5], []⟩, ⟨8, [2, 5, 7], []⟩, ⟨9, [2, 5], []⟩, ⟨12, [2, 5, 7], []⟩, ⟨14, [2, 5, 7], []⟩, ⟨10, [2], []⟩, ⟨11, [2], []⟩, ⟨13, [], []⟩, ⟨15, [], []⟩, ⟨16, [], []⟩] (by kernel_rfl) ?_
       simp (disch := omega) only [go_sem]
       refine call_open (con_l2shlF xm kk (by omega) (by omega)) (by simp (disch := omega) only [go_sem, ek, et2]) ?_
       rintro r hs ⟨rfl, rfl, _⟩
       refine ⟨by simp [freeN], ?_⟩
       simp (disch := omega) only [go_sem]
       refine call_cI (con_l2int (xm * 2 ^ kk) (by rw [eM]; omega)) ?_
       simp (disch := omega) only [go_sem]
       refine fin_valc (by simp (disch := omega) only [go_sem]) (by simp (disch := omega) only [go_sem]) ⟨?_, rfl, rfl⟩
       exact hfin ((xm * 2 ^ kk : Nat) : Int) (by rw [eM])
end Go.Ab
namespace Go.Ab
open Go Go.Proofs
set_option linter.unusedVariables false
set_option linter.unusedSimpArgs false
theorem con_natokS (xs : List Int) (hl : xs.length ≤ 2 ^ 40) : Con Tryz.prog 212 true [.ag [.sl xs.length (ints xs)]] [] (isA (.v (.bool (natB xs)))) := by
 refine Con.of_aw Tryz.func212 rfl Tryz.ntmps212 (by simp) (by simp) (by simp) (W.sound ?_)
 show @W Tryz.prog 44 ⟨_⟩ ⟨fun x σ => @retW _ _ _ ⟨_⟩ _ ⟨_⟩ x σ⟩ _ _
 simp (disch := omega) only [go_sem]
 refine ifW_dec (fun h1 => ?_) (fun h1 => ?_)
 ·simp (disch := omega) only [go_sem, h1]
  refine fin_valc (by simp (disch := omega) only [go_sem]) (by simp (disch := omega) only [go_sem]) ⟨?_, rfl, rfl⟩
  have : ¬ (xs.length ≤ 100) := by omega
  simp [tupA, natB, this]
 ·simp (disch := omega) only [go_sem, h1]
  refine loop_intro (fun i : Nat => [(1, .pt 30000000 0), (2, .v (.bool false)), (3, .v (.int .i64 i))]) (fun _ => [(30000000, .own 0 [.sl xs.length (ints xs)])]) (fun i => i ≤ xs.length ∧ ∀ x ∈ xs.take i, 0 ≤ x ∧ x ≤ 65535) (fun i => xs.length - i) 0 ⟨by omega, by simp⟩
   (Le.lst [] _ _ rfl (by simp (disch := omega) only [go_sem]) (by simp (disch := omega) only [go_sem])) ?_
  rintro i ⟨hi, hx⟩
  simp (disch := omega) only [go_sem]
  refine ifW_dec (fun h2 => ?_) (fun h2 => ?_)
  ·simp (disch := omega) only [go_sem, h2]
   have hmem : xs.getD i 0 ∈ xs := by
    rw [List.getD_eq_getElem?_getD, List.getElem?_eq_getElem (by omega)]; exact List.getElem_mem _
   have bad : ¬ (0 ≤ xs.getD i 0 ∧ xs.getD i 0 ≤ 65535) → natB xs = false := by
    intro hc
    unfold natB
    have : xs.all (fun x => decide (0 ≤ x) && decide (x ≤ 65535)) = false := by
     rw [List.all_eq_false]
     refine ⟨_, hmem, ?_⟩
     simp only [Bool.and_eq_true, decide_eq_true_eq]; exact hc
    rw [this]; simp
   refine ⟨by omega, by omega, ?_⟩
   refine ifW_not (fun h3 => ?_) (fun h3 => ?_)
   ·simp (disch := omega) only [go_sem, h3]
    refine ⟨by omega, by omega, ?_⟩
    refine ifW_dec (fun h4 => ?_) (fun h4 => ?_)
    ·simp (disch := omega) only [go_sem, h4]
     rw [bad (by omega)]
     exact fin_cI
    ·simp (disch := omega) only [go_sem, h4]
     refine next_intro (i + 1) [] ⟨by omega, ?_⟩ (by show xs.length - (i + 1) < xs.length - i; omega) rfl (by simp (disch := omega) only [go_sem]; try omega) (by simp (disch := omega) only [go_sem])
     intro x hxx
     rw [List.take_add_one] at hxx
     rcases List.mem_append.1 hxx with h | h
     ·exact hx x h
     ·rw [List.getElem?_eq_getElem (by omega)] at h
      simp at h
      rw [List.getD_eq_getElem?_getD, List.getElem?_eq_getElem (by omega)] at h3 h4
      simp at h3 h4
      subst h
      omega
   ·simp (disch := omega) only [go_sem, h3]
    rw [bad (by omega)]
    exact fin_cI
  ·have : i = xs.length := by omega
   subst this
   rw [List.take_length] at hx
   have hall : xs.all (fun x => decide (0 ≤ x) && decide (x ≤ 65535)) = true := by
    rw [List.all_eq_true]
    intro x h; have := hx x h; simp only [Bool.and_eq_true, decide_eq_true_eq]; exact this
   have e1 : decide (xs.length ≤ 100) = true := by simp; omega
   simp (disch := omega) only [go_sem, h2]
   refine ifW_not (fun h3 => ?_) (fun h3 => ?_)
   ·have en : ((xs.length : Int) - 1).toNat = xs.length - 1 := by omega
    have hmem : xs.getD (xs.length - 1) 0 ∈ xs := by
     rw [List.getD_eq_getElem?_getD, List.getElem?_eq_getElem (by omega)]; exact List.getElem_mem _
    have hp := hx _ hmem
    simp (disch := omega) only [go_sem, h3, en]
    refine ⟨by omega, by omega, ?_⟩
    refine fin_valc (by simp (disch := omega) only [go_sem]) (by simp (disch := omega) only [go_sem]) ⟨?_, rfl, rfl⟩
    have e2 : decide (xs.length = 0) = false := by simp; intro h; subst h; simp at h3
    show AV.v (.bool _) = AV.v (.bool _)
    unfold natB
    rw [e1, hall, e2, Bool.false_or, Bool.true_and, Bool.true_and]
    congr 2
    rw [decide_eq_decide]
    omega
   ·simp (disch := omega) only [go_sem, h3]
    refine fin_valc (by simp (disch := omega) only [go_sem]) (by simp (disch := omega) only [go_sem]) ⟨?_, rfl, rfl⟩
    have e2 : decide (xs.length = 0) = true := by simp; exact List.length_eq_zero_iff.1 (by omega)
    show AV.v (.bool _) = AV.v (.bool _)
    unfold natB
    rw [e1, hall, e2]
    simp
theorem con_wholeokS (s : Bool) (xs : List Int) (hl : xs.length ≤ 2 ^ 40) : Con Tryz.prog 137 true [.ag [.v (.bool s), .sl xs.length (ints xs)]] [] (isA (.v (.bool (wholeB s xs)))) := by
 refine Con.of_aw Tryz.func137 rfl Tryz.ntmps137 (by simp) (by simp) (by simp) (W.sound ?_)
 show @W Tryz.prog 18 ⟨_⟩ ⟨fun x σ => @retW _ _ _ ⟨_⟩ _ ⟨_⟩ x σ⟩ _ _
 simp (disch := omega) only [go_sem]
 refine call_cI (con_natokS xs hl) ?_
 simp (disch := omega) only [go_sem]
 refine ifW_b (fun h1 => ?_) (fun h1 => ?_)
 ·simp (disch := omega) only [go_sem, h1]
  cases s
  ·simp (disch := omega) only [go_sem]
   refine fin_valc (by simp (disch := omega) only [go_sem]) (by simp (disch := omega) only [go_sem]) ⟨?_, rfl, rfl⟩
   simp [tupA, wholeB, h1]
  ·simp (disch := omega) only [go_sem]
   refine fin_valc (by simp (disch := omega) only [go_sem]) (by simp (disch := omega) only [go_sem]) ⟨?_, rfl, rfl⟩
   show AV.v (.bool _) = AV.v (.bool _)
   unfold wholeB
   rw [h1, Bool.true_and, Bool.true_and, ← decide_not]
   congr 2
   rw [decide_eq_decide]
   omega
 ·simp (disch := omega) only [go_sem, h1]
  refine fin_valc (by simp (disch := omega) only [go_sem]) (by simp (disch := omega) only [go_sem]) ⟨?_, rfl, rfl⟩
  simp [tupA, wholeB, h1]
theorem con_dyokS (s : Bool) (xs : List Int) (e : Int) (hl : xs.length ≤ 2 ^ 40) : Con Tryz.prog 59 true [.ag [.v (.bool s), .sl xs.length (ints xs), .v (.int .i64 e)]] [] (isA (.v (.bool (dyB s xs e)))) := by
 refine Con.of_aw Tryz.func59 rfl Tryz.ntmps59 (by simp) (by simp) (by simp) (W.sound ?_)
 show @W Tryz.prog 31 ⟨_⟩ ⟨fun x σ => @retW _ _ _ ⟨_⟩ _ ⟨_⟩ x σ⟩ _ _
 simp (disch := omega) only [go_sem]
 refine call_cI (con_wholeokS s xs hl) ?_
 simp (disch := omega) only [go_sem]
 refine ifW_b (fun hw => ?_) (fun hw => ?_)
 ·have h1 := hw
  simp only [wholeB, Bool.and_eq_true] at h1
  obtain ⟨hx, hll⟩ := natB_lim h1.1
  have hxs : xs = lim (vl xs).toNat := hx
  generalize hm : (vl xs).toNat = m at *
  subst hx
  simp (disch := omega) only [go_sem, hw]
  refine ifW_not (fun h2 => ?_) (fun h2 => ?_)
  ·simp (disch := omega) only [go_sem, h2]
   refine ifW_dec (fun h3 => ?_) (fun h3 => ?_)
   ·simp (disch := omega) only [go_sem, h3]
    refine fin_valc (by simp (disch := omega) only [go_sem]) (by simp (disch := omega) only [go_sem]) ⟨?_, rfl, rfl⟩
    have a2 : ¬ e ≤ 3000 := by omega
    simp [tupA, dyB, a2]
   ·simp (disch := omega) only [go_sem, h3]
    refine ifW_dec (fun h4 => ?_) (fun h4 => ?_)
    ·simp (disch := omega) only [go_sem, h4]
     have h0 : m = 0 := lim_eq_nil.1 (List.length_eq_zero_iff.1 (by omega))
     refine fin_valc (by simp (disch := omega) only [go_sem]) (by simp (disch := omega) only [go_sem]) ⟨?_, rfl, rfl⟩
     have a1 : -3000 ≤ e := by omega
     have a2 : e ≤ 3000 := by omega
     have a3 : (lim m).length = 0 := by omega
     show AV.v (.bool _) = AV.v (.bool _)
     unfold dyB
     rw [hw, hm, decide_eq_true a1, decide_eq_true a2, decide_eq_true a3, h0]
     simp
    ·simp (disch := omega) only [go_sem, h4]
     refine call_cI (con_l2bit m 0 (by omega) (by omega) (by omega)) ?_
     simp (disch := omega) only [go_sem]
     refine fin_valc (by simp (disch := omega) only [go_sem]) (by simp (disch := omega) only [go_sem]) ⟨?_, rfl, rfl⟩
     have a1 : -3000 ≤ e := by omega
     have a2 : e ≤ 3000 := by omega
     have a3 : ¬ (lim m).length = 0 := by omega
     show AV.v (.bool _) = AV.v (.bool _)
     unfold dyB
     rw [hw, hm, decide_eq_true a1, decide_eq_true a2, decide_eq_false a3]
     simp
     omega
  ·simp (disch := omega) only [go_sem, h2]
   refine fin_valc (by simp (disch := omega) only [go_sem]) (by simp (disch := omega) only [go_sem]) ⟨?_, rfl, rfl⟩
   have a1 : ¬ -3000 ≤ e := by omega
   simp [tupA, dyB, a1]
 ·simp (disch := omega) only [go_sem, hw]
  refine fin_valc (by simp (disch := omega) only [go_sem]) (by simp (disch := omega) only [go_sem]) ⟨?_, rfl, rfl⟩
  simp [tupA, dyB, hw]
end Go.Ab
namespace Go.Ab
open Go Go.Proofs
set_option linter.unusedVariables false
set_option linter.unusedSimpArgs false
theorem dyB_canon (s : Bool) (m : Nat) (e : Int) : dyB (oS s m) (lim (oM m)) (oE m e) = dyFit m e := by
 unfold dyB wholeB dyFit natFit
 rw [vl_lim, Int.toNat_natCast]
 have hod := oM_odd m
 have hz := oS_z s m
 by_cases h : (lim (oM m)).length ≤ 100
 ·rw [natB_of _ h, decide_eq_true h, Bool.true_and, Bool.true_and]
  by_cases h0 : oM m = 0
  ·have hm : m = 0 := oM_eq_zero.1 h0
   rw [hz h0, h0, hm]
   simp [oE, lim_zero]
  ·have h1 : oM m % 2 = 1 := hod.resolve_right h0
   have h2 : decide ((lim (oM m)).length = 0) = false := by
    have := lim_ne h0
    exact decide_eq_false (by omega)
   rw [h2, decide_eq_true h1]
   simp
 ·rw [decide_eq_false h]
  have : natB (lim (oM m)) = false := by unfold natB; rw [decide_eq_false h, Bool.false_and]
  rw [this]; simp
theorem con_l4fits (s : Bool) (m : Nat) (e : Int) (hl : (lim (oM m)).length ≤ 2 ^ 40) : Con Tryz.prog 139 false [.ag [.v (.bool (oS s m)), .sl (lim (oM m)).length (ints (lim (oM m))), .v (.int .i64 (oE m e))]] [] (isA (if dyFit m e = true then .tu [.ag [.v (.bool (oS s m)), .sl (lim (oM m)).length (ints (lim (oM m))), .v (.int .i64 (oE m e))], .v (.bool true)] else .tu [.ag [.v (.bool (false)), .sl (lim (0)).length (ints (lim (0))), .v (.int .i64 (0))], .v (.bool false)])) := by
 refine Con.frzA ?_
 have ck := con_dyokS (oS s m) (lim (oM m)) (oE m e) hl
 rw [dyB_canon] at ck
 cases hd : dyFit m e
 ·rw [hd] at ck
  rw [if_neg (by simp), lim_zero]
  refine Con.of_w (rs := [.cell 2 29, .tmp 3]) Tryz.func139 rfl Tryz.ntmps139 rfl ?_
  simp (disch := omega) only [go_sem]
  refine call_cI (ck) ?_
  simp (disch := omega) only [go_sem]
  exact fin_frz
 ·rw [hd] at ck
  rw [if_pos rfl]
  refine Con.of_w (rs := [.cell 2 29, .tmp 3]) Tryz.func139 rfl Tryz.ntmps139 rfl ?_
  simp (disch := omega) only [go_sem]
  refine call_cI (ck) ?_
  simp (disch := omega) only [go_sem]
  exact fin_frz
theorem con_DyAddS (s1 : Bool) (m1 : Nat) (e1 : Int) (s2 : Bool) (m2 : Nat) (e2 : Int) (h1 : dyB s1 (lim m1) e1 = true) (h2 : dyB s2 (lim m2) e2 = true) :
  Con Tryz.prog 71 false [.ag [.v (.bool (s1)), .sl (lim (m1)).length (ints (lim (m1))), .v (.int .i64 (e1))], .ag [.v (.bool (s2)), .sl (lim (m2)).length (ints (lim (m2))), .v (.int .i64 (e2))]] [] (isA (if dyFit (adM s1 m1 e1 s2 m2 e2) (alE m1 e1 m2 e2) = true then .tu [.ag [.v (.bool (oS (adS s1 m1 e1 s2 m2 e2) (adM s1 m1 e1 s2 m2 e2))), .sl (lim (oM (adM s1 m1 e1 s2 m2 e2))).length (ints (lim (oM (adM s1 m1 e1 s2 m2 e2)))), .v (.int .i64 (oE (adM s1 m1 e1 s2 m2 e2) (alE m1 e1 m2 e2)))], .v (.bool true)] else .tu [.ag [.v (.bool (false)), .sl (lim (0)).length (ints (lim (0))), .v (.int .i64 (0))], .v (.bool false)])) := by
 refine Con.frzA ?_
 obtain ⟨n1, q1, b1, c1, d1, _, f1⟩ := dyB_lim h1
 obtain ⟨n2, q2, b2, c2, d2, _, f2⟩ := dyB_lim h2
 obtain rfl := lim_inj q1
 obtain rfl := lim_inj q2
 have hE := alE_ge (m1 := m1) (m2 := m2) d1.1 d2.1
 have b1' := bl_alA (e := e1) (E := alE m1 e1 m2 e2) (C := 6000) c1 (by omega)
 have b2' := bl_alA (e := e2) (E := alE m1 e1 m2 e2) (C := 6000) c2 (by omega)
 have hM : bl (adM s1 m1 e1 s2 m2 e2) ≤ 7601 := bl_suM b1' b2'
 have hl := len_bl (Nat.le_trans (bl_mono (oM_le _)) hM)
 have cf := con_l4fits (adS s1 m1 e1 s2 m2 e2) (adM s1 m1 e1 s2 m2 e2) (alE m1 e1 m2 e2) (by omega)
 have ca := con_l4add s1 m1 e1 s2 m2 e2 (by omega) (by omega) (by omega) (by omega) f1 f2
 have k1 := con_dyokS s1 (lim m1) e1 (by omega)
 have k2 := con_dyokS s2 (lim m2) e2 (by omega)
 rw [h1] at k1
 rw [h2] at k2
 cases hd : dyFit (adM s1 m1 e1 s2 m2 e2) (alE m1 e1 m2 e2)
 ·rw [hd, if_neg (by simp), lim_zero] at cf
  rw [if_neg (by simp), lim_zero]
  refine Con.of_w (rs := [.cell 4 29, .tmp 5]) Tryz.func71 rfl Tryz.ntmps71 rfl ?_
  simp (disch := omega) only [go_sem]
  refine call_cI (k1) ?_
  simp (disch := omega) only [go_sem]
  refine call_cI (k2) ?_
  simp (disch := omega) only [go_sem]
  refine call_oI (ca) ?_
  simp (disch := omega) only [go_sem]
  refine call_oI (cf) ?_
  simp (disch := omega) only [go_sem]
  exact fin_frz
 ·rw [hd, if_pos rfl] at cf
  rw [if_pos rfl]
  refine Con.of_w (rs := [.cell 4 29, .tmp 5]) Tryz.func71 rfl Tryz.ntmps71 rfl ?_
  simp (disch := omega) only [go_sem]
  refine call_cI (k1) ?_
  simp (disch := omega) only [go_sem]
  refine call_cI (k2) ?_
  simp (disch := omega) only [go_sem]
  refine call_oI (ca) ?_
  simp (disch := omega) only [go_sem]
  refine call_oI (cf) ?_
  simp (disch := omega) only [go_sem]
  exact fin_frz
def pmS (s1 : Bool) (m1 : Nat) (s2 : Bool) (m2 : Nat) : Bool := (s1 != s2) && decide (m1 * m2 ≠ 0)
theorem con_DyMulS (s1 : Bool) (m1 : Nat) (e1 : Int) (s2 : Bool) (m2 : Nat) (e2 : Int) (h1 : dyB s1 (lim m1) e1 = true) (h2 : dyB s2 (lim m2) e2 = true) :
  Con Tryz.prog 60 false [.ag [.v (.bool (s1)), .sl (lim (m1)).length (ints (lim (m1))), .v (.int .i64 (e1))], .ag [.v (.bool (s2)), .sl (lim (m2)).length (ints (lim (m2))), .v (.int .i64 (e2))]] [] (isA (if dyFit (m1 * m2) (e1 + e2) = true then .tu [.ag [.v (.bool (oS (pmS s1 m1 s2 m2) (m1 * m2))), .sl (lim (oM (m1 * m2))).length (ints (lim (oM (m1 * m2)))), .v (.int .i64 (oE (m1 * m2) (e1 + e2)))], .v (.bool true)] else .tu [.ag [.v (.bool (false)), .sl (lim (0)).length (ints (lim (0))), .v (.int .i64 (0))], .v (.bool false)])) := by
 refine Con.frzA ?_
 obtain ⟨n1, q1, b1, c1, d1, _, f1⟩ := dyB_lim h1
 obtain ⟨n2, q2, b2, c2, d2, _, f2⟩ := dyB_lim h2
 obtain rfl := lim_inj q1
 obtain rfl := lim_inj q2
 have hM := Nat.le_trans (bl_mulle m1 m2) (Nat.add_le_add c1 c2)
 have hl := len_bl (Nat.le_trans (bl_mono (oM_le _)) hM)
 have cf := con_l4fits (pmS s1 m1 s2 m2) (m1 * m2) (e1 + e2) (by omega)
 have ca := con_l4mul s1 m1 e1 s2 m2 e2 (by omega) (by omega) (by omega) (by omega)
 have k1 := con_dyokS s1 (lim m1) e1 (by omega)
 have k2 := con_dyokS s2 (lim m2) e2 (by omega)
 rw [h1] at k1
 rw [h2] at k2
 unfold pmS at *
 cases hd : dyFit (m1 * m2) (e1 + e2)
 ·rw [hd, if_neg (by simp), lim_zero] at cf
  rw [if_neg (by simp), lim_zero]
  refine Con.of_w (rs := [.cell 4 29, .tmp 5]) Tryz.func60 rfl Tryz.ntmps60 rfl ?_
  simp (disch := omega) only [go_sem]
  refine call_cI (k1) ?_
  simp (disch := omega) only [go_sem]
  refine call_cI (k2) ?_
  simp (disch := omega) only [go_sem]
  refine call_oI (ca) ?_
  simp (disch := omega) only [go_sem]
  refine call_oI (cf) ?_
  simp (disch := omega) only [go_sem]
  exact fin_frz
 ·rw [hd, if_pos rfl] at cf
  rw [if_pos rfl]
  refine Con.of_w (rs := [.cell 4 29, .tmp 5]) Tryz.func60 rfl Tryz.ntmps60 rfl ?_
  simp (disch := omega) only [go_sem]
  refine call_cI (k1) ?_
  simp (disch := omega) only [go_sem]
  refine call_cI (k2) ?_
  simp (disch := omega) only [go_sem]
  refine call_oI (ca) ?_
  simp (disch := omega) only [go_sem]
  refine call_oI (cf) ?_
  simp (disch := omega) only [go_sem]
  exact fin_frz
theorem con_lawAdd (s1 : Bool) (m1 : Nat) (e1 : Int) (s2 : Bool) (m2 : Nat) (e2 : Int) (ok : Bool) (h1 : dyB s1 (lim m1) e1 = true) (h2 : dyB s2 (lim m2) e2 = true) :
  Con Tryz.prog 16 false [.ag [.v (.bool (s1)), .sl (lim (m1)).length (ints (lim (m1))), .v (.int .i64 (e1))], .ag [.v (.bool (s2)), .sl (lim (m2)).length (ints (lim (m2))), .v (.int .i64 (e2))], .v (.bool ok)] [] (isA (if dyFit (adM s1 m1 e1 s2 m2 e2) (alE m1 e1 m2 e2) = true then .tu [.ag [.v (.bool (oS (adS s1 m1 e1 s2 m2 e2) (adM s1 m1 e1 s2 m2 e2))), .sl (lim (oM (adM s1 m1 e1 s2 m2 e2))).length (ints (lim (oM (adM s1 m1 e1 s2 m2 e2)))), .v (.int .i64 (oE (adM s1 m1 e1 s2 m2 e2) (alE m1 e1 m2 e2)))], .v (.bool ok)] else .tu [.ag [.v (.bool (false)), .sl (lim (0)).length (ints (lim (0))), .v (.int .i64 (0))], .v (.bool false)])) := by
 refine Con.frzA ?_
 have cf := con_DyAddS s1 m1 e1 s2 m2 e2 h1 h2
 cases hd : dyFit (adM s1 m1 e1 s2 m2 e2) (alE m1 e1 m2 e2)
 ·rw [hd, if_neg (by simp), lim_zero] at cf
  rw [if_neg (by simp), lim_zero]
  cases ok
  ·refine Con.of_w (rs := [.cell 6 29, .tmp 7]) Tryz.func16 rfl Tryz.ntmps16 rfl ?_
   simp (disch := omega) only [go_sem]
   refine call_oI (cf) ?_
   simp (disch := omega) only [go_sem]
   exact fin_frz
  ·refine Con.of_w (rs := [.cell 6 29, .tmp 7]) Tryz.func16 rfl Tryz.ntmps16 rfl ?_
   simp (disch := omega) only [go_sem]
   refine call_oI (cf) ?_
   simp (disch := omega) only [go_sem]
   exact fin_frz
 ·rw [hd, if_pos rfl] at cf
  rw [if_pos rfl]
  cases ok
  ·refine Con.of_w (rs := [.cell 6 29, .tmp 7]) Tryz.func16 rfl Tryz.ntmps16 rfl ?_
   simp (disch := omega) only [go_sem]
   refine call_oI (cf) ?_
   simp (disch := omega) only [go_sem]
   exact fin_frz
  ·refine Con.of_w (rs := [.cell 6 29, .tmp 7]) Tryz.func16 rfl Tryz.ntmps16 rfl ?_
   simp (disch := omega) only [go_sem]
   refine call_oI (cf) ?_
   simp (disch := omega) only [go_sem]
   exact fin_frz
theorem con_lawMul (s1 : Bool) (m1 : Nat) (e1 : Int) (s2 : Bool) (m2 : Nat) (e2 : Int) (ok : Bool) (h1 : dyB s1 (lim m1) e1 = true) (h2 : dyB s2 (lim m2) e2 = true) :
  Con Tryz.prog 15 false [.ag [.v (.bool (s1)), .sl (lim (m1)).length (ints (lim (m1))), .v (.int .i64 (e1))], .ag [.v (.bool (s2)), .sl (lim (m2)).length (ints (lim (m2))), .v (.int .i64 (e2))], .v (.bool ok)] [] (isA (if dyFit (m1 * m2) (e1 + e2) = true then .tu [.ag [.v (.bool (oS (pmS s1 m1 s2 m2) (m1 * m2))), .sl (lim (oM (m1 * m2))).length (ints (lim (oM (m1 * m2)))), .v (.int .i64 (oE (m1 * m2) (e1 + e2)))], .v (.bool ok)] else .tu [.ag [.v (.bool (false)), .sl (lim (0)).length (ints (lim (0))), .v (.int .i64 (0))], .v (.bool false)])) := by
 refine Con.frzA ?_
 have cf := con_DyMulS s1 m1 e1 s2 m2 e2 h1 h2
 cases hd : dyFit (m1 * m2) (e1 + e2)
 ·rw [hd, if_neg (by simp), lim_zero] at cf
  rw [if_neg (by simp), lim_zero]
  cases ok
  ·refine Con.of_w (rs := [.cell 6 29, .tmp 7]) Tryz.func15 rfl Tryz.ntmps15 rfl ?_
   simp (disch := omega) only [go_sem]
   refine call_oI (cf) ?_
   simp (disch := omega) only [go_sem]
   exact fin_frz
  ·refine Con.of_w (rs := [.cell 6 29, .tmp 7]) Tryz.func15 rfl Tryz.ntmps15 rfl ?_
   simp (disch := omega) only [go_sem]
   refine call_oI (cf) ?_
   simp (disch := omega) only [go_sem]
   exact fin_frz
 ·rw [hd, if_pos rfl] at cf
  rw [if_pos rfl]
  cases ok
  ·refine Con.of_w (rs := [.cell 6 29, .tmp 7]) Tryz.func15 rfl Tryz.ntmps15 rfl ?_
   simp (disch := omega) only [go_sem]
   refine call_oI (cf) ?_
   simp (disch := omega) only [go_sem]
   exact fin_frz
  ·refine Con.of_w (rs := [.cell 6 29, .tmp 7]) Tryz.func15 rfl Tryz.ntmps15 rfl ?_
   simp (disch := omega) only [go_sem]
   refine call_oI (cf) ?_
   simp (disch := omega) only [go_sem]
   exact fin_frz
end Go.Ab
namespace Go.Ab
open Go Go.Proofs
set_option linter.unusedVariables false
set_option linter.unusedSimpArgs false
theorem con_l3cmp (s1 : Bool) (m1 : Nat) (s2 : Bool) (m2 : Nat) (l1 : (lim m1).length ≤ 2 ^ 40) (l2 : (lim m2).length ≤ 2 ^ 40) (z1 : m1 = 0 → s1 = false) (z2 : m2 = 0 → s2 = false) :
  Con Tryz.prog 158 true [.ag [.v (.bool (s1)), .sl (lim (m1)).length (ints (lim (m1)))], .ag [.v (.bool (s2)), .sl (lim (m2)).length (ints (lim (m2)))]] [] (isA (.v (.int .i64 (cmpI (sv s1 m1) (sv s2 m2))))) := by
 rw [cmp_signs z1 z2]
 cases s1 <;> cases s2
 ·refine Con.of_w (rs := [.tmp 4]) Tryz.func158 rfl Tryz.ntmps158 rfl ?_
  simp (disch := omega) only [go_sem]
  refine call_cI (con_l2cmp m1 m2 l1 l2) ?_
  simp (disch := omega) only [go_sem]
  exact fin_cI
 ·refine Con.of_w (rs := [.tmp 4]) Tryz.func158 rfl Tryz.ntmps158 rfl ?_
  simp (disch := omega) only [go_sem]
  exact fin_cI
 ·refine Con.of_w (rs := [.tmp 4]) Tryz.func158 rfl Tryz.ntmps158 rfl ?_
  simp (disch := omega) only [go_sem]
  exact fin_cI
 ·refine Con.of_w (rs := [.tmp 4]) Tryz.func158 rfl Tryz.ntmps158 rfl ?_
  simp (disch := omega) only [go_sem]
  refine call_cI (con_l2cmp m2 m1 l2 l1) ?_
  simp (disch := omega) only [go_sem]
  exact fin_cI
theorem con_l4cmp (K : Nat) (s1 : Bool) (m1 : Nat) (e1 : Int) (s2 : Bool) (m2 : Nat) (e2 : Int) (h1 : bl m1 ≤ 4000000) (h2 : bl m2 ≤ 4000000) (he1 : -1000000 ≤ e1 ∧ e1 ≤ 1000000) (he2 : -1000000 ≤ e2 ∧ e2 ≤ 1000000) (k1 : -(K : Int) ≤ e1) (k2 : -(K : Int) ≤ e2) (z1 : m1 = 0 → s1 = false) (z2 : m2 = 0 → s2 = false) :
  Con Tryz.prog 74 true [.ag [.v (.bool (s1)), .sl (lim (m1)).length (ints (lim (m1))), .v (.int .i64 (e1))], .ag [.v (.bool (s2)), .sl (lim (m2)).length (ints (lim (m2))), .v (.int .i64 (e2))]] [] (isA (.v (.int .i64 (cmpI (dv K s1 m1 e1) (dv K s2 m2 e2))))) := by
 have hE := alE_ge (m1 := m1) (m2 := m2) he1.1 he2.1
 have b1 := len_bl (bl_alA (e := e1) (E := alE m1 e1 m2 e2) (C := 2000000) h1 (by omega))
 have b2 := len_bl (bl_alA (e := e2) (E := alE m1 e1 m2 e2) (C := 2000000) h2 (by omega))
 rw [← cmp_dv k1 k2]
 have y1 : alA m1 e1 (alE m1 e1 m2 e2) = 0 → s1 = false := fun h => z1 (alA_zero.1 h)
 have y2 : alA m2 e2 (alE m1 e1 m2 e2) = 0 → s2 = false := fun h => z2 (alA_zero.1 h)
 refine Con.of_w (rs := [.tmp 4]) Tryz.func74 rfl Tryz.ntmps74 rfl ?_
 simp (disch := omega) only [go_sem]
 refine call_oI (con_l4align s1 m1 e1 s2 m2 e2 h1 h2 he1 he2 z1 z2) ?_
 simp (disch := omega) only [go_sem]
 refine call_cI (con_l3cmp s1 (alA m1 e1 (alE m1 e1 m2 e2)) s2 (alA m2 e2 (alE m1 e1 m2 e2)) (by omega) (by omega) y1 y2) ?_
 simp (disch := omega) only [go_sem]
 exact fin_cI
theorem con_DyCmpS (s1 : Bool) (m1 : Nat) (e1 : Int) (s2 : Bool) (m2 : Nat) (e2 : Int) (h1 : dyB s1 (lim m1) e1 = true) (h2 : dyB s2 (lim m2) e2 = true) :
  Con Tryz.prog 18 true [.ag [.v (.bool (s1)), .sl (lim (m1)).length (ints (lim (m1))), .v (.int .i64 (e1))], .ag [.v (.bool (s2)), .sl (lim (m2)).length (ints (lim (m2))), .v (.int .i64 (e2))]] [] (isA (.v (.int .i64 (cmpI (dv 3000 s1 m1 e1) (dv 3000 s2 m2 e2))))) := by
 obtain ⟨n1, q1, b1, c1, d1, _, f1⟩ := dyB_lim h1
 obtain ⟨n2, q2, b2, c2, d2, _, f2⟩ := dyB_lim h2
 obtain rfl := lim_inj q1
 obtain rfl := lim_inj q2
 have k1 := con_dyokS s1 (lim m1) e1 (by omega)
 have k2 := con_dyokS s2 (lim m2) e2 (by omega)
 rw [h1] at k1
 rw [h2] at k2
 refine Con.of_w (rs := [.tmp 4]) Tryz.func18 rfl Tryz.ntmps18 rfl ?_
 simp (disch := omega) only [go_sem]
 refine call_cI (k1) ?_
 simp (disch := omega) only [go_sem]
 refine call_cI (k2) ?_
 simp (disch := omega) only [go_sem]
 refine call_cI (con_l4cmp 3000 s1 m1 e1 s2 m2 e2 (by omega) (by omega) (by omega) (by omega) (by omega) (by omega) f1 f2) ?_
 simp (disch := omega) only [go_sem]
 exact fin_cI
theorem con_DyNegS (s : Bool) (m : Nat) (e : Int) (h : dyB s (lim m) e = true) : Con Tryz.prog 121 false [.ag [.v (.bool (s)), .sl (lim (m)).length (ints (lim (m))), .v (.int .i64 (e))]] [] (isA (.ag [.v (.bool ((!s) && decide (m ≠ 0))), .sl (lim (m)).length (ints (lim (m))), .v (.int .i64 (e))])) := by
 refine Con.frzA ?_
 obtain ⟨n1, q1, b1, c1, d1, _, f1⟩ := dyB_lim h
 obtain rfl := lim_inj q1
 have k1 := con_dyokS s (lim m) e (by omega)
 rw [h] at k1
 refine Con.of_w (rs := [.cell 2 29]) Tryz.func121 rfl Tryz.ntmps121 rfl ?_
 simp (disch := omega) only [go_sem]
 refine call_cI (k1) ?_
 simp (disch := omega) only [go_sem]
 refine call_oI (con_l4neg s m e (by omega)) ?_
 simp (disch := omega) only [go_sem]
 exact fin_frz
theorem con_WholeOfS (n : Int) (h : -9223372036854775808 ≤ n ∧ n < 9223372036854775808) : Con Tryz.prog 73 false [.v (.int .i64 n)] [] (isA (.ag [.v (.bool (decide (n < 0))), .sl (lim (n.natAbs)).length (ints (lim (n.natAbs)))])) := by
 refine Con.frzA ?_
 refine Con.of_w (rs := [.cell 2 27]) Tryz.func73 rfl Tryz.ntmps73 rfl ?_
 simp (disch := omega) only [go_sem]
 refine call_oI (con_l3of n h) ?_
 simp (disch := omega) only [go_sem]
 exact fin_frz
theorem con_l4e (e : Int) : Con Tryz.prog 155 true [.v (.int .i64 e)] [] (isA (.v (.bool (decide (-12000 ≤ e) && decide (e ≤ 12000))))) := by
 refine Con.of_aw Tryz.func155 rfl Tryz.ntmps155 (by simp) (by simp) (by simp) (W.sound ?_)
 show @W Tryz.prog 9 ⟨_⟩ ⟨fun x σ => @retW _ _ _ ⟨_⟩ _ ⟨_⟩ x σ⟩ _ _
 simp (disch := omega) only [go_sem]
 repeat' first
  | simp (disch := omega) only [go_sem, *]
  | (with_reducible refine ifW_dec (fun _ => ?_) (fun _ => ?_))
  | (with_reducible refine ifW_not (fun _ => ?_) (fun _ => ?_))
  | (with_reducible refine ifW_nb (fun _ => ?_) (fun _ => ?_))
  | (with_reducible refine ifW_b (fun _ => ?_) (fun _ => ?_))
 all_goals exact fin_valc (by simp (disch := omega) only [go_sem]) (by simp (disch := omega) only [go_sem]) ⟨by simp_all [tupA] <;> omega, rfl, rfl⟩
theorem con_DyOfS (s : Bool) (m : Nat) (e : Int) (h : wholeB s (lim m) = true) (he : -12000 ≤ e ∧ e ≤ 12000) :
  Con Tryz.prog 72 false [.ag [.v (.bool (s)), .sl (lim (m)).length (ints (lim (m)))], .v (.int .i64 e)] [] (isA (if dyFit m e = true then .tu [.ag [.v (.bool (oS s m)), .sl (lim (oM m)).length (ints (lim (oM m))), .v (.int .i64 (oE m e))], .v (.bool true)] else .tu [.ag [.v (.bool (false)), .sl (lim (0)).length (ints (lim (0))), .v (.int .i64 (0))], .v (.bool false)])) := by
 refine Con.frzA ?_
 have h' := h
 simp only [wholeB, Bool.and_eq_true] at h'
 obtain ⟨_, hl⟩ := natB_lim h'.1
 have hb := bl_len (m := m)
 have hb2 := len_bl (Nat.le_trans (bl_mono (oM_le m)) hb)
 have k1 := con_wholeokS s (lim m) (by omega)
 rw [h] at k1
 have k2 := con_l4e e
 rw [decide_eq_true he.1, decide_eq_true he.2] at k2
 have cf := con_l4fits s m e (by omega)
 cases hd : dyFit m e
 ·rw [hd, if_neg (by simp), lim_zero] at cf
  rw [if_neg (by simp), lim_zero]
  refine Con.of_w (rs := [.cell 4 29, .tmp 5]) Tryz.func72 rfl Tryz.ntmps72 rfl ?_
  simp (disch := omega) only [go_sem]
  refine call_cI (k1) ?_
  simp (disch := omega) only [go_sem]
  refine call_cI (k2) ?_
  simp (disch := omega) only [go_sem]
  refine call_oI (con_l4make s m e (by omega) (by omega)) ?_
  simp (disch := omega) only [go_sem]
  refine call_oI (cf) ?_
  simp (disch := omega) only [go_sem]
  exact fin_frz
 ·rw [hd, if_pos rfl] at cf
  rw [if_pos rfl]
  refine Con.of_w (rs := [.cell 4 29, .tmp 5]) Tryz.func72 rfl Tryz.ntmps72 rfl ?_
  simp (disch := omega) only [go_sem]
  refine call_cI (k1) ?_
  simp (disch := omega) only [go_sem]
  refine call_cI (k2) ?_
  simp (disch := omega) only [go_sem]
  refine call_oI (con_l4make s m e (by omega) (by omega)) ?_
  simp (disch := omega) only [go_sem]
  refine call_oI (cf) ?_
  simp (disch := omega) only [go_sem]
  exact fin_frz
theorem tz_one' : tz 1 = 0 := tz_odd rfl
theorem lim_one : lim 1 = [1] := by rw [lim_pos (by omega)]; simp [lim_zero]
/-! ### Sameness -/
theorem con_sameNat (a b : Nat) (la : (lim a).length ≤ 2 ^ 40) (lb : (lim b).length ≤ 2 ^ 40) : Con Tryz.prog 146 true [.ag [.sl (lim (a)).length (ints (lim (a)))], .ag [.sl (lim (b)).length (ints (lim (b)))]] [] (isA (.v (.bool (decide (a = b))))) := by
 refine Con.of_w (rs := [.tmp 4]) Tryz.func146 rfl Tryz.ntmps146 rfl ?_
 simp (disch := omega) only [go_sem]
 refine ifW_not (fun h1 => ?_) (fun h1 => ?_)
 ·simp (disch := omega) only [go_sem, h1]
  rw [decide_eq_false (fun e => h1 (by rw [e]))]
  exact fin_cI
 ·have hl : (lim a).length = (lim b).length := by omega
  simp (disch := omega) only [go_sem, h1]
  refine loop_intro (fun i : Nat => [(2, .pt 40000000 0), (3, .pt 50000000 0), (5, .v (.int .i64 i))]) (fun _ => [(40000000, .own 0 [.sl (lim (a)).length (ints (lim (a)))]), (50000000, .own 0 [.sl (lim (b)).length (ints (lim (b)))])])
   (fun i => i ≤ (lim a).length ∧ (lim a).take i = (lim b).take i) (fun i => (lim a).length - i) 0 ⟨by omega, by simp⟩ (Le.lst [] _ _ rfl (by simp (disch := omega) only [go_sem]; try omega) (by simp (disch := omega) only [go_sem])) ?_
  rintro i ⟨hi, ht⟩
  simp (disch := omega) only [go_sem]
  refine ifW_dec (fun h2 => ?_) (fun h2 => ?_)
  ·simp (disch := omega) only [go_sem, h2]
   refine draw_of rfl [⟨0, [], []⟩, ⟨1, [], []⟩, ⟨2, [1], []⟩, ⟨3, [], []⟩, ⟨4, [], []⟩, ⟨5, [1, 4], []⟩, ⟨6, [1, 4], []⟩, ⟨7, [1, 4, 6], []⟩, ⟨8, [1, 4], []⟩, ⟨9, [1, 4], []⟩, ⟨10, [], []⟩] (by kernel_rfl) ?_
   simp (disch := omega) only [go_sem]
   refine ⟨by omega, by omega, by omega, by omega, ?_⟩
   refine ifW_not (fun h3 => ?_) (fun h3 => ?_)
   ·simp (disch := omega) only [go_sem, h3]
    rw [decide_eq_false (fun e => h3 (by rw [e]))]
    exact fin_cI
   ·simp (disch := omega) only [go_sem, h3]
    refine next_intro (i + 1) [] ⟨by omega, ?_⟩ (by show (lim a).length - (i + 1) < (lim a).length - i; omega) rfl (by simp (disch := omega) only [go_sem]; try omega) (by simp (disch := omega) only [go_sem])
    rw [take_succ' (l := lim a) (by omega), take_succ' (l := lim b) (by omega), ht, h3]
  ·simp (disch := omega) only [go_sem, h2]
   have : i = (lim a).length := by omega
   subst this
   have ht2 : lim a = lim b := by
    have h4 := List.take_of_length_le (l := lim b) (i := (lim a).length) (by omega)
    rw [List.take_length, h4] at ht
    exact ht
   rw [decide_eq_true (lim_inj ht2)]
   exact fin_cI
theorem con_sameWhole (s1 : Bool) (m1 : Nat) (s2 : Bool) (m2 : Nat) (l1 : (lim m1).length ≤ 2 ^ 40) (l2 : (lim m2).length ≤ 2 ^ 40) : Con Tryz.prog 69 true [.ag [.v (.bool (s1)), .sl (lim (m1)).length (ints (lim (m1)))], .ag [.v (.bool (s2)), .sl (lim (m2)).length (ints (lim (m2)))]] [] (isA (.v (.bool ((s1 == s2) && decide (m1 = m2))))) := by
 refine Con.of_w (rs := [.tmp 4]) Tryz.func69 rfl Tryz.ntmps69 rfl ?_
 cases hs : (s1 == s2)
 ·simp (disch := omega) only [go_sem, hs]
  exact fin_cI
 ·simp (disch := omega) only [go_sem, hs]
  refine call_cI (con_sameNat m1 m2 l1 l2) ?_
  simp (disch := omega) only [go_sem]
  exact fin_cI
theorem con_sameDy (s1 : Bool) (m1 : Nat) (e1 : Int) (s2 : Bool) (m2 : Nat) (e2 : Int) (l1 : (lim m1).length ≤ 2 ^ 40) (l2 : (lim m2).length ≤ 2 ^ 40) : Con Tryz.prog 13 true [.ag [.v (.bool (s1)), .sl (lim (m1)).length (ints (lim (m1))), .v (.int .i64 (e1))], .ag [.v (.bool (s2)), .sl (lim (m2)).length (ints (lim (m2))), .v (.int .i64 (e2))]] [] (isA (.v (.bool (decide (e1 = e2) && ((s1 == s2) && decide (m1 = m2)))))) := by
 cases he : decide (e1 = e2)
 ·have he' : ¬ e1 = e2 := by simpa using he
  refine Con.of_w (rs := [.tmp 4]) Tryz.func13 rfl Tryz.ntmps13 rfl ?_
  simp (disch := omega) only [go_sem, he']
  exact fin_cI
 ·refine Con.of_w (rs := [.tmp 4]) Tryz.func13 rfl Tryz.ntmps13 rfl ?_
  simp (disch := omega) only [go_sem, he]
  refine call_cI (con_sameWhole s1 m1 s2 m2 l1 l2) ?_
  simp (disch := omega) only [go_sem]
  exact fin_cI
end Go.Ab
namespace Go.Ab
open Go Go.Proofs
set_option linter.unusedVariables false
set_option linter.unusedSimpArgs false
theorem con_dyOne (e : Int) (he : -3000 ≤ e ∧ e ≤ 3000) : Con Tryz.prog 17 false [.v (.int .i64 1), .v (.int .i64 e)] [] (isA (.ag [.v (.bool (false)), .sl (lim (1)).length (ints (lim (1))), .v (.int .i64 (e))])) := by
 refine Con.frzA ?_
 have hm : oM 1 = 1 := by unfold oM; rw [tz_one']
 have hE : oE 1 e = e := by unfold oE; rw [tz_one', if_neg (by decide)]; simp
 have hf : dyFit 1 e = true := by
  unfold dyFit natFit; rw [hm, hE, lim_one]
  simp only [Bool.and_eq_true, decide_eq_true_eq]
  exact ⟨by decide, by omega, by omega⟩
 have c1 := con_DyOfS false 1 e (by rw [lim_one]; decide) (by omega)
 rw [if_pos hf, hm, hE] at c1
 have c0 := con_WholeOfS 1 (by omega)
 have e1 : decide ((1 : Int) < 0) = false := rfl
 have e2 : (1 : Int).natAbs = 1 := rfl
 rw [e1, e2] at c0
 refine Con.of_aw Tryz.func17 rfl Tryz.ntmps17 (by simp) (by simp) (by simp) (W.sound ?_)
 show @W Tryz.prog 15 ⟨_⟩ ⟨fun x σ => @retW _ _ _ ⟨_⟩ _ ⟨_⟩ x σ⟩ _ _
 simp (disch := omega) only [go_sem]
 refine call_oI (c0) ?_
 simp (disch := omega) only [go_sem]
 refine call_oI (c1) ?_
 simp (disch := omega) only [go_sem]
 refine fin_val (by simp (disch := omega) only [go_sem]) ?_
 show snap _ 6 _ = _
 rfl
theorem tz_1024 : tz 1024 = 10 := tz_uniq (a := 0) (by decide)
theorem can_x : (ExV.can ⟨false, 1024, -10⟩) = ⟨false, 1, 0⟩ := by
 show (⟨oS false 1024, oM 1024, oE 1024 (-10)⟩ : ExV) = _
 unfold oS oM oE
 rw [tz_1024]; rfl
theorem can_far : (ExV.can ⟨false, 1, -14⟩) = ⟨false, 1, -14⟩ := by
 show (⟨oS false 1, oM 1, oE 1 (-14)⟩ : ExV) = _
 unfold oS oM oE
 rw [tz_one']; rfl
theorem fit_can (x : ExV) (a : Nat) (s : Bool) (e : Int) (h : x.can = ⟨s, a, e⟩) (h1 : (lim a).length ≤ 100) (h2 : -3000 ≤ e ∧ e ≤ 3000) : x.fit = true := by
 have e1 : oM x.m = a := congrArg ExV.m h
 have e2 : oE x.m x.e = e := congrArg ExV.e h
 unfold ExV.fit dyFit natFit
 rw [e1, e2]
 simp only [Bool.and_eq_true, decide_eq_true_eq]
 exact ⟨h1, h2⟩
theorem con_ExpMat0 (n : Nat) (h1 : n = 1) : Con Tryz.prog 70 false [.ag [.v (.int .i64 (n)), .sl ([ex0]).length (rowA ExV.cs ([ex0]))], .v (.int .i64 (-10))] [] (isA (.tu [.ag [.v (.int .i64 (n)), .sl ([ex1]).length (rowA ExV.cs ([ex1]))], .ag [.v (.bool (false)), .sl (lim (1)).length (ints (lim (1))), .v (.int .i64 (-14))], .v (.bool true)])) := by
 have c := con_ExpMatG n [ex0] (-10) hRes (by omega) (by rw [h1]; rfl) (by omega) (con_isAsked0 n h1) (con_hold0 n h1) (by rw [h1]; decide +kernel) (by decide +kernel) (by
  rw [show hRes = [⟨⟨false, 16383, -14⟩, ⟨false, 16385, -14⟩⟩] by decide +kernel, List.all_cons, List.all_nil]
  have t1 : tz 16383 = 0 := tz_odd rfl
  have t2 : tz 16385 = 0 := tz_odd rfl
  have f1 : ExV.fit ⟨false, 16383, -14⟩ = true := fit_can _ 16383 false (-14) (by show (⟨oS false 16383, oM 16383, oE 16383 (-14)⟩ : ExV) = _; unfold oS oM oE; rw [t1]; rfl) (by have := len_bl (m := 16383) (B := 20) (bl_le.2 (by decide)); omega) (by omega)
  have f2 : ExV.fit ⟨false, 16385, -14⟩ = true := fit_can _ 16385 false (-14) (by show (⟨oS false 16385, oM 16385, oE 16385 (-14)⟩ : ExV) = _; unfold oS oM oE; rw [t2]; rfl) (by have := len_bl (m := 16385) (B := 20) (bl_le.2 (by decide)); omega) (by omega)
  unfold SpV.fit
  rw [f1, f2]; rfl)
 have eX : expX n hRes (-10) = [⟨false, 1024, -10⟩] := by rw [h1]; decide +kernel
 have eF : expFar n hRes (-10) = ⟨false, 1, -14⟩ := by rw [h1]; decide +kernel
 rw [eX, eF] at c
 have f1 : ExV.fit ⟨false, 1024, -10⟩ = true := fit_can _ 1 false 0 can_x (by rw [lim_one]; decide) (by omega)
 have f2 : ExV.fit ⟨false, 1, -14⟩ = true := fit_can _ 1 false (-14) can_far (by rw [lim_one]; decide) (by omega)
 rw [List.all_cons, List.all_nil, f1, f2, if_pos (by rfl), List.map_cons, List.map_nil, can_x, can_far] at c
 exact c
set_option maxRecDepth 100000 in
theorem con_alive : Con Tryz.prog 14 true [] [] (isA (.v (.bool true))) := by
 obtain ⟨n, hn⟩ : ∃ n : Nat, n = 1 := ⟨1, rfl⟩
 have c := con_ExpMat0 n hn
 have en : (n : Int) = 1 := by omega
 have hrow : rowA ExV.cs [ex0] = [.v (.bool false), .sl 0 [], .v (.int .i64 0)] := by
  simp [rowA, ExV.cs, ex0, lim_zero, ints]
 rw [en, hrow] at c
 have hr1 : rowA ExV.cs [ex1] = [.v (.bool false), .sl (lim 1).length (ints (lim 1)), .v (.int .i64 0)] := by
  simp [rowA, ExV.cs, ex1]
 rw [hr1] at c
 have cd1 := con_dyOne 0 (by omega)
 have cd2 := con_dyOne (-9) (by omega)
 have csd := con_sameDy false 1 0 false 1 0 (by rw [lim_one]; decide) (by rw [lim_one]; decide)
 rw [show (decide ((0 : Int) = 0) && ((false == false) && decide ((1 : Nat) = 1))) = true from rfl] at csd
 have hb : ∀ e : Int, -3000 ≤ e ∧ e ≤ 3000 → dyB false (lim 1) e = true := fun e he => by
  rw [lim_one]; unfold dyB
  rw [show wholeB false [1] = true by decide, decide_eq_true he.1, decide_eq_true he.2]; rfl
 have ccm := con_DyCmpS false 1 (-14) false 1 (-9) (hb _ (by omega)) (hb _ (by omega))
 have hle : cmpI (dv 3000 false 1 (-14)) (dv 3000 false 1 (-9)) ≤ 0 := (cmpI_le _ _).1.2 (by
  unfold dv sv
  rw [if_neg (by simp), show (-9 + ((3000 : Nat) : Int)).toNat = (-14 + ((3000 : Nat) : Int)).toNat + 5 by rfl, Int.pow_add]
  have : (0 : Int) < 2 ^ (-14 + ((3000 : Nat) : Int)).toNat := Int.pow_pos (by omega)
  generalize (2 : Int) ^ (-14 + ((3000 : Nat) : Int)).toNat = p at *
  omega)
 have q3 : decide (cmpI (dv 3000 false 1 (-14)) (dv 3000 false 1 (-9)) ≤ 0) = true := decide_eq_true hle
 generalize cmpI (dv 3000 false 1 (-14)) (dv 3000 false 1 (-9)) = C at *
 refine Con.of_aw Tryz.func14 rfl Tryz.ntmps14 (by simp) (by simp) (by simp)
  (AW.seqLe (E := [(0, .v (.bool false))]) (H := []) (W.sound ?_) (AW.regSplit (E := [(0, .v (.bool false)), (7, .ag [.v (.int .i64 1), .sl 1 [.v (.bool false), .sl 0 [], .v (.int .i64 0)]])]) (H := []) 3 (by simp only [List.take_succ_cons, List.take_zero]; rfl) (by simp only [List.drop_succ_cons, List.drop_zero]; rfl) ?_ ?_))
 ·show @W Tryz.prog 38 ⟨_⟩ ⟨_⟩ _ _
  simp (disch := omega) only [go_sem]
  exact Le.lst [] _ _ rfl (by simp (disch := omega) only [go_sem]) (by simp (disch := omega) only [go_sem])
 ·simp (disch := omega) only [go_sem]
  exact (Le.nilC 80000000 1 (zo := 3) (cs := [.v (.bool false), .v (.slice none 0 0), .v (.int .i64 0)]) (by simp (disch := omega) only [go_sem]) rfl).trans ((Le.frz 80000000 (z := 3) (ks := [.v (.bool false), .sl 0 [], .v (.int .i64 0)]) (by simp (disch := omega) only [go_sem, List.set_cons_succ, List.set_cons_zero]) rfl (by simp (disch := omega) only [go_sem])).trans (Le.lst [] _ _ rfl (by simp (disch := omega) only [go_sem]) (by simp (disch := omega) only [go_sem])))
 show @Ch Tryz.prog 38 ⟨_⟩ ⟨_⟩ ⟨fun σ => @W Tryz.prog 38 ⟨_⟩ ⟨fun x σ => @retW _ _ _ ⟨_⟩ _ ⟨_⟩ x σ⟩ σ.env σ.hp⟩ _ _
 simp (disch := omega) only [go_sem]
 refine call_oI (c) ?_
 simp (disch := omega) only [go_sem]
 refine draw_of rfl [⟨0, [], []⟩, ⟨1, [], []⟩, ⟨2, [], []⟩, ⟨3, [], []⟩, ⟨4, [], []⟩, ⟨5, [], []⟩, ⟨6, [], []⟩, ⟨7, [], []⟩, ⟨8, [], []⟩, ⟨9, [], []⟩, ⟨10, [], []⟩, ⟨11, [], []⟩, ⟨12, [], []⟩, ⟨13, [], []⟩, ⟨14, [], []⟩, ⟨15, [], []⟩, ⟨16, [], []⟩, ⟨17, [14, 16], []⟩, ⟨18, [], []⟩, ⟨19, [], []⟩, ⟨20, [], []⟩, ⟨21, [], []⟩, ⟨22, [21], []⟩, ⟨23, [], []⟩, ⟨24, [], []⟩, ⟨25, [], []⟩, ⟨26, [], []⟩] (by kernel_rfl) ?_
 simp (disch := omega) only [go_sem]
 refine call_oI (cd1) ?_
 simp (disch := omega) only [go_sem]
 refine call_cI (csd) ?_
 simp (disch := omega) only [go_sem]
 refine call_oI (cd2) ?_
 simp (disch := omega) only [go_sem]
 refine call_cI (ccm) ?_
 simp (disch := omega) only [go_sem]
 simp (disch := omega) only [go_sem, q3]
 exact fin_cI
end Go.Ab
namespace Go.Ab
set_option linter.unusedVariables false
set_option linter.unusedSimpArgs false
theorem fl_form {s : Bool} {rm : Nat} {re : Int} (h0 : rm ≠ 0) (ht : (bl rm : Int) + re ≤ 1024) (he : flE rm re ≤ oE rm re) (hr : -1074 ≤ re) :
  flB 1 s (flM rm re : Int) (flE rm re) = true ∧ dv 1074 s (flM rm re) (flE rm re) = dv 1074 s rm re := by
 have h1 : oM rm ≠ 0 := fun e => h0 (oM_eq_zero.1 e)
 have h2 := bl_oM h0
 have hoE : oE rm re = re + tz rm := by unfold oE; rw [if_neg h0]
 have hbl : bl (flM rm re) = bl (oM rm) + (oE rm re - flE rm re).toNat := by unfold flM; rw [bl_mul_pow h1]
 have hM0 : flM rm re ≠ 0 := by
  unfold flM
  exact Nat.mul_ne_zero h1 (Nat.pos_iff_ne_zero.1 (Nat.pow_pos (by omega)))
 have hE : flE rm re = if -1074 > (bl rm : Int) + re - 53 then -1074 else (bl rm : Int) + re - 53 := rfl
 have hlt := bl_lt (flM rm re)
 have hge := bl_ge hM0
 refine ⟨?_, ?_⟩
 ·have hlt2 : flM rm re < 2 ^ 53 := Nat.lt_of_lt_of_le hlt (Nat.pow_le_pow_right (by omega) (by split at hE <;> omega))
  by_cases c : -1074 > (bl rm : Int) + re - 53
  ·rw [if_pos c] at hE
   unfold flB
   rw [if_pos rfl, hE]
   simp only [Bool.and_eq_true, Bool.or_eq_true, decide_eq_true_eq, and_true]
   omega
  ·rw [if_neg c] at hE
   have hb53 : bl (flM rm re) = 53 := by omega
   rw [hb53] at hge
   unfold flB
   rw [if_pos rfl, hE]
   simp only [Bool.and_eq_true, Bool.or_eq_true, decide_eq_true_eq]
   omega
 ·have hE1 : -1074 ≤ flE rm re := by rw [hE]; split <;> omega
  rw [← dv_norm (s := s) (m := rm) (e := re) (K := 1074) (by omega)]
  unfold dv flM
  rw [sv_mul]
  have e1 : (oE rm re + ((1074 : Nat) : Int)).toNat = (oE rm re - flE rm re).toNat + (flE rm re + ((1074 : Nat) : Int)).toNat := by omega
  rw [e1, Int.pow_add, Int.natCast_pow, Int.mul_assoc]; rfl
theorem flB_inf (s : Bool) : flB 2 s 0 0 = true := by unfold flB; simp
theorem flB_zero (s : Bool) : flB 0 s 0 0 = true := by unfold flB; simp
theorem dv_form {K : Nat} {s : Bool} {m : Nat} {e : Int} {s' : Bool} {m' : Nat} {e' : Int} (he : -(K : Int) ≤ e) (he' : -(K : Int) ≤ e') (h : dv K s m e = dv K s' m' e') : oS s m = oS s' m' ∧ oM m = oM m' ∧ oE m e = oE m' e' := by
 by_cases h0 : m = 0
 ·have h0' : m' = 0 := by rw [h0, dv_zero] at h; exact dv_eq_zero.1 h.symm
  rw [h0, h0']; exact ⟨rfl, rfl, rfl⟩
 ·obtain ⟨rfl, hM, hE, h0'⟩ := dv_inj h0 he he' h
  refine ⟨?_, hM, hE⟩
  unfold oS; rw [if_neg h0, if_neg h0']
end Go.Ab
namespace Go.Ab
open Go Go.Proofs
set_option linter.unusedVariables false
set_option linter.unusedSimpArgs false
def ExV.val (K : Nat) (x : ExV) : Int := dv K x.s x.m x.e
theorem ok_rng {x : ExV} (h : x.ok = true) : (-3000 ≤ x.e ∧ x.e ≤ 3000) ∧ bl x.m ≤ 1600 ∧ (lim x.m).length ≤ 100 ∧ (x.m = 0 → x.s = false ∧ x.e = 0) ∧ (x.m % 2 = 1 ∨ x.m = 0) := by
 obtain ⟨m, e1, h1, h2, h3, h4, h5⟩ := dyB_lim h
 obtain rfl := lim_inj e1
 exact ⟨h3, h2, h1, fun h0 => ⟨h5 h0, by omega⟩, by omega⟩
theorem ok_can {x : ExV} (h : x.ok = true) : x.can = x := by
 obtain ⟨h1, h2, h3, h4, h5⟩ := ok_rng h
 show (⟨oS x.s x.m, oM x.m, oE x.m x.e⟩ : ExV) = x
 obtain ⟨s, m, e⟩ := x
 dsimp only at *
 rcases h5 with o | h0
 ·have h0 : m ≠ 0 := by omega
  have ht := tz_odd o
  have g1 : oS s m = s := by unfold oS; rw [if_neg h0]
  have g2 : oM m = m := by have := @oM_mul m; rw [ht] at this; simpa using this
  have g3 : oE m e = e := by unfold oE; rw [if_neg h0, ht]; simp
  rw [g1, g2, g3]
 ·obtain ⟨rfl, rfl⟩ := h4 h0
  rw [h0, oM_zero]; rfl
theorem can_ok {x : ExV} (h : x.fit = true) : x.can.ok = true := by
 show dyB (oS x.s x.m) (lim (oM x.m)) (oE x.m x.e) = true
 rw [dyB_canon]; exact h
theorem ex0_ok : ex0.ok = true := by show dyB false (lim 0) 0 = true; rw [lim_zero]; decide
theorem can_val {K : Nat} {x : ExV} (h : -(K : Int) ≤ x.e) : x.can.val K = x.val K := by
 show dv K (oS x.s x.m) (oM x.m) (oE x.m x.e) = _
 rw [dv_norm h, dv_oS]; rfl
theorem times_val {K K' : Nat} {x y : ExV} (h1 : -(K : Int) ≤ x.e) (h2 : -(K' : Int) ≤ y.e) : (x.times y).val (K + K') = x.val K * y.val K' := by
 show dv (K + K') ((x.s != y.s) && decide (x.m * y.m ≠ 0)) (x.m * y.m) (x.e + y.e) = _
 rw [dv_and]; exact dv_mul h1 h2
theorem val_up {K j : Nat} {x : ExV} (h : -(K : Int) ≤ x.e) : x.val (K + j) = x.val K * 2 ^ j := by
 unfold ExV.val dv
 have : (x.e + ((K + j : Nat) : Int)).toNat = (x.e + (K : Int)).toNat + j := by omega
 rw [this, Int.pow_add, Int.mul_assoc]
theorem can_e {K : Int} {x : ExV} (h : -K ≤ x.e) (h0 : 0 ≤ K) : -K ≤ x.can.e := oE_ge h h0
theorem ok_inj {K : Nat} {x y : ExV} (h1 : x.ok = true) (h2 : y.ok = true) (k1 : -(K : Int) ≤ x.e) (k2 : -(K : Int) ≤ y.e) (h : x.val K = y.val K) : x = y := by
 obtain ⟨g1, g2, g3⟩ := dv_form k1 k2 h
 rw [← ok_can h1, ← ok_can h2]
 show (⟨oS x.s x.m, oM x.m, oE x.m x.e⟩ : ExV) = ⟨oS y.s y.m, oM y.m, oE y.m y.e⟩
 rw [g1, g2, g3]
def ExV.tel (x : ExV) : ExV := if x.fit = true then x.can else ex0
theorem tel_ok (x : ExV) : x.tel.ok = true := by
 unfold ExV.tel; split
 ·rename_i h; exact can_ok h
 ·exact ex0_ok
theorem tel_fit {x : ExV} (h : x.fit = true) : x.tel = x.can := if_pos h
theorem con_FlDyV (F : FlV) : Con Tryz.prog 41 false [.ag [.v (.int .i64 (F.k)), .v (.bool (F.s)), .v (.int .i64 (F.m)), .v (.int .i64 (F.e))]] []
  (isA (if (flB F.k F.s F.m F.e && (decide (F.k = 0) || decide (F.k = 1))) = true then .tu [.ag [.v (.bool (oS (F.s && decide (F.k = 1)) F.m.toNat)), .sl (lim (oM F.m.toNat)).length (ints (lim (oM F.m.toNat))), .v (.int .i64 (oE F.m.toNat F.e))], .v (.bool true)] else .tu [.ag [.v (.bool (false)), .sl (lim (0)).length (ints (lim (0))), .v (.int .i64 (0))], .v (.bool false)])) := con_FlDy F.k F.s F.m F.e
theorem con_mulV (x y : ExV) (ok : Bool) (hx : x.ok = true) (hy : y.ok = true) : Con Tryz.prog 15 false [.ag [.v (.bool (x).s), .sl (lim (x).m).length (ints (lim (x).m)), .v (.int .i64 (x).e)], .ag [.v (.bool (y).s), .sl (lim (y).m).length (ints (lim (y).m)), .v (.int .i64 (y).e)], .v (.bool ok)] [] (isA (.tu [.ag [.v (.bool ((x.times y).tel).s), .sl (lim ((x.times y).tel).m).length (ints (lim ((x.times y).tel).m)), .v (.int .i64 ((x.times y).tel).e)], .v (.bool ((x.times y).fit && ok))])) := by
 have c := con_lawMul x.s x.m x.e y.s y.m y.e ok hx hy
 have e : dyFit (x.m * y.m) (x.e + y.e) = (x.times y).fit := rfl
 rw [e] at c
 unfold ExV.tel
 cases h : (x.times y).fit
 ·rw [h, if_neg (by simp)] at c
  rw [if_neg (by simp)]; exact c
 ·rw [h, if_pos rfl] at c
  rw [if_pos rfl]; exact c
theorem con_sameV (x y : ExV) (hx : x.ok = true) (hy : y.ok = true) : Con Tryz.prog 13 true [.ag [.v (.bool (x).s), .sl (lim (x).m).length (ints (lim (x).m)), .v (.int .i64 (x).e)], .ag [.v (.bool (y).s), .sl (lim (y).m).length (ints (lim (y).m)), .v (.int .i64 (y).e)]] [] (isA (.v (.bool (decide (x = y))))) := by
 have c := con_sameDy x.s x.m x.e y.s y.m y.e (by have := (ok_rng hx).2.2.1; omega) (by have := (ok_rng hy).2.2.1; omega)
 have e : (decide (x.e = y.e) && ((x.s == y.s) && decide (x.m = y.m))) = decide (x = y) := by
  obtain ⟨s, m, e⟩ := x
  obtain ⟨t, n, f⟩ := y
  rw [Bool.eq_iff_iff]
  simp only [Bool.and_eq_true, decide_eq_true_eq, beq_iff_eq, ExV.mk.injEq]
  exact ⟨fun ⟨a, b, c⟩ => ⟨b, c, a⟩, fun ⟨a, b, c⟩ => ⟨c, a, b⟩⟩
 rw [e] at c; exact c
theorem con_dcmpV (x y : ExV) (hx : x.ok = true) (hy : y.ok = true) : Con Tryz.prog 18 true [.ag [.v (.bool (x).s), .sl (lim (x).m).length (ints (lim (x).m)), .v (.int .i64 (x).e)], .ag [.v (.bool (y).s), .sl (lim (y).m).length (ints (lim (y).m)), .v (.int .i64 (y).e)]] [] (isA (.v (.int .i64 (cmpI (x.val 3000) (y.val 3000))))) := con_DyCmpS x.s x.m x.e y.s y.m y.e hx hy
/-! ### Floats that are numbers -/
def flD (F : FlV) : ExV := ⟨oS (xS F.k F.s) F.m.toNat, oM F.m.toNat, oE F.m.toNat F.e⟩
theorem flD_ok {F : FlV} (h : flB F.k F.s F.m F.e = true) : (flD F).ok = true := by
 obtain ⟨a1, a2, _⟩ := flB_rng h
 show dyB (oS (xS F.k F.s) F.m.toNat) (lim (oM F.m.toNat)) (oE F.m.toNat F.e) = true
 rw [dyB_canon]
 exact dyFit_fl (by omega) (by omega)
theorem flD_e {F : FlV} (h : flB F.k F.s F.m F.e = true) : -1074 ≤ (flD F).e ∧ (flD F).e ≤ 1024 := by
 obtain ⟨a1, a2, _⟩ := flB_rng h
 have := oE_rng (m := F.m.toNat) (e := F.e) (lo := -1074) (hi := 971) (B := 53) (bl_le.2 (by omega)) (by omega) (by omega) (by omega)
 exact ⟨this.1, by have := this.2; show oE _ _ ≤ _; omega⟩
theorem flD_val {F : FlV} (h : flB F.k F.s F.m F.e = true) : (flD F).val 1074 = dv 1074 (xS F.k F.s) F.m.toNat F.e := by
 obtain ⟨a1, a2, _⟩ := flB_rng h
 show dv 1074 (oS _ _) (oM _) (oE _ _) = _
 rw [dv_norm (by omega), dv_oS]
theorem con_flD (F : FlV) (h : flB F.k F.s F.m F.e = true) (hk : (decide (F.k = 0) || decide (F.k = 1)) = true) : Con Tryz.prog 41 false [.ag [.v (.int .i64 (F.k)), .v (.bool (F.s)), .v (.int .i64 (F.m)), .v (.int .i64 (F.e))]] [] (isA (.tu [.ag [.v (.bool (flD F).s), .sl (lim (flD F).m).length (ints (lim (flD F).m)), .v (.int .i64 (flD F).e)], .v (.bool true)])) := by
 have c := con_FlDyV F
 rw [h, hk, if_pos (by rfl)] at c
 exact c
theorem con_flDno (F : FlV) (h : (flB F.k F.s F.m F.e && (decide (F.k = 0) || decide (F.k = 1))) = false) : Con Tryz.prog 41 false [.ag [.v (.int .i64 (F.k)), .v (.bool (F.s)), .v (.int .i64 (F.m)), .v (.int .i64 (F.e))]] [] (isA (.tu [.ag [.v (.bool (ex0).s), .sl (lim (ex0).m).length (ints (lim (ex0).m)), .v (.int .i64 (ex0).e)], .v (.bool false)])) := by
 have c := con_FlDyV F
 rw [h, if_neg (by simp)] at c
 exact c
end Go.Ab
namespace Go.Ab
open Go Go.Proofs
set_option linter.unusedVariables false
set_option linter.unusedSimpArgs false
/-! ### Rounding down and up -/
def rnF (s : Bool) (a b : Nat) (low mode : Int) : FlV := ⟨flK s mode (rq s a b mode) low, s, flMm s mode (rq s a b mode) low, flEe s mode (rq s a b mode) low⟩
def upQ (a b : Nat) : Nat := if a % b = 0 then a / b else a / b + 1
def isN (F : FlV) : Bool := decide (F.k = 0) || decide (F.k = 1)
theorem rq_down (s : Bool) (a b : Nat) : rq s a b 3 = if s = true then upQ a b else a / b := by
 unfold rq upQ rup
 by_cases h : a % b = 0
 ·simp [h]
 ·cases s <;> simp [h]
theorem rq_up (s : Bool) (a b : Nat) : rq s a b 2 = if s = true then a / b else upQ a b := by
 unfold rq upQ rup
 by_cases h : a % b = 0
 ·simp [h]
 ·cases s <;> simp [h]
theorem rq_or (s : Bool) (a b : Nat) (mode : Int) : rq s a b mode = a / b ∨ rq s a b mode = upQ a b := by
 unfold rq upQ
 by_cases h : a % b = 0
 ·simp [h]
 ·rw [if_neg h, if_neg h]; split
  ·exact .inr rfl
  ·exact .inl rfl
theorem rq_ov {s : Bool} {a b : Nat} {mode : Int} (h : ovB s mode = true) : rq s a b mode = a / b := by
 unfold ovB at h
 unfold rq
 by_cases h0 : a % b = 0
 ·rw [if_pos h0]
 ·rw [if_neg h0]
  have : rup s (decide (a / b % 2 = 1)) (cmpI ((a % b * 2 : Nat) : Int) (b : Int)) mode = false := by
   unfold rup
   rcases (by simpa using h : mode = 1 ∨ (mode = 2 ∧ s = true) ∨ (mode = 3 ∧ s = false)) with h | ⟨h, h'⟩ | ⟨h, h'⟩
   ·rw [if_neg (by omega), if_neg (by omega), if_neg (by omega), if_neg (by omega)]
   ·rw [if_pos h, h']; rfl
   ·rw [if_neg (by omega), if_pos h, h']
  rw [this]; rfl
theorem le_upQ (a b : Nat) : a / b ≤ upQ a b := by unfold upQ; split <;> omega
def rqB (s : Bool) (a b : Nat) (low mode : Int) : Prop := rq s a b mode ≠ 0 ∧ 1024 < (bl (rq s a b mode) : Int) + low
theorem rn_val {s : Bool} {a b : Nat} {low mode : Int} (hl : -1074 ≤ low) (hf : rq s a b mode ≠ 0 → flE (rq s a b mode) low ≤ oE (rq s a b mode) low) (ht : ¬ rqB s a b low mode) :
  flB (rnF s a b low mode).k (rnF s a b low mode).s (rnF s a b low mode).m (rnF s a b low mode).e = true ∧ isN (rnF s a b low mode) = true ∧ dv 1074 (xS (rnF s a b low mode).k (rnF s a b low mode).s) (rnF s a b low mode).m.toNat (rnF s a b low mode).e = dv 1074 s (rq s a b mode) low := by
 unfold rnF
 unfold rqB at ht
 generalize rq s a b mode = q at *
 by_cases h0 : q = 0
 ·subst h0
  have e1 : flK s mode 0 low = 0 := by unfold flK; simp
  have e2 : flMm s mode 0 low = 0 := by unfold flMm; simp
  have e3 : flEe s mode 0 low = 0 := by unfold flEe; simp
  dsimp only
  rw [e1, e2, e3]
  exact ⟨flB_zero s, rfl, by rw [dv_zero]; exact dv_zero⟩
 ·have nt : ¬ 1024 < (bl q : Int) + low := fun h => ht ⟨h0, h⟩
  have e1 : flK s mode q low = 1 := by unfold flK; rw [if_neg h0, if_neg nt]
  have e2 : flMm s mode q low = (flM q low : Int) := by unfold flMm; rw [if_neg h0, if_neg nt]
  have e3 : flEe s mode q low = flE q low := by unfold flEe; rw [if_neg h0, if_neg nt]
  dsimp only
  rw [e1, e2, e3]
  obtain ⟨f1, f2⟩ := fl_form (s := s) h0 (by omega) (hf h0) hl
  refine ⟨f1, rfl, ?_⟩
  rw [Int.toNat_natCast, ← f2]
  unfold xS; simp
theorem rn_big {s : Bool} {a b : Nat} {low mode : Int} (ht : rqB s a b low mode) :
  rnF s a b low mode = if ovB s mode = true then ⟨1, s, 9007199254740991, 971⟩ else ⟨2, s, 0, 0⟩ := by
 obtain ⟨h1, h2⟩ := ht
 simp only [rnF, flK, flMm, flEe, if_neg h1, if_pos h2]
 cases ovB s mode <;> rfl
theorem rn_ok {s : Bool} {a b : Nat} {low mode : Int} (hl : -1074 ≤ low) (hf : rq s a b mode ≠ 0 → flE (rq s a b mode) low ≤ oE (rq s a b mode) low) :
  flB (rnF s a b low mode).k (rnF s a b low mode).s (rnF s a b low mode).m (rnF s a b low mode).e = true := by
 by_cases h : rqB s a b low mode
 ·rw [rn_big h]
  cases ovB s mode <;> cases s <;> decide
 ·exact (rn_val hl hf h).1
theorem rn_eq {s : Bool} {a b : Nat} {low m m' : Int} (h : rq s a b m = rq s a b m') (ht : ¬ rqB s a b low m) : rnF s a b low m = rnF s a b low m' := by
 unfold rqB at ht
 unfold rnF
 rw [← h]
 generalize rq s a b m = q at *
 unfold flK flMm flEe
 by_cases h0 : q = 0
 ·simp only [if_pos h0]
 ·have nt : ¬ 1024 < (bl q : Int) + low := fun h => ht ⟨h0, h⟩
  simp only [if_neg h0, if_neg nt]
theorem rqB_le {s : Bool} {a b : Nat} {low m m' : Int} (h : rq s a b m ≤ rq s a b m') (hb : rqB s a b low m) : rqB s a b low m' := by
 have := bl_mono h
 unfold rqB at *; omega
theorem rn_or (s : Bool) (a b : Nat) (low mode : Int) : rnF s a b low mode = rnF s a b low 3 ∨ rnF s a b low mode = rnF s a b low 2 := by
 have hd := rq_down s a b
 have hu := rq_up s a b
 have hle := le_upQ a b
 by_cases hb : rqB s a b low mode
 ·rw [rn_big hb]
  cases ho : ovB s mode
  ·cases s
   ·right
    have : rq false a b mode ≤ rq false a b 2 := by rw [hu]; rcases rq_or false a b mode with h | h <;> rw [h] <;> simp <;> omega
    rw [rn_big (rqB_le this hb)]; rfl
   ·left
    have : rq true a b mode ≤ rq true a b 3 := by rw [hd]; rcases rq_or true a b mode with h | h <;> rw [h] <;> simp <;> omega
    rw [rn_big (rqB_le this hb)]; rfl
  ·have hq := rq_ov (a := a) (b := b) ho
   cases s
   ·left
    rw [rn_big (rqB_le (by rw [hq, hd]; simp) hb)]; rfl
   ·right
    rw [rn_big (rqB_le (by rw [hq, hu]; simp) hb)]; rfl
 ·rcases rq_or s a b mode with h | h <;> cases s
  ·exact .inl (rn_eq (by rw [h, hd]; simp) hb)
  ·exact .inr (rn_eq (by rw [h, hu]; simp) hb)
  ·exact .inr (rn_eq (by rw [h, hu]; simp) hb)
  ·exact .inl (rn_eq (by rw [h, hd]; simp) hb)
theorem rn_two {s : Bool} {a b : Nat} {low : Int} (h1 : isN (rnF s a b low 3) = true) (h2 : isN (rnF s a b low 2) = true) (mode : Int) : ¬ rqB s a b low mode := by
 intro hb
 have hd := rq_down s a b
 have hu := rq_up s a b
 have hle := le_upQ a b
 cases s
 ·have : rq false a b mode ≤ rq false a b 2 := by rw [hu]; rcases rq_or false a b mode with h | h <;> rw [h] <;> simp <;> omega
  rw [rn_big (rqB_le this hb)] at h2
  exact absurd h2 (by decide)
 ·have : rq true a b mode ≤ rq true a b 3 := by rw [hd]; rcases rq_or true a b mode with h | h <;> rw [h] <;> simp <;> omega
  rw [rn_big (rqB_le this hb)] at h1
  exact absurd h1 (by decide)
theorem fl_flags {s : Bool} {a b : Nat} {low mode top : Int} (ex : Bool) (h : flFl top ex (rq s a b mode) low = 0) : ¬ rqB s a b low mode ∧ ex = true := by
 unfold flFl flFlags at h
 unfold rqB
 split at h
 ·omega
 ·rename_i hn
  refine ⟨hn, ?_⟩
  cases ex
  ·rw [if_neg (by simp)] at h; split at h <;> omega
  ·rfl
theorem fl_flags_nz {s : Bool} {a b : Nat} {low mode top : Int} (ex : Bool) (h : flFl top ex (rq s a b mode) low ≠ 0) (hb : ¬ rqB s a b low mode) : ex = false := by
 unfold flFl flFlags at h
 unfold rqB at hb
 rw [if_neg hb] at h
 cases ex
 ·rfl
 ·exact absurd rfl h
theorem fl_flags_pos (s : Bool) (a b : Nat) (low mode top : Int) (ex : Bool) : 0 ≤ flFl top ex (rq s a b mode) low := by
 unfold flFl flFlags
 split
 ·omega
 ·split
  ·omega
  ·split <;> omega
end Go.Ab
namespace Go.Ab
set_option linter.unusedVariables false
def stk (A B : Nat) : Nat := 2 * (A / B) + (if A % B = 0 then 0 else 1)
theorem stk_facts {A B j : Nat} (hB : 0 < B) (hj : 1 ≤ j) :
  stk A B / 2 ^ (j + 1) = A / (B * 2 ^ j) ∧ (stk A B % 2 ^ (j + 1) = 0 ↔ A % (B * 2 ^ j) = 0) ∧
   cmpI ((stk A B % 2 ^ (j + 1) * 2 : Nat) : Int) ((2 ^ (j + 1) : Nat) : Int) = cmpI ((A % (B * 2 ^ j) * 2 : Nat) : Int) ((B * 2 ^ j : Nat) : Int) := by
 obtain ⟨i, rfl⟩ : ∃ i, j = i + 1 := ⟨j - 1, by omega⟩
 have hm : A % B < B := Nat.mod_lt _ hB
 have hp : 0 < 2 ^ i := Nat.pow_pos (by omega)
 have e2 : (2 : Nat) ^ (i + 1) = 2 * 2 ^ i := Nat.pow_succ'
 have e3 : (2 : Nat) ^ (i + 1 + 1) = 2 * (2 * 2 ^ i) := by rw [Nat.pow_succ', e2]
 -- the quotient's own quotient and rest
 obtain ⟨q, hq⟩ : ∃ q, q = A / B := ⟨_, rfl⟩
 obtain ⟨r, hr⟩ : ∃ r, r = A % B := ⟨_, rfl⟩
 have d1 : A / (B * 2 ^ (i + 1)) = q / (2 * 2 ^ i) := by rw [e2, ← Nat.div_div_eq_div_mul, ← hq]
 have d2 : A % (B * 2 ^ (i + 1)) = B * (q % (2 * 2 ^ i)) + r := by
  rw [e2, Nat.mod_mul, ← hq, ← hr, Nat.add_comm]
 have s1 : stk A B / 2 ^ (i + 1 + 1) = q / (2 * 2 ^ i) := by
  unfold stk
  rw [e3, ← Nat.div_div_eq_div_mul, ← hq]
  congr 1
  split <;> omega
 have s2 : stk A B % 2 ^ (i + 1 + 1) = 2 * (q % (2 * 2 ^ i)) + (if r = 0 then 0 else 1) := by
  unfold stk
  rw [e3, Nat.mod_mul, ← hq, ← hr]
  have h1 : (2 * q + (if r = 0 then 0 else 1)) / 2 = q := by split <;> omega
  have h2 : (2 * q + (if r = 0 then 0 else 1)) % 2 = (if r = 0 then 0 else 1) := by split <;> omega
  rw [h1, h2, Nat.add_comm]
 rw [d1, d2, s1, s2]
 have hu : q % (2 * 2 ^ i) < 2 * 2 ^ i := Nat.mod_lt _ (by omega)
 generalize q % (2 * 2 ^ i) = u at *
 rw [← hr] at hm
 refine ⟨rfl, ?_, ?_⟩
 ·rw [Nat.add_eq_zero_iff, Nat.add_eq_zero_iff, Nat.mul_eq_zero, Nat.mul_eq_zero]
  split <;> omega
 ·have key : ∀ x y X Y : Int, (X < Y ↔ x < y) → (Y < X ↔ y < x) → cmpI X Y = cmpI x y := by
   intro x y X Y p q
   unfold cmpI
   by_cases h1 : x < y
   ·rw [if_pos h1, if_pos (p.2 h1)]
   ·rw [if_neg h1, if_neg (fun h => h1 (p.1 h))]
    by_cases h2 : y < x
    ·rw [if_pos h2, if_pos (q.2 h2)]
    ·rw [if_neg h2, if_neg (fun h => h2 (q.1 h))]
  rw [e2, e3]
  have hB2 : B * (2 * 2 ^ i) = 2 * (B * 2 ^ i) := by grind
  rw [hB2]
  generalize 2 ^ i = h at *
  rcases Nat.lt_trichotomy u h with c | c | c
  ·have c1 : B * u + B ≤ B * h := by have := Nat.mul_le_mul_left B (show u + 1 ≤ h from c); rw [Nat.mul_add, Nat.mul_one] at this; exact this
   generalize B * u = bu at *
   generalize B * h = bh at *
   refine key _ _ _ _ ?_ ?_ <;> split <;> omega
  ·subst c
   generalize B * u = bu at *
   refine key _ _ _ _ ?_ ?_ <;> split <;> omega
  ·have c1 : B * h + B ≤ B * u := by have := Nat.mul_le_mul_left B (show h + 1 ≤ u from c); rw [Nat.mul_add, Nat.mul_one] at this; exact this
   generalize B * u = bu at *
   generalize B * h = bh at *
   refine key _ _ _ _ ?_ ?_ <;> split <;> omega
theorem rq_stk {s : Bool} {A B j : Nat} {mode : Int} (hB : 0 < B) (hj : 1 ≤ j) : rq s (stk A B) (2 ^ (j + 1)) mode = rq s A (B * 2 ^ j) mode := by
 obtain ⟨h1, h2, h3⟩ := stk_facts (A := A) hB hj
 unfold rq
 rw [h1, h3]
 by_cases h : A % (B * 2 ^ j) = 0
 ·rw [if_pos h, if_pos (h2.2 h)]
 ·rw [if_neg h, if_neg (fun g => h (h2.1 g))]
end Go.Ab
namespace Go.Ab
open Go Go.Proofs
set_option linter.unusedVariables false
set_option linter.unusedSimpArgs false
def quK (N D : Nat) : Int := 58 - ((bl N : Int) - (bl D : Int))
def quA (N D : Nat) : Nat := N * 2 ^ (quK N D).toNat
def quB (N D : Nat) : Nat := D * 2 ^ (-quK N D).toNat
def quQ (N D : Nat) : Nat := stk (quA N D) (quB N D)
def quT (N D : Nat) : Int := if quB N D * 2 ^ 58 ≤ quA N D then (bl N : Int) - (bl D : Int) + 1 else (bl N : Int) - (bl D : Int)
theorem pow_pp (k : Nat) : 0 < 2 ^ k := Nat.pow_pos (by omega)
theorem qu_bnd {N D : Nat} (hN : N ≠ 0) (hD : D ≠ 0) : 0 < quB N D ∧ quB N D * 2 ^ 57 ≤ quA N D ∧ quA N D < quB N D * 2 ^ 59 := by
 have n1 := bl_lt N
 have d1 := bl_lt D
 have n2 := bl_ge hN
 have d2 := bl_ge hD
 have bn : bl N ≠ 0 := fun e => by rw [e] at n1; simp at n1; exact hN n1
 have bd : bl D ≠ 0 := fun e => by rw [e] at d1; simp at d1; exact hD d1
 obtain ⟨kp, hkp⟩ : ∃ kp, kp = (quK N D).toNat := ⟨_, rfl⟩
 obtain ⟨km, hkm⟩ : ∃ km, km = (-quK N D).toNat := ⟨_, rfl⟩
 have hk : (bl N : Int) + kp = 58 + bl D + km := by unfold quK at *; omega
 unfold quA quB
 rw [← hkp, ← hkm]
 refine ⟨Nat.mul_pos (Nat.pos_of_ne_zero hD) (pow_pp _), ?_, ?_⟩
 ·have e1 : bl N - 1 + kp = bl D + km + 57 := by omega
  have a1 : 2 ^ (bl N - 1) * 2 ^ kp ≤ N * 2 ^ kp := Nat.mul_le_mul_right _ n2
  rw [← Nat.pow_add, e1, Nat.pow_add, Nat.pow_add] at a1
  have a2 : D * 2 ^ km * 2 ^ 57 ≤ 2 ^ bl D * 2 ^ km * 2 ^ 57 := Nat.mul_le_mul_right _ (Nat.mul_le_mul_right _ (Nat.le_of_lt d1))
  exact Nat.le_trans a2 a1
 ·have e1 : bl N + kp = bl D - 1 + km + 59 := by omega
  have a1 : N * 2 ^ kp < 2 ^ bl N * 2 ^ kp := Nat.mul_lt_mul_of_pos_right n1 (pow_pp _)
  rw [← Nat.pow_add, e1, Nat.pow_add, Nat.pow_add] at a1
  have a2 : 2 ^ (bl D - 1) * 2 ^ km * 2 ^ 59 ≤ D * 2 ^ km * 2 ^ 59 := Nat.mul_le_mul_right _ (Nat.mul_le_mul_right _ d2)
  exact Nat.lt_of_lt_of_le a1 a2
theorem qu_top {N D : Nat} (hN : N ≠ 0) (hD : D ≠ 0) : quQ N D ≠ 0 ∧ (bl (quQ N D) : Int) + (-quK N D - 1) = quT N D ∧ bl (quQ N D) ≤ 60 := by
 obtain ⟨hB, h1, h2⟩ := qu_bnd hN hD
 have q1 : 2 ^ 57 ≤ quA N D / quB N D := (Nat.le_div_iff_mul_le hB).2 (by rw [Nat.mul_comm]; exact h1)
 have q2 : quA N D / quB N D < 2 ^ 59 := (Nat.div_lt_iff_lt_mul hB).2 (by rw [Nat.mul_comm]; exact h2)
 have q3 : quB N D * 2 ^ 58 ≤ quA N D ↔ 2 ^ 58 ≤ quA N D / quB N D := by rw [Nat.le_div_iff_mul_le hB, Nat.mul_comm]
 have hQ : quQ N D ≠ 0 ∧ quQ N D / 2 = quA N D / quB N D := by
  unfold quQ stk; constructor
  ·omega
  ·split <;> omega
 have hb : bl (quQ N D) = bl (quA N D / quB N D) + 1 := by rw [bl_dbl hQ.1, hQ.2]
 refine ⟨hQ.1, ?_, ?_⟩
 ·rw [hb]
  unfold quT
  by_cases c : quB N D * 2 ^ 58 ≤ quA N D
  ·rw [if_pos c, bl_eq (k := 58) (q3.1 c) q2]; unfold quK; omega
  ·rw [if_neg c, bl_eq (k := 57) q1 (by have := fun h => c (q3.2 h); omega)]; unfold quK; omega
 ·have : bl (quA N D / quB N D) ≤ 59 := bl_le.2 q2
  omega
theorem rq_two {s : Bool} {a b a' b' i i' : Nat} {mode : Int} (h1 : a * 2 ^ i = a' * 2 ^ i') (h2 : b * 2 ^ i = b' * 2 ^ i') : rq s a b mode = rq s a' b' mode ∧ (a % b = 0 ↔ a' % b' = 0) := by
 constructor
 ·rw [← rq_scale (k := i), h1, h2, rq_scale]
 ·have p1 : 2 ^ i ≠ 0 := Nat.pos_iff_ne_zero.1 (pow_pp i)
  have p2 : 2 ^ i' ≠ 0 := Nat.pos_iff_ne_zero.1 (pow_pp i')
  have e1 : a % b * 2 ^ i = a' % b' * 2 ^ i' := by rw [← Nat.mul_mod_mul_right, ← Nat.mul_mod_mul_right, h1, h2]
  constructor
  ·intro h; rw [h, Nat.zero_mul] at e1; exact (Nat.mul_eq_zero.1 e1.symm).resolve_right p2
  ·intro h; rw [h, Nat.zero_mul] at e1; exact (Nat.mul_eq_zero.1 e1).resolve_right p1
end Go.Ab
namespace Go.Ab
open Go Go.Proofs
set_option linter.unusedVariables false
set_option linter.unusedSimpArgs false
theorem qu_flE {N D : Nat} (e1 e2 : Int) (s : Bool) (mode : Int) (z : Bool) (hN : N ≠ 0) (hD : D ≠ 0) :
  flV s (quQ N D) (-quK N D - 1 + (e1 - e2)) mode z = ⟨flK s mode (ovQ s N e1 D e2 (flLow (quT N D + (e1 - e2))) mode) (flLow (quT N D + (e1 - e2))), s, flMm s mode (ovQ s N e1 D e2 (flLow (quT N D + (e1 - e2))) mode) (flLow (quT N D + (e1 - e2))), flEe s mode (ovQ s N e1 D e2 (flLow (quT N D + (e1 - e2))) mode) (flLow (quT N D + (e1 - e2)))⟩ ∧
   flG s (quQ N D) (-quK N D - 1 + (e1 - e2)) mode = flFl (quT N D + (e1 - e2)) (ovX N e1 D e2 (flLow (quT N D + (e1 - e2)))) (ovQ s N e1 D e2 (flLow (quT N D + (e1 - e2))) mode) (flLow (quT N D + (e1 - e2))) ∧
   (ovQ s N e1 D e2 (flLow (quT N D + (e1 - e2))) mode ≠ 0 → flE (ovQ s N e1 D e2 (flLow (quT N D + (e1 - e2))) mode) (flLow (quT N D + (e1 - e2))) ≤ oE (ovQ s N e1 D e2 (flLow (quT N D + (e1 - e2))) mode) (flLow (quT N D + (e1 - e2)))) := by
 obtain ⟨hQ, hT, hQb⟩ := qu_top hN hD
 obtain ⟨hB, _, _⟩ := qu_bnd hN hD
 have hT' : (bl (quQ N D) : Int) + (-quK N D - 1 + (e1 - e2)) = quT N D + (e1 - e2) := by omega
 have hlow : (bl N : Int) - (bl D : Int) - 53 + (e1 - e2) ≤ flLow (quT N D + (e1 - e2)) := by unfold flLow quT; split <;> split <;> omega
 have hform := @ro_form s (quQ N D) (-quK N D - 1 + (e1 - e2)) mode hQ
 unfold flV flG
 rw [if_neg hQ, if_neg hQ]
 rw [hT'] at hform ⊢
 generalize flLow (quT N D + (e1 - e2)) = low at *
 obtain ⟨j, hj⟩ : ∃ j : Nat, (j : Int) = low - (e1 - e2) + quK N D := ⟨(low - (e1 - e2) + quK N D).toNat, by unfold quK at *; omega⟩
 have hj1 : 1 ≤ j := by unfold quK at hj; omega
 have hc : ¬ (low ≤ -quK N D - 1 + (e1 - e2) ∨ quQ N D = 0) := by omega
 have hsh : (low - (-quK N D - 1 + (e1 - e2))).toNat = j + 1 := by omega
 obtain ⟨f1, f2, _⟩ := stk_facts (A := quA N D) hB hj1
 have f3 := rq_stk (s := s) (A := quA N D) (mode := mode) hB hj1
 have two := @rq_two s (quA N D) (quB N D * 2 ^ j) (ovA N (e1 - e2 - low)) (ovA D (-(e1 - e2 - low))) (e1 - e2 - low).toNat (quK N D).toNat mode
  (by unfold quA ovA; rw [Nat.mul_assoc, Nat.mul_assoc, Nat.mul_comm (2 ^ _)])
  (by
   unfold quB ovA
   rw [Nat.mul_assoc, Nat.mul_assoc, Nat.mul_assoc, ← Nat.pow_add, ← Nat.pow_add, ← Nat.pow_add]
   congr 2; omega)
 have hrm : roM s (quQ N D) (-quK N D - 1 + (e1 - e2)) low mode = ovQ s N e1 D e2 low mode := by
  unfold roM ovQ
  rw [if_neg hc, hsh]
  exact f3.trans two.1
 have hrx : roX (quQ N D) (-quK N D - 1 + (e1 - e2)) low = ovX N e1 D e2 low := by
  unfold roX ovX
  rw [if_neg hc, hsh, decide_eq_decide]
  exact f2.trans two.2
 have hre : roE (quQ N D) (-quK N D - 1 + (e1 - e2)) low = low := by unfold roE; rw [if_neg hc]
 rw [hrm, hre] at hform
 rw [hrm, hre, hrx]
 exact ⟨rfl, rfl, hform⟩
theorem con_absX (s : Bool) (m : Nat) (e : Int) : Con Tryz.prog 153 false [.ag [.v (.bool (s)), .sl (lim (m)).length (ints (lim (m))), .v (.int .i64 (e))]] [] (isA (.ag [.v (.bool (false)), .sl (lim (m)).length (ints (lim (m))), .v (.int .i64 (e))])) := by
 refine Con.frzA ?_
 refine Con.of_w (rs := [.cell 2 90]) Tryz.func153 rfl Tryz.ntmps153 rfl ?_
 simp (disch := omega) only [go_sem]
 exact fin_frz
theorem con_shifted (s : Bool) (m : Nat) (e k : Int) (he : -2 ^ 40 ≤ e ∧ e ≤ 2 ^ 40) (hk : -2 ^ 40 ≤ k ∧ k ≤ 2 ^ 40) : Con Tryz.prog 224 false [.ag [.v (.bool (s)), .sl (lim (m)).length (ints (lim (m))), .v (.int .i64 (e))], .v (.int .i64 k)] [] (isA (.ag [.v (.bool (s)), .sl (lim (m)).length (ints (lim (m))), .v (.int .i64 (e + k))])) := by
 refine Con.frzA ?_
 refine Con.of_w (rs := [.cell 4 90]) Tryz.func224 rfl Tryz.ntmps224 rfl ?_
 simp (disch := omega) only [go_sem]
 exact fin_frz
theorem qu_cmp {N D : Nat} {e1 e2 : Int} (he1 : -5000 ≤ e1 ∧ e1 ≤ 5000) (he2 : -5000 ≤ e2 ∧ e2 ≤ 5000) (hn : bl N ≤ 10000) (hd : bl D ≤ 10000) :
  decide (0 ≤ cmpI (dv 30000 false N e1) (dv 30000 false D (e2 + ((bl N : Int) + e1 - ((bl D : Int) + e2))))) = decide (quB N D * 2 ^ 58 ≤ quA N D) := by
 rw [decide_eq_decide, (cmp_pos).2.2]
 obtain ⟨K, hK⟩ : ∃ K : Nat, K = 30000 := ⟨_, rfl⟩
 rw [← hK]
 unfold dv
 rw [sv, sv, if_neg (by simp), if_neg (by simp)]
 obtain ⟨x, hx⟩ : ∃ x : Nat, x = (e2 + ((bl N : Int) + e1 - ((bl D : Int) + e2)) + (K : Int)).toNat := ⟨_, rfl⟩
 obtain ⟨y, hy⟩ : ∃ y : Nat, y = (e1 + (K : Int)).toNat := ⟨_, rfl⟩
 obtain ⟨kp, hkp⟩ : ∃ kp : Nat, kp = (quK N D).toNat := ⟨_, rfl⟩
 obtain ⟨km, hkm⟩ : ∃ km : Nat, km = (-quK N D).toNat := ⟨_, rfl⟩
 have hq : (kp : Int) - km = 58 - ((bl N : Int) - (bl D : Int)) := by unfold quK at *; omega
 have e3 : x + kp = 58 + km + y := by omega
 rw [← hx, ← hy]
 unfold quA quB
 rw [← hkp, ← hkm]
 clear hx hy hkp hkm hq hK
 have p1 := pow_pp kp
 have p2 := pow_pp y
 constructor
 ·intro h
  have h' : D * 2 ^ x ≤ N * 2 ^ y := by exact_mod_cast h
  have h2 := Nat.mul_le_mul_right (2 ^ kp) h'
  rw [Nat.mul_assoc, ← Nat.pow_add, e3, Nat.pow_add, Nat.pow_add] at h2
  refine Nat.le_of_mul_le_mul_right (c := 2 ^ y) ?_ p2
  calc D * 2 ^ km * 2 ^ 58 * 2 ^ y = D * (2 ^ 58 * 2 ^ km * 2 ^ y) := by grind
   _ ≤ N * 2 ^ y * 2 ^ kp := h2
   _ = N * 2 ^ kp * 2 ^ y := by grind
 ·intro h
  have h2 := Nat.mul_le_mul_right (2 ^ y) h
  have h' : D * 2 ^ x ≤ N * 2 ^ y := by
   refine Nat.le_of_mul_le_mul_right (c := 2 ^ kp) ?_ p1
   calc D * 2 ^ x * 2 ^ kp = D * (2 ^ 58 * 2 ^ km * 2 ^ y) := by rw [Nat.mul_assoc, ← Nat.pow_add, e3, Nat.pow_add, Nat.pow_add]
    _ = D * 2 ^ km * 2 ^ 58 * 2 ^ y := by grind
    _ ≤ N * 2 ^ kp * 2 ^ y := h2
    _ = N * 2 ^ y * 2 ^ kp := by grind
  exact_mod_cast h'
theorem con_quotientTopE (s1 : Bool) (N : Nat) (e1 : Int) (s2 : Bool) (D : Nat) (e2 : Int) (hN : N ≠ 0) (hD : D ≠ 0) (hn : bl N ≤ 10000) (hd : bl D ≤ 10000) (he1 : -5000 ≤ e1 ∧ e1 ≤ 5000) (he2 : -5000 ≤ e2 ∧ e2 ≤ 5000) : Con Tryz.prog 186 true [.ag [.v (.bool (s1)), .sl (lim (N)).length (ints (lim (N))), .v (.int .i64 (e1))], .ag [.v (.bool (s2)), .sl (lim (D)).length (ints (lim (D))), .v (.int .i64 (e2))]] [] (isA (.v (.int .i64 (quT N D + (e1 - e2))))) := by
 have ln := len_bl hn
 have ld := len_bl hd
 have c1 := con_topX false N e1 (by omega) (by omega)
 have c2 := con_topX false D e2 (by omega) (by omega)
 rw [if_neg hN] at c1
 rw [if_neg hD] at c2
 have cc := con_compareX 30000 false N e1 false D (e2 + ((bl N : Int) + e1 - ((bl D : Int) + e2))) (by omega) (by omega) (by omega) (by omega) (by omega) (by omega) (fun _ => rfl) (fun _ => rfl)
 have hq := qu_cmp (N := N) (D := D) he1 he2 hn hd
 generalize cmpI (dv 30000 false N e1) (dv 30000 false D (e2 + ((bl N : Int) + e1 - ((bl D : Int) + e2)))) = Q at *
 refine Con.of_w (rs := [.tmp 4]) Tryz.func186 rfl Tryz.ntmps186 rfl ?_
 simp (disch := omega) only [go_sem]
 refine draw_of rfl [⟨0, [], []⟩, ⟨2, [0], []⟩, ⟨1, [2], []⟩, ⟨3, [], []⟩, ⟨4, [], []⟩, ⟨5, [], []⟩] (by kernel_rfl) ?_
 simp (disch := omega) only [go_sem]
 refine call_oI (con_absX s1 N e1) ?_
 simp (disch := omega) only [go_sem]
 refine call_oI (con_absX s2 D e2) ?_
 simp (disch := omega) only [go_sem]
 refine draw_of rfl [⟨0, [], []⟩, ⟨2, [0], []⟩, ⟨1, [2], []⟩, ⟨3, [], []⟩, ⟨4, [], []⟩, ⟨5, [], []⟩] (by kernel_rfl) ?_
 simp (disch := omega) only [go_sem]
 refine call_cI (c1) ?_
 simp (disch := omega) only [go_sem]
 refine call_cI (c2) ?_
 simp (disch := omega) only [go_sem]
 refine draw_of rfl [⟨0, [], []⟩, ⟨1, [0], []⟩, ⟨2, [0, 1], []⟩, ⟨3, [0], []⟩, ⟨4, [], []⟩, ⟨5, [], []⟩] (by kernel_rfl) ?_
 simp (disch := omega) only [go_sem]
 refine call_oI (con_shifted false D e2 ((bl N : Int) + e1 - ((bl D : Int) + e2)) (by omega) (by omega)) ?_
 simp (disch := omega) only [go_sem]
 refine call_cI (cc) ?_
 simp (disch := omega) only [go_sem]
 unfold quT
 by_cases h : quB N D * 2 ^ 58 ≤ quA N D
 ·rw [decide_eq_true h] at hq
  rw [if_pos h, show (bl N : Int) - (bl D : Int) + 1 + (e1 - e2) = (bl N : Int) + e1 - ((bl D : Int) + e2) + 1 by omega]
  simp (disch := omega) only [go_sem, hq]
  exact fin_cI
 ·rw [decide_eq_false h] at hq
  rw [if_neg h, show (bl N : Int) - (bl D : Int) + (e1 - e2) = (bl N : Int) + e1 - ((bl D : Int) + e2) by omega]
  simp (disch := omega) only [go_sem, hq]
  exact fin_cI
theorem con_quot1E (s1 : Bool) (N : Nat) (e1 : Int) (s2 : Bool) (D : Nat) (e2 : Int) (low mode : Int) (hD : D ≠ 0) (hn : bl N ≤ 10000) (hd : bl D ≤ 10000) (he1 : -5000 ≤ e1 ∧ e1 ≤ 5000) (he2 : -5000 ≤ e2 ∧ e2 ≤ 5000) (hlo : -100000 ≤ low ∧ low ≤ 100000) :
  Con Tryz.prog 187 false [.v (.int .i64 low), .fp [.v (.bool s1), .sl (lim (N)).length (ints (lim (N))), .v (.int .i64 e1)] 0, .fp [.v (.bool s2), .sl (lim (D)).length (ints (lim (D))), .v (.int .i64 e2)] 0, .fp [.v (.int .i64 mode)] 0] []
   (isA (.tu [.ag [.v (.bool ((s1 != s2) && decide (ovQ (s1 != s2) N e1 D e2 low mode ≠ 0))), .sl (lim (ovQ (s1 != s2) N e1 D e2 low mode)).length (ints (lim (ovQ (s1 != s2) N e1 D e2 low mode))), .v (.int .i64 (low))], .v (.bool (ovX N e1 D e2 low))])) := by
 refine Con.frzA ?_
 refine Con.of_w (rs := [.cell 5 90, .tmp 6]) Tryz.func187 rfl Tryz.ntmps187 rfl ?_
 simp (disch := omega) only [go_sem]
 refine call_oI (con_over s1 N e1 s2 D e2 low mode hD (by omega) (by omega) (by omega) (by omega) (by omega) (by omega)) ?_
 simp (disch := omega) only [go_sem]
 exact fin_frz
theorem con_quotientE (s1 : Bool) (N : Nat) (e1 : Int) (s2 : Bool) (D : Nat) (e2 mode : Int) (z : Bool) (hN : N ≠ 0) (hD : D ≠ 0) (hn : bl N ≤ 10000) (hd : bl D ≤ 10000) (he1 : -5000 ≤ e1 ∧ e1 ≤ 5000) (he2 : -5000 ≤ e2 ∧ e2 ≤ 5000) :
  Con Tryz.prog 111 true [.ag [.v (.bool (s1)), .sl (lim (N)).length (ints (lim (N))), .v (.int .i64 (e1))], .ag [.v (.bool (s2)), .sl (lim (D)).length (ints (lim (D))), .v (.int .i64 (e2))], .v (.int .i64 mode)] []
   (isA (.tu [.ag [.v (.int .i64 ((flV (s1 != s2) (quQ N D) (-quK N D - 1 + (e1 - e2)) mode z).k)), .v (.bool ((flV (s1 != s2) (quQ N D) (-quK N D - 1 + (e1 - e2)) mode z).s)), .v (.int .i64 ((flV (s1 != s2) (quQ N D) (-quK N D - 1 + (e1 - e2)) mode z).m)), .v (.int .i64 ((flV (s1 != s2) (quQ N D) (-quK N D - 1 + (e1 - e2)) mode z).e))], .v (.int .i64 (flG (s1 != s2) (quQ N D) (-quK N D - 1 + (e1 - e2)) mode))])) := by
 obtain ⟨q1, q2, q3⟩ := qu_flE e1 e2 (s1 != s2) mode z hN hD
 rw [q1, q2]
 have ht : -30000 ≤ quT N D + (e1 - e2) ∧ quT N D + (e1 - e2) ≤ 30001 := by unfold quT; split <;> omega
 generalize hT : quT N D + (e1 - e2) = T at *
 have hlow : -40000 ≤ flLow T ∧ flLow T ≤ 40000 := by unfold flLow; split <;> omega
 have hbq : bl (ovQ (s1 != s2) N e1 D e2 (flLow T) mode) ≤ 4000000 := by
  have h1 := bl_mono (rq_le (s1 != s2) (ovA N (e1 - e2 - flLow T)) (ovA D (-(e1 - e2 - flLow T))) mode)
  have h2 := bl_succ (ovA N (e1 - e2 - flLow T) / ovA D (-(e1 - e2 - flLow T)))
  have h3 := bl_divle (ovA N (e1 - e2 - flLow T)) (ovA D (-(e1 - e2 - flLow T)))
  have h4 := bl_ovA (k := e1 - e2 - flLow T) (C := 60000) hn (by omega)
  unfold ovQ; omega
 have c0 := con_quotientTopE s1 N e1 s2 D e2 hN hD hn hd he1 he2
 rw [hT] at c0
 refine Con.of_w (rs := [.cell 6 63, .tmp 7]) Tryz.func111 rfl Tryz.ntmps111 rfl ?_
 simp (disch := omega) only [go_sem]
 refine draw_of rfl [⟨0, [], []⟩, ⟨1, [], []⟩, ⟨2, [1], []⟩, ⟨3, [1], []⟩, ⟨4, [], []⟩, ⟨5, [1, 3], []⟩, ⟨6, [1, 3, 5], []⟩, ⟨8, [1, 3, 5, 6], []⟩, ⟨9, [1, 3, 5, 6, 8], []⟩, ⟨7, [1, 3, 8], []⟩, ⟨10, [], []⟩, ⟨11, [], []⟩, ⟨12, [], []⟩, ⟨13, [], []⟩, ⟨14, [], []⟩] (by kernel_rfl) ?_
 simp (disch := omega) only [go_sem]
 refine call_cI (c0) ?_
 simp (disch := omega) only [go_sem]
 refine call_cI (con_floatOf (s1 != s2) T mode 187 [.fp [.v (.bool s1), .sl (lim (N)).length (ints (lim (N))), .v (.int .i64 e1)] 0, .fp [.v (.bool s2), .sl (lim (D)).length (ints (lim (D))), .v (.int .i64 e2)] 0, .fp [.v (.int .i64 mode)] 0] ((s1 != s2) && decide (ovQ (s1 != s2) N e1 D e2 (flLow T) mode ≠ 0)) (ovX N e1 D e2 (flLow T)) (ovQ (s1 != s2) N e1 D e2 (flLow T) mode) (flLow T) (by omega) (con_quot1E s1 N e1 s2 D e2 (flLow T) mode hD hn hd he1 he2 (by omega)) (by simp (disch := omega) only [go_sem]) (fun h => rfl) hbq (by omega) (fun h _ => q3 h)) ?_
 simp (disch := omega) only [go_sem]
 exact fin_cI
end Go.Ab
namespace Go.Ab
open Go Go.Proofs
set_option linter.unusedVariables false
set_option linter.unusedSimpArgs false
def dvV (k1 : Int) (s1 : Bool) (m1 e1 k2 : Int) (s2 : Bool) (m2 e2 mode : Int) : FlV :=
 if k1 = 3 ∨ k2 = 3 ∨ (k1 = k2 ∧ k1 ≠ 1) then ⟨3, false, 0, 0⟩ else if k1 = 2 then ⟨2, s1 != s2, 0, 0⟩ else if k2 = 2 ∨ k1 = 0 then ⟨0, s1 != s2, 0, 0⟩ else if k2 = 0 then ⟨2, s1 != s2, 0, 0⟩
  else flV (s1 != s2) (quQ m1.toNat m2.toNat) (-quK m1.toNat m2.toNat - 1 + (e1 - e2)) mode false
def dvG (k1 : Int) (s1 : Bool) (m1 e1 k2 : Int) (s2 : Bool) (m2 e2 mode : Int) : Int :=
 if k1 = 3 ∨ k2 = 3 then 0 else if k1 = k2 ∧ k1 ≠ 1 then 16 else if k1 = 2 ∨ k2 = 2 ∨ k1 = 0 then 0 else if k2 = 0 then 8
  else flG (s1 != s2) (quQ m1.toNat m2.toNat) (-quK m1.toNat m2.toNat - 1 + (e1 - e2)) mode
set_option maxRecDepth 100000 in
theorem con_FlDiv (k1 : Int) (s1 : Bool) (m1 e1 k2 : Int) (s2 : Bool) (m2 e2 mode : Int) :
  Con Tryz.prog 40 true [.ag [.v (.int .i64 (k1)), .v (.bool (s1)), .v (.int .i64 (m1)), .v (.int .i64 (e1))], .ag [.v (.int .i64 (k2)), .v (.bool (s2)), .v (.int .i64 (m2)), .v (.int .i64 (e2))], .v (.int .i64 mode)] []
   (isA (if (modeB mode && (flB k1 s1 m1 e1 && flB k2 s2 m2 e2)) = true then .tu [.ag [.v (.int .i64 ((dvV k1 s1 m1 e1 k2 s2 m2 e2 mode).k)), .v (.bool ((dvV k1 s1 m1 e1 k2 s2 m2 e2 mode).s)), .v (.int .i64 ((dvV k1 s1 m1 e1 k2 s2 m2 e2 mode).m)), .v (.int .i64 ((dvV k1 s1 m1 e1 k2 s2 m2 e2 mode).e))], .v (.int .i64 (dvG k1 s1 m1 e1 k2 s2 m2 e2 mode))]
    else .tu [.ag [.v (.int .i64 (3)), .v (.bool (false)), .v (.int .i64 (0)), .v (.int .i64 (0))], .v (.int .i64 16)])) := by
 by_cases h : (modeB mode && (flB k1 s1 m1 e1 && flB k2 s2 m2 e2)) = true
 rotate_left
 ·rw [if_neg h]
  have h0 := Bool.eq_false_iff.2 h
  refine Con.of_w (rs := [.cell 6 63, .tmp 7]) Tryz.func40 rfl Tryz.ntmps40 rfl ?_
  simp (disch := omega) only [go_sem]
  refine call_cI (con_areFloats2 mode k1 s1 m1 e1 k2 s2 m2 e2) ?_ (by simp (disch := omega) only [go_sem, h0])
  simp (disch := omega) only [go_sem]
  simp (disch := omega) only [go_sem, h0]
  refine call_cI (con_nan) ?_
  simp (disch := omega) only [go_sem]
  exact fin_cI
 rw [if_pos h]
 have ca := con_areFloats2 mode k1 s1 m1 e1 k2 s2 m2 e2
 rw [h] at ca
 have h' := h
 simp only [Bool.and_eq_true] at h'
 obtain ⟨a1, a2, a3, a4⟩ := flB_rng h'.2.1
 obtain ⟨b1, b2, b3, b4⟩ := flB_rng h'.2.2
 clear h h'
 obtain ⟨n1, rfl⟩ := Int.eq_ofNat_of_zero_le a1.1
 obtain ⟨n2, rfl⟩ := Int.eq_ofNat_of_zero_le b1.1
 have q1 : bl n1 ≤ 53 := bl_le.2 (by omega)
 have q2 : bl n2 ≤ 53 := bl_le.2 (by omega)
 obtain rfl | rfl | rfl | rfl : k1 = 0 ∨ k1 = 1 ∨ k1 = 2 ∨ k1 = 3 := by omega
 ·obtain rfl | rfl | rfl | rfl : k2 = 0 ∨ k2 = 1 ∨ k2 = 2 ∨ k2 = 3 := by omega
  ·refine Con.of_w (rs := [.cell 6 63, .tmp 7]) Tryz.func40 rfl Tryz.ntmps40 rfl ?_
   simp (disch := omega) only [go_sem]
   refine call_cI (ca) ?_
   simp (disch := omega) only [go_sem]
   refine call_cI (con_hasKind 3 0 (n1 : Int) e1 0 (n2 : Int) e2 s1 s2) ?_
   simp (disch := omega) only [go_sem]
   refine call_cI (con_nan) ?_
   simp (disch := omega) only [go_sem]
   exact fin_cI
  ·refine Con.of_w (rs := [.cell 6 63, .tmp 7]) Tryz.func40 rfl Tryz.ntmps40 rfl ?_
   simp (disch := omega) only [go_sem]
   refine call_cI (ca) ?_
   simp (disch := omega) only [go_sem]
   refine call_cI (con_hasKind 3 0 (n1 : Int) e1 1 (n2 : Int) e2 s1 s2) ?_
   simp (disch := omega) only [go_sem]
   refine call_cI (con_zero (s1 != s2)) ?_
   simp (disch := omega) only [go_sem]
   exact fin_cI
  ·refine Con.of_w (rs := [.cell 6 63, .tmp 7]) Tryz.func40 rfl Tryz.ntmps40 rfl ?_
   simp (disch := omega) only [go_sem]
   refine call_cI (ca) ?_
   simp (disch := omega) only [go_sem]
   refine call_cI (con_hasKind 3 0 (n1 : Int) e1 2 (n2 : Int) e2 s1 s2) ?_
   simp (disch := omega) only [go_sem]
   refine call_cI (con_zero (s1 != s2)) ?_
   simp (disch := omega) only [go_sem]
   exact fin_cI
  ·refine Con.of_w (rs := [.cell 6 63, .tmp 7]) Tryz.func40 rfl Tryz.ntmps40 rfl ?_
   simp (disch := omega) only [go_sem]
   refine call_cI (ca) ?_
   simp (disch := omega) only [go_sem]
   refine call_cI (con_hasKind 3 0 (n1 : Int) e1 3 (n2 : Int) e2 s1 s2) ?_
   simp (disch := omega) only [go_sem]
   refine call_cI (con_nan) ?_
   simp (disch := omega) only [go_sem]
   exact fin_cI
 ·obtain rfl | rfl | rfl | rfl : k2 = 0 ∨ k2 = 1 ∨ k2 = 2 ∨ k2 = 3 := by omega
  ·refine Con.of_w (rs := [.cell 6 63, .tmp 7]) Tryz.func40 rfl Tryz.ntmps40 rfl ?_
   simp (disch := omega) only [go_sem]
   refine call_cI (ca) ?_
   simp (disch := omega) only [go_sem]
   refine call_cI (con_hasKind 3 1 (n1 : Int) e1 0 (n2 : Int) e2 s1 s2) ?_
   simp (disch := omega) only [go_sem]
   refine call_cI (con_infinity (s1 != s2)) ?_
   simp (disch := omega) only [go_sem]
   exact fin_cI
  ·refine Con.of_w (rs := [.cell 6 63, .tmp 7]) Tryz.func40 rfl Tryz.ntmps40 rfl ?_
   simp (disch := omega) only [go_sem]
   refine call_cI (ca) ?_
   simp (disch := omega) only [go_sem]
   refine call_cI (con_hasKind 3 1 (n1 : Int) e1 1 (n2 : Int) e2 s1 s2) ?_
   simp (disch := omega) only [go_sem]
   refine draw_of rfl [⟨0, [], []⟩, ⟨2, [0], []⟩, ⟨4, [0, 2], []⟩, ⟨1, [2], []⟩, ⟨3, [], []⟩, ⟨5, [], []⟩, ⟨6, [], []⟩, ⟨7, [], []⟩, ⟨8, [], []⟩, ⟨9, [], []⟩] (by kernel_rfl) ?_
   simp (disch := omega) only [go_sem]
   refine call_oI (con_flexact 1 s1 n1 e1 (by omega)) ?_
   simp (disch := omega) only [go_sem]
   refine call_oI (con_flexact 1 s2 n2 e2 (by omega)) ?_
   simp (disch := omega) only [go_sem]
   have x1 : (s1 && decide ((1 : Int) = 1)) = s1 := by simp
   have x2 : (s2 && decide ((1 : Int) = 1)) = s2 := by simp
   refine call_cI (con_quotientE s1 n1 e1 s2 n2 e2 mode false (by have := a4.2.1 rfl; omega) (by have := b4.2.1 rfl; omega) (by omega) (by omega) (by omega) (by omega)) ?_ (by simp (disch := omega) only [go_sem, x1, x2])
   simp (disch := omega) only [go_sem]
   exact fin_cI
  ·refine Con.of_w (rs := [.cell 6 63, .tmp 7]) Tryz.func40 rfl Tryz.ntmps40 rfl ?_
   simp (disch := omega) only [go_sem]
   refine call_cI (ca) ?_
   simp (disch := omega) only [go_sem]
   refine call_cI (con_hasKind 3 1 (n1 : Int) e1 2 (n2 : Int) e2 s1 s2) ?_
   simp (disch := omega) only [go_sem]
   refine call_cI (con_zero (s1 != s2)) ?_
   simp (disch := omega) only [go_sem]
   exact fin_cI
  ·refine Con.of_w (rs := [.cell 6 63, .tmp 7]) Tryz.func40 rfl Tryz.ntmps40 rfl ?_
   simp (disch := omega) only [go_sem]
   refine call_cI (ca) ?_
   simp (disch := omega) only [go_sem]
   refine call_cI (con_hasKind 3 1 (n1 : Int) e1 3 (n2 : Int) e2 s1 s2) ?_
   simp (disch := omega) only [go_sem]
   refine call_cI (con_nan) ?_
   simp (disch := omega) only [go_sem]
   exact fin_cI
 ·obtain rfl | rfl | rfl | rfl : k2 = 0 ∨ k2 = 1 ∨ k2 = 2 ∨ k2 = 3 := by omega
  ·refine Con.of_w (rs := [.cell 6 63, .tmp 7]) Tryz.func40 rfl Tryz.ntmps40 rfl ?_
   simp (disch := omega) only [go_sem]
   refine call_cI (ca) ?_
   simp (disch := omega) only [go_sem]
   refine call_cI (con_hasKind 3 2 (n1 : Int) e1 0 (n2 : Int) e2 s1 s2) ?_
   simp (disch := omega) only [go_sem]
   refine call_cI (con_infinity (s1 != s2)) ?_
   simp (disch := omega) only [go_sem]
   exact fin_cI
  ·refine Con.of_w (rs := [.cell 6 63, .tmp 7]) Tryz.func40 rfl Tryz.ntmps40 rfl ?_
   simp (disch := omega) only [go_sem]
   refine call_cI (ca) ?_
   simp (disch := omega) only [go_sem]
   refine call_cI (con_hasKind 3 2 (n1 : Int) e1 1 (n2 : Int) e2 s1 s2) ?_
   simp (disch := omega) only [go_sem]
   refine call_cI (con_infinity (s1 != s2)) ?_
   simp (disch := omega) only [go_sem]
   exact fin_cI
  ·refine Con.of_w (rs := [.cell 6 63, .tmp 7]) Tryz.func40 rfl Tryz.ntmps40 rfl ?_
   simp (disch := omega) only [go_sem]
   refine call_cI (ca) ?_
   simp (disch := omega) only [go_sem]
   refine call_cI (con_hasKind 3 2 (n1 : Int) e1 2 (n2 : Int) e2 s1 s2) ?_
   simp (disch := omega) only [go_sem]
   refine call_cI (con_nan) ?_
   simp (disch := omega) only [go_sem]
   exact fin_cI
  ·refine Con.of_w (rs := [.cell 6 63, .tmp 7]) Tryz.func40 rfl Tryz.ntmps40 rfl ?_
   simp (disch := omega) only [go_sem]
   refine call_cI (ca) ?_
   simp (disch := omega) only [go_sem]
   refine call_cI (con_hasKind 3 2 (n1 : Int) e1 3 (n2 : Int) e2 s1 s2) ?_
   simp (disch := omega) only [go_sem]
   refine call_cI (con_nan) ?_
   simp (disch := omega) only [go_sem]
   exact fin_cI
 ·obtain rfl | rfl | rfl | rfl : k2 = 0 ∨ k2 = 1 ∨ k2 = 2 ∨ k2 = 3 := by omega
  ·refine Con.of_w (rs := [.cell 6 63, .tmp 7]) Tryz.func40 rfl Tryz.ntmps40 rfl ?_
   simp (disch := omega) only [go_sem]
   refine call_cI (ca) ?_
   simp (disch := omega) only [go_sem]
   refine call_cI (con_hasKind 3 3 (n1 : Int) e1 0 (n2 : Int) e2 s1 s2) ?_
   simp (disch := omega) only [go_sem]
   refine call_cI (con_nan) ?_
   simp (disch := omega) only [go_sem]
   exact fin_cI
  ·refine Con.of_w (rs := [.cell 6 63, .tmp 7]) Tryz.func40 rfl Tryz.ntmps40 rfl ?_
   simp (disch := omega) only [go_sem]
   refine call_cI (ca) ?_
   simp (disch := omega) only [go_sem]
   refine call_cI (con_hasKind 3 3 (n1 : Int) e1 1 (n2 : Int) e2 s1 s2) ?_
   simp (disch := omega) only [go_sem]
   refine call_cI (con_nan) ?_
   simp (disch := omega) only [go_sem]
   exact fin_cI
  ·refine Con.of_w (rs := [.cell 6 63, .tmp 7]) Tryz.func40 rfl Tryz.ntmps40 rfl ?_
   simp (disch := omega) only [go_sem]
   refine call_cI (ca) ?_
   simp (disch := omega) only [go_sem]
   refine call_cI (con_hasKind 3 3 (n1 : Int) e1 2 (n2 : Int) e2 s1 s2) ?_
   simp (disch := omega) only [go_sem]
   refine call_cI (con_nan) ?_
   simp (disch := omega) only [go_sem]
   exact fin_cI
  ·refine Con.of_w (rs := [.cell 6 63, .tmp 7]) Tryz.func40 rfl Tryz.ntmps40 rfl ?_
   simp (disch := omega) only [go_sem]
   refine call_cI (ca) ?_
   simp (disch := omega) only [go_sem]
   refine call_cI (con_hasKind 3 3 (n1 : Int) e1 3 (n2 : Int) e2 s1 s2) ?_
   simp (disch := omega) only [go_sem]
   refine call_cI (con_nan) ?_
   simp (disch := omega) only [go_sem]
   exact fin_cI
end Go.Ab
namespace Go.Ab
open Go Go.Proofs
set_option linter.unusedVariables false
set_option linter.unusedSimpArgs false
/-! ### A quotient, rounded down and up -/
theorem qu_rn {N D : Nat} (e1 e2 : Int) (s : Bool) (mode : Int) (z : Bool) (hN : N ≠ 0) (hD : D ≠ 0) :
  flV s (quQ N D) (-quK N D - 1 + (e1 - e2)) mode z = rnF s (ovA N (e1 - e2 - flLow (quT N D + (e1 - e2)))) (ovA D (-(e1 - e2 - flLow (quT N D + (e1 - e2))))) (flLow (quT N D + (e1 - e2))) mode ∧
   flG s (quQ N D) (-quK N D - 1 + (e1 - e2)) mode = flFl (quT N D + (e1 - e2)) (decide (ovA N (e1 - e2 - flLow (quT N D + (e1 - e2))) % ovA D (-(e1 - e2 - flLow (quT N D + (e1 - e2)))) = 0)) (rq s (ovA N (e1 - e2 - flLow (quT N D + (e1 - e2)))) (ovA D (-(e1 - e2 - flLow (quT N D + (e1 - e2))))) mode) (flLow (quT N D + (e1 - e2))) ∧
   (rq s (ovA N (e1 - e2 - flLow (quT N D + (e1 - e2)))) (ovA D (-(e1 - e2 - flLow (quT N D + (e1 - e2))))) mode ≠ 0 → flE (rq s (ovA N (e1 - e2 - flLow (quT N D + (e1 - e2)))) (ovA D (-(e1 - e2 - flLow (quT N D + (e1 - e2))))) mode) (flLow (quT N D + (e1 - e2))) ≤ oE (rq s (ovA N (e1 - e2 - flLow (quT N D + (e1 - e2)))) (ovA D (-(e1 - e2 - flLow (quT N D + (e1 - e2))))) mode) (flLow (quT N D + (e1 - e2)))) :=
 qu_flE e1 e2 s mode z hN hD
theorem qu_dv {N D : Nat} {e1 e2 low : Int} (h1 : -1074 ≤ e1) (h2 : -1074 ≤ e2) (hl : -1074 ≤ low) : ∃ C : Int, 0 < C ∧ (∀ (s s2 : Bool) (q : Nat), dv 1074 s q low * dv 1074 s2 D e2 = sv (s != s2) (q * ovA D (-(e1 - e2 - low))) * C) ∧ ∀ s1 : Bool, dv 1074 s1 N e1 * 2 ^ 1074 = sv s1 (ovA N (e1 - e2 - low)) * C := by
 obtain ⟨kp, hkp⟩ : ∃ k : Nat, k = (e1 - e2 - low).toNat := ⟨_, rfl⟩
 obtain ⟨km, hkm⟩ : ∃ k : Nat, k = (-(e1 - e2 - low)).toNat := ⟨_, rfl⟩
 obtain ⟨c, hc⟩ : ∃ c : Nat, (c : Int) = (if e1 - e2 - low ≤ 0 then e1 + 2148 else e2 + low + 2148) := ⟨(if e1 - e2 - low ≤ 0 then e1 + 2148 else e2 + low + 2148).toNat, by split <;> omega⟩
 refine ⟨2 ^ c, Int.pow_pos (by omega), fun s s2 q => ?_, fun s1 => ?_⟩
 ·have e : (low + ((1074 : Nat) : Int)).toNat + (e2 + ((1074 : Nat) : Int)).toNat = km + c := by split at hc <;> omega
  unfold ovA
  rw [← hkm]
  unfold dv
  have : sv s q * 2 ^ (low + ((1074 : Nat) : Int)).toNat * (sv s2 D * 2 ^ (e2 + ((1074 : Nat) : Int)).toNat) = sv s q * sv s2 D * (2 ^ (low + ((1074 : Nat) : Int)).toNat * 2 ^ (e2 + ((1074 : Nat) : Int)).toNat) := by grind
  rw [this, ← Int.pow_add, e, Int.pow_add, ← Nat.mul_assoc, sv_mul (m := q * D), Int.natCast_pow, sv_ne]
  grind
 ·have e : (e1 + ((1074 : Nat) : Int)).toNat + 1074 = kp + c := by split at hc <;> omega
  unfold ovA
  rw [← hkp]
  unfold dv
  rw [Int.mul_assoc, ← Int.pow_add, e, Int.pow_add, sv_mul, Int.natCast_pow, Int.mul_assoc]
  rfl
theorem xS1 (s : Bool) : xS 1 s = s := by unfold xS; simp
theorem dv_ok {V U : FlV} {m : Int} (h1 : flB V.k V.s V.m V.e = true) (h2 : flB U.k U.s U.m U.e = true) : flB (dvV V.k V.s V.m V.e U.k U.s U.m U.e m).k (dvV V.k V.s V.m V.e U.k U.s U.m U.e m).s (dvV V.k V.s V.m V.e U.k U.s U.m U.e m).m (dvV V.k V.s V.m V.e U.k U.s U.m U.e m).e = true := by
 obtain ⟨a1, a2, a3, a4, a5, a6⟩ := flB_rng h1
 obtain ⟨b1, b2, b3, b4, b5, b6⟩ := flB_rng h2
 unfold dvV
 split
 ·decide
 split
 ·exact flB_inf _
 split
 ·exact flB_zero _
 split
 ·exact flB_inf _
 have k1 : V.k = 1 := by omega
 have k2 : U.k = 1 := by omega
 have n1 : V.m.toNat ≠ 0 := by have := a5 k1; omega
 have n2 : U.m.toNat ≠ 0 := by have := b5 k2; omega
 obtain ⟨q1, q2, q3⟩ := qu_rn V.e U.e (V.s != U.s) m false n1 n2
 rw [q1]
 exact rn_ok (by unfold flLow; split <;> omega) q3
section
variable {V U : FlV} (h1 : flB V.k V.s V.m V.e = true) (h2 : flB U.k U.s U.m U.e = true) (k1 : V.k = 0 ∨ V.k = 1) (k2 : U.k = 1)
include h1 h2 k1 k2
theorem dv_main (m : Int) {F D T : FlV} {G : Int} (hF : dvV V.k V.s V.m V.e U.k U.s U.m U.e m = F) (hG : dvG V.k V.s V.m V.e U.k U.s U.m U.e m = G) (hD : dvV V.k V.s V.m V.e U.k U.s U.m U.e 3 = D) (hT : dvV V.k V.s V.m V.e U.k U.s U.m U.e 2 = T) :
  (F = D ∨ F = T) ∧ 0 ≤ G ∧ (G = 0 → isN F = true ∧ (flD F).val 1074 * (flD U).val 1074 = (flD V).val 1074 * 2 ^ 1074) ∧
   (isN D = true → isN T = true → G ≠ 0 →
    ((flD U).s = false → (flD D).val 1074 * (flD U).val 1074 < (flD V).val 1074 * 2 ^ 1074 ∧ (flD V).val 1074 * 2 ^ 1074 < (flD T).val 1074 * (flD U).val 1074) ∧
    ((flD U).s = true → (flD T).val 1074 * (flD U).val 1074 < (flD V).val 1074 * 2 ^ 1074 ∧ (flD V).val 1074 * 2 ^ 1074 < (flD D).val 1074 * (flD U).val 1074)) := by
 have o1 := dv_ok (m := m) h1 h2
 have o2 := dv_ok (m := 3) h1 h2
 have o3 := dv_ok (m := 2) h1 h2
 rw [hF] at o1
 rw [hD] at o2
 rw [hT] at o3
 obtain ⟨a1, a2, a3, a4, a5, a6⟩ := flB_rng h1
 obtain ⟨b1, b2, b3, b4, b5, b6⟩ := flB_rng h2
 have n2 : U.m.toNat ≠ 0 := by have := b5 k2; omega
 rw [flD_val h1, flD_val h2, flD_val o1, flD_val o2, flD_val o3]
 have hs : (flD U).s = U.s := by
  show oS (xS U.k U.s) _ = _
  unfold oS; rw [if_neg n2, k2, xS1]
 rw [hs]
 rcases k1 with k1 | k1
 ·have z := (a4 (by omega)).1
  unfold dvV at hF hD hT
  unfold dvG at hG
  rw [if_neg (by omega), if_neg (by omega), if_pos (.inr k1)] at hF hD hT
  rw [if_neg (by omega), if_neg (by omega), if_pos (.inr (.inr k1))] at hG
  subst hF hG
  refine ⟨.inl hD, Int.le_refl _, fun _ => ⟨rfl, ?_⟩, fun _ _ h => absurd rfl h⟩
  rw [z]
  show dv _ _ 0 _ * _ = dv _ _ 0 _ * _
  rw [dv_zero, dv_zero, Int.zero_mul, Int.zero_mul]
 ·have n1 : V.m.toNat ≠ 0 := by have := a5 k1; omega
  unfold dvV at hF hD hT
  unfold dvG at hG
  rw [if_neg (by omega), if_neg (by omega), if_neg (by omega), if_neg (by omega)] at hF hD hT
  rw [if_neg (by omega), if_neg (by omega), if_neg (by omega), if_neg (by omega)] at hG
  have hq := fun mode => qu_rn (N := V.m.toNat) (D := U.m.toNat) V.e U.e (V.s != U.s) mode false n1 n2
  rw [k1, k2, xS1, xS1]
  generalize quT V.m.toNat U.m.toNat + (V.e - U.e) = top at hq
  have hl : -1074 ≤ flLow top := by unfold flLow; split <;> omega
  generalize flLow top = low at *
  obtain ⟨C, hC, hm1, hm2⟩ := qu_dv (N := V.m.toNat) (D := U.m.toNat) a2.1 b2.1 hl
  have hB : 0 < ovA U.m.toNat (-(V.e - U.e - low)) := Nat.pos_of_ne_zero (ovA_ne n2)
  generalize ovA V.m.toNat (V.e - U.e - low) = a at *
  generalize ovA U.m.toNat (-(V.e - U.e - low)) = b at *
  rw [(hq m).1] at hF
  rw [(hq 3).1] at hD
  rw [(hq 2).1] at hT
  rw [(hq m).2.1] at hG
  have hf := fun mode => (hq mode).2.2
  clear hq
  have hor := rn_or (V.s != U.s) a b low m
  rw [hF, hD, hT] at hor
  rw [hm2]
  have g1 := Nat.div_add_mod a b
  have g2 := Nat.mod_lt a hB
  refine ⟨hor, hG ▸ fl_flags_pos _ _ _ _ _ _ _, fun g => ?_, fun i1 i2 g => ?_⟩
  ·rw [← hG] at g
   obtain ⟨x1, x2⟩ := fl_flags _ g
   obtain ⟨y1, y2, y3⟩ := rn_val hl (hf m) x1
   rw [hF] at y1 y2 y3
   refine ⟨y2, ?_⟩
   rw [y3, hm1]
   have hex : a % b = 0 := of_decide_eq_true x2
   have : rq (V.s != U.s) a b m = a / b := by unfold rq; rw [if_pos hex]
   rw [this, show a / b * b = a by rw [Nat.mul_comm]; omega]
   cases V.s <;> cases U.s <;> rfl
  ·rw [← hD] at i1
   rw [← hT] at i2
   have hno := rn_two i1 i2
   rw [← hG] at g
   have hex := fl_flags_nz _ g (hno m)
   have hex' : a % b ≠ 0 := of_decide_eq_false hex
   obtain ⟨y1, y2, y3⟩ := rn_val hl (hf 3) (hno 3)
   obtain ⟨z1, z2, z3⟩ := rn_val hl (hf 2) (hno 2)
   rw [hD] at y3
   rw [hT] at z3
   rw [y3, z3, hm1, hm1, rq_down, rq_up]
   have hup : upQ a b = a / b + 1 := if_neg hex'
   rw [hup]
   have k3 : a / b * b < a := by rw [Nat.mul_comm]; omega
   have k4 : a < (a / b + 1) * b := by rw [Nat.add_mul, Nat.one_mul, Nat.mul_comm]; omega
   have k5 : ((a / b * b : Nat) : Int) * C < a * C := Int.mul_lt_mul_of_pos_right (by omega) hC
   have k6 : (a : Int) * C < (((a / b + 1) * b : Nat) : Int) * C := Int.mul_lt_mul_of_pos_right (by omega) hC
   cases V.s <;> cases U.s <;> refine ⟨fun h => ?_, fun h => ?_⟩ <;> first | (cases h; done) | skip
   all_goals
    simp [sv, bne_self_eq_false, Bool.bne_true, Bool.bne_false, Bool.not_false, Bool.not_true, Bool.false_eq_true, if_true, if_false, Int.neg_mul] at k5 k6 ⊢
    generalize a / b * b = lo at *
    generalize (a / b + 1) * b = hi at *
    omega
end
end Go.Ab
namespace Go.Ab
open Go Go.Proofs
set_option linter.unusedVariables false
set_option linter.unusedSimpArgs false
def curO (l : List UInt8) (i h : Int) : Ob := .own 0 [.sl l.length (bytesA l), .v (.int .i64 i), .v (.int .i64 h)]
def curR (l : List UInt8) (Q : AV → Prop) : AV → List Ob → List Ob → Prop := fun r hs bs => hs = [] ∧ Q r ∧ ∃ i h : Int, (0 ≤ i ∧ i ≤ l.length) ∧ bs = [.own 0 [.sl l.length (bytesA l), .v (.int .i64 i), .v (.int .i64 h)]]
section
variable (l : List UInt8) (hl : l.length ≤ 9223372036854775807) (i h : Int) (hi : 0 ≤ i ∧ i ≤ l.length)
include hl hi
theorem con_l1Byte : Con Tryz.prog 207 false [.pt 10000000 0] [.own 0 [.sl l.length (bytesA l), .v (.int .i64 i), .v (.int .i64 h)]] (curR l fun r => ∃ k : Int, (0 ≤ k ∧ k ≤ 255) ∧ r = .v (.int .i64 k)) := by
 refine Con.of_aw Tryz.func207 rfl Tryz.ntmps207 (by simp) (by simp) (by simp) (W.sound ?_)
 show @W Tryz.prog 58 ⟨_⟩ ⟨fun x σ => @retW _ _ _ ⟨_⟩ _ ⟨_⟩ x σ⟩ _ _
 simp (disch := omega) only [go_sem]
 generalize IntKind.i64.wrap (IntKind.i64.wrap (h * 6364136223846793005) + 1442695040888963407) = h1
 refine draw_of rfl [⟨0, [], []⟩, ⟨1, [], []⟩, ⟨2, [], []⟩, ⟨3, [], []⟩, ⟨4, [], []⟩, ⟨5, [3], []⟩, ⟨6, [3], []⟩, ⟨7, [3], []⟩, ⟨8, [3], []⟩, ⟨9, [3], []⟩, ⟨10, [], []⟩, ⟨11, [], []⟩, ⟨12, [], []⟩] (by kernel_rfl) ?_
 simp (disch := omega) only [go_sem]
 generalize xorI (h1.fdiv (2 ^ min 33 64)) (h1.fdiv (2 ^ min 45 64)) = y
 have hy : 0 ≤ y % 256 ∧ y % 256 < 256 := by omega
 generalize y % 256 = x at *
 refine draw_of rfl [⟨0, [], []⟩, ⟨1, [], []⟩, ⟨2, [], []⟩, ⟨3, [], []⟩, ⟨4, [3], []⟩, ⟨5, [3], []⟩, ⟨6, [3], []⟩, ⟨7, [3], []⟩, ⟨8, [3], []⟩, ⟨9, [], []⟩] (by kernel_rfl) ?_
 simp (disch := omega) only [go_sem]
 refine ifW_dec (fun c1 => ?_) (fun c1 => ?_)
 ·simp (disch := omega) only [go_sem, c1]
  refine draw_of rfl [⟨0, [], []⟩, ⟨1, [], []⟩, ⟨2, [], []⟩, ⟨3, [], []⟩, ⟨4, [], []⟩, ⟨5, [4], []⟩, ⟨6, [4], []⟩, ⟨7, [4], []⟩, ⟨8, [4], []⟩, ⟨9, [], []⟩, ⟨10, [], []⟩, ⟨11, [], []⟩, ⟨12, [], []⟩, ⟨13, [], []⟩, ⟨14, [], []⟩] (by kernel_rfl) ?_
  simp (disch := omega) only [go_sem]
  refine ⟨by omega, by omega, ?_⟩
  generalize IntKind.i64.wrap (x + IntKind.i64.wrap ((l.getD i.toNat 0).toNat : Int)) = y2
  have hy2 : 0 ≤ y2 % 256 ∧ y2 % 256 < 256 := by omega
  refine fin_intro [] [] [.own 0 [.sl l.length (bytesA l), .v (.int .i64 (i + 1)), .v (.int .i64 (h1))]] [.v (.int .i64 (y2 % 256))] rfl (by simp (disch := omega) only [go_sem]) (by simp (disch := omega) only [go_sem]) (by simp) (by simp) ⟨rfl, ⟨_, by omega, rfl⟩, _, _, by omega, rfl⟩
 ·simp (disch := omega) only [go_sem, c1]
  refine fin_intro [] [] [.own 0 [.sl l.length (bytesA l), .v (.int .i64 (i)), .v (.int .i64 (h1))]] [.v (.int .i64 x)] rfl (by simp (disch := omega) only [go_sem]) (by simp (disch := omega) only [go_sem]) (by simp) (by simp) ⟨rfl, ⟨_, by omega, rfl⟩, _, _, by omega, rfl⟩
theorem con_l1Below (n : Int) (hn : n ≤ 2 ^ 62) : Con Tryz.prog 130 false [.pt 10000000 0, .v (.int .i64 n)] [.own 0 [.sl l.length (bytesA l), .v (.int .i64 i), .v (.int .i64 h)]] (curR l fun r => ∃ k : Int, (0 ≤ k ∧ (0 < n → k < n)) ∧ r = .v (.int .i64 k)) := by
 refine Con.of_aw Tryz.func130 rfl Tryz.ntmps130 (by simp) (by simp) (by simp) (W.sound ?_)
 show @W Tryz.prog 37 ⟨_⟩ ⟨fun x σ => @retW _ _ _ ⟨_⟩ _ ⟨_⟩ x σ⟩ _ _
 simp (disch := omega) only [go_sem]
 refine ifW_dec (fun c1 => ?_) (fun c1 => ?_)
 ·simp (disch := omega) only [go_sem, c1]
  refine fin_intro [] [] [.own 0 [.sl l.length (bytesA l), .v (.int .i64 (i)), .v (.int .i64 (h))]] [.v (.int .i64 0)] rfl (by simp (disch := omega) only [go_sem]) (by simp (disch := omega) only [go_sem]) (by simp) (by simp) ⟨rfl, ⟨_, ⟨by omega, fun h => by omega⟩, rfl⟩, _, _, by omega, rfl⟩
 ·simp (disch := omega) only [go_sem, c1]
  refine ifW_dec (fun c2 => ?_) (fun c2 => ?_)
  ·simp (disch := omega) only [go_sem, c2]
   refine call_lent false [10000000] (con_l1Byte l hl i h hi) (by simp (disch := omega) only [go_sem]) (by simp (disch := omega) only [go_sem]) rfl (lend_cons (z := 0) (cs := [.sl l.length (bytesA l), .v (.int .i64 (i)), .v (.int .i64 (h))]) (by simp (disch := omega) only [go_sem]) (by simp (disch := omega) only [go_sem])) (by intro n hn; exact ⟨_, List.mem_cons_self .., by rw [List.mem_singleton.1 hn]; rfl⟩) ?_
   rintro r hs bs ⟨rfl, ⟨k1, hk1, rfl⟩, i1, h1, hi1, rfl⟩ -
   refine ⟨by simp [freeN], ?_⟩
   simp (disch := omega) only [go_sem]
   refine ⟨by omega, ?_⟩
   have hm := Int.emod_nonneg k1 (show n ≠ 0 by omega)
   have hm2 := Int.emod_lt_of_pos k1 (show 0 < n by omega)
   refine fin_intro [] [] [.own 0 [.sl l.length (bytesA l), .v (.int .i64 (i1)), .v (.int .i64 (h1))]] [.v (.int .i64 (k1 % n))] rfl (by simp (disch := omega) only [go_sem]) (by simp (disch := omega) only [go_sem]) (by simp) (by simp) ⟨rfl, ⟨_, ⟨hm, fun _ => hm2⟩, rfl⟩, _, _, by omega, rfl⟩
  ·simp (disch := omega) only [go_sem, c2]
   refine call_lent false [10000000] (con_l1Byte l hl i h hi) (by simp (disch := omega) only [go_sem]) (by simp (disch := omega) only [go_sem]) rfl (lend_cons (z := 0) (cs := [.sl l.length (bytesA l), .v (.int .i64 (i)), .v (.int .i64 (h))]) (by simp (disch := omega) only [go_sem]) (by simp (disch := omega) only [go_sem])) (by intro n hn; exact ⟨_, List.mem_cons_self .., by rw [List.mem_singleton.1 hn]; rfl⟩) ?_
   rintro r hs bs ⟨rfl, ⟨k1, hk1, rfl⟩, i1, h1, hi1, rfl⟩ -
   refine ⟨by simp [freeN], ?_⟩
   simp (disch := omega) only [go_sem]
   refine call_lent false [10000000] (con_l1Byte l hl i1 h1 hi1) (by simp (disch := omega) only [go_sem]) (by simp (disch := omega) only [go_sem]) rfl (lend_cons (z := 0) (cs := [.sl l.length (bytesA l), .v (.int .i64 (i1)), .v (.int .i64 (h1))]) (by simp (disch := omega) only [go_sem]) (by simp (disch := omega) only [go_sem])) (by intro n hn; exact ⟨_, List.mem_cons_self .., by rw [List.mem_singleton.1 hn]; rfl⟩) ?_
   rintro r hs bs ⟨rfl, ⟨k2, hk2, rfl⟩, i2, h2, hi2, rfl⟩ -
   refine ⟨by simp [freeN], ?_⟩
   simp (disch := omega) only [go_sem]
   refine call_lent false [10000000] (con_l1Byte l hl i2 h2 hi2) (by simp (disch := omega) only [go_sem]) (by simp (disch := omega) only [go_sem]) rfl (lend_cons (z := 0) (cs := [.sl l.length (bytesA l), .v (.int .i64 (i2)), .v (.int .i64 (h2))]) (by simp (disch := omega) only [go_sem]) (by simp (disch := omega) only [go_sem])) (by intro n hn; exact ⟨_, List.mem_cons_self .., by rw [List.mem_singleton.1 hn]; rfl⟩) ?_
   rintro r hs bs ⟨rfl, ⟨k3, hk3, rfl⟩, i3, h3, hi3, rfl⟩ -
   refine ⟨by simp [freeN], ?_⟩
   simp (disch := omega) only [go_sem]
   refine call_lent false [10000000] (con_l1Byte l hl i3 h3 hi3) (by simp (disch := omega) only [go_sem]) (by simp (disch := omega) only [go_sem]) rfl (lend_cons (z := 0) (cs := [.sl l.length (bytesA l), .v (.int .i64 (i3)), .v (.int .i64 (h3))]) (by simp (disch := omega) only [go_sem]) (by simp (disch := omega) only [go_sem])) (by intro n hn; exact ⟨_, List.mem_cons_self .., by rw [List.mem_singleton.1 hn]; rfl⟩) ?_
   rintro r hs bs ⟨rfl, ⟨k4, hk4, rfl⟩, i4, h4, hi4, rfl⟩ -
   refine ⟨by simp [freeN], ?_⟩
   simp (disch := omega) only [go_sem]
   refine ⟨by omega, ?_⟩
   have hm := Int.emod_nonneg (k1 * 16777216 + k2 * 65536 + k3 * 256 + k4) (show n ≠ 0 by omega)
   have hm2 := Int.emod_lt_of_pos (k1 * 16777216 + k2 * 65536 + k3 * 256 + k4) (show 0 < n by omega)
   refine fin_intro [] [] [.own 0 [.sl l.length (bytesA l), .v (.int .i64 (i4)), .v (.int .i64 (h4))]] [.v (.int .i64 ((k1 * 16777216 + k2 * 65536 + k3 * 256 + k4) % n))] rfl (by simp (disch := omega) only [go_sem]) (by simp (disch := omega) only [go_sem]) (by simp) (by simp) ⟨rfl, ⟨_, ⟨hm, fun _ => hm2⟩, rfl⟩, _, _, by omega, rfl⟩
theorem con_l1Once (n : Int) (hn : n ≤ 2 ^ 62) : Con Tryz.prog 58 false [.pt 10000000 0, .v (.int .i64 n)] [.own 0 [.sl l.length (bytesA l), .v (.int .i64 i), .v (.int .i64 h)]] (curR l fun r => ∃ b : Bool, r = .v (.bool b)) := by
 refine Con.of_aw Tryz.func58 rfl Tryz.ntmps58 (by simp) (by simp) (by simp) (W.sound ?_)
 show @W Tryz.prog 9 ⟨_⟩ ⟨fun x σ => @retW _ _ _ ⟨_⟩ _ ⟨_⟩ x σ⟩ _ _
 simp (disch := omega) only [go_sem]
 refine call_lent false [10000000] (con_l1Below l hl i h hi n hn) (by simp (disch := omega) only [go_sem]) (by simp (disch := omega) only [go_sem]) rfl (lend_cons (z := 0) (cs := [.sl l.length (bytesA l), .v (.int .i64 (i)), .v (.int .i64 (h))]) (by simp (disch := omega) only [go_sem]) (by simp (disch := omega) only [go_sem])) (by intro n hn; exact ⟨_, List.mem_cons_self .., by rw [List.mem_singleton.1 hn]; rfl⟩) ?_
 rintro r hs bs ⟨rfl, ⟨k1, hk1, rfl⟩, i1, h1, hi1, rfl⟩ -
 refine ⟨by simp [freeN], ?_⟩
 simp (disch := omega) only [go_sem]
 refine fin_intro [] [] [.own 0 [.sl l.length (bytesA l), .v (.int .i64 (i1)), .v (.int .i64 (h1))]] [.v (.bool (decide (k1 = 0)))] rfl (by simp (disch := omega) only [go_sem]) (by simp (disch := omega) only [go_sem]) (by simp) (by simp) ⟨rfl, ⟨_, rfl⟩, _, _, by omega, rfl⟩
def curL (l : List UInt8) (xs : List Int) (Q : AV → Prop) : AV → List Ob → List Ob → Prop := fun r hs bs => hs = [] ∧ Q r ∧ ∃ i h : Int, (0 ≤ i ∧ i ≤ l.length) ∧ bs = [.own 0 [.sl l.length (bytesA l), .v (.int .i64 i), .v (.int .i64 h)], .own 1 (ints xs)]
theorem con_l1PickInt (xs : List Int) (h0 : 0 < xs.length) (h1 : xs.length ≤ 2 ^ 40) : Con Tryz.prog 131 false [.pt 10000000 0, .rf 10000001 0 xs.length] [.own 0 [.sl l.length (bytesA l), .v (.int .i64 i), .v (.int .i64 h)], .own 1 (ints xs)] (curL l xs fun r => ∃ x ∈ xs, r = .v (.int .i64 x)) := by
 refine Con.of_aw Tryz.func131 rfl Tryz.ntmps131 (by simp) (by simp) (by simp) (W.sound ?_)
 show @W Tryz.prog 12 ⟨_⟩ ⟨fun x σ => @retW _ _ _ ⟨_⟩ _ ⟨_⟩ x σ⟩ _ _
 simp (disch := omega) only [go_sem]
 refine call_lent false [10000000] (con_l1Below l hl i h hi xs.length (by omega)) (by simp (disch := omega) only [go_sem]) (by simp (disch := omega) only [go_sem]) rfl (lend_cons (z := 0) (cs := [.sl l.length (bytesA l), .v (.int .i64 (i)), .v (.int .i64 (h))]) (by simp (disch := omega) only [go_sem]) (by simp (disch := omega) only [go_sem])) (by intro n hn; exact ⟨_, List.mem_cons_self .., by rw [List.mem_singleton.1 hn]; rfl⟩) ?_
 rintro r hs bs ⟨rfl, ⟨k1, hk1, rfl⟩, i1, h1, hi1, rfl⟩ -
 refine ⟨by simp [freeN], ?_⟩
 simp (disch := omega) only [go_sem]
 obtain ⟨n1, rfl⟩ := Int.eq_ofNat_of_zero_le hk1.1
 have hlt : n1 < xs.length := by have := hk1.2 (by omega); omega
 simp (disch := omega) only [go_sem]
 refine ⟨by omega, by omega, ?_⟩
 have hm : xs.getD n1 0 ∈ xs := by rw [List.getD_eq_getElem?_getD, List.getElem?_eq_getElem hlt]; exact List.getElem_mem _
 refine fin_intro [] [] [.own 0 [.sl l.length (bytesA l), .v (.int .i64 i1), .v (.int .i64 h1)], .own 1 (ints xs)] [.v (.int .i64 (xs.getD n1 0))] rfl (by simp (disch := omega) only [go_sem]) (by simp (disch := omega) only [go_sem]) (by simp) (by simp) ⟨rfl, ⟨_, hm, rfl⟩, _, _, by omega, rfl⟩
end
end Go.Ab
namespace Go.Ab
open Go Go.Proofs
set_option linter.unusedVariables false
set_option linter.unusedSimpArgs false
end Go.Ab
namespace Go.Ab
open Go Go.Proofs
set_option linter.unusedVariables false
set_option linter.unusedSimpArgs false
end Go.Ab
namespace Go.Ab
open Go Go.Proofs
set_option linter.unusedVariables false
set_option linter.unusedSimpArgs false
theorem con_flokS (k : Int) (s : Bool) (m e : Int) : Con Tryz.prog 42 true [.ag [.v (.int .i64 (k)), .v (.bool (s)), .v (.int .i64 (m)), .v (.int .i64 (e))]] [] (isA (.v (.bool (flB k s m e)))) := by
 refine Con.of_aw Tryz.func42 rfl Tryz.ntmps42 (by simp) (by simp) (by simp) (W.sound ?_)
 show @W Tryz.prog 59 ⟨_⟩ ⟨fun x σ => @retW _ _ _ ⟨_⟩ _ ⟨_⟩ x σ⟩ _ _
 simp (disch := omega) only [go_sem]
 refine ifW_dec (fun h0 => ?_) (fun h0 => ?_)
 ·subst h0
  simp (disch := omega) only [go_sem]
  repeat' first
   | simp (disch := omega) only [go_sem, *]
   | (with_reducible refine ifW_dec (fun _ => ?_) (fun _ => ?_))
   | (with_reducible refine ifW_not (fun _ => ?_) (fun _ => ?_))
   | (with_reducible refine ifW_nb (fun _ => ?_) (fun _ => ?_))
   | (with_reducible refine ifW_b (fun _ => ?_) (fun _ => ?_))
  all_goals exact fin_valc (by simp (disch := omega) only [go_sem]) (by simp (disch := omega) only [go_sem]) ⟨by simp_all [tupA, flB] <;> omega, rfl, rfl⟩
 ·simp (disch := omega) only [go_sem, h0]
  refine ifW_dec (fun h2 => ?_) (fun h2 => ?_)
  ·subst h2
   simp (disch := omega) only [go_sem]
   repeat' first
    | simp (disch := omega) only [go_sem, *]
    | (with_reducible refine ifW_dec (fun _ => ?_) (fun _ => ?_))
    | (with_reducible refine ifW_not (fun _ => ?_) (fun _ => ?_))
    | (with_reducible refine ifW_nb (fun _ => ?_) (fun _ => ?_))
    | (with_reducible refine ifW_b (fun _ => ?_) (fun _ => ?_))
   all_goals exact fin_valc (by simp (disch := omega) only [go_sem]) (by simp (disch := omega) only [go_sem]) ⟨by simp_all [tupA, flB] <;> omega, rfl, rfl⟩
  ·simp (disch := omega) only [go_sem, h2]
   refine ifW_dec (fun h3 => ?_) (fun h3 => ?_)
   ·subst h3
    simp (disch := omega) only [go_sem]
    repeat' first
     | simp (disch := omega) only [go_sem, *]
     | (with_reducible refine ifW_dec (fun _ => ?_) (fun _ => ?_))
     | (with_reducible refine ifW_not (fun _ => ?_) (fun _ => ?_))
     | (with_reducible refine ifW_nb (fun _ => ?_) (fun _ => ?_))
     | (with_reducible refine ifW_b (fun _ => ?_) (fun _ => ?_))
    all_goals exact fin_valc (by simp (disch := omega) only [go_sem]) (by simp (disch := omega) only [go_sem]) ⟨by simp_all [tupA, flB] <;> omega, rfl, rfl⟩
   ·simp (disch := omega) only [go_sem, h3]
    refine ifW_dec (fun h1 => ?_) (fun h1 => ?_)
    ·subst h1
     simp (disch := omega) only [go_sem]
     repeat' first
      | simp (disch := omega) only [go_sem, *]
      | (with_reducible refine ifW_dec (fun _ => ?_) (fun _ => ?_))
      | (with_reducible refine ifW_not (fun _ => ?_) (fun _ => ?_))
      | (with_reducible refine ifW_nb (fun _ => ?_) (fun _ => ?_))
      | (with_reducible refine ifW_b (fun _ => ?_) (fun _ => ?_))
     all_goals refine fin_valc (by simp (disch := omega) only [go_sem]) (by simp (disch := omega) only [go_sem]) ⟨?_, rfl, rfl⟩
     all_goals simp only [tupA, flB, if_true]
     all_goals congr 2
     all_goals rw [Bool.eq_iff_iff]
     all_goals simp only [Bool.and_eq_true, Bool.or_eq_true, decide_eq_true_eq, Bool.false_eq_true, Bool.true_eq_false, false_iff, true_iff, not_and, not_or]
     all_goals omega
    ·simp (disch := omega) only [go_sem, h1]
     refine fin_valc (by simp (disch := omega) only [go_sem]) (by simp (disch := omega) only [go_sem]) ⟨?_, rfl, rfl⟩
     simp [tupA, flB, h0, h1, h2, h3]
def l5dM (k m : Int) : Nat := if k = 1 then oM m.toNat else 0
def l5dE (k m e : Int) : Int := if k = 1 then oE m.toNat e else 0
def l5dS (k : Int) (s : Bool) (m : Int) : Bool := if k = 1 then oS (s && decide (m.toNat ≠ 0)) m.toNat else false
end Go.Ab
namespace Go.Ab
open Go Go.Proofs
set_option linter.unusedVariables false
set_option linter.unusedSimpArgs false
def someF : AV → List Ob → List Ob → Prop := fun r hs bs => hs = [] ∧ bs = [] ∧ ∃ x : FlV, r = .ag x.cs
theorem con_FlNextE (k : Int) (s : Bool) (m e : Int) : Con Tryz.prog 198 true [.ag [.v (.int .i64 (k)), .v (.bool (s)), .v (.int .i64 (m)), .v (.int .i64 (e))]] [] someF := by
 have e3 : .ag [.v (.int .i64 (3)), .v (.bool (false)), .v (.int .i64 (0)), .v (.int .i64 (0))] = AV.ag (FlV.cs ⟨3, false, 0, 0⟩) := rfl
 refine Con.of_aw Tryz.func198 rfl Tryz.ntmps198 (by simp) (by simp) (by simp) (W.sound ?_)
 show @W Tryz.prog 78 ⟨_⟩ ⟨fun x σ => @retW _ _ _ ⟨_⟩ _ ⟨_⟩ x σ⟩ _ _
 simp (disch := omega) only [go_sem]
 refine call_cI (con_flokS k s m e) ?_
 simp (disch := omega) only [go_sem]
 refine ifW_nb (fun h => ?_) (fun h => ?_)
 ·simp (disch := omega) only [go_sem, h]
  refine call_cI (con_l5nan) ?_
  simp (disch := omega) only [go_sem]
  exact fin_valc (by simp (disch := omega) only [go_sem]) (by simp (disch := omega) only [go_sem]) ⟨rfl, rfl, ⟨_, _, _, _⟩, rfl⟩
 ·simp (disch := omega) only [go_sem, h]
  by_cases c1 : k = 3
  ·subst c1
   simp (disch := omega) only [go_sem]
   exact fin_valc (by simp (disch := omega) only [go_sem]) (by simp (disch := omega) only [go_sem]) ⟨rfl, rfl, ⟨_, _, _, _⟩, rfl⟩
  ·by_cases c2 : k = 2
   ·subst c2
    cases s
    ·simp (disch := omega) only [go_sem]
     exact fin_valc (by simp (disch := omega) only [go_sem]) (by simp (disch := omega) only [go_sem]) ⟨rfl, rfl, ⟨_, _, _, _⟩, rfl⟩
    ·simp (disch := omega) only [go_sem]
     refine call_cI (con_l5most true) ?_
     simp (disch := omega) only [go_sem]
     exact fin_valc (by simp (disch := omega) only [go_sem]) (by simp (disch := omega) only [go_sem]) ⟨rfl, rfl, ⟨_, _, _, _⟩, rfl⟩
   ·by_cases c3 : k = 0
    ·subst c3
     simp (disch := omega) only [go_sem]
     exact fin_valc (by simp (disch := omega) only [go_sem]) (by simp (disch := omega) only [go_sem]) ⟨rfl, rfl, ⟨_, _, _, _⟩, rfl⟩
    ·simp (disch := omega) only [go_sem, c1, c2, c3]
     cases s
     ·simp (disch := omega) only [go_sem]
      repeat' first
       | simp (disch := omega) only [go_sem, *]
       | (with_reducible refine ifW_dec (fun _ => ?_) (fun _ => ?_))
       | (with_reducible refine ifW_not (fun _ => ?_) (fun _ => ?_))
       | (with_reducible refine ifW_nb (fun _ => ?_) (fun _ => ?_))
       | (with_reducible refine ifW_b (fun _ => ?_) (fun _ => ?_))
      all_goals exact fin_valc (by simp (disch := omega) only [go_sem]) (by simp (disch := omega) only [go_sem]) ⟨rfl, rfl, ⟨_, _, _, _⟩, rfl⟩
     ·simp (disch := omega) only [go_sem]
      repeat' first
       | simp (disch := omega) only [go_sem, *]
       | (with_reducible refine ifW_dec (fun _ => ?_) (fun _ => ?_))
       | (with_reducible refine ifW_not (fun _ => ?_) (fun _ => ?_))
       | (with_reducible refine ifW_nb (fun _ => ?_) (fun _ => ?_))
       | (with_reducible refine ifW_b (fun _ => ?_) (fun _ => ?_))
      all_goals exact fin_valc (by simp (disch := omega) only [go_sem]) (by simp (disch := omega) only [go_sem]) ⟨rfl, rfl, ⟨_, _, _, _⟩, rfl⟩
section
variable (l : List UInt8) (hl : l.length ≤ 9223372036854775807) (i h : Int) (hi : 0 ≤ i ∧ i ≤ l.length)
include hl hi
theorem con_l4drawMode : Con Tryz.prog 62 false [.pt 10000000 0] [.own 0 [.sl l.length (bytesA l), .v (.int .i64 i), .v (.int .i64 h)]] (curR l fun r => ∃ k : Int, r = .v (.int .i64 k)) := by
 refine Con.of_aw Tryz.func62 rfl Tryz.ntmps62 (by simp) (by simp) (by simp) (W.sound ?_)
 show @W Tryz.prog 10 ⟨_⟩ ⟨fun x σ => @retW _ _ _ ⟨_⟩ _ ⟨_⟩ x σ⟩ _ _
 simp (disch := omega) only [go_sem]
 refine call_lent false [10000000] (con_l1Once l hl i h hi 15 (by omega)) (by simp (disch := omega) only [go_sem]) (by simp (disch := omega) only [go_sem]) rfl (lend_cons (z := 0) (cs := [.sl l.length (bytesA l), .v (.int .i64 (i)), .v (.int .i64 (h))]) (by simp (disch := omega) only [go_sem]) (by simp (disch := omega) only [go_sem])) (by intro n hn; exact ⟨_, List.mem_cons_self .., by rw [List.mem_singleton.1 hn]; rfl⟩) ?_
 rintro r hs bs ⟨rfl, ⟨b, rfl⟩, i1, h1, hi1, rfl⟩ -
 refine ⟨by simp [freeN], ?_⟩
 simp (disch := omega) only [go_sem]
 cases b
 ·simp (disch := omega) only [go_sem]
  refine call_lent false [10000000] (con_l1Below l hl i1 h1 hi1 5 (by omega)) (by simp (disch := omega) only [go_sem]) (by simp (disch := omega) only [go_sem]) rfl (lend_cons (z := 0) (cs := [.sl l.length (bytesA l), .v (.int .i64 (i1)), .v (.int .i64 (h1))]) (by simp (disch := omega) only [go_sem]) (by simp (disch := omega) only [go_sem])) (by intro n hn; exact ⟨_, List.mem_cons_self .., by rw [List.mem_singleton.1 hn]; rfl⟩) ?_
  rintro r hs bs ⟨rfl, ⟨k1, hk1, rfl⟩, i2, h2, hi2, rfl⟩ -
  refine ⟨by simp [freeN], ?_⟩
  simp (disch := omega) only [go_sem]
  refine fin_intro [] [] [.own 0 [.sl l.length (bytesA l), .v (.int .i64 (i2)), .v (.int .i64 (h2))]] [.v (.int .i64 k1)] rfl (by simp (disch := omega) only [go_sem]) (by simp (disch := omega) only [go_sem]) (by simp) (by simp) ⟨rfl, ⟨_, rfl⟩, _, _, by omega, rfl⟩
 ·simp (disch := omega) only [go_sem]
  have hL2 : [AV.v (Value.int IntKind.i64 (-1)), AV.v (Value.int IntKind.i64 (5))] = ints ([-1, 5] : List Int) := rfl
  have cc2 := con_l1PickInt l hl i1 h1 hi1 [-1, 5] (by simp) (by simp)
  generalize hG2 : ([-1, 5] : List Int) = xs2 at hL2 cc2
  have hN2 : xs2.length = 2 := by rw [← hG2]; rfl
  rw [hL2]
  rw [hN2] at cc2
  refine call_lent false [10000000, 80000000] cc2 (by simp (disch := omega) only [go_sem]) (by simp (disch := omega) only [go_sem]) rfl (lend_two (z := 0) (cs := [.sl l.length (bytesA l), .v (.int .i64 (i1)), .v (.int .i64 (h1))]) (z' := 1) (cs' := ints xs2) (by simp (disch := omega) only [go_sem]) (by simp (disch := omega) only [go_sem]) (by simp (disch := omega) only [go_sem]) (by simp (disch := omega) only [go_sem])) (by intro n hn; simp only [List.mem_cons, List.not_mem_nil, or_false] at hn; rcases hn with rfl | rfl <;> simp [AV.top]) ?_
  rintro r hs bs ⟨rfl, ⟨k1, hk1, rfl⟩, i2, h2, hi2, rfl⟩ -
  clear cc2 hL2 hk1 hG2 hN2
  refine ⟨by simp [freeN], ?_⟩
  simp (disch := omega) only [go_sem]
  refine fin_intro [] [] [.own 0 [.sl l.length (bytesA l), .v (.int .i64 (i2)), .v (.int .i64 (h2))]] [.v (.int .i64 k1)] rfl (by simp (disch := omega) only [go_sem]) (by simp (disch := omega) only [go_sem]) (by simp) (by simp) ⟨rfl, ⟨_, rfl⟩, _, _, by omega, rfl⟩
end
end Go.Ab
