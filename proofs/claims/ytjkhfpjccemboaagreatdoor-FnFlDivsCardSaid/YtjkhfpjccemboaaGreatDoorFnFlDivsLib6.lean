/- What the proof of this claim stands on: the walks of the functions and the plain laws, part 6. -/
import Derived.Test.YtjkhfpjccemboaaGreatDoorFnFlDivsLib5
namespace Go.Ab
open Go
set_option linter.unusedVariables false
section
variable {σ : St}
theorem Le.ghostC (m o nm z : Nat) {zo : Nat} {cs : List AV} (hm : σ.hp m = .own zo cs) (ho : cs[o]? = some (.v (.slice none 0 0))) (hf : σ.hp nm = .free) :
  Le σ ⟨σ.env, upd (upd σ.hp nm (.own z [])) m (.own zo (cs.set o (.rf nm 0 0)))⟩ := by
 intro L w0 R0 N a w hi
 obtain ⟨R, ι, hR, h⟩ := hi.inv
 have hg := h.ghost (z := z) hf
 have hne : m ≠ nm := fun e => by rw [e, hf] at hm; cases hm
 have hm' : (⟨σ.env, upd σ.hp nm (.own z [])⟩ : St).hp m = .own zo cs := by show upd σ.hp nm (.own z []) m = _; rw [upd_ne hne]; exact hm
 obtain ⟨hol, hoe⟩ := List.getElem?_eq_some_iff.1 ho
 have key : Inv L w0 R (upd ι nm none) w a.tmps ⟨σ.env, upd (upd σ.hp nm (.own z [])) m (.own zo (cs.set o (.rf nm 0 0)))⟩ := by
  cases hB : upd ι nm none m with
  | none =>
   have := hg.hp.ok m
   rw [hm', hB] at this
   have e : cs = [] := this
   rw [e] at hol; simp at hol
  | some B =>
   obtain ⟨c, T, lo, hi', h1, h2, h3, h4, h5, h6⟩ := cell_own hg hm' hB
   refine hg.turn hm' hB rfl rfl rfl rfl (fun _ _ => rfl) ⟨c, T, lo, hi', h1, h2, h3, h4, by rw [List.length_set]; exact h5, fun i hi2 => ?_⟩ (AllL.of_get fun i hi2 => ?_)
   ·rw [List.length_set] at hi2
    rw [List.getElem_set]
    by_cases e : o = i
    ·subst e
     rw [if_pos rfl]
     have := h6 o hi2
     rw [hoe] at this
     rw [this.v_inv]
     exact .rf nm 0 0 0 none ⟨Nat.le_refl _, by rw [upd_same]⟩
    ·rw [if_neg e]; exact h6 i hi2
   ·rw [List.length_set] at hi2
    rw [List.getElem_set]
    split
    ·show upd σ.hp nm (.own z []) nm ≠ .free
     rw [upd_same]; simp
    ·exact (hg.hp.men m zo cs hm').get i hi2
 exact ⟨hi.df, hi.sz, R, _, hR, key⟩
end
structure ExV where
 s : Bool
 m : Nat
 e : Int
deriving DecidableEq
def ExV.cs (x : ExV) : List AV := [.v (.bool x.s), .sl (lim x.m).length (ints (lim x.m)), .v (.int .i64 x.e)]
theorem ex_cs3 (x : ExV) : x.cs.length = 3 := rfl
theorem ex_ren {ρ : Nat → Nat} (x : ExV) : renL ρ x.cs = x.cs := rfl
theorem ex_snap {hp : Nat → Ob} {k : Nat} (x : ExV) : x.cs.map (snap hp (k + 1)) = x.cs := rfl
theorem ex_all {p : Nat → Prop} (x : ExV) : AllL p x.cs := by simp [ExV.cs, AllL, AV.All]
def ex0 : ExV := ⟨false, 0, 0⟩
theorem exs_len {l : List ExV} : (rowA ExV.cs l).length = l.length * 3 := row_len ex_cs3
theorem exs_ren {ρ : Nat → Nat} {l : List ExV} : renL ρ (rowA ExV.cs l) = rowA ExV.cs l := row_ren ex_ren
theorem exs_snap {hp : Nat → Ob} {k : Nat} {l : List ExV} : (rowA ExV.cs l).map (snap hp (k + 1)) = rowA ExV.cs l := row_snap ex_snap
theorem exs_all {p : Nat → Prop} {l : List ExV} : AllL p (rowA ExV.cs l) = True := eq_true (row_all ex_all)
theorem exs_all' {p : Nat → Prop} {x : ExV} : AllL p x.cs = True := eq_true (ex_all x)
theorem exs_snoc {l : List ExV} {x : ExV} : rowA ExV.cs l ++ [.v (.bool x.s), .sl (lim x.m).length (ints (lim x.m)), .v (.int .i64 x.e)] = rowA ExV.cs (l ++ [x]) := by
 rw [← row_app, row_cons, row_nil, List.append_nil]; rfl
theorem exs_cut {l : List ExV} : cut (rowA ExV.cs l) 0 (l.length * 3) = rowA ExV.cs l := by
 unfold cut; rw [List.drop_zero, List.take_of_length_le (by rw [exs_len]; exact Nat.le_refl _)]
structure SpV where
 lo : ExV
 hi : ExV
deriving DecidableEq
def SpV.cs (x : SpV) : List AV := x.lo.cs ++ x.hi.cs
theorem sp_cs6 (x : SpV) : x.cs.length = 6 := rfl
theorem sp_ren {ρ : Nat → Nat} (x : SpV) : renL ρ x.cs = x.cs := rfl
theorem sp_snap {hp : Nat → Ob} {k : Nat} (x : SpV) : x.cs.map (snap hp (k + 1)) = x.cs := rfl
theorem sp_all {p : Nat → Prop} (x : SpV) : AllL p x.cs := by simp [SpV.cs, ExV.cs, AllL, AV.All]
def sp0 : SpV := ⟨ex0, ex0⟩
theorem sps_len {l : List SpV} : (rowA SpV.cs l).length = l.length * 6 := row_len sp_cs6
theorem sps_ren {ρ : Nat → Nat} {l : List SpV} : renL ρ (rowA SpV.cs l) = rowA SpV.cs l := row_ren sp_ren
theorem sps_snap {hp : Nat → Ob} {k : Nat} {l : List SpV} : (rowA SpV.cs l).map (snap hp (k + 1)) = rowA SpV.cs l := row_snap sp_snap
theorem sps_all {p : Nat → Prop} {l : List SpV} : AllL p (rowA SpV.cs l) = True := eq_true (row_all sp_all)
theorem sps_all' {p : Nat → Prop} {x : SpV} : AllL p x.cs = True := eq_true (sp_all x)
theorem sps_snoc {l : List SpV} {x : SpV} : rowA SpV.cs l ++ [.v (.bool x.lo.s), .sl (lim x.lo.m).length (ints (lim x.lo.m)), .v (.int .i64 x.lo.e), .v (.bool x.hi.s), .sl (lim x.hi.m).length (ints (lim x.hi.m)), .v (.int .i64 x.hi.e)] = rowA SpV.cs (l ++ [x]) := by
 rw [← row_app, row_cons, row_nil, List.append_nil]; rfl
theorem sps_cut {l : List SpV} : cut (rowA SpV.cs l) 0 (l.length * 6) = rowA SpV.cs l := by
 unfold cut; rw [List.drop_zero, List.take_of_length_le (by rw [sps_len]; exact Nat.le_refl _)]
attribute [go_sem] exs_len exs_ren exs_snap exs_all exs_all' ex_ren ex_snap sps_len sps_ren sps_snap sps_all sps_all' sp_ren sp_snap
end Go.Ab
namespace Go.Ab
open Go Go.Proofs
set_option linter.unusedVariables false
set_option linter.unusedSimpArgs false
def ExV.plus (x y : ExV) : ExV := ⟨adS x.s x.m x.e y.s y.m y.e, adM x.s x.m x.e y.s y.m y.e, alE x.m x.e y.m y.e⟩
def ExV.neg (x : ExV) : ExV := ⟨!x.s && decide (x.m ≠ 0), x.m, x.e⟩
def ExV.times (x y : ExV) : ExV := ⟨(x.s != y.s) && decide (x.m * y.m ≠ 0), x.m * y.m, x.e + y.e⟩
def ExV.abs (x : ExV) : ExV := ⟨false, x.m, x.e⟩
def ExV.shift (x : ExV) (k : Int) : ExV := ⟨x.s, x.m, x.e + k⟩
def ExV.over (x y : ExV) (low mode : Int) : ExV := ⟨(x.s != y.s) && decide (ovQ (x.s != y.s) x.m x.e y.m y.e low mode ≠ 0), ovQ (x.s != y.s) x.m x.e y.m y.e low mode, low⟩
def ExV.rnd (x : ExV) (low mode : Int) : ExV := ⟨roS x.s x.m x.e low mode, roM x.s x.m x.e low mode, roE x.m x.e low⟩
def ExV.cmp (x y : ExV) : Int := cmpI (sv x.s (alA x.m x.e (alE x.m x.e y.m y.e))) (sv y.s (alA y.m y.e (alE x.m x.e y.m y.e)))
def ExV.top (x : ExV) : Int := if x.m = 0 then 0 else (bl x.m : Int) + x.e
def ExV.bd (lo hi : Int) (x : ExV) : Prop := (x.m = 0 → x.s = false) ∧ lo ≤ x.e ∧ (bl x.m : Int) + x.e ≤ hi
theorem ExV.bd.mono {lo hi lo' hi' : Int} {x : ExV} (h : x.bd lo hi) (h1 : lo' ≤ lo) (h2 : hi ≤ hi') : x.bd lo' hi' := by
 obtain ⟨a, b, c⟩ := h; exact ⟨a, by omega, by omega⟩
theorem alA_top {m : Nat} {e E hi : Int} (h : m ≠ 0 → E ≤ e) (h1 : (bl m : Int) + e ≤ hi) (h2 : E ≤ hi) : (bl (alA m e E) : Int) + E ≤ hi := by
 by_cases h0 : m = 0
 ·rw [alA_zero.2 h0, bl_zero]; omega
 ·have := h h0
  have := bl_up m (e - E).toNat
  unfold alA; omega
theorem alE_le1 {m1 : Nat} {e1 : Int} {m2 : Nat} {e2 : Int} : m1 ≠ 0 → alE m1 e1 m2 e2 ≤ e1 := fun h => by
 unfold alE
 repeat' split
 all_goals omega
theorem alE_le2 {m1 : Nat} {e1 : Int} {m2 : Nat} {e2 : Int} : m2 ≠ 0 → alE m1 e1 m2 e2 ≤ e2 := fun h => by
 unfold alE
 repeat' split
 all_goals omega
theorem ExV.plus_bd {lo hi : Int} {x y : ExV} (hx : x.bd lo hi) (hy : y.bd lo hi) : (x.plus y).bd lo (hi + 1) := by
 obtain ⟨a1, a2, a3⟩ := hx
 obtain ⟨b1, b2, b3⟩ := hy
 have hE : lo ≤ alE x.m x.e y.m y.e := alE_ge a2 b2
 have hE2 : alE x.m x.e y.m y.e ≤ hi := alE_le (by omega) (by omega)
 refine ⟨fun h => ?_, hE, ?_⟩
 ·show adS x.s x.m x.e y.s y.m y.e = false
  have h : suM _ _ _ _ = 0 := h
  unfold adS suS
  unfold suM at h
  rw [Int.natAbs_eq_zero.1 h]; rfl
 ·have t1 := alA_top (hi := hi) (@alE_le1 x.m x.e y.m y.e) a3 hE2
  have t2 := alA_top (hi := hi) (@alE_le2 x.m x.e y.m y.e) b3 hE2
  show (bl (adM x.s x.m x.e y.s y.m y.e) : Int) + alE x.m x.e y.m y.e ≤ hi + 1
  unfold adM
  generalize alA x.m x.e (alE x.m x.e y.m y.e) = A at *
  generalize alA y.m y.e (alE x.m x.e y.m y.e) = B at *
  have := bl_suM (s1 := x.s) (s2 := y.s) (B := (hi - alE x.m x.e y.m y.e).toNat) (show bl A ≤ _ by omega) (show bl B ≤ _ by omega)
  omega
theorem ExV.neg_bd {lo hi : Int} {x : ExV} (hx : x.bd lo hi) : x.neg.bd lo hi := by
 obtain ⟨a1, a2, a3⟩ := hx
 refine ⟨fun h => ?_, a2, a3⟩
 have h : x.m = 0 := h
 show (!x.s && decide (x.m ≠ 0)) = false
 rw [decide_eq_false (show ¬ x.m ≠ 0 by omega), Bool.and_false]
theorem ExV.times_bd {l1 h1 l2 h2 : Int} {x y : ExV} (hx : x.bd l1 h1) (hy : y.bd l2 h2) : (x.times y).bd (l1 + l2) (h1 + h2) := by
 obtain ⟨a1, a2, a3⟩ := hx
 obtain ⟨b1, b2, b3⟩ := hy
 refine ⟨fun h => ?_, ?_, ?_⟩
 ·have h : x.m * y.m = 0 := h
  show ((x.s != y.s) && decide (x.m * y.m ≠ 0)) = false
  rw [decide_eq_false (show ¬ x.m * y.m ≠ 0 by omega), Bool.and_false]
 ·show l1 + l2 ≤ x.e + y.e
  omega
 ·have := bl_mulle x.m y.m
  show (bl (x.m * y.m) : Int) + (x.e + y.e) ≤ h1 + h2
  omega
theorem ExV.abs_bd {lo hi : Int} {x : ExV} (hx : x.bd lo hi) : x.abs.bd lo hi := ⟨fun _ => rfl, hx.2.1, hx.2.2⟩
theorem ExV.shift_bd {lo hi k : Int} {x : ExV} (hx : x.bd lo hi) : (x.shift k).bd (lo + k) (hi + k) := by
 obtain ⟨a1, a2, a3⟩ := hx
 exact ⟨a1, by show lo + k ≤ x.e + k; omega, by show (bl x.m : Int) + (x.e + k) ≤ hi + k; omega⟩
theorem ovQ_bl {s : Bool} {m1 : Nat} {e1 : Int} {m2 : Nat} {e2 low mode : Int} : bl (ovQ s m1 e1 m2 e2 low mode) ≤ bl m1 + (e1 - e2 - low).toNat + 1 := by
 have h1 := bl_mono (rq_le s (ovA m1 (e1 - e2 - low)) (ovA m2 (-(e1 - e2 - low))) mode)
 have h2 := bl_succ (ovA m1 (e1 - e2 - low) / ovA m2 (-(e1 - e2 - low)))
 have h3 := bl_divle (ovA m1 (e1 - e2 - low)) (ovA m2 (-(e1 - e2 - low)))
 have h4 := bl_up m1 (e1 - e2 - low).toNat
 unfold ovQ; unfold ovA at *; omega
theorem ExV.over_bd {l1 h1 l2 low mode hi : Int} {x y : ExV} (hx : x.bd l1 h1) (hy : l2 ≤ y.e) (h : h1 - l2 + 1 ≤ hi) (hb : h1 - l1 + 1 + low ≤ hi) : (x.over y low mode).bd low hi := by
 obtain ⟨a1, a2, a3⟩ := hx
 refine ⟨fun h => ?_, Int.le_refl _, ?_⟩
 ·have h : ovQ (x.s != y.s) x.m x.e y.m y.e low mode = 0 := h
  show ((x.s != y.s) && decide (ovQ (x.s != y.s) x.m x.e y.m y.e low mode ≠ 0)) = false
  rw [decide_eq_false (by rw [h]; simp), Bool.and_false]
 ·have := @ovQ_bl (x.s != y.s) x.m x.e y.m y.e low mode
  show (bl (ovQ (x.s != y.s) x.m x.e y.m y.e low mode) : Int) + low ≤ hi
  omega
theorem ExV.rnd_bd {lo hi low mode : Int} {x : ExV} (hx : x.bd lo hi) (hl : lo ≤ low) (hh : low ≤ hi) : (x.rnd low mode).bd lo (hi + 1) := by
 obtain ⟨a1, a2, a3⟩ := hx
 by_cases c : low ≤ x.e ∨ x.m = 0
 ·refine ⟨fun h => ?_, ?_, ?_⟩
  ·show roS _ _ _ _ _ = false
   have h : roM _ _ _ _ _ = 0 := h
   unfold roM at h; unfold roS; rw [if_pos c] at h ⊢; exact a1 h
  ·show lo ≤ roE _ _ _
   unfold roE; rw [if_pos c]; exact a2
  ·show (bl (roM _ _ _ _ _) : Int) + roE _ _ _ ≤ _
   unfold roM roE; rw [if_pos c, if_pos c]; omega
 ·refine ⟨fun h => ?_, ?_, ?_⟩
  ·show roS _ _ _ _ _ = false
   have h : roM _ _ _ _ _ = 0 := h
   unfold roM at h; unfold roS; rw [if_neg c] at h ⊢; rw [h]; simp
  ·show lo ≤ roE _ _ _
   unfold roE; rw [if_neg c]; exact hl
  ·show (bl (roM _ _ _ _ _) : Int) + roE _ _ _ ≤ _
   unfold roM roE; rw [if_neg c, if_neg c]
   have h1 := bl_mono (rq_le x.s x.m (2 ^ (low - x.e).toNat) mode)
   have h2 := bl_succ (x.m / 2 ^ (low - x.e).toNat)
   have h3 := bl_shr x.m (low - x.e).toNat
   omega
theorem con_plusV (x y : ExV) (hx : x.bd (-400000) 400000) (hy : y.bd (-400000) 400000) : Con Tryz.prog 162 false [.ag [.v (.bool (x.s)), .sl (lim (x.m)).length (ints (lim (x.m))), .v (.int .i64 (x.e))], .ag [.v (.bool (y.s)), .sl (lim (y.m)).length (ints (lim (y.m))), .v (.int .i64 (y.e))]] [] (isA (.ag [.v (.bool ((x.plus y).s)), .sl (lim ((x.plus y).m)).length (ints (lim ((x.plus y).m))), .v (.int .i64 ((x.plus y).e))])) := by
 obtain ⟨a1, a2, a3⟩ := hx
 obtain ⟨b1, b2, b3⟩ := hy
 exact con_plusX x.s x.m x.e y.s y.m y.e (by omega) (by omega) (by omega) (by omega)
theorem con_timesV (x y : ExV) (hx : x.bd (-400000) 400000) (hy : y.bd (-400000) 400000) : Con Tryz.prog 168 false [.ag [.v (.bool (x.s)), .sl (lim (x.m)).length (ints (lim (x.m))), .v (.int .i64 (x.e))], .ag [.v (.bool (y.s)), .sl (lim (y.m)).length (ints (lim (y.m))), .v (.int .i64 (y.e))]] [] (isA (.ag [.v (.bool ((x.times y).s)), .sl (lim ((x.times y).m)).length (ints (lim ((x.times y).m))), .v (.int .i64 ((x.times y).e))])) := by
 obtain ⟨a1, a2, a3⟩ := hx
 obtain ⟨b1, b2, b3⟩ := hy
 exact con_timesX x.s x.m x.e y.s y.m y.e (by omega) (by omega) (by omega) (by omega)
theorem con_overV (x y : ExV) (low mode : Int) (h0 : y.m ≠ 0) (hx : x.bd (-400000) 400000) (hy : y.bd (-400000) 400000) (hl : -400000 ≤ low ∧ low ≤ 400000) : Con Tryz.prog 188 false [.ag [.v (.bool (x.s)), .sl (lim (x.m)).length (ints (lim (x.m))), .v (.int .i64 (x.e))], .ag [.v (.bool (y.s)), .sl (lim (y.m)).length (ints (lim (y.m))), .v (.int .i64 (y.e))], .v (.int .i64 low), .v (.int .i64 mode)] [] (isA (.tu [.ag [.v (.bool ((x.over y low mode).s)), .sl (lim ((x.over y low mode).m)).length (ints (lim ((x.over y low mode).m))), .v (.int .i64 ((x.over y low mode).e))], .v (.bool (ovX x.m x.e y.m y.e low))])) := by
 obtain ⟨a1, a2, a3⟩ := hx
 obtain ⟨b1, b2, b3⟩ := hy
 exact con_over x.s x.m x.e y.s y.m y.e low mode h0 (by omega) (by omega) (by omega) (by omega) (by omega) (by omega)
theorem con_rndV (x : ExV) (low mode : Int) (hx : x.bd (-400000) 400000) (hl : -400000 ≤ low ∧ low ≤ 400000) : Con Tryz.prog 177 false [.ag [.v (.bool (x.s)), .sl (lim (x.m)).length (ints (lim (x.m))), .v (.int .i64 (x.e))], .v (.int .i64 low), .v (.int .i64 mode)] [] (isA (.tu [.ag [.v (.bool ((x.rnd low mode).s)), .sl (lim ((x.rnd low mode).m)).length (ints (lim ((x.rnd low mode).m))), .v (.int .i64 ((x.rnd low mode).e))], .v (.bool (roX x.m x.e low))])) := by
 obtain ⟨a1, a2, a3⟩ := hx
 exact con_rounded x.s x.m x.e low mode (by omega) (by omega) (by omega)
theorem con_cmpV (x y : ExV) (hx : x.bd (-400000) 400000) (hy : y.bd (-400000) 400000) : Con Tryz.prog 105 true [.ag [.v (.bool (x.s)), .sl (lim (x.m)).length (ints (lim (x.m))), .v (.int .i64 (x.e))], .ag [.v (.bool (y.s)), .sl (lim (y.m)).length (ints (lim (y.m))), .v (.int .i64 (y.e))]] [] (isA (.v (.int .i64 (x.cmp y)))) := by
 obtain ⟨a1, a2, a3⟩ := hx
 obtain ⟨b1, b2, b3⟩ := hy
 unfold ExV.cmp
 rw [cmp_dv (K := 400000) (by omega) (by omega)]
 exact con_compareX 400000 x.s x.m x.e y.s y.m y.e (by omega) (by omega) (by omega) (by omega) (by omega) (by omega) a1 b1
theorem con_negV (x : ExV) : Con Tryz.prog 232 false [.ag [.v (.bool (x.s)), .sl (lim (x.m)).length (ints (lim (x.m))), .v (.int .i64 (x.e))]] [] (isA (.ag [.v (.bool (x.neg.s)), .sl (lim (x.neg.m)).length (ints (lim (x.neg.m))), .v (.int .i64 (x.neg.e))])) := by
 refine Con.frzA ?_
 have hq : decide ((0 : Int) < ((lim x.m).length : Int)) = decide (x.m ≠ 0) := by
  rw [decide_eq_decide]
  exact ⟨fun h e => by rw [e, lim_zero] at h; simp at h, fun h => by have := lim_ne h; omega⟩
 unfold ExV.neg
 cases hs : x.s
 ·refine Con.of_w (rs := [.cell 2 90]) Tryz.func232 rfl Tryz.ntmps232 rfl ?_
  simp (disch := omega) only [go_sem]
  simp (disch := omega) only [go_sem, hq]
  exact fin_frz (hp := by simp (disch := omega) only [go_sem, Bool.not_false, Bool.true_and])
 ·refine Con.of_w (rs := [.cell 2 90]) Tryz.func232 rfl Tryz.ntmps232 rfl ?_
  simp (disch := omega) only [go_sem]
  exact fin_frz (hp := by simp (disch := omega) only [go_sem, Bool.not_true, Bool.false_and])
theorem con_absV (x : ExV) : Con Tryz.prog 153 false [.ag [.v (.bool (x.s)), .sl (lim (x.m)).length (ints (lim (x.m))), .v (.int .i64 (x.e))]] [] (isA (.ag [.v (.bool (x.abs.s)), .sl (lim (x.abs.m)).length (ints (lim (x.abs.m))), .v (.int .i64 (x.abs.e))])) := by
 refine Con.frzA ?_
 refine Con.of_w (rs := [.cell 2 90]) Tryz.func153 rfl Tryz.ntmps153 rfl ?_
 simp (disch := omega) only [go_sem]
 exact fin_frz (hp := by simp (disch := omega) only [go_sem, ExV.abs])
theorem con_shiftV (x : ExV) (k : Int) (hx : -2 ^ 40 ≤ x.e ∧ x.e ≤ 2 ^ 40) (hk : -2 ^ 40 ≤ k ∧ k ≤ 2 ^ 40) : Con Tryz.prog 224 false [.ag [.v (.bool (x.s)), .sl (lim (x.m)).length (ints (lim (x.m))), .v (.int .i64 (x.e))], .v (.int .i64 k)] [] (isA (.ag [.v (.bool ((x.shift k).s)), .sl (lim ((x.shift k).m)).length (ints (lim ((x.shift k).m))), .v (.int .i64 ((x.shift k).e))])) := by
 refine Con.frzA ?_
 refine Con.of_w (rs := [.cell 4 90]) Tryz.func224 rfl Tryz.ntmps224 rfl ?_
 simp (disch := omega) only [go_sem]
 exact fin_frz (hp := by simp (disch := omega) only [go_sem, ExV.shift])
theorem con_minusV (x y : ExV) (hx : x.bd (-400000) 400000) (hy : y.bd (-400000) 400000) : Con Tryz.prog 152 false [.ag [.v (.bool (x.s)), .sl (lim (x.m)).length (ints (lim (x.m))), .v (.int .i64 (x.e))], .ag [.v (.bool (y.s)), .sl (lim (y.m)).length (ints (lim (y.m))), .v (.int .i64 (y.e))]] [] (isA (.ag [.v (.bool ((x.plus y.neg).s)), .sl (lim ((x.plus y.neg).m)).length (ints (lim ((x.plus y.neg).m))), .v (.int .i64 ((x.plus y.neg).e))])) := by
 refine Con.frzA ?_
 refine Con.of_w (rs := [.cell 4 90]) Tryz.func152 rfl Tryz.ntmps152 rfl ?_
 simp (disch := omega) only [go_sem]
 refine draw_of rfl [⟨0, [], []⟩, ⟨1, [0], []⟩, ⟨2, [0], []⟩, ⟨3, [], []⟩, ⟨4, [], []⟩] (by kernel_rfl) ?_
 simp (disch := omega) only [go_sem]
 refine call_oI (con_negV y) ?_
 simp (disch := omega) only [go_sem]
 refine call_oI (con_plusV x y.neg hx (ExV.neg_bd hy)) ?_
 simp (disch := omega) only [go_sem]
 exact fin_frz
end Go.Ab
namespace Go.Ab
open Go Go.Proofs
set_option linter.unusedVariables false
set_option linter.unusedSimpArgs false
def gl (n : Nat) (g : Nat → Nat → ExV) (k : Nat) : List ExV := (List.range k).map fun t => g (t / n) (t % n)
theorem gl_len {n : Nat} {g : Nat → Nat → ExV} {k : Nat} : (gl n g k).length = k := by simp [gl]
theorem gl_succ {n : Nat} {g : Nat → Nat → ExV} {k : Nat} : gl n g (k + 1) = gl n g k ++ [g (k / n) (k % n)] := by simp [gl, List.range_succ]
theorem gl_nil {n : Nat} {g : Nat → Nat → ExV} : rowA ExV.cs (gl n g 0) = [] := by simp [gl, rowA]
theorem exs_cutK {l : List ExV} {k : Nat} (h : l.length = k) : cut (rowA ExV.cs l) 0 (k * 3) = rowA ExV.cs l := by subst h; exact exs_cut
theorem exs_get {l : List ExV} {i : Nat} (hi : i < l.length) : cut (rowA ExV.cs l) (i * 3) 3 = [.v (.bool (l.getD i ex0).s), .sl (lim (l.getD i ex0).m).length (ints (lim (l.getD i ex0).m)), .v (.int .i64 (l.getD i ex0).e)] := row_get (l := l) ex_cs3 hi ex0
theorem con_at (n : Nat) (l : List ExV) (i j : Nat) (hl : i * n + j < l.length) (hb : l.length ≤ 1000) (hn : n ≤ 1000) (hi : i ≤ 1000) (hj : j ≤ 1000) :
  Con Tryz.prog 163 false [.ag [.v (.int .i64 n), .sl l.length (rowA ExV.cs l)], .v (.int .i64 i), .v (.int .i64 j)] [] (isA (.ag [.v (.bool ((l.getD (i * n + j) ex0).s)), .sl (lim ((l.getD (i * n + j) ex0).m)).length (ints (lim ((l.getD (i * n + j) ex0).m))), .v (.int .i64 ((l.getD (i * n + j) ex0).e))])) := by
 refine Con.frzA ?_
 have hin : i * n ≤ 1000 := by omega
 have hp : (i : Int) * (n : Int) ≤ 1000 ∧ 0 ≤ (i : Int) * (n : Int) := by rw [← Int.natCast_mul]; omega
 have e1 : (i : Int) * (n : Int) + (j : Int) = ((i * n + j : Nat) : Int) := by rw [Int.natCast_add, Int.natCast_mul]
 have hcut := exs_get hl
 generalize i * n + j = k at *
 refine Con.of_w (rs := [.cell 6 90]) Tryz.func163 rfl Tryz.ntmps163 rfl ?_
 simp (disch := omega) only [go_sem]
 simp (disch := omega) only [go_sem, e1, hcut]
 refine ⟨by omega, by omega, ?_⟩
 exact fin_frz
set_option maxRecDepth 100000 in
theorem con_gridOf (n : Nat) (f : Nat) (caps : List AV) (g : Nat → Nat → ExV) (hn0 : n ≤ 4) (hf : ∀ i j : Nat, i < n → j < n → Con Tryz.prog f false (.v (.int .i64 i) :: .v (.int .i64 j) :: caps) [] (isA (.ag [.v (.bool ((g i j).s)), .sl (lim ((g i j).m)).length (ints (lim ((g i j).m))), .v (.int .i64 ((g i j).e))]))) (hg : fnOk Tryz.prog f = True)
  (hc : ∀ h : Nat → Ob, caps.map (snap h 6) = caps) (hc5 : ∀ h : Nat → Ob, caps.map (snap h 5) = caps) (hn : ∀ ks, AllL (memK ks) caps) (hr : ∀ ρ, renL ρ caps = caps) :
  Con Tryz.prog 164 false [.v (.int .i64 n), .fn f caps] [] (isA (.ag [.v (.int .i64 n), .sl (n * n) (rowA ExV.cs (gl n g (n * n)))])) := by
 refine Con.frzA ?_
 refine Con.of_aw Tryz.func164 rfl Tryz.ntmps164 (by simp) (by simp) (by simp) (W.sound ?_)
 show @W Tryz.prog 30 ⟨_⟩ ⟨fun x σ => @retW _ _ _ ⟨_⟩ _ ⟨_⟩ x σ⟩ _ _
 simp (disch := omega) only [go_sem, hg]
 refine loop_intro (fun i : Nat => [(0, .v (.int .i64 n)), (1, .fn f caps), (4, .pt 2 0), (5, .pt 0 0), (10, .v (.int .i64 n)), (11, .v (.int .i64 i))])
  (fun i => [(0, .own 0 [.v (.int .i64 n), .rf 1 0 (i * n)]), (1, .own 3 (rowA ExV.cs (gl n g (i * n)))), (2, .own 0 [.v (.int .i64 0), .v (.slice none 0 0)])]) (fun i => i ≤ n) (fun i => n - i) 0 (by omega)
  ((Le.ghostC 70000000 1 1 3 (zo := 0) (cs := [.v (.int .i64 n), .v (.slice none 0 0)]) (by simp (disch := omega) only [go_sem]) rfl (by simp (disch := omega) only [go_sem])).trans (Le.lst [(0, 70000000), (2, 60000000)] _ _ rfl (by simp (disch := omega) only [go_sem, hr, hn]) (by simp (disch := omega) only [go_sem, gl_nil, Nat.zero_mul, List.set_cons_succ, List.set_cons_zero]))) ?_
 intro i hi
 simp (disch := omega) only [go_sem]
 refine ifW_dec (fun h1 => ?_) (fun h1 => ?_)
 ·simp (disch := omega) only [go_sem, h1]
  refine loop_intro (fun j : Nat => [(0, .v (.int .i64 n)), (1, .fn f caps), (4, .pt 2 0), (5, .pt 0 0), (6, .v (.int .i64 i)), (10, .v (.int .i64 n)), (11, .v (.int .i64 i)), (14, .v (.int .i64 n)), (15, .v (.int .i64 j))])
   (fun j => [(0, .own 0 [.v (.int .i64 n), .rf 1 0 (i * n + j)]), (1, .own 3 (rowA ExV.cs (gl n g (i * n + j)))), (2, .own 0 [.v (.int .i64 0), .v (.slice none 0 0)])]) (fun j => j ≤ n) (fun j => n - j) 0 (by omega)
   (Le.lst [] _ _ rfl (by simp (disch := omega) only [go_sem, hr, hn, Nat.add_zero]) (by simp (disch := omega) only [go_sem, Nat.add_zero])) ?_
  intro j hj
  simp (disch := omega) only [go_sem]
  refine ifW_dec (fun h2 => ?_) (fun h2 => ?_)
  ·simp (disch := omega) only [go_sem, h2]
   have hd : (i * n + j) / n = i := by rw [Nat.mul_comm, Nat.mul_add_div (by omega), Nat.div_eq_of_lt (by omega), Nat.add_zero]
   have hm : (i * n + j) % n = j := by rw [Nat.mul_comm, Nat.mul_add_mod, Nat.mod_eq_of_lt (by omega)]
   have hs := @gl_succ n g (i * n + j)
   rw [hd, hm] at hs
   have hcut := exs_cutK (@gl_len n g (i * n + j))
   have hin : i * n ≤ 16 := Nat.mul_le_mul (show i ≤ 4 by omega) hn0
   have hk : i * n + (j + 1) = i * n + j + 1 := rfl
   refine draw_of rfl [⟨0, [], []⟩, ⟨1, [], []⟩, ⟨2, [1], []⟩, ⟨3, [1], []⟩, ⟨4, [1], []⟩, ⟨5, [1], []⟩, ⟨6, [1], []⟩, ⟨7, [], []⟩, ⟨8, [], []⟩, ⟨9, [], []⟩] (by kernel_rfl) ?_
   simp (disch := omega) only [go_sem, hg]
   refine call_open (hf i j (by omega) (by omega)) (by simp (disch := omega) only [go_sem, hc, hc5]) ?_
   rintro r hs2 ⟨rfl, rfl, _⟩
   refine ⟨by simp [freeN], ?_⟩
   simp (disch := omega) only [go_sem, hcut, exs_snoc]
   refine ⟨⟨by rw [gl_len]; exact Nat.le_refl _, by omega⟩, next_intro (j + 1) [(1, 270000000)] (by show j + 1 ≤ _; omega) (by show n - (j + 1) < n - j; omega) rfl (by simp (disch := omega) only [go_sem, hr, hn]; try omega) (by simp (disch := omega) only [go_sem, hk, hs])⟩
  ·simp (disch := omega) only [go_sem, h2]
   obtain rfl : n = j := by omega
   exact next_intro (i + 1) [] (by show i + 1 ≤ _; omega) (by show n - (i + 1) < n - i; omega) rfl (by simp (disch := omega) only [go_sem, hr, hn, Nat.add_mul, Nat.one_mul]; try omega) (by simp (disch := omega) only [go_sem, Nat.add_mul, Nat.one_mul])
 ·simp (disch := omega) only [go_sem, h1]
  obtain rfl : n = i := by omega
  refine fin_intro [(0, 1)] [.own 3 (rowA ExV.cs (gl n g (n * n)))] [] [.ag [.v (.int .i64 n), .rf 0 0 (n * n)]] rfl (by simp (disch := omega) only [go_sem]) (by simp (disch := omega) only [go_sem]) (by simp) (by simp) ?_
  show snap _ 6 _ = _
  simp (disch := omega) only [go_sem, rhp_zero, exs_cutK gl_len]
end Go.Ab
namespace Go.Ab
open Go Go.Proofs
set_option linter.unusedVariables false
set_option linter.unusedSimpArgs false
def mostF (m x : ExV) : ExV := if 0 < x.cmp m then x else m
def leastF (m x : ExV) : ExV := if x.cmp m < 0 then x else m
def mostL (l : List ExV) : ExV := (l.drop 1).foldl mostF (l.getD 0 ex0)
def leastL (l : List ExV) : ExV := (l.drop 1).foldl leastF (l.getD 0 ex0)
def gbd (lo hi : Int) (l : List ExV) : Prop := ∀ x ∈ l, x.bd lo hi
theorem gbd_get {lo hi : Int} {l : List ExV} {i : Nat} (h : gbd lo hi l) (hi' : i < l.length) : (l.getD i ex0).bd lo hi := by
 refine h _ ?_
 rw [List.getD_eq_getElem?_getD, List.getElem?_eq_getElem hi']; exact List.getElem_mem _
theorem drop_take_snoc {l : List ExV} {i : Nat} (h1 : 1 ≤ i) (h : i < l.length) : (l.take (i + 1)).drop 1 = (l.take i).drop 1 ++ [l.getD i ex0] := by
 rw [List.take_add_one, List.getElem?_eq_getElem h, List.drop_append_of_le_length (by rw [List.length_take]; omega), List.getD_eq_getElem?_getD, List.getElem?_eq_getElem h]
 rfl
theorem fold_bd {lo hi : Int} {F : ExV → ExV → ExV} (hF : ∀ m x, F m x = m ∨ F m x = x) : ∀ (l : List ExV) (m : ExV), m.bd lo hi → gbd lo hi l → (l.foldl F m).bd lo hi
 | [], m, h, _ => h
 | x :: r, m, h, hl => by
  refine fold_bd hF r (F m x) ?_ (fun y hy => hl y (List.mem_cons_of_mem _ hy))
  rcases hF m x with e | e <;> rw [e]
  ·exact h
  ·exact hl x (List.mem_cons_self ..)
theorem mostF_or (m x : ExV) : mostF m x = m ∨ mostF m x = x := by unfold mostF; split <;> simp
theorem leastF_or (m x : ExV) : leastF m x = m ∨ leastF m x = x := by unfold leastF; split <;> simp
theorem mostL_bd {lo hi : Int} {l : List ExV} (h : gbd lo hi l) (h0 : 0 < l.length) : (mostL l).bd lo hi := fold_bd mostF_or _ _ (gbd_get h h0) (fun x hx => h x (List.mem_of_mem_drop hx))
theorem leastL_bd {lo hi : Int} {l : List ExV} (h : gbd lo hi l) (h0 : 0 < l.length) : (leastL l).bd lo hi := fold_bd leastF_or _ _ (gbd_get h h0) (fun x hx => h x (List.mem_of_mem_drop hx))
theorem con_maxFunc (l : List ExV) (h0 : 0 < l.length) (hl : l.length ≤ 1000) (hb : gbd (-400000) 400000 l) : Con Tryz.prog 176 false [.sl l.length (rowA ExV.cs l), .fn 105 []] [] (isA (.ag [.v (.bool (mostL l).s), .sl (lim (mostL l).m).length (ints (lim (mostL l).m)), .v (.int .i64 (mostL l).e)])) := by
 refine Con.frzA ?_
 have hc0 := exs_get (l := l) (i := 0) h0
 have q1 : decide ((l.length : Int) < 1) = false := decide_eq_false (by omega)
 refine Con.of_w (rs := [.cell 4 90]) Tryz.func176 rfl Tryz.ntmps176 rfl ?_
 simp (disch := omega) only [go_sem, q1, hc0]
 refine ⟨by omega, by omega, ?_⟩
 refine loop_intro (fun x : Nat × ExV => [(0, .sl l.length (rowA ExV.cs l)), (1, .fn 105 []), (4, .pt 1 0), (5, .pt 0 0), (6, .v (.int .i64 x.1))])
  (fun x => [(0, .own 0 [.v (.bool x.2.s), .sl (lim x.2.m).length (ints (lim x.2.m)), .v (.int .i64 x.2.e)]), (1, .own 0 [.v (.bool false), .v (.slice none 0 0), .v (.int .i64 0)])])
  (fun x => 1 ≤ x.1 ∧ x.1 ≤ l.length ∧ x.2 = ((l.take x.1).drop 1).foldl mostF (l.getD 0 ex0)) (fun x => l.length - x.1) (1, l.getD 0 ex0) ⟨by omega, by omega, by simp⟩
  (Le.lst [(0, 70000000), (1, 60000000)] _ _ rfl (by simp (disch := omega) only [go_sem]) (by simp (disch := omega) only [go_sem])) ?_
 rintro ⟨i, m⟩ ⟨h1, hi, hm⟩
 dsimp only at h1 hi hm ⊢
 have hmb : m.bd (-400000) 400000 := by
  rw [hm]; exact fold_bd mostF_or _ _ (gbd_get hb h0) (fun x hx => hb x (List.mem_of_mem_take (List.mem_of_mem_drop hx)))
 simp (disch := omega) only [go_sem]
 refine ifW_dec (fun h2 => ?_) (fun h2 => ?_)
 ·have hi2 : i < l.length := by omega
  have hci := exs_get (l := l) (i := i) hi2
  have hs : mostF m (l.getD i ex0) = ((l.take (i + 1)).drop 1).foldl mostF (l.getD 0 ex0) := by
   rw [drop_take_snoc h1 hi2, List.foldl_append, ← hm]; rfl
  simp (disch := omega) only [go_sem, h2]
  refine draw_of rfl [⟨0, [], []⟩, ⟨1, [], []⟩, ⟨2, [], []⟩, ⟨3, [], []⟩, ⟨4, [], []⟩, ⟨5, [4], []⟩, ⟨6, [], []⟩, ⟨7, [], []⟩] (by kernel_rfl) ?_
  have hg : fnOk Tryz.prog 105 = True := by simp (disch := omega) only [go_sem]
  simp (disch := omega) only [go_sem, hci, hg]
  refine ⟨by omega, by omega, ?_⟩
  refine call_cI (con_cmpV (l.getD i ex0) m (gbd_get hb hi2) hmb) ?_
  simp (disch := omega) only [go_sem]
  generalize l.getD i ex0 = y at *
  refine ifW_dec (fun h3 => ?_) (fun h3 => ?_)
  ·simp (disch := omega) only [go_sem, h3, hci]
   have : mostF m y = y := if_pos h3
   refine ⟨by omega, by omega, next_intro (i + 1, y) [] ⟨by show 1 ≤ i + 1; omega, by show i + 1 ≤ _; omega, this ▸ hs⟩ (by show l.length - (i + 1) < l.length - i; omega) rfl (by simp (disch := omega) only [go_sem]; try omega) (by simp (disch := omega) only [go_sem])⟩
  ·simp (disch := omega) only [go_sem, h3]
   have : mostF m y = m := if_neg h3
   refine next_intro (i + 1, m) [] ⟨by show 1 ≤ i + 1; omega, by show i + 1 ≤ _; omega, this ▸ hs⟩ (by show l.length - (i + 1) < l.length - i; omega) rfl (by simp (disch := omega) only [go_sem]; try omega) (by simp (disch := omega) only [go_sem])
 ·simp (disch := omega) only [go_sem, h2]
  have : i = l.length := by omega
  subst this
  rw [List.take_length] at hm
  subst hm
  exact fin_frz (hp := by simp (disch := omega) only [go_sem, mostL])
theorem con_most (l : List ExV) (h0 : 0 < l.length) (hl : l.length ≤ 1000) (hb : gbd (-400000) 400000 l) : Con Tryz.prog 93 false [.sl l.length (rowA ExV.cs l)] [] (isA (.ag [.v (.bool (mostL l).s), .sl (lim (mostL l).m).length (ints (lim (mostL l).m)), .v (.int .i64 (mostL l).e)])) := by
 refine Con.frzA ?_
 refine Con.of_w (rs := [.cell 2 90]) Tryz.func93 rfl Tryz.ntmps93 rfl ?_
 simp (disch := omega) only [go_sem]
 refine call_oI (con_maxFunc l h0 hl hb) ?_
 simp (disch := omega) only [go_sem]
 exact fin_frz
theorem con_minFunc (l : List ExV) (h0 : 0 < l.length) (hl : l.length ≤ 1000) (hb : gbd (-400000) 400000 l) : Con Tryz.prog 175 false [.sl l.length (rowA ExV.cs l), .fn 105 []] [] (isA (.ag [.v (.bool (leastL l).s), .sl (lim (leastL l).m).length (ints (lim (leastL l).m)), .v (.int .i64 (leastL l).e)])) := by
 refine Con.frzA ?_
 have hc0 := exs_get (l := l) (i := 0) h0
 have q1 : decide ((l.length : Int) < 1) = false := decide_eq_false (by omega)
 refine Con.of_w (rs := [.cell 4 90]) Tryz.func175 rfl Tryz.ntmps175 rfl ?_
 simp (disch := omega) only [go_sem, q1, hc0]
 refine ⟨by omega, by omega, ?_⟩
 refine loop_intro (fun x : Nat × ExV => [(0, .sl l.length (rowA ExV.cs l)), (1, .fn 105 []), (4, .pt 1 0), (5, .pt 0 0), (6, .v (.int .i64 x.1))])
  (fun x => [(0, .own 0 [.v (.bool x.2.s), .sl (lim x.2.m).length (ints (lim x.2.m)), .v (.int .i64 x.2.e)]), (1, .own 0 [.v (.bool false), .v (.slice none 0 0), .v (.int .i64 0)])])
  (fun x => 1 ≤ x.1 ∧ x.1 ≤ l.length ∧ x.2 = ((l.take x.1).drop 1).foldl leastF (l.getD 0 ex0)) (fun x => l.length - x.1) (1, l.getD 0 ex0) ⟨by omega, by omega, by simp⟩
  (Le.lst [(0, 70000000), (1, 60000000)] _ _ rfl (by simp (disch := omega) only [go_sem]) (by simp (disch := omega) only [go_sem])) ?_
 rintro ⟨i, m⟩ ⟨h1, hi, hm⟩
 dsimp only at h1 hi hm ⊢
 have hmb : m.bd (-400000) 400000 := by
  rw [hm]; exact fold_bd leastF_or _ _ (gbd_get hb h0) (fun x hx => hb x (List.mem_of_mem_take (List.mem_of_mem_drop hx)))
 simp (disch := omega) only [go_sem]
 refine ifW_dec (fun h2 => ?_) (fun h2 => ?_)
 ·have hi2 : i < l.length := by omega
  have hci := exs_get (l := l) (i := i) hi2
  have hs : leastF m (l.getD i ex0) = ((l.take (i + 1)).drop 1).foldl leastF (l.getD 0 ex0) := by
   rw [drop_take_snoc h1 hi2, List.foldl_append, ← hm]; rfl
  simp (disch := omega) only [go_sem, h2]
  refine draw_of rfl [⟨0, [], []⟩, ⟨1, [], []⟩, ⟨2, [], []⟩, ⟨3, [], []⟩, ⟨4, [], []⟩, ⟨5, [4], []⟩, ⟨6, [], []⟩, ⟨7, [], []⟩] (by kernel_rfl) ?_
  have hg : fnOk Tryz.prog 105 = True := by simp (disch := omega) only [go_sem]
  simp (disch := omega) only [go_sem, hci, hg]
  refine ⟨by omega, by omega, ?_⟩
  refine call_cI (con_cmpV (l.getD i ex0) m (gbd_get hb hi2) hmb) ?_
  simp (disch := omega) only [go_sem]
  generalize l.getD i ex0 = y at *
  refine ifW_dec (fun h3 => ?_) (fun h3 => ?_)
  ·simp (disch := omega) only [go_sem, h3, hci]
   have : leastF m y = y := if_pos h3
   refine ⟨by omega, by omega, next_intro (i + 1, y) [] ⟨by show 1 ≤ i + 1; omega, by show i + 1 ≤ _; omega, this ▸ hs⟩ (by show l.length - (i + 1) < l.length - i; omega) rfl (by simp (disch := omega) only [go_sem]; try omega) (by simp (disch := omega) only [go_sem])⟩
  ·simp (disch := omega) only [go_sem, h3]
   have : leastF m y = m := if_neg h3
   refine next_intro (i + 1, m) [] ⟨by show 1 ≤ i + 1; omega, by show i + 1 ≤ _; omega, this ▸ hs⟩ (by show l.length - (i + 1) < l.length - i; omega) rfl (by simp (disch := omega) only [go_sem]; try omega) (by simp (disch := omega) only [go_sem])
 ·simp (disch := omega) only [go_sem, h2]
  have : i = l.length := by omega
  subst this
  rw [List.take_length] at hm
  subst hm
  exact fin_frz (hp := by simp (disch := omega) only [go_sem, leastL])
theorem con_least (l : List ExV) (h0 : 0 < l.length) (hl : l.length ≤ 1000) (hb : gbd (-400000) 400000 l) : Con Tryz.prog 92 false [.sl l.length (rowA ExV.cs l)] [] (isA (.ag [.v (.bool (leastL l).s), .sl (lim (leastL l).m).length (ints (lim (leastL l).m)), .v (.int .i64 (leastL l).e)])) := by
 refine Con.frzA ?_
 refine Con.of_w (rs := [.cell 2 90]) Tryz.func92 rfl Tryz.ntmps92 rfl ?_
 simp (disch := omega) only [go_sem]
 refine call_oI (con_minFunc l h0 hl hb) ?_
 simp (disch := omega) only [go_sem]
 exact fin_frz
end Go.Ab
namespace Go.Ab
open Go Go.Proofs
set_option linter.unusedVariables false
set_option linter.unusedSimpArgs false
def SpV.plus (s t : SpV) : SpV := ⟨s.lo.plus t.lo, s.hi.plus t.hi⟩
def endsF (F : ExV → ExV → ExV) (s t : SpV) : List ExV := [F s.lo t.lo, F s.lo t.hi, F s.hi t.lo, F s.hi t.hi]
def SpV.times (s t : SpV) : SpV := ⟨leastL (endsF ExV.times s t), mostL (endsF ExV.times s t)⟩
def SpV.over (s t : SpV) (low : Int) : SpV := ⟨leastL (endsF (fun x y => x.over y low 3) s t), mostL (endsF (fun x y => x.over y low 2) s t)⟩
def SpV.out (s : SpV) (low : Int) : SpV := ⟨s.lo.rnd low 3, s.hi.rnd low 2⟩
def SpV.fat (s : SpV) (by' : ExV) : SpV := ⟨s.lo.plus by'.neg, s.hi.plus by'⟩
def SpV.bd (lo hi : Int) (s : SpV) : Prop := s.lo.bd lo hi ∧ s.hi.bd lo hi
theorem endsF_bd {F : ExV → ExV → ExV} {s t : SpV} {l1 h1 l2 h2 lo hi : Int} (hs : s.bd l1 h1) (ht : t.bd l2 h2) (hF : ∀ x y : ExV, x.bd l1 h1 → y.bd l2 h2 → (F x y).bd lo hi) : gbd lo hi (endsF F s t) := by
 intro x hx
 simp only [endsF, List.mem_cons, List.not_mem_nil, or_false] at hx
 rcases hx with rfl | rfl | rfl | rfl
 ·exact hF _ _ hs.1 ht.1
 ·exact hF _ _ hs.1 ht.2
 ·exact hF _ _ hs.2 ht.1
 ·exact hF _ _ hs.2 ht.2
theorem con_spPlus (s t : SpV) (hs : s.bd (-400000) 400000) (ht : t.bd (-400000) 400000) : Con Tryz.prog 170 false [.ag [.v (.bool (s).lo.s), .sl (lim (s).lo.m).length (ints (lim (s).lo.m)), .v (.int .i64 (s).lo.e), .v (.bool (s).hi.s), .sl (lim (s).hi.m).length (ints (lim (s).hi.m)), .v (.int .i64 (s).hi.e)], .ag [.v (.bool (t).lo.s), .sl (lim (t).lo.m).length (ints (lim (t).lo.m)), .v (.int .i64 (t).lo.e), .v (.bool (t).hi.s), .sl (lim (t).hi.m).length (ints (lim (t).hi.m)), .v (.int .i64 (t).hi.e)]] [] (isA (.ag [.v (.bool (s.plus t).lo.s), .sl (lim (s.plus t).lo.m).length (ints (lim (s.plus t).lo.m)), .v (.int .i64 (s.plus t).lo.e), .v (.bool (s.plus t).hi.s), .sl (lim (s.plus t).hi.m).length (ints (lim (s.plus t).hi.m)), .v (.int .i64 (s.plus t).hi.e)])) := by
 refine Con.frzA ?_
 refine Con.of_w (rs := [.cell 4 111]) Tryz.func170 rfl Tryz.ntmps170 rfl ?_
 simp (disch := omega) only [go_sem]
 refine draw_of rfl [⟨0, [], []⟩, ⟨1, [], []⟩, ⟨2, [1], []⟩, ⟨3, [1], []⟩, ⟨5, [1, 3], []⟩, ⟨6, [1, 3], []⟩, ⟨7, [1, 3, 6], []⟩, ⟨8, [1, 3, 6], []⟩, ⟨4, [6, 8], []⟩, ⟨9, [], []⟩, ⟨10, [], []⟩, ⟨11, [], []⟩] (by kernel_rfl) ?_
 simp (disch := omega) only [go_sem]
 refine call_oI (con_plusV s.lo t.lo hs.1 ht.1) ?_
 simp (disch := omega) only [go_sem]
 refine call_oI (con_plusV s.hi t.hi hs.2 ht.2) ?_
 simp (disch := omega) only [go_sem]
 exact fin_frz (hp := by simp (disch := omega) only [go_sem, SpV.plus])
theorem con_spOut (s : SpV) (low : Int) (hs : s.bd (-400000) 400000) (hl : -400000 ≤ low ∧ low ≤ 400000) : Con Tryz.prog 96 false [.ag [.v (.bool (s).lo.s), .sl (lim (s).lo.m).length (ints (lim (s).lo.m)), .v (.int .i64 (s).lo.e), .v (.bool (s).hi.s), .sl (lim (s).hi.m).length (ints (lim (s).hi.m)), .v (.int .i64 (s).hi.e)], .v (.int .i64 low)] [] (isA (.ag [.v (.bool (s.out low).lo.s), .sl (lim (s.out low).lo.m).length (ints (lim (s.out low).lo.m)), .v (.int .i64 (s.out low).lo.e), .v (.bool (s.out low).hi.s), .sl (lim (s.out low).hi.m).length (ints (lim (s.out low).hi.m)), .v (.int .i64 (s.out low).hi.e)])) := by
 refine Con.frzA ?_
 refine Con.of_w (rs := [.cell 4 111]) Tryz.func96 rfl Tryz.ntmps96 rfl ?_
 simp (disch := omega) only [go_sem]
 refine call_oI (con_rndV s.lo low 3 hs.1 hl) ?_
 simp (disch := omega) only [go_sem]
 refine call_oI (con_rndV s.hi low 2 hs.2 hl) ?_
 simp (disch := omega) only [go_sem]
 exact fin_frz (hp := by simp (disch := omega) only [go_sem, SpV.out])
set_option maxRecDepth 100000 in
theorem con_spEnds (s t : SpV) (f : Nat) (caps : List AV) (F : ExV → ExV → ExV) (hf : ∀ x y : ExV, (x = s.lo ∨ x = s.hi) → (y = t.lo ∨ y = t.hi) → Con Tryz.prog f false (.ag [.v (.bool (x).s), .sl (lim (x).m).length (ints (lim (x).m)), .v (.int .i64 (x).e)] :: .ag [.v (.bool (y).s), .sl (lim (y).m).length (ints (lim (y).m)), .v (.int .i64 (y).e)] :: caps) [] (isA (.ag [.v (.bool (F x y).s), .sl (lim (F x y).m).length (ints (lim (F x y).m)), .v (.int .i64 (F x y).e)]))) (hg : fnOk Tryz.prog f = True)
  (hc : ∀ h : Nat → Ob, caps.map (snap h 6) = caps) (hc5 : ∀ h : Nat → Ob, caps.map (snap h 5) = caps) (hn : ∀ ks, AllL (memK ks) caps) (hr : ∀ ρ, renL ρ caps = caps) :
  Con Tryz.prog 301 false [.ag [.v (.bool (s).lo.s), .sl (lim (s).lo.m).length (ints (lim (s).lo.m)), .v (.int .i64 (s).lo.e), .v (.bool (s).hi.s), .sl (lim (s).hi.m).length (ints (lim (s).hi.m)), .v (.int .i64 (s).hi.e)], .ag [.v (.bool (t).lo.s), .sl (lim (t).lo.m).length (ints (lim (t).lo.m)), .v (.int .i64 (t).lo.e), .v (.bool (t).hi.s), .sl (lim (t).hi.m).length (ints (lim (t).hi.m)), .v (.int .i64 (t).hi.e)], .fn f caps] [] (isA (.sl 4 (rowA ExV.cs (endsF F s t)))) := by
 refine Con.frzA ?_
 refine Con.of_aw Tryz.func301 rfl Tryz.ntmps301 (by simp) (by simp) (by simp) (W.sound ?_)
 show @W Tryz.prog 32 ⟨_⟩ ⟨fun x σ => @retW _ _ _ ⟨_⟩ _ ⟨_⟩ x σ⟩ _ _
 simp (disch := omega) only [go_sem, hg]
 refine draw_of rfl [⟨0, [], []⟩, ⟨1, [], []⟩, ⟨2, [], []⟩, ⟨3, [2], []⟩, ⟨4, [2], []⟩, ⟨6, [2, 4], []⟩, ⟨7, [2, 4], []⟩, ⟨8, [2, 4], []⟩, ⟨9, [2, 4, 8], []⟩, ⟨10, [2, 4, 8], []⟩, ⟨12, [2, 4, 8, 10], []⟩, ⟨13, [2, 4, 8, 10], []⟩, ⟨14, [2, 4, 8, 10], []⟩, ⟨15, [2, 4, 8, 10, 14], []⟩, ⟨16, [2, 4, 8, 10, 14], []⟩, ⟨18, [2, 4, 8, 10, 14, 16], []⟩, ⟨19, [2, 4, 8, 10, 14, 16], []⟩, ⟨20, [2, 4, 8, 10, 14, 16], []⟩, ⟨21, [2, 4, 8, 10, 14, 16, 20], []⟩, ⟨22, [2, 4, 8, 10, 14, 16, 20], []⟩, ⟨5, [8, 10, 14, 16, 20, 22], []⟩, ⟨11, [14, 16, 20, 22], []⟩, ⟨17, [20, 22], []⟩, ⟨23, [], []⟩, ⟨24, [], []⟩, ⟨25, [], []⟩] (by kernel_rfl) ?_
 simp (disch := omega) only [go_sem, hg]
 refine call_open (hf s.lo t.lo (.inl rfl) (.inl rfl)) (by simp (disch := omega) only [go_sem, hc, hc5]) ?_
 rintro r hs ⟨rfl, rfl, _⟩
 refine ⟨by simp [freeN], ?_⟩
 simp (disch := omega) only [go_sem, hg]
 refine call_open (hf s.lo t.hi (.inl rfl) (.inr rfl)) (by simp (disch := omega) only [go_sem, hc, hc5]) ?_
 rintro r hs ⟨rfl, rfl, _⟩
 refine ⟨by simp [freeN], ?_⟩
 simp (disch := omega) only [go_sem, hg]
 refine call_open (hf s.hi t.lo (.inr rfl) (.inl rfl)) (by simp (disch := omega) only [go_sem, hc, hc5]) ?_
 rintro r hs ⟨rfl, rfl, _⟩
 refine ⟨by simp [freeN], ?_⟩
 simp (disch := omega) only [go_sem, hg]
 refine call_open (hf s.hi t.hi (.inr rfl) (.inr rfl)) (by simp (disch := omega) only [go_sem, hc, hc5]) ?_
 rintro r hs ⟨rfl, rfl, _⟩
 refine ⟨by simp [freeN], ?_⟩
 simp (disch := omega) only [go_sem]
 have hrow : rowA ExV.cs (endsF F s t) = [.v (.bool (F s.lo t.lo).s), .sl (lim (F s.lo t.lo).m).length (ints (lim (F s.lo t.lo).m)), .v (.int .i64 (F s.lo t.lo).e), .v (.bool (F s.lo t.hi).s), .sl (lim (F s.lo t.hi).m).length (ints (lim (F s.lo t.hi).m)), .v (.int .i64 (F s.lo t.hi).e),
   .v (.bool (F s.hi t.lo).s), .sl (lim (F s.hi t.lo).m).length (ints (lim (F s.hi t.lo).m)), .v (.int .i64 (F s.hi t.lo).e), .v (.bool (F s.hi t.hi).s), .sl (lim (F s.hi t.hi).m).length (ints (lim (F s.hi t.hi).m)), .v (.int .i64 (F s.hi t.hi).e)] := rfl
 rw [← hrow]
 refine fin_intro [(0, 330000000)] [.own 3 (rowA ExV.cs (endsF F s t))] [] [.rf 0 0 4] rfl (by simp (disch := omega) only [go_sem]) (by simp (disch := omega) only [go_sem]) (by simp) (by simp) ?_
 show snap _ 6 _ = _
 simp (disch := omega) only [go_sem, rhp_zero, exs_cutK (l := endsF F s t) (k := 4) rfl]
theorem con_spTimes (s t : SpV) (hs : s.bd (-200000) 200000) (ht : t.bd (-200000) 200000) : Con Tryz.prog 273 false [.ag [.v (.bool (s).lo.s), .sl (lim (s).lo.m).length (ints (lim (s).lo.m)), .v (.int .i64 (s).lo.e), .v (.bool (s).hi.s), .sl (lim (s).hi.m).length (ints (lim (s).hi.m)), .v (.int .i64 (s).hi.e)], .ag [.v (.bool (t).lo.s), .sl (lim (t).lo.m).length (ints (lim (t).lo.m)), .v (.int .i64 (t).lo.e), .v (.bool (t).hi.s), .sl (lim (t).hi.m).length (ints (lim (t).hi.m)), .v (.int .i64 (t).hi.e)]] [] (isA (.ag [.v (.bool (s.times t).lo.s), .sl (lim (s.times t).lo.m).length (ints (lim (s.times t).lo.m)), .v (.int .i64 (s.times t).lo.e), .v (.bool (s.times t).hi.s), .sl (lim (s.times t).hi.m).length (ints (lim (s.times t).hi.m)), .v (.int .i64 (s.times t).hi.e)])) := by
 refine Con.frzA ?_
 have hm : ∀ x : ExV, x.bd (-200000) 200000 → x.bd (-400000) 400000 := fun x h => h.mono (by omega) (by omega)
 have he := endsF_bd (F := ExV.times) (lo := -400000) (hi := 400000) hs ht (fun x y hx hy => (ExV.times_bd hx hy).mono (by omega) (by omega))
 have ce := con_spEnds s t 168 [] ExV.times (fun x y hx hy => by
  refine con_timesV x y (hm x ?_) (hm y ?_)
  ·rcases hx with rfl | rfl
   ·exact hs.1
   ·exact hs.2
  ·rcases hy with rfl | rfl
   ·exact ht.1
   ·exact ht.2) (by simp (disch := omega) only [go_sem]) (fun h => rfl) (fun h => rfl) (fun ks => by simp (disch := omega) only [go_sem]) (fun ρ => rfl)
 unfold SpV.times
 generalize hE : endsF ExV.times s t = E at *
 have hE4 : E.length = 4 := by rw [← hE]; rfl
 have cl := con_least E (by omega) (by omega) he
 have cm := con_most E (by omega) (by omega) he
 rw [hE4] at cl cm
 refine Con.of_w (rs := [.cell 4 111]) Tryz.func273 rfl Tryz.ntmps273 rfl ?_
 simp (disch := omega) only [go_sem]
 refine call_oI (ce) ?_
 simp (disch := omega) only [go_sem]
 refine call_oI (cl) ?_
 simp (disch := omega) only [go_sem]
 refine call_oI (cm) ?_
 simp (disch := omega) only [go_sem]
 exact fin_frz
end Go.Ab
namespace Go.Ab
open Go
set_option linter.unusedVariables false
section
variable {P : Program} {N : Nat} {σ : St} {Q : Exit → St → Prop}
theorem Le.nilC (m o : Nat) {zo : Nat} {cs : List AV} (hm : σ.hp m = .own zo cs) (ho : cs[o]? = some (.v (.slice none 0 0))) :
  Le σ ⟨σ.env, upd σ.hp m (.own zo (cs.set o (.sl 0 [])))⟩ := by
 intro L w0 R0 N a w hi
 obtain ⟨R, ι, hR, h⟩ := hi.inv
 obtain ⟨hol, hoe⟩ := List.getElem?_eq_some_iff.1 ho
 have key : Inv L w0 R ι w a.tmps ⟨σ.env, upd σ.hp m (.own zo (cs.set o (.sl 0 [])))⟩ := by
  cases hB : ι m with
  | none =>
   have := h.hp.ok m
   rw [hm, hB] at this
   have e : cs = [] := this
   rw [e] at hol; simp at hol
  | some B =>
   obtain ⟨c, T, lo, hi', h1, h2, h3, h4, h5, h6⟩ := cell_own h hm hB
   refine h.turn hm hB rfl rfl rfl rfl (fun _ _ => rfl) ⟨c, T, lo, hi', h1, h2, h3, h4, by rw [List.length_set]; exact h5, fun i hi2 => ?_⟩ (AllL.of_get fun i hi2 => ?_)
   ·rw [List.length_set] at hi2
    rw [List.getElem_set]
    by_cases e : o = i
    ·subst e
     rw [if_pos rfl]
     have := h6 o hi2
     rw [hoe] at this
     rw [this.v_inv]
     exact .fr _ _ (.sl none 0 0 [] (fun _ => undef) 0 0 (Nat.le_refl _) (fun h => absurd h (by simp)) (fun i h => absurd h (by simp)) (fun i h => absurd h (by simp)))
    ·rw [if_neg e]; exact h6 i hi2
   ·rw [List.length_set] at hi2
    rw [List.getElem_set]
    split
    ·simp [AV.All]
    ·exact (h.hp.men m zo cs hm).get i hi2
 exact ⟨hi.df, hi.sz, R, ι, hR, key⟩
theorem Le.frz (m : Nat) {z : Nat} {ks : List AV} (hm : σ.hp m = .own z ks) (hl : lent m = false) (hn : AllL (fun _ => False) ks) :
  Le σ ⟨fun s => (σ.env s).fz m z ks, fun k => if k = m then .dead else (σ.hp k).fz m z ks⟩ := by
 have := Le.freeze m hm hl hn
 have e : (fun k => bif Nat.beq k m then Ob.dead else (σ.hp k).fz m z ks) = fun k => if k = m then Ob.dead else (σ.hp k).fz m z ks := by
  funext k
  by_cases h : k = m
  ·subst h; rw [Nat.beq_refl, cond_true, if_pos rfl]
  ·rw [nbeq h, cond_false, if_neg h]
 rwa [e] at this
theorem AW.seqLe {x y : Code} {E : List (Nat × AV)} {H : List (Nat × Ob)} (hx : AW P N x (fun ex σ' => ex = .normal ∧ Le σ' ⟨ofL .un E, ofH H⟩) σ) (hy : AW P N y Q ⟨ofL .un E, ofH H⟩) : AW P N (.seq x y) Q σ :=
 AW.seq (hx.mono fun ex σ' ⟨he, hl⟩ => by subst he; exact AW.le hl hy)
end
section
variable {m z : Nat} {ks : List AV}
theorem fz_un : AV.fz m z ks .un = .un := _root_.id rfl
theorem fz_v {x : Value} : AV.fz m z ks (.v x) = .v x := _root_.id rfl
theorem fz_sl {n : Nat} {cs : List AV} : AV.fz m z ks (.sl n cs) = .sl n cs := _root_.id rfl
theorem fz_fp {o : Nat} {cs : List AV} : AV.fz m z ks (.fp cs o) = .fp cs o := _root_.id rfl
theorem fz_pt {nm o : Nat} : AV.fz m z ks (.pt nm o) = if nm = m then .fp ks o else .pt nm o := by
 by_cases h : nm = m
 ·subst h; simp [AV.fz, Nat.beq_refl]
 ·simp [AV.fz, nbeq h, h]
theorem fz_rf {nm o n : Nat} : AV.fz m z ks (.rf nm o n) = if nm = m then .sl n (cut ks o (n * z)) else .rf nm o n := by
 by_cases h : nm = m
 ·subst h; simp [AV.fz, Nat.beq_refl]
 ·simp [AV.fz, nbeq h, h]
theorem fz_ag {cs : List AV} : AV.fz m z ks (.ag cs) = .ag (fzL m z ks cs) := _root_.id rfl
theorem fz_tu {cs : List AV} : AV.fz m z ks (.tu cs) = .tu (fzL m z ks cs) := _root_.id rfl
theorem fz_fn {f : Nat} {cs : List AV} : AV.fz m z ks (.fn f cs) = .fn f (fzL m z ks cs) := _root_.id rfl
theorem fzL_nil : fzL m z ks [] = [] := _root_.id rfl
theorem fzL_cons {a : AV} {r : List AV} : fzL m z ks (a :: r) = a.fz m z ks :: fzL m z ks r := _root_.id rfl
theorem Ofz_own {y : Nat} {cs : List AV} : Ob.fz m z ks (.own y cs) = .own y (fzL m z ks cs) := _root_.id rfl
theorem fzL_ints {xs : List Int} : fzL m z ks (ints xs) = ints xs := by simp [fzL_map, ints, AV.fz]
end
section
variable {h : Nat → Ob} {ix : Nat → Option Nat} {k : Nat}
theorem snp_fn {f : Nat} {cs : List AV} : snp h ix (k + 1) (.fn f cs) = .fn f (cs.map (snp h ix k)) := _root_.id rfl
theorem snp_ag {cs : List AV} : snp h ix (k + 1) (.ag cs) = .ag (cs.map (snp h ix k)) := _root_.id rfl
theorem snp_fp {o : Nat} {cs : List AV} : snp h ix (k + 1) (.fp cs o) = .fp cs o := _root_.id rfl
end
attribute [go_sem] snp_fn snp_ag snp_fp
attribute [go_sem] fz_un fz_v fz_sl fz_fp fz_pt fz_rf fz_ag fz_tu fz_fn fzL_nil fzL_cons Ofz_own fzL_ints
end Go.Ab
namespace Go.Ab
open Go Go.Proofs
set_option linter.unusedVariables false
set_option linter.unusedSimpArgs false
theorem idx_lt {n i j : Nat} (hi : i < n) (hj : j < n) : i * n + j < n * n := by
 have : (i + 1) * n ≤ n * n := Nat.mul_le_mul_right n hi
 rw [Nat.add_mul, Nat.one_mul] at this; omega
theorem sq_le {n : Nat} (h : n ≤ 4) : n * n ≤ 16 := Nat.mul_le_mul h h
theorem ex0_bd {lo hi : Int} (h1 : lo ≤ 0) (h2 : 0 ≤ hi) : ex0.bd lo hi := ⟨fun _ => rfl, h1, by show ((bl 0 : Nat) : Int) + 0 ≤ hi; rw [bl_zero]; omega⟩
theorem gl_bd {n : Nat} {g : Nat → Nat → ExV} {lo hi : Int} (h : ∀ i j, i < n → j < n → (g i j).bd lo hi) : gbd lo hi (gl n g (n * n)) := by
 intro x hx
 simp only [gl, List.mem_map, List.mem_range] at hx
 obtain ⟨t, ht, rfl⟩ := hx
 have hn : 0 < n := by
  rcases Nat.eq_zero_or_pos n with e | e
  ·subst e; simp at ht
  ·exact e
 exact h _ _ (Nat.div_lt_of_lt_mul ht) (Nat.mod_lt _ hn)
theorem con_gridOfL (n : Nat) (f : Nat) (caps : List AV) (g : Nat → Nat → ExV) (hn0 : n ≤ 4) (hf : ∀ i j : Nat, i < n → j < n → Con Tryz.prog f false (.v (.int .i64 i) :: .v (.int .i64 j) :: caps) [] (isA (.ag [.v (.bool (g i j).s), .sl (lim (g i j).m).length (ints (lim (g i j).m)), .v (.int .i64 (g i j).e)]))) (hg : fnOk Tryz.prog f = True)
  (hc : ∀ h : Nat → Ob, caps.map (snap h 6) = caps) (hc5 : ∀ h : Nat → Ob, caps.map (snap h 5) = caps) (hn : ∀ ks, AllL (memK ks) caps) (hr : ∀ ρ, renL ρ caps = caps) :
  Con Tryz.prog 164 false [.v (.int .i64 n), .fn f caps] [] (isA (.ag [.v (.int .i64 (n)), .sl (gl n g (n * n)).length (rowA ExV.cs (gl n g (n * n)))])) := by
 rw [gl_len]; exact con_gridOf n f caps g hn0 hf hg hc hc5 hn hr
def gPlus (n : Nat) (l l' : List ExV) : List ExV := gl n (fun i j => (l.getD (i * n + j) ex0).plus (l'.getD (i * n + j) ex0)) (n * n)
def gMinus (n : Nat) (l l' : List ExV) : List ExV := gl n (fun i j => (l.getD (i * n + j) ex0).plus (l'.getD (i * n + j) ex0).neg) (n * n)
def gScaled (n : Nat) (l : List ExV) (y : ExV) : List ExV := gl n (fun i j => (l.getD (i * n + j) ex0).times y) (n * n)
theorem con_gScaled1 (n : Nat) (l : List ExV) (y : ExV) (i j : Nat) (hn : n ≤ 4) (hi : i < n) (hj : j < n) (hl : l.length = n * n) (hb : gbd (-400000) 400000 l) (hy : y.bd (-400000) 400000) :
  Con Tryz.prog 169 false [.v (.int .i64 i), .v (.int .i64 j), .fp [.v (.int .i64 n), .sl l.length (rowA ExV.cs l)] 0, .fp [.v (.bool y.s), .sl (lim y.m).length (ints (lim y.m)), .v (.int .i64 y.e)] 0] [] (isA (.ag [.v (.bool ((l.getD (i * n + j) ex0).times y).s), .sl (lim ((l.getD (i * n + j) ex0).times y).m).length (ints (lim ((l.getD (i * n + j) ex0).times y).m)), .v (.int .i64 ((l.getD (i * n + j) ex0).times y).e)])) := by
 refine Con.frzA ?_
 have hx := idx_lt hi hj
 have hq := sq_le hn
 have c1 := con_at n l i j (by omega) (by omega) (by omega) (by omega) (by omega)
 have b1 := gbd_get hb (show i * n + j < l.length by omega)
 generalize l.getD (i * n + j) ex0 = x at *
 refine Con.of_w (rs := [.cell 6 90]) Tryz.func169 rfl Tryz.ntmps169 rfl ?_
 simp (disch := omega) only [go_sem]
 refine draw_of rfl [⟨0, [], []⟩, ⟨1, [0], []⟩, ⟨2, [0], []⟩, ⟨4, [0], []⟩, ⟨3, [4], []⟩, ⟨5, [], []⟩, ⟨6, [], []⟩] (by kernel_rfl) ?_
 simp (disch := omega) only [go_sem]
 refine call_oI (c1) ?_
 simp (disch := omega) only [go_sem]
 refine call_oI (con_timesV x y b1 hy) ?_
 simp (disch := omega) only [go_sem]
 exact fin_frz
theorem con_gScaled (n : Nat) (l : List ExV) (y : ExV) (hn : n ≤ 4) (hl : l.length = n * n) (hb : gbd (-400000) 400000 l) (hy : y.bd (-400000) 400000) : Con Tryz.prog 83 false [.ag [.v (.int .i64 (n)), .sl (l).length (rowA ExV.cs (l))], .ag [.v (.bool (y).s), .sl (lim (y).m).length (ints (lim (y).m)), .v (.int .i64 (y).e)]] [] (isA (.ag [.v (.int .i64 (n)), .sl (gScaled n l y).length (rowA ExV.cs (gScaled n l y))])) := by
 refine Con.frzA ?_
 have c := con_gridOfL n 169 [.fp [.v (.int .i64 n), .sl l.length (rowA ExV.cs l)] 0, .fp [.v (.bool y.s), .sl (lim y.m).length (ints (lim y.m)), .v (.int .i64 y.e)] 0] (fun i j => (l.getD (i * n + j) ex0).times y) hn (fun i j hi hj => con_gScaled1 n l y i j hn hi hj hl hb hy) (by simp (disch := omega) only [go_sem]) (fun h => rfl) (fun h => rfl) (fun ks => by simp (disch := omega) only [go_sem]) (fun ρ => rfl)
 change Con _ _ _ _ _ (isA (.ag [.v (.int .i64 (n)), .sl (gScaled n l y).length (rowA ExV.cs (gScaled n l y))])) at c
 refine Con.of_aw Tryz.func83 rfl Tryz.ntmps83 (by simp) (by simp) (by simp) (AW.seqLe (E := [(2, .fp [.v (.int .i64 n), .sl l.length (rowA ExV.cs l)] 0), (3, .fp [.v (.bool y.s), .sl (lim y.m).length (ints (lim y.m)), .v (.int .i64 y.e)] 0), (4, .pt 0 0)]) (H := [(0, .own 0 [.v (.int .i64 0), .v (.slice none 0 0)])]) (W.sound ?_) (W.sound ?_))
 ·show @W Tryz.prog 9 ⟨_⟩ ⟨_⟩ _ _
  simp (disch := omega) only [go_sem]
  exact (Le.frz 40000000 (z := 0) (ks := [.v (.int .i64 n), .sl l.length (rowA ExV.cs l)]) (by simp (disch := omega) only [go_sem]) rfl (by simp (disch := omega) only [go_sem])).trans ((Le.frz 50000000 (z := 0) (ks := [.v (.bool y.s), .sl (lim y.m).length (ints (lim y.m)), .v (.int .i64 y.e)]) (by simp (disch := omega) only [go_sem]) rfl (by simp (disch := omega) only [go_sem])).trans (Le.lst [(0, 60000000)] _ _ rfl (by simp (disch := omega) only [go_sem]) (by simp (disch := omega) only [go_sem])))
 show @W Tryz.prog 9 ⟨_⟩ ⟨fun x σ => @retW _ _ _ ⟨_⟩ _ ⟨_⟩ x σ⟩ _ _
 simp (disch := omega) only [go_sem]
 refine call_oI (c) ?_
 simp (disch := omega) only [go_sem]
 exact fin_frz
def gRnd (n : Nat) (l : List ExV) (low mode : Int) : List ExV := gl n (fun i j => (l.getD (i * n + j) ex0).rnd low mode) (n * n)
theorem con_gRnd1 (n : Nat) (l : List ExV) (low mode : Int) (i j : Nat) (hn : n ≤ 4) (hi : i < n) (hj : j < n) (hl : l.length = n * n) (hb : gbd (-400000) 400000 l) (hlo : -400000 ≤ low ∧ low ≤ 400000) :
  Con Tryz.prog 231 false [.v (.int .i64 i), .v (.int .i64 j), .fp [.v (.int .i64 n), .sl l.length (rowA ExV.cs l)] 0, .fp [.v (.int .i64 low)] 0, .fp [.v (.int .i64 mode)] 0] [] (isA (.ag [.v (.bool ((l.getD (i * n + j) ex0).rnd low mode).s), .sl (lim ((l.getD (i * n + j) ex0).rnd low mode).m).length (ints (lim ((l.getD (i * n + j) ex0).rnd low mode).m)), .v (.int .i64 ((l.getD (i * n + j) ex0).rnd low mode).e)])) := by
 refine Con.frzA ?_
 have hx := idx_lt hi hj
 have hq := sq_le hn
 have c1 := con_at n l i j (by omega) (by omega) (by omega) (by omega) (by omega)
 have b1 := gbd_get hb (show i * n + j < l.length by omega)
 generalize l.getD (i * n + j) ex0 = x at *
 refine Con.of_w (rs := [.cell 7 90]) Tryz.func231 rfl Tryz.ntmps231 rfl ?_
 simp (disch := omega) only [go_sem]
 refine draw_of rfl [⟨0, [], []⟩, ⟨1, [0], []⟩, ⟨2, [0], []⟩, ⟨4, [0], []⟩, ⟨5, [0, 4], []⟩, ⟨10, [0, 4, 5], []⟩, ⟨3, [4, 5], [100000000]⟩, ⟨6, [], [100000000]⟩, ⟨7, [], [100000000]⟩, ⟨8, [], [100000000]⟩, ⟨9, [], [100000000]⟩, ⟨11, [], []⟩, ⟨12, [], []⟩] (by kernel_rfl) ?_
 simp (disch := omega) only [go_sem]
 refine call_oI (c1) ?_
 simp (disch := omega) only [go_sem]
 refine call_oI (con_rndV x low mode b1 hlo) ?_
 simp (disch := omega) only [go_sem]
 exact fin_frz
theorem con_gRnd (n : Nat) (l : List ExV) (low mode : Int) (hn : n ≤ 4) (hl : l.length = n * n) (hb : gbd (-400000) 400000 l) (hlo : -400000 ≤ low ∧ low ≤ 400000) : Con Tryz.prog 151 false [.ag [.v (.int .i64 (n)), .sl (l).length (rowA ExV.cs (l))], .v (.int .i64 low), .v (.int .i64 mode)] [] (isA (.ag [.v (.int .i64 (n)), .sl (gRnd n l low mode).length (rowA ExV.cs (gRnd n l low mode))])) := by
 refine Con.frzA ?_
 have c := con_gridOfL n 231 [.fp [.v (.int .i64 n), .sl l.length (rowA ExV.cs l)] 0, .fp [.v (.int .i64 low)] 0, .fp [.v (.int .i64 mode)] 0] (fun i j => (l.getD (i * n + j) ex0).rnd low mode) hn (fun i j hi hj => con_gRnd1 n l low mode i j hn hi hj hl hb hlo) (by simp (disch := omega) only [go_sem]) (fun h => rfl) (fun h => rfl) (fun ks => by simp (disch := omega) only [go_sem]) (fun ρ => rfl)
 change Con _ _ _ _ _ (isA (.ag [.v (.int .i64 (n)), .sl (gRnd n l low mode).length (rowA ExV.cs (gRnd n l low mode))])) at c
 refine Con.of_aw Tryz.func151 rfl Tryz.ntmps151 (by simp) (by simp) (by simp) (AW.seqLe (E := [(3, .fp [.v (.int .i64 n), .sl l.length (rowA ExV.cs l)] 0), (4, .fp [.v (.int .i64 low)] 0), (5, .fp [.v (.int .i64 mode)] 0), (6, .pt 0 0)]) (H := [(0, .own 0 [.v (.int .i64 0), .v (.slice none 0 0)])]) (W.sound ?_) (W.sound ?_))
 ·show @W Tryz.prog 11 ⟨_⟩ ⟨_⟩ _ _
  simp (disch := omega) only [go_sem]
  exact (Le.frz 50000000 (z := 0) (ks := [.v (.int .i64 n), .sl l.length (rowA ExV.cs l)]) (by simp (disch := omega) only [go_sem]) rfl (by simp (disch := omega) only [go_sem])).trans ((Le.frz 60000000 (z := 0) (ks := [.v (.int .i64 low)]) (by simp (disch := omega) only [go_sem]) rfl (by simp (disch := omega) only [go_sem])).trans ((Le.frz 70000000 (z := 0) (ks := [.v (.int .i64 mode)]) (by simp (disch := omega) only [go_sem]) rfl (by simp (disch := omega) only [go_sem])).trans (Le.lst [(0, 80000000)] _ _ rfl (by simp (disch := omega) only [go_sem]) (by simp (disch := omega) only [go_sem]))))
 show @W Tryz.prog 11 ⟨_⟩ ⟨fun x σ => @retW _ _ _ ⟨_⟩ _ ⟨_⟩ x σ⟩ _ _
 simp (disch := omega) only [go_sem]
 refine call_oI (c) ?_
 simp (disch := omega) only [go_sem]
 exact fin_frz
def ex1 : ExV := ⟨false, 1, 0⟩
theorem con_oneV : Con Tryz.prog 181 false [] [] (isA (.ag [.v (.bool (ex1).s), .sl (lim (ex1).m).length (ints (lim (ex1).m)), .v (.int .i64 (ex1).e)])) := by
 refine Con.frzA ?_
 refine Con.of_w (rs := [.cell 0 90]) Tryz.func181 rfl Tryz.ntmps181 rfl ?_
 simp (disch := omega) only [go_sem]
 refine call_oI (con_smallN 1 (by omega)) ?_
 simp (disch := omega) only [go_sem]
 exact fin_frz (hp := by simp (disch := omega) only [go_sem, ex1])
def idF (i j : Nat) : ExV := if i = j then ex1 else ex0
def gId (n : Nat) : List ExV := gl n idF (n * n)
theorem con_id1 (i j : Nat) : Con Tryz.prog 180 false [.v (.int .i64 i), .v (.int .i64 j)] [] (isA (.ag [.v (.bool (idF i j).s), .sl (lim (idF i j).m).length (ints (lim (idF i j).m)), .v (.int .i64 (idF i j).e)])) := by
 refine Con.frzA ?_
 refine Con.of_w (rs := [.cell 4 90]) Tryz.func180 rfl Tryz.ntmps180 rfl ?_
 simp (disch := omega) only [go_sem]
 refine ifW_dec (fun h1 => ?_) (fun h1 => ?_)
 ·simp (disch := omega) only [go_sem, h1]
  have e : idF i j = ex1 := if_pos (by omega)
  rw [e]
  refine call_oI (con_oneV) ?_
  simp (disch := omega) only [go_sem]
  exact fin_frz
 ·simp (disch := omega) only [go_sem, h1]
  have e : idF i j = ex0 := if_neg (by omega)
  rw [e]
  exact fin_frz (hp := by simp (disch := omega) only [go_sem, ex0, lim_zero, List.length_nil, ints_nil])
theorem con_gId (n : Nat) (hn : n ≤ 4) : Con Tryz.prog 101 false [.v (.int .i64 n)] [] (isA (.ag [.v (.int .i64 (n)), .sl (gId n).length (rowA ExV.cs (gId n))])) := by
 refine Con.frzA ?_
 have c := con_gridOfL n 180 [] idF hn (fun i j hi hj => con_id1 i j) (by simp (disch := omega) only [go_sem]) (fun h => rfl) (fun h => rfl) (fun ks => by simp (disch := omega) only [go_sem]) (fun ρ => rfl)
 change Con _ _ _ _ _ (isA (.ag [.v (.int .i64 (n)), .sl (gId n).length (rowA ExV.cs (gId n))])) at c
 refine Con.of_w (rs := [.cell 2 102]) Tryz.func101 rfl Tryz.ntmps101 rfl ?_
 simp (disch := omega) only [go_sem]
 refine call_oI (c) ?_
 simp (disch := omega) only [go_sem]
 exact fin_frz
theorem foldl_bd {lo hi : Int} (g : Nat → ExV) (h0 : lo ≤ 0 ∧ 0 ≤ hi) : ∀ k : Nat, (∀ t, t < k → (g t).bd lo hi) → ((List.range k).foldl (fun s t => s.plus (g t)) ex0).bd lo (hi + k)
 | 0, _ => ex0_bd h0.1 (by simpa using h0.2)
 | k + 1, h => by
  rw [List.range_succ, List.foldl_append, List.foldl_cons, List.foldl_nil]
  have := ExV.plus_bd (foldl_bd g h0 k fun t ht => h t (by omega)) ((h k (by omega)).mono (Int.le_refl _) (show hi ≤ hi + k by omega))
  exact this.mono (Int.le_refl _) (by omega)
def dotF (n : Nat) (l l' : List ExV) (i j k : Nat) : ExV := (List.range k).foldl (fun s t => s.plus ((l.getD (i * n + t) ex0).times (l'.getD (t * n + j) ex0))) ex0
def gTimes (n : Nat) (l l' : List ExV) : List ExV := gl n (fun i j => dotF n l l' i j n) (n * n)
theorem dotF_zero (n : Nat) (l l' : List ExV) (i j : Nat) : dotF n l l' i j 0 = ex0 := rfl
end Go.Ab
namespace Go.Ab
open Go Go.Proofs
set_option linter.unusedVariables false
set_option linter.unusedSimpArgs false
theorem sps_get {l : List SpV} {i : Nat} (hi : i < l.length) : cut (rowA SpV.cs l) (i * 6) 6 = [.v (.bool (l.getD i sp0).lo.s), .sl (lim (l.getD i sp0).lo.m).length (ints (lim (l.getD i sp0).lo.m)), .v (.int .i64 (l.getD i sp0).lo.e), .v (.bool (l.getD i sp0).hi.s), .sl (lim (l.getD i sp0).hi.m).length (ints (lim (l.getD i sp0).hi.m)), .v (.int .i64 (l.getD i sp0).hi.e)] := row_get (l := l) sp_cs6 hi sp0
theorem sps_cutK {l : List SpV} {k : Nat} (h : l.length = k) : cut (rowA SpV.cs l) 0 (k * 6) = rowA SpV.cs l := by subst h; exact sps_cut
theorem exs_nil : rowA ExV.cs [] = [] := row_nil
theorem sps_nil : rowA SpV.cs [] = [] := row_nil
def mpT {X Y : Type} (l : List X) (F : X → Y) (i : Nat) : List Y := (l.take i).map F
theorem mpT_zero {X Y : Type} {l : List X} {F : X → Y} : mpT l F 0 = [] := rfl
theorem mpT_len {X Y : Type} {l : List X} {F : X → Y} {i : Nat} (h : i ≤ l.length) : (mpT l F i).length = i := by unfold mpT; rw [List.length_map, List.length_take]; omega
theorem mpT_succ {X Y : Type} {l : List X} {F : X → Y} {i : Nat} (d : X) (h : i < l.length) : mpT l F (i + 1) = mpT l F i ++ [F (l.getD i d)] := by
 unfold mpT
 rw [List.take_add_one, List.getElem?_eq_getElem h, List.map_append, List.getD_eq_getElem?_getD, List.getElem?_eq_getElem h]; rfl
theorem mpT_all {X Y : Type} {l : List X} {F : X → Y} : mpT l F l.length = l.map F := by unfold mpT; rw [List.take_length]
def sbd (lo hi : Int) (l : List SpV) : Prop := ∀ x ∈ l, x.bd lo hi
theorem sbd_get {lo hi : Int} {l : List SpV} {i : Nat} (h : sbd lo hi l) (hi' : i < l.length) : (l.getD i sp0).bd lo hi := by
 refine h _ ?_
 rw [List.getD_eq_getElem?_getD, List.getElem?_eq_getElem hi']; exact List.getElem_mem _
set_option maxRecDepth 100000 in
theorem con_matGrid (n : Int) (l : List ExV) (hl : l.length ≤ 1000) : Con Tryz.prog 77 false [.ag [.v (.int .i64 n), .sl l.length (rowA ExV.cs l)]] [] (isA (.ag [.v (.int .i64 n), .sl l.length (rowA ExV.cs l)])) := by
 refine Con.frzA ?_
 refine Con.of_aw Tryz.func77 rfl Tryz.ntmps77 (by simp) (by simp) (by simp) (W.sound ?_)
 show @W Tryz.prog 25 ⟨_⟩ ⟨fun x σ => @retW _ _ _ ⟨_⟩ _ ⟨_⟩ x σ⟩ _ _
 simp (disch := omega) only [go_sem]
 refine loop_intro (fun i : Nat => [(10, .sl l.length (rowA ExV.cs l)), (11, .v (.int .i64 l.length)), (12, .v (.int .i64 i)), (3, .pt 0 0), (2, .pt 2 0)])
  (fun i => [(0, .own 0 [.v (.int .i64 n), .rf 1 0 i]), (1, .own 3 (rowA ExV.cs (mpT l (id) i))), (2, .own 0 [.v (.int .i64 0), .v (.slice none 0 0)])]) (fun i => i ≤ l.length) (fun i => l.length - i) 0 (by omega)
  ((Le.ghostC 50000000 1 1 3 (zo := 0) (cs := [.v (.int .i64 n), .v (.slice none 0 0)]) (by simp (disch := omega) only [go_sem]) rfl (by simp (disch := omega) only [go_sem])).trans (Le.lst [(0, 50000000), (2, 40000000)] _ _ rfl (by simp (disch := omega) only [go_sem]) (by simp (disch := omega) only [go_sem, mpT_zero, exs_nil, List.set_cons_succ, List.set_cons_zero]))) ?_
 intro i hi
 simp (disch := omega) only [go_sem]
 refine ifW_dec (fun h1 => ?_) (fun h1 => ?_)
 ·have hi2 : i < l.length := by omega
  have hci := exs_get hi2
  have hcut := exs_cutK (mpT_len (F := id) hi)
  have hml := mpT_len (F := id) hi
  have hs := mpT_succ (F := id) ex0 hi2
  generalize l.getD i ex0 = x at *
  simp (disch := omega) only [go_sem, h1, hci]
  refine ⟨by omega, by omega, ?_⟩
  refine draw_of rfl [⟨0, [], []⟩, ⟨1, [], []⟩, ⟨2, [1], []⟩, ⟨3, [1], []⟩, ⟨4, [1], []⟩, ⟨5, [], []⟩, ⟨6, [], []⟩, ⟨7, [], []⟩] (by kernel_rfl) ?_
  simp (disch := omega) only [go_sem]
  refine call_oI (con_dyexact x.s x.m x.e) ?_
  simp (disch := omega) only [go_sem]
  simp (disch := omega) only [go_sem, hcut, exs_snoc]
  refine ⟨⟨by rw [hml]; exact Nat.le_refl _, by omega⟩, next_intro (i + 1) [(1, 230000000)] (by show i + 1 ≤ _; omega) (by show l.length - (i + 1) < l.length - i; omega) rfl (by simp (disch := omega) only [go_sem]; try omega) (by simp (disch := omega) only [go_sem, hs, id_eq])⟩
 ·simp (disch := omega) only [go_sem, h1]
  obtain rfl : i = l.length := by omega
  refine fin_intro [(0, 1)] [.own 3 (rowA ExV.cs (mpT l (id) l.length))] [] [.ag [.v (.int .i64 n), .rf 0 0 l.length]] rfl (by simp (disch := omega) only [go_sem]) (by simp (disch := omega) only [go_sem]) (by simp) (by simp) ?_
  show snap _ 6 _ = _
  simp (disch := omega) only [go_sem, rhp_zero, mpT_all, exs_cutK (l := l.map (id)) (k := l.length) (List.length_map ..), List.map_id, exs_cutK (l := l) (k := l.length) rfl]
def ptS (x : ExV) : SpV := ⟨x, x⟩
set_option maxRecDepth 100000 in
theorem con_fieldOf (n : Nat) (l : List ExV) (hl : l.length ≤ 1000) : Con Tryz.prog 223 false [.ag [.v (.int .i64 (n)), .sl (l).length (rowA ExV.cs (l))]] [] (isA (.ag [.v (.int .i64 (n)), .sl (l.map ptS).length (rowA SpV.cs (l.map ptS))])) := by
 refine Con.frzA ?_
 refine Con.of_aw Tryz.func223 rfl Tryz.ntmps223 (by simp) (by simp) (by simp) (W.sound ?_)
 show @W Tryz.prog 26 ⟨_⟩ ⟨fun x σ => @retW _ _ _ ⟨_⟩ _ ⟨_⟩ x σ⟩ _ _
 simp (disch := omega) only [go_sem]
 refine loop_intro (fun i : Nat => [(10, .sl l.length (rowA ExV.cs l)), (11, .v (.int .i64 l.length)), (12, .v (.int .i64 i)), (3, .pt 0 0), (2, .pt 2 0)])
  (fun i => [(0, .own 0 [.v (.int .i64 n), .rf 1 0 i]), (1, .own 6 (rowA SpV.cs (mpT l (ptS) i))), (2, .own 0 [.v (.int .i64 0), .v (.slice none 0 0)])]) (fun i => i ≤ l.length) (fun i => l.length - i) 0 (by omega)
  ((Le.ghostC 50000000 1 1 6 (zo := 0) (cs := [.v (.int .i64 n), .v (.slice none 0 0)]) (by simp (disch := omega) only [go_sem]) rfl (by simp (disch := omega) only [go_sem])).trans (Le.lst [(0, 50000000), (2, 40000000)] _ _ rfl (by simp (disch := omega) only [go_sem]) (by simp (disch := omega) only [go_sem, mpT_zero, sps_nil, List.set_cons_succ, List.set_cons_zero]))) ?_
 intro i hi
 simp (disch := omega) only [go_sem]
 refine ifW_dec (fun h1 => ?_) (fun h1 => ?_)
 ·have hi2 : i < l.length := by omega
  have hci := exs_get hi2
  have hcut := sps_cutK (mpT_len (F := ptS) hi)
  have hml := mpT_len (F := ptS) hi
  have hs := mpT_succ (F := ptS) ex0 hi2
  generalize l.getD i ex0 = x at *
  simp (disch := omega) only [go_sem, h1, hci]
  refine ⟨by omega, by omega, ?_⟩
  have hsn : ∀ L : List SpV, rowA SpV.cs L ++ [.v (.bool x.s), .sl (lim x.m).length (ints (lim x.m)), .v (.int .i64 x.e), .v (.bool x.s), .sl (lim x.m).length (ints (lim x.m)), .v (.int .i64 x.e)] = rowA SpV.cs (L ++ [ptS x]) := fun L => sps_snoc (x := ptS x)
  simp (disch := omega) only [go_sem, hcut, hsn]
  refine ⟨⟨by rw [hml]; exact Nat.le_refl _, by omega⟩, next_intro (i + 1) [(1, 240000000)] (by show i + 1 ≤ _; omega) (by show l.length - (i + 1) < l.length - i; omega) rfl (by simp (disch := omega) only [go_sem]; try omega) (by simp (disch := omega) only [go_sem, hs])⟩
 ·simp (disch := omega) only [go_sem, h1]
  obtain rfl : i = l.length := by omega
  refine fin_intro [(0, 1)] [.own 6 (rowA SpV.cs (mpT l (ptS) l.length))] [] [.ag [.v (.int .i64 n), .rf 0 0 l.length]] rfl (by simp (disch := omega) only [go_sem]) (by simp (disch := omega) only [go_sem]) (by simp) (by simp) ?_
  show snap _ 6 _ = _
  simp (disch := omega) only [go_sem, rhp_zero, mpT_all, sps_cutK (l := l.map (ptS)) (k := l.length) (List.length_map ..), List.length_map]
def midF (s : SpV) : ExV := (s.lo.plus s.hi).shift (-1)
set_option maxRecDepth 100000 in
theorem con_mid (n : Nat) (l : List SpV) (hl : l.length ≤ 1000) (hb : sbd (-390000) 390000 l) : Con Tryz.prog 150 false [.ag [.v (.int .i64 (n)), .sl (l).length (rowA SpV.cs (l))]] [] (isA (.ag [.v (.int .i64 (n)), .sl (l.map midF).length (rowA ExV.cs (l.map midF))])) := by
 refine Con.frzA ?_
 refine Con.of_aw Tryz.func150 rfl Tryz.ntmps150 (by simp) (by simp) (by simp) (W.sound ?_)
 show @W Tryz.prog 29 ⟨_⟩ ⟨fun x σ => @retW _ _ _ ⟨_⟩ _ ⟨_⟩ x σ⟩ _ _
 simp (disch := omega) only [go_sem]
 refine loop_intro (fun i : Nat => [(10, .sl l.length (rowA SpV.cs l)), (11, .v (.int .i64 l.length)), (12, .v (.int .i64 i)), (3, .pt 0 0), (2, .pt 2 0)])
  (fun i => [(0, .own 0 [.v (.int .i64 n), .rf 1 0 i]), (1, .own 3 (rowA ExV.cs (mpT l (midF) i))), (2, .own 0 [.v (.int .i64 0), .v (.slice none 0 0)])]) (fun i => i ≤ l.length) (fun i => l.length - i) 0 (by omega)
  ((Le.ghostC 50000000 1 1 3 (zo := 0) (cs := [.v (.int .i64 n), .v (.slice none 0 0)]) (by simp (disch := omega) only [go_sem]) rfl (by simp (disch := omega) only [go_sem])).trans (Le.lst [(0, 50000000), (2, 40000000)] _ _ rfl (by simp (disch := omega) only [go_sem]) (by simp (disch := omega) only [go_sem, mpT_zero, exs_nil, List.set_cons_succ, List.set_cons_zero]))) ?_
 intro i hi
 simp (disch := omega) only [go_sem]
 refine ifW_dec (fun h1 => ?_) (fun h1 => ?_)
 ·have hi2 : i < l.length := by omega
  have hci := sps_get hi2
  have hcut := exs_cutK (mpT_len (F := midF) hi)
  have hml := mpT_len (F := midF) hi
  have hs := mpT_succ (F := midF) sp0 hi2
  have hx := sbd_get hb hi2
  generalize l.getD i sp0 = x at *
  simp (disch := omega) only [go_sem, h1, hci]
  refine ⟨by omega, by omega, ?_⟩
  refine draw_of rfl [⟨0, [], []⟩, ⟨1, [], []⟩, ⟨2, [1], []⟩, ⟨3, [1], []⟩, ⟨4, [1, 3], []⟩, ⟨5, [1, 3], []⟩, ⟨6, [1], []⟩, ⟨7, [1], []⟩, ⟨8, [1], []⟩, ⟨9, [], []⟩, ⟨10, [], []⟩, ⟨11, [], []⟩] (by kernel_rfl) ?_
  simp (disch := omega) only [go_sem]
  refine call_oI (con_plusV x.lo x.hi (hx.1.mono (by omega) (by omega)) (hx.2.mono (by omega) (by omega))) ?_
  simp (disch := omega) only [go_sem]
  have hp := ExV.plus_bd hx.1 hx.2
  have hp2 : -390000 ≤ (x.lo.plus x.hi).e ∧ (x.lo.plus x.hi).e ≤ 400000 := ⟨hp.2.1, by have := hp.2.2; omega⟩
  refine call_oI (con_shiftV (x.lo.plus x.hi) (-1) (by omega) (by omega)) ?_
  simp (disch := omega) only [go_sem]
  have em : midF x = (x.lo.plus x.hi).shift (-1) := rfl
  rw [em] at hs
  simp (disch := omega) only [go_sem, hcut, exs_snoc]
  refine ⟨⟨by rw [hml]; exact Nat.le_refl _, by omega⟩, next_intro (i + 1) [(1, 270000000)] (by show i + 1 ≤ _; omega) (by show l.length - (i + 1) < l.length - i; omega) rfl (by simp (disch := omega) only [go_sem]; try omega) (by simp (disch := omega) only [go_sem, hs])⟩
 ·simp (disch := omega) only [go_sem, h1]
  obtain rfl : i = l.length := by omega
  refine fin_intro [(0, 1)] [.own 3 (rowA ExV.cs (mpT l (midF) l.length))] [] [.ag [.v (.int .i64 n), .rf 0 0 l.length]] rfl (by simp (disch := omega) only [go_sem]) (by simp (disch := omega) only [go_sem]) (by simp) (by simp) ?_
  show snap _ 6 _ = _
  simp (disch := omega) only [go_sem, rhp_zero, mpT_all, exs_cutK (l := l.map (midF)) (k := l.length) (List.length_map ..), List.length_map]
set_option maxRecDepth 100000 in
theorem con_each (n : Nat) (l : List SpV) (f : Nat) (caps : List AV) (F : SpV → SpV) (hl : l.length ≤ 1000) (hf : ∀ x ∈ l, Con Tryz.prog f false (.ag [.v (.bool (x).lo.s), .sl (lim (x).lo.m).length (ints (lim (x).lo.m)), .v (.int .i64 (x).lo.e), .v (.bool (x).hi.s), .sl (lim (x).hi.m).length (ints (lim (x).hi.m)), .v (.int .i64 (x).hi.e)] :: caps) [] (isA (.ag [.v (.bool (F x).lo.s), .sl (lim (F x).lo.m).length (ints (lim (F x).lo.m)), .v (.int .i64 (F x).lo.e), .v (.bool (F x).hi.s), .sl (lim (F x).hi.m).length (ints (lim (F x).hi.m)), .v (.int .i64 (F x).hi.e)]))) (hg : fnOk Tryz.prog f = True)
  (hc : ∀ h : Nat → Ob, caps.map (snap h 6) = caps) (hc5 : ∀ h : Nat → Ob, caps.map (snap h 5) = caps) (hn : ∀ ks, AllL (memK ks) caps) (hr : ∀ ρ, renL ρ caps = caps) :
  Con Tryz.prog 274 false [.ag [.v (.int .i64 (n)), .sl (l).length (rowA SpV.cs (l))], .fn f caps] [] (isA (.ag [.v (.int .i64 (n)), .sl (l.map F).length (rowA SpV.cs (l.map F))])) := by
 refine Con.frzA ?_
 refine Con.of_aw Tryz.func274 rfl Tryz.ntmps274 (by simp) (by simp) (by simp) (W.sound ?_)
 show @W Tryz.prog 28 ⟨_⟩ ⟨fun x σ => @retW _ _ _ ⟨_⟩ _ ⟨_⟩ x σ⟩ _ _
 simp (disch := omega) only [go_sem, hg]
 refine loop_intro (fun i : Nat => [(1, .fn f caps), (12, .sl l.length (rowA SpV.cs l)), (13, .v (.int .i64 l.length)), (14, .v (.int .i64 i)), (5, .pt 0 0), (4, .pt 2 0)])
  (fun i => [(0, .own 0 [.v (.int .i64 n), .rf 1 0 i]), (1, .own 6 (rowA SpV.cs (mpT l (F) i))), (2, .own 0 [.v (.int .i64 0), .v (.slice none 0 0)])]) (fun i => i ≤ l.length) (fun i => l.length - i) 0 (by omega)
  ((Le.ghostC 70000000 1 1 6 (zo := 0) (cs := [.v (.int .i64 n), .v (.slice none 0 0)]) (by simp (disch := omega) only [go_sem]) rfl (by simp (disch := omega) only [go_sem])).trans (Le.lst [(0, 70000000), (2, 60000000)] _ _ rfl (by simp (disch := omega) only [go_sem, hr, hn]) (by simp (disch := omega) only [go_sem, mpT_zero, sps_nil, List.set_cons_succ, List.set_cons_zero]))) ?_
 intro i hi
 simp (disch := omega) only [go_sem]
 refine ifW_dec (fun h1 => ?_) (fun h1 => ?_)
 ·have hi2 : i < l.length := by omega
  have hci := sps_get hi2
  have hcut := sps_cutK (mpT_len (F := F) hi)
  have hml := mpT_len (F := F) hi
  have hs := mpT_succ (F := F) sp0 hi2
  have hfx := hf (l.getD i sp0) (by rw [List.getD_eq_getElem?_getD, List.getElem?_eq_getElem hi2]; exact List.getElem_mem _)
  generalize l.getD i sp0 = x at *
  simp (disch := omega) only [go_sem, h1, hci]
  refine ⟨by omega, by omega, ?_⟩
  refine draw_of rfl [⟨0, [], []⟩, ⟨1, [], []⟩, ⟨2, [1], []⟩, ⟨3, [1], []⟩, ⟨4, [1], []⟩, ⟨5, [1], []⟩, ⟨6, [], []⟩, ⟨7, [], []⟩, ⟨8, [], []⟩] (by kernel_rfl) ?_
  simp (disch := omega) only [go_sem, hg]
  refine call_open hfx (by simp (disch := omega) only [go_sem, hc, hc5]) ?_
  rintro r hs2 ⟨rfl, rfl, _⟩
  refine ⟨by simp [freeN], ?_⟩
  simp (disch := omega) only [go_sem, hcut, sps_snoc]
  refine ⟨⟨by rw [hml]; exact Nat.le_refl _, by omega⟩, next_intro (i + 1) [(1, 260000000)] (by show i + 1 ≤ _; omega) (by show l.length - (i + 1) < l.length - i; omega) rfl (by simp (disch := omega) only [go_sem, hr, hn]; try omega) (by simp (disch := omega) only [go_sem, hs])⟩
 ·simp (disch := omega) only [go_sem, h1]
  obtain rfl : i = l.length := by omega
  refine fin_intro [(0, 1)] [.own 6 (rowA SpV.cs (mpT l (F) l.length))] [] [.ag [.v (.int .i64 n), .rf 0 0 l.length]] rfl (by simp (disch := omega) only [go_sem]) (by simp (disch := omega) only [go_sem]) (by simp) (by simp) ?_
  show snap _ 6 _ = _
  simp (disch := omega) only [go_sem, rhp_zero, mpT_all, sps_cutK (l := l.map (F)) (k := l.length) (List.length_map ..), List.length_map]
end Go.Ab
namespace Go.Ab
open Go Go.Proofs
set_option linter.unusedVariables false
set_option linter.unusedSimpArgs false
theorem con_spAt (n : Nat) (l : List SpV) (i j : Nat) (hl : i * n + j < l.length) (hb : l.length ≤ 1000) (hn : n ≤ 1000) (hi : i ≤ 1000) (hj : j ≤ 1000) :
  Con Tryz.prog 272 false [.ag [.v (.int .i64 (n)), .sl (l).length (rowA SpV.cs (l))], .v (.int .i64 i), .v (.int .i64 j)] [] (isA (.ag [.v (.bool (l.getD (i * n + j) sp0).lo.s), .sl (lim (l.getD (i * n + j) sp0).lo.m).length (ints (lim (l.getD (i * n + j) sp0).lo.m)), .v (.int .i64 (l.getD (i * n + j) sp0).lo.e), .v (.bool (l.getD (i * n + j) sp0).hi.s), .sl (lim (l.getD (i * n + j) sp0).hi.m).length (ints (lim (l.getD (i * n + j) sp0).hi.m)), .v (.int .i64 (l.getD (i * n + j) sp0).hi.e)])) := by
 refine Con.frzA ?_
 have hin : i * n ≤ 1000 := by omega
 have hp : (i : Int) * (n : Int) ≤ 1000 ∧ 0 ≤ (i : Int) * (n : Int) := by rw [← Int.natCast_mul]; omega
 have e1 : (i : Int) * (n : Int) + (j : Int) = ((i * n + j : Nat) : Int) := by rw [Int.natCast_add, Int.natCast_mul]
 have hcut := sps_get hl
 generalize i * n + j = k at *
 refine Con.of_w (rs := [.cell 6 111]) Tryz.func272 rfl Tryz.ntmps272 rfl ?_
 simp (disch := omega) only [go_sem]
 simp (disch := omega) only [go_sem, e1, hcut]
 refine ⟨by omega, by omega, ?_⟩
 exact fin_frz
def gly {Y : Type} (n : Nat) (g : Nat → Nat → Y) (k : Nat) : List Y := (List.range k).map fun t => g (t / n) (t % n)
theorem gly_len {Y : Type} {n : Nat} {g : Nat → Nat → Y} {k : Nat} : (gly n g k).length = k := by simp [gly]
theorem gly_succ {Y : Type} {n : Nat} {g : Nat → Nat → Y} {k : Nat} : gly n g (k + 1) = gly n g k ++ [g (k / n) (k % n)] := by simp [gly, List.range_succ]
theorem gly_nil {Y : Type} {n : Nat} {g : Nat → Nat → Y} : gly n g 0 = [] := rfl
def sdotF (n : Nat) (l l' : List SpV) (i j k : Nat) : SpV := (List.range k).foldl (fun s t => s.plus ((l.getD (i * n + t) sp0).times (l'.getD (t * n + j) sp0))) sp0
theorem sdotF_zero (n : Nat) (l l' : List SpV) (i j : Nat) : sdotF n l l' i j 0 = sp0 := rfl
theorem sdotF_succ (n : Nat) (l l' : List SpV) (i j k : Nat) : sdotF n l l' i j (k + 1) = (sdotF n l l' i j k).plus ((l.getD (i * n + k) sp0).times (l'.getD (k * n + j) sp0)) := by
 unfold sdotF; rw [List.range_succ, List.foldl_append, List.foldl_cons, List.foldl_nil]
def fTimes (n : Nat) (l l' : List SpV) : List SpV := gly n (fun i j => sdotF n l l' i j n) (n * n)
theorem SpV.times_bd {s t : SpV} {l1 h1 l2 h2 : Int} (hs : s.bd l1 h1) (ht : t.bd l2 h2) : (s.times t).bd (l1 + l2) (h1 + h2) := by
 have he := endsF_bd (F := ExV.times) hs ht (fun x y hx hy => ExV.times_bd hx hy)
 exact ⟨leastL_bd he (by simp [endsF]), mostL_bd he (by simp [endsF])⟩
theorem SpV.plus_bd {s t : SpV} {lo hi : Int} (hs : s.bd lo hi) (ht : t.bd lo hi) : (s.plus t).bd lo (hi + 1) := ⟨ExV.plus_bd hs.1 ht.1, ExV.plus_bd hs.2 ht.2⟩
theorem SpV.bd.mono {lo hi lo' hi' : Int} {x : SpV} (h : x.bd lo hi) (h1 : lo' ≤ lo) (h2 : hi ≤ hi') : x.bd lo' hi' := ⟨ExV.bd.mono h.1 h1 h2, ExV.bd.mono h.2 h1 h2⟩
theorem sp0_bd {lo hi : Int} (h1 : lo ≤ 0) (h2 : 0 ≤ hi) : sp0.bd lo hi := ⟨ex0_bd h1 h2, ex0_bd h1 h2⟩
theorem sbd_mono {lo hi lo' hi' : Int} {l : List SpV} (h : sbd lo hi l) (h1 : lo' ≤ lo) (h2 : hi ≤ hi') : sbd lo' hi' l := fun x hx => SpV.bd.mono (h x hx) h1 h2
theorem gbd_mono {lo hi lo' hi' : Int} {l : List ExV} (h : gbd lo hi l) (h1 : lo' ≤ lo) (h2 : hi ≤ hi') : gbd lo' hi' l := fun x hx => ExV.bd.mono (h x hx) h1 h2
theorem sfoldl_bd {lo hi : Int} (g : Nat → SpV) (h0 : lo ≤ 0 ∧ 0 ≤ hi) : ∀ k : Nat, (∀ t, t < k → (g t).bd lo hi) → ((List.range k).foldl (fun s t => s.plus (g t)) sp0).bd lo (hi + k)
 | 0, _ => sp0_bd h0.1 (by simpa using h0.2)
 | k + 1, h => by
  rw [List.range_succ, List.foldl_append, List.foldl_cons, List.foldl_nil]
  have := SpV.plus_bd (sfoldl_bd g h0 k fun t ht => h t (by omega)) (SpV.bd.mono (h k (by omega)) (Int.le_refl _) (show hi ≤ hi + k by omega))
  exact SpV.bd.mono this (Int.le_refl _) (by omega)
theorem sdotF_bd {l1 h1 l2 h2 : Int} {n : Nat} {l l' : List SpV} {i j k : Nat} (hi : i < n) (hj : j < n) (hk : k ≤ n) (hl : l.length = n * n) (hl' : l'.length = n * n) (hb : sbd l1 h1 l) (hb' : sbd l2 h2 l') (h0 : l1 + l2 ≤ 0 ∧ 0 ≤ h1 + h2) : (sdotF n l l' i j k).bd (l1 + l2) (h1 + h2 + k) :=
 sfoldl_bd _ h0 k fun t ht => SpV.times_bd (sbd_get hb (by rw [hl]; exact idx_lt hi (by omega))) (sbd_get hb' (by rw [hl']; exact idx_lt (by omega) hj))
set_option maxRecDepth 100000 in
theorem con_fTimes (n : Nat) (l l' : List SpV) (hn : n ≤ 4) (hl : l.length = n * n) (hl' : l'.length = n * n) (hb : sbd (-190000) 190000 l) (hb' : sbd (-190000) 190000 l') : Con Tryz.prog 226 false [.ag [.v (.int .i64 (n)), .sl (l).length (rowA SpV.cs (l))], .ag [.v (.int .i64 (n)), .sl (l').length (rowA SpV.cs (l'))]] [] (isA (.ag [.v (.int .i64 (n)), .sl (fTimes n l l').length (rowA SpV.cs (fTimes n l l'))])) := by
 refine Con.frzA ?_
 have hq := sq_le hn
 refine Con.of_aw Tryz.func226 rfl Tryz.ntmps226 (by simp) (by simp) (by simp) (W.sound ?_)
 show @W Tryz.prog 49 ⟨_⟩ ⟨fun x σ => @retW _ _ _ ⟨_⟩ _ ⟨_⟩ x σ⟩ _ _
 simp (disch := omega) only [go_sem]
 refine loop_intro (fun i : Nat => [(2, .pt 3 0), (3, .pt 4 0), (4, .pt 2 0), (5, .pt 0 0), (14, .v (.int .i64 n)), (15, .v (.int .i64 i))])
  (fun i => [(0, .own 0 [.v (.int .i64 n), .rf 1 0 (i * n)]), (1, .own 6 (rowA SpV.cs (gly n (fun i j => sdotF n l l' i j n) (i * n)))), (2, .own 0 [.v (.int .i64 0), .v (.slice none 0 0)]), (3, .own 0 [.v (.int .i64 n), .sl l.length (rowA SpV.cs l)]), (4, .own 0 [.v (.int .i64 n), .sl l'.length (rowA SpV.cs l')])]) (fun i => i ≤ n) (fun i => n - i) 0 (by omega)
  ((Le.ghostC 70000000 1 1 6 (zo := 0) (cs := [.v (.int .i64 n), .v (.slice none 0 0)]) (by simp (disch := omega) only [go_sem]) rfl (by simp (disch := omega) only [go_sem])).trans (Le.lst [(0, 70000000), (2, 60000000), (3, 40000000), (4, 50000000)] _ _ rfl (by simp (disch := omega) only [go_sem]) (by simp (disch := omega) only [go_sem, gly_nil, sps_nil, Nat.zero_mul, List.set_cons_succ, List.set_cons_zero]))) ?_
 intro i hi
 simp (disch := omega) only [go_sem]
 refine ifW_dec (fun h1 => ?_) (fun h1 => ?_)
 ·simp (disch := omega) only [go_sem, h1]
  have hin : i * n ≤ 16 := Nat.mul_le_mul (show i ≤ 4 by omega) hn
  refine loop_intro (fun j : Nat => [(2, .pt 3 0), (3, .pt 4 0), (4, .pt 2 0), (5, .pt 0 0), (6, .v (.int .i64 i)), (14, .v (.int .i64 n)), (15, .v (.int .i64 i)), (19, .v (.int .i64 n)), (20, .v (.int .i64 j))])
   (fun j => [(0, .own 0 [.v (.int .i64 n), .rf 1 0 (i * n + j)]), (1, .own 6 (rowA SpV.cs (gly n (fun i j => sdotF n l l' i j n) (i * n + j)))), (2, .own 0 [.v (.int .i64 0), .v (.slice none 0 0)]), (3, .own 0 [.v (.int .i64 n), .sl l.length (rowA SpV.cs l)]), (4, .own 0 [.v (.int .i64 n), .sl l'.length (rowA SpV.cs l')])]) (fun j => j ≤ n) (fun j => n - j) 0 (by omega)
   (Le.lst [] _ _ rfl (by simp (disch := omega) only [go_sem, Nat.add_zero]) (by simp (disch := omega) only [go_sem, Nat.add_zero])) ?_
  intro j hj
  simp (disch := omega) only [go_sem]
  refine ifW_dec (fun h2 => ?_) (fun h2 => ?_)
  ·simp (disch := omega) only [go_sem, h2]
   have hd : (i * n + j) / n = i := by rw [Nat.mul_comm, Nat.mul_add_div (by omega), Nat.div_eq_of_lt (by omega), Nat.add_zero]
   have hm : (i * n + j) % n = j := by rw [Nat.mul_comm, Nat.mul_add_mod, Nat.mod_eq_of_lt (by omega)]
   have hs := @gly_succ _ n (fun i j => sdotF n l l' i j n) (i * n + j)
   rw [hd, hm] at hs
   have hcut := sps_cutK (@gly_len _ n (fun i j => sdotF n l l' i j n) (i * n + j))
   have hk : i * n + (j + 1) = i * n + j + 1 := rfl
   generalize hA : gly n (fun i j => sdotF n l l' i j n) (i * n + j) = A at *
   have hAl : A.length = i * n + j := by rw [← hA, gly_len]
   generalize hA1 : gly n (fun i j => sdotF n l l' i j n) (i * n + j + 1) = A1 at *
   refine loop_intro (fun k : Nat => [(2, .pt 3 0), (3, .pt 4 0), (4, .pt 2 0), (5, .pt 0 0), (6, .v (.int .i64 i)), (7, .v (.int .i64 j)), (8, .pt 5 0), (14, .v (.int .i64 n)), (15, .v (.int .i64 i)), (19, .v (.int .i64 n)), (20, .v (.int .i64 j)), (24, .v (.int .i64 n)), (25, .v (.int .i64 k))])
    (fun k => [(0, .own 0 [.v (.int .i64 n), .rf 1 0 (i * n + j)]), (1, .own 6 (rowA SpV.cs A)), (2, .own 0 [.v (.int .i64 0), .v (.slice none 0 0)]), (3, .own 0 [.v (.int .i64 n), .sl l.length (rowA SpV.cs l)]), (4, .own 0 [.v (.int .i64 n), .sl l'.length (rowA SpV.cs l')]),
     (5, .own 0 [.v (.bool (sdotF n l l' i j k).lo.s), .sl (lim (sdotF n l l' i j k).lo.m).length (ints (lim (sdotF n l l' i j k).lo.m)), .v (.int .i64 (sdotF n l l' i j k).lo.e), .v (.bool (sdotF n l l' i j k).hi.s), .sl (lim (sdotF n l l' i j k).hi.m).length (ints (lim (sdotF n l l' i j k).hi.m)), .v (.int .i64 (sdotF n l l' i j k).hi.e)])])
    (fun k => k ≤ n) (fun k => n - k) 0 (by omega)
    ((Le.nilC 100000000 1 (zo := 0) (cs := [.v (.bool false), .v (.slice none 0 0), .v (.int .i64 0), .v (.bool false), .v (.slice none 0 0), .v (.int .i64 0)]) (by simp (disch := omega) only [go_sem]) rfl).trans
     ((Le.nilC 100000000 4 (zo := 0) (cs := [.v (.bool false), .sl 0 [], .v (.int .i64 0), .v (.bool false), .v (.slice none 0 0), .v (.int .i64 0)]) (by simp (disch := omega) only [go_sem, List.set_cons_succ, List.set_cons_zero]) rfl).trans (Le.lst [(5, 100000000)] _ _ rfl (by simp (disch := omega) only [go_sem]) (by simp (disch := omega) only [go_sem, List.set_cons_succ, List.set_cons_zero, sdotF_zero, sp0, ex0, lim_zero])))) ?_
   intro k hk2
   have hD := sdotF_bd (k := k) (show i < n by omega) (show j < n by omega) hk2 hl hl' hb hb' (by omega)
   have hsd := sdotF_succ n l l' i j k
   generalize hDD : sdotF n l l' i j k = D at *
   simp (disch := omega) only [go_sem]
   refine ifW_dec (fun h3 => ?_) (fun h3 => ?_)
   ·have hx := idx_lt (show i < n by omega) (show k < n by omega)
    have hx' := idx_lt (show k < n by omega) (show j < n by omega)
    have c1 := con_spAt n l i k (by omega) (by omega) (by omega) (by omega) (by omega)
    have c2 := con_spAt n l' k j (by omega) (by omega) (by omega) (by omega) (by omega)
    have b1 := sbd_get hb (show i * n + k < l.length by omega)
    have b2 := sbd_get hb' (show k * n + j < l'.length by omega)
    generalize l.getD (i * n + k) sp0 = x at *
    generalize l'.getD (k * n + j) sp0 = y at *
    simp (disch := omega) only [go_sem, h3]
    refine draw_of rfl [⟨0, [], []⟩, ⟨1, [0], []⟩, ⟨2, [0, 1], []⟩, ⟨3, [0, 1], []⟩, ⟨5, [0, 1], []⟩, ⟨6, [0, 1, 5], []⟩, ⟨7, [0, 1, 5], []⟩, ⟨4, [0, 5], []⟩, ⟨8, [0], []⟩, ⟨9, [0], []⟩, ⟨10, [], []⟩, ⟨11, [], []⟩] (by kernel_rfl) ?_
    simp (disch := omega) only [go_sem]
    refine call_oI (c1) ?_
    simp (disch := omega) only [go_sem]
    refine call_oI (c2) ?_
    simp (disch := omega) only [go_sem]
    refine call_oI (con_spTimes x y (SpV.bd.mono b1 (by omega) (by omega)) (SpV.bd.mono b2 (by omega) (by omega))) ?_
    simp (disch := omega) only [go_sem]
    refine call_oI (con_spPlus D (x.times y) (SpV.bd.mono hD (by omega) (by omega)) (SpV.bd.mono (SpV.times_bd b1 b2) (by omega) (by omega))) ?_
    simp (disch := omega) only [go_sem]
    exact next_intro (k + 1) [] (by show k + 1 ≤ _; omega) (by show n - (k + 1) < n - k; omega) rfl (by simp (disch := omega) only [go_sem]; try omega) (by simp (disch := omega) only [go_sem, hsd])
   ·obtain rfl : n = k := by omega
    rw [hDD] at hs
    simp (disch := omega) only [go_sem, h3, hcut, sps_snoc]
    refine ⟨⟨by rw [hAl]; exact Nat.le_refl _, by omega⟩, next_intro (j + 1) [(1, 460000000)] (by show j + 1 ≤ _; omega) (by show n - (j + 1) < n - j; omega) rfl (by simp (disch := omega) only [go_sem]; try omega) (by simp (disch := omega) only [go_sem, hk, hA1, hs])⟩
  ·simp (disch := omega) only [go_sem, h2]
   obtain rfl : n = j := by omega
   exact next_intro (i + 1) [] (by show i + 1 ≤ _; omega) (by show n - (i + 1) < n - i; omega) rfl (by simp (disch := omega) only [go_sem, Nat.add_mul, Nat.one_mul]; try omega) (by simp (disch := omega) only [go_sem, Nat.add_mul, Nat.one_mul])
 ·simp (disch := omega) only [go_sem, h1]
  obtain rfl : n = i := by omega
  have hll : (fTimes n l l').length = n * n := gly_len
  have hft : gly n (fun i j => sdotF n l l' i j n) (n * n) = fTimes n l l' := rfl
  rw [hft, hll]
  refine fin_intro [(0, 1)] [.own 6 (rowA SpV.cs (fTimes n l l'))] [] [.ag [.v (.int .i64 n), .rf 0 0 (n * n)]] rfl (by simp (disch := omega) only [go_sem]) (by simp (disch := omega) only [go_sem]) (by simp) (by simp) ?_
  show snap _ 6 _ = _
  simp (disch := omega) only [go_sem, rhp_zero, sps_cutK hll]
end Go.Ab
namespace Go.Ab
open Go Go.Proofs
set_option linter.unusedVariables false
set_option linter.unusedSimpArgs false
theorem con_over11 (x y : ExV) (low mode : Int) (h0 : y.m ≠ 0) (hx : x.bd (-400000) 400000) (hy : y.bd (-400000) 400000) (hl : -400000 ≤ low ∧ low ≤ 400000) :
  Con Tryz.prog 303 false [.ag [.v (.bool (x).s), .sl (lim (x).m).length (ints (lim (x).m)), .v (.int .i64 (x).e)], .ag [.v (.bool (y).s), .sl (lim (y).m).length (ints (lim (y).m)), .v (.int .i64 (y).e)], .fp [.v (.int .i64 low)] 0, .fp [.v (.int .i64 mode)] 0] [] (isA (.ag [.v (.bool (x.over y low mode).s), .sl (lim (x.over y low mode).m).length (ints (lim (x.over y low mode).m)), .v (.int .i64 (x.over y low mode).e)])) := by
 refine Con.frzA ?_
 refine Con.of_w (rs := [.cell 6 90]) Tryz.func303 rfl Tryz.ntmps303 rfl ?_
 simp (disch := omega) only [go_sem]
 refine call_oI (con_overV x y low mode h0 hx hy hl) ?_
 simp (disch := omega) only [go_sem]
 exact fin_frz
theorem con_over1 (s t : SpV) (low mode : Int) (h1 : t.lo.m ≠ 0) (h2 : t.hi.m ≠ 0) (hs : s.bd (-400000) 400000) (ht : t.bd (-400000) 400000) (hl : -400000 ≤ low ∧ low ≤ 400000) :
  Con Tryz.prog 302 false [.v (.int .i64 mode), .fp [.v (.bool s.lo.s), .sl (lim s.lo.m).length (ints (lim s.lo.m)), .v (.int .i64 s.lo.e), .v (.bool s.hi.s), .sl (lim s.hi.m).length (ints (lim s.hi.m)), .v (.int .i64 s.hi.e)] 0, .fp [.v (.bool t.lo.s), .sl (lim t.lo.m).length (ints (lim t.lo.m)), .v (.int .i64 t.lo.e), .v (.bool t.hi.s), .sl (lim t.hi.m).length (ints (lim t.hi.m)), .v (.int .i64 t.hi.e)] 0, .fp [.v (.int .i64 low)] 0] [] (isA (.sl 4 (rowA ExV.cs (endsF (fun x y => x.over y low mode) s t)))) := by
 refine Con.frzA ?_
 have ce := con_spEnds s t 303 [.fp [.v (.int .i64 low)] 0, .fp [.v (.int .i64 mode)] 0] (fun x y => x.over y low mode) (fun x y hx hy => by
  refine con_over11 x y low mode ?_ ?_ ?_ hl
  ·rcases hy with rfl | rfl
   ·exact h1
   ·exact h2
  ·rcases hx with rfl | rfl
   ·exact hs.1
   ·exact hs.2
  ·rcases hy with rfl | rfl
   ·exact ht.1
   ·exact ht.2) (by simp (disch := omega) only [go_sem]) (fun h => rfl) (fun h => rfl) (fun ks => by simp (disch := omega) only [go_sem]) (fun ρ => rfl)
 refine Con.of_aw Tryz.func302 rfl Tryz.ntmps302 (by simp) (by simp) (by simp) (AW.seqLe (E := [(1, .fp [.v (.bool s.lo.s), .sl (lim s.lo.m).length (ints (lim s.lo.m)), .v (.int .i64 s.lo.e), .v (.bool s.hi.s), .sl (lim s.hi.m).length (ints (lim s.hi.m)), .v (.int .i64 s.hi.e)] 0), (2, .fp [.v (.bool t.lo.s), .sl (lim t.lo.m).length (ints (lim t.lo.m)), .v (.int .i64 t.lo.e), .v (.bool t.hi.s), .sl (lim t.hi.m).length (ints (lim t.hi.m)), .v (.int .i64 t.hi.e)] 0), (3, .fp [.v (.int .i64 low)] 0), (4, .fp [.v (.int .i64 mode)] 0), (5, .v (.slice none 0 0))]) (H := []) (W.sound ?_) (W.sound ?_))
 ·show @W Tryz.prog 10 ⟨_⟩ ⟨_⟩ _ _
  simp (disch := omega) only [go_sem]
  exact (Le.frz 60000000 (z := 0) (ks := [.v (.int .i64 mode)]) (by simp (disch := omega) only [go_sem]) rfl (by simp (disch := omega) only [go_sem])).trans (Le.lst [] _ _ rfl (by simp (disch := omega) only [go_sem]) (by simp (disch := omega) only [go_sem]))
 show @W Tryz.prog 10 ⟨_⟩ ⟨fun x σ => @retW _ _ _ ⟨_⟩ _ ⟨_⟩ x σ⟩ _ _
 simp (disch := omega) only [go_sem]
 refine call_oI (ce) ?_
 simp (disch := omega) only [go_sem]
 exact fin_frz
theorem SpV.over_bd {s t : SpV} {lo hi l2 low H : Int} (hs : s.bd lo hi) (ht : l2 ≤ t.lo.e ∧ l2 ≤ t.hi.e) (h : hi - l2 + 1 ≤ H) (hb : hi - lo + 1 + low ≤ H) : (s.over t low).bd low H := by
 have he : ∀ mode, gbd low H (endsF (fun x y => x.over y low mode) s t) := by
  intro mode x hx
  simp only [endsF, List.mem_cons, List.not_mem_nil, or_false] at hx
  rcases hx with rfl | rfl | rfl | rfl
  ·exact ExV.over_bd hs.1 ht.1 h hb
  ·exact ExV.over_bd hs.1 ht.2 h hb
  ·exact ExV.over_bd hs.2 ht.1 h hb
  ·exact ExV.over_bd hs.2 ht.2 h hb
 exact ⟨leastL_bd (he 3) (by simp [endsF]), mostL_bd (he 2) (by simp [endsF])⟩
theorem con_spOver (s t : SpV) (low : Int) (h1 : t.lo.m ≠ 0) (h2 : t.hi.m ≠ 0) (hs : s.bd (-100000) 100000) (ht : t.bd (-100000) 100000) (hl : -100000 ≤ low ∧ low ≤ 100000) :
  Con Tryz.prog 276 false [.ag [.v (.bool (s).lo.s), .sl (lim (s).lo.m).length (ints (lim (s).lo.m)), .v (.int .i64 (s).lo.e), .v (.bool (s).hi.s), .sl (lim (s).hi.m).length (ints (lim (s).hi.m)), .v (.int .i64 (s).hi.e)], .ag [.v (.bool (t).lo.s), .sl (lim (t).lo.m).length (ints (lim (t).lo.m)), .v (.int .i64 (t).lo.e), .v (.bool (t).hi.s), .sl (lim (t).hi.m).length (ints (lim (t).hi.m)), .v (.int .i64 (t).hi.e)], .v (.int .i64 low)] [] (isA (.ag [.v (.bool (s.over t low).lo.s), .sl (lim (s.over t low).lo.m).length (ints (lim (s.over t low).lo.m)), .v (.int .i64 (s.over t low).lo.e), .v (.bool (s.over t low).hi.s), .sl (lim (s.over t low).hi.m).length (ints (lim (s.over t low).hi.m)), .v (.int .i64 (s.over t low).hi.e)])) := by
 refine Con.frzA ?_
 have co := fun mode => con_over1 s t low mode h1 h2 (SpV.bd.mono hs (by omega) (by omega)) (SpV.bd.mono ht (by omega) (by omega)) (by omega)
 have he : ∀ mode, gbd (-400000) 400000 (endsF (fun x y => x.over y low mode) s t) := by
  intro mode x hx
  have ht1 := ht.1.2.1
  have ht2 := ht.2.2.1
  simp only [endsF, List.mem_cons, List.not_mem_nil, or_false] at hx
  rcases hx with rfl | rfl | rfl | rfl
  ·exact (ExV.over_bd (hi := 400000) hs.1 ht1 (by omega) (by omega)).mono (by omega) (by omega)
  ·exact (ExV.over_bd (hi := 400000) hs.1 ht2 (by omega) (by omega)).mono (by omega) (by omega)
  ·exact (ExV.over_bd (hi := 400000) hs.2 ht1 (by omega) (by omega)).mono (by omega) (by omega)
  ·exact (ExV.over_bd (hi := 400000) hs.2 ht2 (by omega) (by omega)).mono (by omega) (by omega)
 have c3 := co 3
 have c2 := co 2
 have e3 := he 3
 have e2 := he 2
 unfold SpV.over
 generalize hE3 : endsF (fun x y => x.over y low 3) s t = E3 at *
 generalize hE2 : endsF (fun x y => x.over y low 2) s t = E2 at *
 have l3 : E3.length = 4 := by rw [← hE3]; rfl
 have l2 : E2.length = 4 := by rw [← hE2]; rfl
 have cl := con_least E3 (by omega) (by omega) e3
 have cm := con_most E2 (by omega) (by omega) e2
 rw [l3] at cl
 rw [l2] at cm
 refine Con.of_aw Tryz.func276 rfl Tryz.ntmps276 (by simp) (by simp) (by simp) (AW.seqLe (E := [(3, .fp [.v (.bool s.lo.s), .sl (lim s.lo.m).length (ints (lim s.lo.m)), .v (.int .i64 s.lo.e), .v (.bool s.hi.s), .sl (lim s.hi.m).length (ints (lim s.hi.m)), .v (.int .i64 s.hi.e)] 0), (4, .fp [.v (.bool t.lo.s), .sl (lim t.lo.m).length (ints (lim t.lo.m)), .v (.int .i64 t.lo.e), .v (.bool t.hi.s), .sl (lim t.hi.m).length (ints (lim t.hi.m)), .v (.int .i64 t.hi.e)] 0), (5, .fp [.v (.int .i64 low)] 0), (6, .pt 0 0)]) (H := [(0, .own 0 [.v (.bool false), .v (.slice none 0 0), .v (.int .i64 0), .v (.bool false), .v (.slice none 0 0), .v (.int .i64 0)])]) (W.sound ?_) (W.sound ?_))
 ·show @W Tryz.prog 16 ⟨_⟩ ⟨_⟩ _ _
  simp (disch := omega) only [go_sem]
  exact (Le.frz 50000000 (z := 0) (ks := [.v (.bool s.lo.s), .sl (lim s.lo.m).length (ints (lim s.lo.m)), .v (.int .i64 s.lo.e), .v (.bool s.hi.s), .sl (lim s.hi.m).length (ints (lim s.hi.m)), .v (.int .i64 s.hi.e)]) (by simp (disch := omega) only [go_sem]) rfl (by simp (disch := omega) only [go_sem])).trans ((Le.frz 60000000 (z := 0) (ks := [.v (.bool t.lo.s), .sl (lim t.lo.m).length (ints (lim t.lo.m)), .v (.int .i64 t.lo.e), .v (.bool t.hi.s), .sl (lim t.hi.m).length (ints (lim t.hi.m)), .v (.int .i64 t.hi.e)]) (by simp (disch := omega) only [go_sem]) rfl (by simp (disch := omega) only [go_sem])).trans ((Le.frz 70000000 (z := 0) (ks := [.v (.int .i64 low)]) (by simp (disch := omega) only [go_sem]) rfl (by simp (disch := omega) only [go_sem])).trans (Le.lst [(0, 80000000)] _ _ rfl (by simp (disch := omega) only [go_sem]) (by simp (disch := omega) only [go_sem]))))
 show @W Tryz.prog 16 ⟨_⟩ ⟨fun x σ => @retW _ _ _ ⟨_⟩ _ ⟨_⟩ x σ⟩ _ _
 simp (disch := omega) only [go_sem]
 refine call_oI (c3) ?_
 simp (disch := omega) only [go_sem]
 refine call_oI (cl) ?_
 simp (disch := omega) only [go_sem]
 refine call_oI (c2) ?_
 simp (disch := omega) only [go_sem]
 refine call_oI (cm) ?_
 simp (disch := omega) only [go_sem]
 exact fin_frz
def exN (k : Nat) : ExV := ⟨false, k, 0⟩
theorem exN_bd {k : Nat} (hk : k < 2 ^ 63) : (exN k).bd 0 64 := ⟨fun _ => rfl, Int.le_refl _, by show (bl k : Int) + 0 ≤ 64; have : bl k ≤ 63 := bl_le.2 hk; omega⟩
def SpV.divd (s : SpV) (k : Nat) (low : Int) : SpV := s.over ⟨exN k, exN k⟩ low
theorem con_divided1 (s : SpV) (k : Nat) (low : Int) (h0 : k ≠ 0) (hk : k < 2 ^ 63) (hs : s.bd (-100000) 100000) (hl : -100000 ≤ low ∧ low ≤ 100000) :
  Con Tryz.prog 275 false [.ag [.v (.bool (s).lo.s), .sl (lim (s).lo.m).length (ints (lim (s).lo.m)), .v (.int .i64 (s).lo.e), .v (.bool (s).hi.s), .sl (lim (s).hi.m).length (ints (lim (s).hi.m)), .v (.int .i64 (s).hi.e)], .fp [.v (.bool (exN k).s), .sl (lim (exN k).m).length (ints (lim (exN k).m)), .v (.int .i64 (exN k).e)] 0, .fp [.v (.int .i64 low)] 0] [] (isA (.ag [.v (.bool (s.divd k low).lo.s), .sl (lim (s.divd k low).lo.m).length (ints (lim (s.divd k low).lo.m)), .v (.int .i64 (s.divd k low).lo.e), .v (.bool (s.divd k low).hi.s), .sl (lim (s.divd k low).hi.m).length (ints (lim (s.divd k low).hi.m)), .v (.int .i64 (s.divd k low).hi.e)])) := by
 refine Con.frzA ?_
 have hb := exN_bd hk
 have co := con_spOver s ⟨exN k, exN k⟩ low h0 h0 hs ⟨hb.mono (by omega) (by omega), hb.mono (by omega) (by omega)⟩ hl
 change Con _ _ _ _ _ (isA (.ag [.v (.bool (s.divd k low).lo.s), .sl (lim (s.divd k low).lo.m).length (ints (lim (s.divd k low).lo.m)), .v (.int .i64 (s.divd k low).lo.e), .v (.bool (s.divd k low).hi.s), .sl (lim (s.divd k low).hi.m).length (ints (lim (s.divd k low).hi.m)), .v (.int .i64 (s.divd k low).hi.e)])) at co
 generalize s.divd k low = z at *
 dsimp only at co
 refine Con.of_w (rs := [.cell 4 111]) Tryz.func275 rfl Tryz.ntmps275 rfl ?_
 simp (disch := omega) only [go_sem]
 refine call_oI (co) ?_
 simp (disch := omega) only [go_sem]
 exact fin_frz
theorem con_out1 (s : SpV) (low : Int) (hs : s.bd (-400000) 400000) (hl : -400000 ≤ low ∧ low ≤ 400000) : Con Tryz.prog 278 false [.ag [.v (.bool (s).lo.s), .sl (lim (s).lo.m).length (ints (lim (s).lo.m)), .v (.int .i64 (s).lo.e), .v (.bool (s).hi.s), .sl (lim (s).hi.m).length (ints (lim (s).hi.m)), .v (.int .i64 (s).hi.e)], .fp [.v (.int .i64 low)] 0] [] (isA (.ag [.v (.bool (s.out low).lo.s), .sl (lim (s.out low).lo.m).length (ints (lim (s.out low).lo.m)), .v (.int .i64 (s.out low).lo.e), .v (.bool (s.out low).hi.s), .sl (lim (s.out low).hi.m).length (ints (lim (s.out low).hi.m)), .v (.int .i64 (s.out low).hi.e)])) := by
 refine Con.frzA ?_
 refine Con.of_w (rs := [.cell 3 111]) Tryz.func278 rfl Tryz.ntmps278 rfl ?_
 simp (disch := omega) only [go_sem]
 refine call_oI (con_spOut s low hs hl) ?_
 simp (disch := omega) only [go_sem]
 exact fin_frz
theorem con_fOut (n : Nat) (l : List SpV) (low : Int) (hl : l.length ≤ 1000) (hb : sbd (-400000) 400000 l) (hlo : -400000 ≤ low ∧ low ≤ 400000) : Con Tryz.prog 230 false [.ag [.v (.int .i64 (n)), .sl (l).length (rowA SpV.cs (l))], .v (.int .i64 low)] [] (isA (.ag [.v (.int .i64 (n)), .sl (l.map fun s => s.out low).length (rowA SpV.cs (l.map fun s => s.out low))])) := by
 refine Con.frzA ?_
 have c := con_each n l 278 [.fp [.v (.int .i64 low)] 0] (fun s => s.out low) hl (fun x hx => con_out1 x low (hb x hx) hlo) (by simp (disch := omega) only [go_sem]) (fun h => rfl) (fun h => rfl) (fun ks => by simp (disch := omega) only [go_sem]) (fun ρ => rfl)
 generalize l.map (fun s => s.out low) = L at *
 refine Con.of_aw Tryz.func230 rfl Tryz.ntmps230 (by simp) (by simp) (by simp) (AW.seqLe (E := [(2, .fp [.v (.int .i64 n), .sl l.length (rowA SpV.cs l)] 0), (3, .fp [.v (.int .i64 low)] 0), (4, .pt 0 0)]) (H := [(0, .own 0 [.v (.int .i64 0), .v (.slice none 0 0)])]) (W.sound ?_) (W.sound ?_))
 ·show @W Tryz.prog 8 ⟨_⟩ ⟨_⟩ _ _
  simp (disch := omega) only [go_sem]
  exact (Le.frz 40000000 (z := 0) (ks := [.v (.int .i64 n), .sl l.length (rowA SpV.cs l)]) (by simp (disch := omega) only [go_sem]) rfl (by simp (disch := omega) only [go_sem])).trans ((Le.frz 50000000 (z := 0) (ks := [.v (.int .i64 low)]) (by simp (disch := omega) only [go_sem]) rfl (by simp (disch := omega) only [go_sem])).trans (Le.lst [(0, 60000000)] _ _ rfl (by simp (disch := omega) only [go_sem]) (by simp (disch := omega) only [go_sem])))
 show @W Tryz.prog 8 ⟨_⟩ ⟨fun x σ => @retW _ _ _ ⟨_⟩ _ ⟨_⟩ x σ⟩ _ _
 simp (disch := omega) only [go_sem]
 refine call_oI (c) ?_
 simp (disch := omega) only [go_sem]
 exact fin_frz
theorem con_fat1 (s : SpV) (y : ExV) (hs : s.bd (-400000) 400000) (hy : y.bd (-400000) 400000) : Con Tryz.prog 277 false [.ag [.v (.bool (s).lo.s), .sl (lim (s).lo.m).length (ints (lim (s).lo.m)), .v (.int .i64 (s).lo.e), .v (.bool (s).hi.s), .sl (lim (s).hi.m).length (ints (lim (s).hi.m)), .v (.int .i64 (s).hi.e)], .fp [.v (.bool y.s), .sl (lim y.m).length (ints (lim y.m)), .v (.int .i64 y.e)] 0] [] (isA (.ag [.v (.bool (s.fat y).lo.s), .sl (lim (s.fat y).lo.m).length (ints (lim (s.fat y).lo.m)), .v (.int .i64 (s.fat y).lo.e), .v (.bool (s.fat y).hi.s), .sl (lim (s.fat y).hi.m).length (ints (lim (s.fat y).hi.m)), .v (.int .i64 (s.fat y).hi.e)])) := by
 refine Con.frzA ?_
 refine Con.of_w (rs := [.cell 3 111]) Tryz.func277 rfl Tryz.ntmps277 rfl ?_
 simp (disch := omega) only [go_sem]
 refine draw_of rfl [⟨0, [], []⟩, ⟨1, [], []⟩, ⟨2, [1], []⟩, ⟨4, [1, 2], []⟩, ⟨5, [1, 2], []⟩, ⟨6, [1, 2, 5], []⟩, ⟨3, [5, 6], []⟩, ⟨7, [], []⟩, ⟨8, [], []⟩, ⟨9, [], []⟩] (by kernel_rfl) ?_
 simp (disch := omega) only [go_sem]
 refine call_oI (con_minusV s.lo y hs.1 hy) ?_
 simp (disch := omega) only [go_sem]
 refine call_oI (con_plusV s.hi y hs.2 hy) ?_
 simp (disch := omega) only [go_sem]
 exact fin_frz (hp := by simp (disch := omega) only [go_sem, SpV.fat])
theorem con_fFat (n : Nat) (l : List SpV) (y : ExV) (hl : l.length ≤ 1000) (hb : sbd (-400000) 400000 l) (hy : y.bd (-400000) 400000) : Con Tryz.prog 229 false [.ag [.v (.int .i64 (n)), .sl (l).length (rowA SpV.cs (l))], .ag [.v (.bool (y).s), .sl (lim (y).m).length (ints (lim (y).m)), .v (.int .i64 (y).e)]] [] (isA (.ag [.v (.int .i64 (n)), .sl (l.map fun s => s.fat y).length (rowA SpV.cs (l.map fun s => s.fat y))])) := by
 refine Con.frzA ?_
 have c := con_each n l 277 [.fp [.v (.bool y.s), .sl (lim y.m).length (ints (lim y.m)), .v (.int .i64 y.e)] 0] (fun s => s.fat y) hl (fun x hx => con_fat1 x y (hb x hx) hy) (by simp (disch := omega) only [go_sem]) (fun h => rfl) (fun h => rfl) (fun ks => by simp (disch := omega) only [go_sem]) (fun ρ => rfl)
 generalize l.map (fun s => s.fat y) = L at *
 refine Con.of_aw Tryz.func229 rfl Tryz.ntmps229 (by simp) (by simp) (by simp) (AW.seqLe (E := [(2, .fp [.v (.int .i64 n), .sl l.length (rowA SpV.cs l)] 0), (3, .fp [.v (.bool y.s), .sl (lim y.m).length (ints (lim y.m)), .v (.int .i64 y.e)] 0), (4, .pt 0 0)]) (H := [(0, .own 0 [.v (.int .i64 0), .v (.slice none 0 0)])]) (W.sound ?_) (W.sound ?_))
 ·show @W Tryz.prog 8 ⟨_⟩ ⟨_⟩ _ _
  simp (disch := omega) only [go_sem]
  exact (Le.frz 40000000 (z := 0) (ks := [.v (.int .i64 n), .sl l.length (rowA SpV.cs l)]) (by simp (disch := omega) only [go_sem]) rfl (by simp (disch := omega) only [go_sem])).trans ((Le.frz 50000000 (z := 0) (ks := [.v (.bool y.s), .sl (lim y.m).length (ints (lim y.m)), .v (.int .i64 y.e)]) (by simp (disch := omega) only [go_sem]) rfl (by simp (disch := omega) only [go_sem])).trans (Le.lst [(0, 60000000)] _ _ rfl (by simp (disch := omega) only [go_sem]) (by simp (disch := omega) only [go_sem])))
 show @W Tryz.prog 8 ⟨_⟩ ⟨fun x σ => @retW _ _ _ ⟨_⟩ _ ⟨_⟩ x σ⟩ _ _
 simp (disch := omega) only [go_sem]
 refine call_oI (c) ?_
 simp (disch := omega) only [go_sem]
 exact fin_frz
def fPlus (l l' : List SpV) : List SpV := (List.range l.length).map fun i => (l.getD i sp0).plus (l'.getD i sp0)
theorem fPlus_len {l l' : List SpV} : (fPlus l l').length = l.length := by simp [fPlus]
def fpT (l l' : List SpV) (i : Nat) : List SpV := (List.range i).map fun i => (l.getD i sp0).plus (l'.getD i sp0)
theorem fpT_len {l l' : List SpV} {i : Nat} : (fpT l l' i).length = i := by simp [fpT]
theorem fpT_succ {l l' : List SpV} {i : Nat} : fpT l l' (i + 1) = fpT l l' i ++ [(l.getD i sp0).plus (l'.getD i sp0)] := by simp [fpT, List.range_succ]
set_option maxRecDepth 100000 in
theorem con_fPlus (n : Nat) (l l' : List SpV) (hl : l.length ≤ 1000) (hl' : l'.length = l.length) (hb : sbd (-400000) 400000 l) (hb' : sbd (-400000) 400000 l') : Con Tryz.prog 228 false [.ag [.v (.int .i64 (n)), .sl (l).length (rowA SpV.cs (l))], .ag [.v (.int .i64 (n)), .sl (l').length (rowA SpV.cs (l'))]] [] (isA (.ag [.v (.int .i64 (n)), .sl (fPlus l l').length (rowA SpV.cs (fPlus l l'))])) := by
 refine Con.frzA ?_
 refine Con.of_aw Tryz.func228 rfl Tryz.ntmps228 (by simp) (by simp) (by simp) (W.sound ?_)
 show @W Tryz.prog 33 ⟨_⟩ ⟨fun x σ => @retW _ _ _ ⟨_⟩ _ ⟨_⟩ x σ⟩ _ _
 simp (disch := omega) only [go_sem]
 refine loop_intro (fun i : Nat => [(3, .pt 3 0), (4, .pt 2 0), (5, .pt 0 0), (12, .sl l.length (rowA SpV.cs l)), (13, .v (.int .i64 l.length)), (14, .v (.int .i64 i))])
  (fun i => [(0, .own 0 [.v (.int .i64 n), .rf 1 0 i]), (1, .own 6 (rowA SpV.cs (fpT l l' i))), (2, .own 0 [.v (.int .i64 0), .v (.slice none 0 0)]), (3, .own 0 [.v (.int .i64 n), .sl l'.length (rowA SpV.cs l')])]) (fun i => i ≤ l.length) (fun i => l.length - i) 0 (by omega)
  ((Le.ghostC 70000000 1 1 6 (zo := 0) (cs := [.v (.int .i64 n), .v (.slice none 0 0)]) (by simp (disch := omega) only [go_sem]) rfl (by simp (disch := omega) only [go_sem])).trans (Le.lst [(0, 70000000), (2, 60000000), (3, 50000000)] _ _ rfl (by simp (disch := omega) only [go_sem]) (by simp (disch := omega) only [go_sem, show fpT l l' 0 = [] from rfl, sps_nil, List.set_cons_succ, List.set_cons_zero]))) ?_
 intro i hi
 simp (disch := omega) only [go_sem]
 refine ifW_dec (fun h1 => ?_) (fun h1 => ?_)
 ·have hi2 : i < l.length := by omega
  have hi3 : i < l'.length := by omega
  have hci := sps_get hi2
  have hcj := sps_get hi3
  have hcut := sps_cutK (fpT_len (l := l) (l' := l') (i := i))
  have hml := fpT_len (l := l) (l' := l') (i := i)
  have hs := fpT_succ (l := l) (l' := l') (i := i)
  have hx := sbd_get hb hi2
  have hy := sbd_get hb' hi3
  generalize l.getD i sp0 = x at *
  generalize l'.getD i sp0 = y at *
  simp (disch := omega) only [go_sem, h1, hci]
  refine ⟨by omega, by omega, ?_⟩
  refine draw_of rfl [⟨0, [], []⟩, ⟨1, [], []⟩, ⟨2, [1], []⟩, ⟨3, [1, 2], []⟩, ⟨4, [1, 2], []⟩, ⟨5, [1, 2, 4], []⟩, ⟨6, [1, 2], []⟩, ⟨7, [1, 2], []⟩, ⟨8, [1], []⟩, ⟨9, [1], []⟩, ⟨10, [], []⟩, ⟨11, [], []⟩, ⟨12, [], []⟩] (by kernel_rfl) ?_
  simp (disch := omega) only [go_sem, hcj]
  refine ⟨by omega, by omega, ?_⟩
  refine call_oI (con_spPlus x y hx hy) ?_
  simp (disch := omega) only [go_sem]
  simp (disch := omega) only [go_sem, hcut, sps_snoc]
  refine ⟨⟨by rw [hml]; exact Nat.le_refl _, by omega⟩, next_intro (i + 1) [(1, 310000000)] (by show i + 1 ≤ _; omega) (by show l.length - (i + 1) < l.length - i; omega) rfl (by simp (disch := omega) only [go_sem]; try omega) (by simp (disch := omega) only [go_sem, hs])⟩
 ·simp (disch := omega) only [go_sem, h1]
  obtain rfl : i = l.length := by omega
  have hll : (fPlus l l').length = l.length := fPlus_len
  have hft : fpT l l' l.length = fPlus l l' := rfl
  rw [hft, hll]
  refine fin_intro [(0, 1)] [.own 6 (rowA SpV.cs (fPlus l l'))] [] [.ag [.v (.int .i64 n), .rf 0 0 l.length]] rfl (by simp (disch := omega) only [go_sem]) (by simp (disch := omega) only [go_sem]) (by simp) (by simp) ?_
  show snap _ 6 _ = _
  simp (disch := omega) only [go_sem, rhp_zero, sps_cutK hll]
theorem con_fDiv (n : Nat) (l : List SpV) (k : Nat) (low : Int) (hl : l.length ≤ 1000) (hb : sbd (-100000) 100000 l) (h0 : k ≠ 0) (hk : k < 2 ^ 63) (hlo : -100000 ≤ low ∧ low ≤ 100000) : Con Tryz.prog 227 false [.ag [.v (.int .i64 (n)), .sl (l).length (rowA SpV.cs (l))], .v (.int .i64 k), .v (.int .i64 low)] [] (isA (.ag [.v (.int .i64 (n)), .sl (l.map fun s => s.divd k low).length (rowA SpV.cs (l.map fun s => s.divd k low))])) := by
 refine Con.frzA ?_
 have c := con_each n l 275 [.fp [.v (.bool (exN k).s), .sl (lim (exN k).m).length (ints (lim (exN k).m)), .v (.int .i64 (exN k).e)] 0, .fp [.v (.int .i64 low)] 0] (fun s => s.divd k low) hl (fun x hx => con_divided1 x k low h0 hk (hb x hx) hlo) (by simp (disch := omega) only [go_sem]) (fun h => rfl) (fun h => rfl) (fun ks => by simp (disch := omega) only [go_sem]) (fun ρ => rfl)
 generalize l.map (fun s => s.divd k low) = L at *
 refine Con.of_aw Tryz.func227 rfl Tryz.ntmps227 (by simp) (by simp) (by simp)
  (AW.seqLe (E := [(1, .v (.int .i64 k)), (3, .pt 1 0), (5, .fp [.v (.int .i64 low)] 0), (6, .pt 0 0)]) (H := [(0, .own 0 [.v (.int .i64 0), .v (.slice none 0 0)]), (1, .own 0 [.v (.int .i64 n), .sl l.length (rowA SpV.cs l)])]) (W.sound ?_)
   (AW.seqLe (E := [(3, .pt 1 0), (5, .fp [.v (.int .i64 low)] 0), (6, .pt 0 0), (7, .fp [.v (.bool (exN k).s), .sl (lim (exN k).m).length (ints (lim (exN k).m)), .v (.int .i64 (exN k).e)] 0)]) (H := [(0, .own 0 [.v (.int .i64 0), .v (.slice none 0 0)]), (1, .own 0 [.v (.int .i64 n), .sl l.length (rowA SpV.cs l)])]) (W.sound ?_) (W.sound ?_)))
 ·show @W Tryz.prog 14 ⟨_⟩ ⟨_⟩ _ _
  simp (disch := omega) only [go_sem]
  exact (Le.frz 70000000 (z := 0) (ks := [.v (.int .i64 low)]) (by simp (disch := omega) only [go_sem]) rfl (by simp (disch := omega) only [go_sem])).trans (Le.lst [(0, 80000000), (1, 50000000)] _ _ rfl (by simp (disch := omega) only [go_sem]) (by simp (disch := omega) only [go_sem]))
 ·show @W Tryz.prog 14 ⟨_⟩ ⟨_⟩ _ _
  simp (disch := omega) only [go_sem]
  refine call_oI (con_smallN k hk) ?_
  simp (disch := omega) only [go_sem]
  exact (Le.frz 90000000 (z := 0) (ks := [.v (.bool (exN k).s), .sl (lim (exN k).m).length (ints (lim (exN k).m)), .v (.int .i64 (exN k).e)]) (by simp (disch := omega) only [go_sem, exN]) rfl (by simp (disch := omega) only [go_sem])).trans (Le.lst [] _ _ rfl (by simp (disch := omega) only [go_sem]) (by simp (disch := omega) only [go_sem]))
 show @W Tryz.prog 14 ⟨_⟩ ⟨fun x σ => @retW _ _ _ ⟨_⟩ _ ⟨_⟩ x σ⟩ _ _
 simp (disch := omega) only [go_sem]
 refine call_oI (c) ?_
 simp (disch := omega) only [go_sem]
 exact fin_frz
end Go.Ab
namespace Go.Ab
open Go Go.Proofs
set_option linter.unusedVariables false
set_option linter.unusedSimpArgs false
theorem con_maxFuncL (l : List ExV) (h0 : 0 < l.length) (hl : l.length ≤ 1000) (hb : gbd (-400000) 400000 l) : Con Tryz.prog 176 false [.rf 10000000 0 l.length, .fn 105 []] [.own 3 (rowA ExV.cs l)] (fun r hs bs => r = .ag [.v (.bool (mostL l).s), .sl (lim (mostL l).m).length (ints (lim (mostL l).m)), .v (.int .i64 (mostL l).e)] ∧ hs = [] ∧ bs = [.own 3 (rowA ExV.cs l)]) := by
 have hc0 := exs_get (l := l) (i := 0) h0
 have q1 : decide ((l.length : Int) < 1) = false := decide_eq_false (by omega)
 refine Con.of_aw Tryz.func176 rfl Tryz.ntmps176 (by simp) (by simp) (by simp) (W.sound ?_)
 show @W Tryz.prog 33 ⟨_⟩ ⟨fun x σ => @retW _ _ _ ⟨_⟩ _ ⟨_⟩ x σ⟩ _ _
 simp (disch := omega) only [go_sem, q1, hc0]
 refine ⟨by omega, by omega, ?_⟩
 refine loop_intro (fun x : Nat × ExV => [(0, .rf 10000000 0 l.length), (1, .fn 105 []), (4, .pt 1 0), (5, .pt 0 0), (6, .v (.int .i64 x.1))])
  (fun x => [(0, .own 0 [.v (.bool x.2.s), .sl (lim x.2.m).length (ints (lim x.2.m)), .v (.int .i64 x.2.e)]), (1, .own 0 [.v (.bool false), .v (.slice none 0 0), .v (.int .i64 0)]), (10000000, .own 3 (rowA ExV.cs l))])
  (fun x => 1 ≤ x.1 ∧ x.1 ≤ l.length ∧ x.2 = ((l.take x.1).drop 1).foldl mostF (l.getD 0 ex0)) (fun x => l.length - x.1) (1, l.getD 0 ex0) ⟨by omega, by omega, by simp⟩
  (Le.lst [(0, 70000000), (1, 60000000)] _ _ rfl (by simp (disch := omega) only [go_sem]) (by simp (disch := omega) only [go_sem])) ?_
 rintro ⟨i, m⟩ ⟨h1, hi, hm⟩
 dsimp only at h1 hi hm ⊢
 have hmb : m.bd (-400000) 400000 := by
  rw [hm]; exact fold_bd mostF_or _ _ (gbd_get hb h0) (fun x hx => hb x (List.mem_of_mem_take (List.mem_of_mem_drop hx)))
 simp (disch := omega) only [go_sem]
 refine ifW_dec (fun h2 => ?_) (fun h2 => ?_)
 ·have hi2 : i < l.length := by omega
  have hci := exs_get (l := l) (i := i) hi2
  have hs : mostF m (l.getD i ex0) = ((l.take (i + 1)).drop 1).foldl mostF (l.getD 0 ex0) := by
   rw [drop_take_snoc h1 hi2, List.foldl_append, ← hm]; rfl
  simp (disch := omega) only [go_sem, h2]
  refine draw_of rfl [⟨0, [], []⟩, ⟨1, [], []⟩, ⟨2, [], []⟩, ⟨3, [], []⟩, ⟨4, [], []⟩, ⟨5, [4], []⟩, ⟨6, [], []⟩, ⟨7, [], []⟩] (by kernel_rfl) ?_
  have hg : fnOk Tryz.prog 105 = True := by simp (disch := omega) only [go_sem]
  simp (disch := omega) only [go_sem, hci, hg]
  refine ⟨by omega, by omega, ?_⟩
  refine call_cI (con_cmpV (l.getD i ex0) m (gbd_get hb hi2) hmb) ?_
  simp (disch := omega) only [go_sem]
  generalize l.getD i ex0 = y at *
  refine ifW_dec (fun h3 => ?_) (fun h3 => ?_)
  ·simp (disch := omega) only [go_sem, h3, hci]
   have : mostF m y = y := if_pos h3
   refine ⟨by omega, by omega, next_intro (i + 1, y) [] ⟨by show 1 ≤ i + 1; omega, by show i + 1 ≤ _; omega, this ▸ hs⟩ (by show l.length - (i + 1) < l.length - i; omega) rfl (by simp (disch := omega) only [go_sem]; try omega) (by simp (disch := omega) only [go_sem])⟩
  ·simp (disch := omega) only [go_sem, h3]
   have : mostF m y = m := if_neg h3
   refine next_intro (i + 1, m) [] ⟨by show 1 ≤ i + 1; omega, by show i + 1 ≤ _; omega, this ▸ hs⟩ (by show l.length - (i + 1) < l.length - i; omega) rfl (by simp (disch := omega) only [go_sem]; try omega) (by simp (disch := omega) only [go_sem])
 ·simp (disch := omega) only [go_sem, h2]
  have : i = l.length := by omega
  subst this
  rw [List.take_length] at hm
  subst hm
  refine fin_intro [] [] [.own 3 (rowA ExV.cs l)] [.ag [.v (.bool (mostL l).s), .sl (lim (mostL l).m).length (ints (lim (mostL l).m)), .v (.int .i64 (mostL l).e)]] rfl (by simp (disch := omega) only [go_sem, mostL]) (by simp (disch := omega) only [go_sem]) (by simp) (by simp) ⟨rfl, rfl, rfl⟩
theorem con_mostN (l : List ExV) (h0 : 0 < l.length) (hl : l.length ≤ 1000) (hb : gbd (-400000) 400000 l) : Con Tryz.prog 93 false [.rf 10000000 0 l.length] [.own 3 (rowA ExV.cs l)] (fun r hs bs => r = .ag [.v (.bool (mostL l).s), .sl (lim (mostL l).m).length (ints (lim (mostL l).m)), .v (.int .i64 (mostL l).e)] ∧ hs = [] ∧ bs = [.own 3 (rowA ExV.cs l)]) := by
 refine Con.of_aw Tryz.func93 rfl Tryz.ntmps93 (by simp) (by simp) (by simp) (W.sound ?_)
 show @W Tryz.prog 5 ⟨_⟩ ⟨fun x σ => @retW _ _ _ ⟨_⟩ _ ⟨_⟩ x σ⟩ _ _
 simp (disch := omega) only [go_sem]
 refine call_lend false [10000000] (con_maxFuncL l h0 hl hb) (by simp (disch := omega) only [go_sem]) (by simp (disch := omega) only [go_sem]) rfl (lend_cons (z := 3) (cs := rowA ExV.cs l) (by simp (disch := omega) only [go_sem]) (by simp (disch := omega) only [go_sem])) (by intro n hn; exact ⟨_, List.mem_cons_self .., by rw [List.mem_singleton.1 hn]; rfl⟩) ?_
 rintro r hs bs ⟨rfl, rfl, rfl⟩ -
 refine ⟨by simp [freeN], ?_⟩
 simp (disch := omega) only [go_sem]
 refine fin_intro [] [] [.own 3 (rowA ExV.cs l)] [.ag [.v (.bool (mostL l).s), .sl (lim (mostL l).m).length (ints (lim (mostL l).m)), .v (.int .i64 (mostL l).e)]] rfl (by simp (disch := omega) only [go_sem]) (by simp (disch := omega) only [go_sem]) (by simp) (by simp) ⟨rfl, rfl, rfl⟩
def colF (n : Nat) (l : List ExV) (j k : Nat) : ExV := (List.range k).foldl (fun s i => s.plus (l.getD (i * n + j) ex0).abs) ex0
theorem colF_succ (n : Nat) (l : List ExV) (j k : Nat) : colF n l j (k + 1) = (colF n l j k).plus (l.getD (k * n + j) ex0).abs := by
 unfold colF; rw [List.range_succ, List.foldl_append, List.foldl_cons, List.foldl_nil]
theorem colF_bd {lo hi : Int} {n : Nat} {l : List ExV} {j k : Nat} (hj : j < n) (hk : k ≤ n) (hl : l.length = n * n) (hb : gbd lo hi l) (h0 : lo ≤ 0 ∧ 0 ≤ hi) : (colF n l j k).bd lo (hi + k) :=
 foldl_bd _ h0 k fun t ht => ExV.abs_bd (gbd_get hb (by rw [hl]; exact idx_lt (by omega) hj))
def normF (n : Nat) (l : List ExV) (k : Nat) : ExV := (List.range k).foldl (fun s j => mostL [s, colF n l j n]) ex0
theorem normF_succ (n : Nat) (l : List ExV) (k : Nat) : normF n l (k + 1) = mostL [normF n l k, colF n l k n] := by
 unfold normF; rw [List.range_succ, List.foldl_append, List.foldl_cons, List.foldl_nil]
theorem normF_bd {lo hi : Int} {n : Nat} {l : List ExV} (hl : l.length = n * n) (hb : gbd lo hi l) (h0 : lo ≤ 0 ∧ 0 ≤ hi) : ∀ k, k ≤ n → (normF n l k).bd lo (hi + n)
 | 0, _ => ex0_bd h0.1 (by omega)
 | k + 1, h => by
  rw [normF_succ]
  refine mostL_bd (fun x hx => ?_) (by simp)
  simp only [List.mem_cons, List.not_mem_nil, or_false] at hx
  rcases hx with rfl | rfl
  ·exact normF_bd hl hb h0 k (by omega)
  ·exact colF_bd (by omega) (Nat.le_refl _) hl hb h0
set_option maxRecDepth 100000 in
theorem con_norm (n : Nat) (l : List ExV) (hn : n ≤ 4) (hl : l.length = n * n) (hb : gbd (-390000) 390000 l) : Con Tryz.prog 78 false [.ag [.v (.int .i64 (n)), .sl (l).length (rowA ExV.cs (l))]] [] (isA (.ag [.v (.bool (normF n l n).s), .sl (lim (normF n l n).m).length (ints (lim (normF n l n).m)), .v (.int .i64 (normF n l n).e)])) := by
 refine Con.frzA ?_
 have hq := sq_le hn
 refine Con.of_aw Tryz.func78 rfl Tryz.ntmps78 (by simp) (by simp) (by simp) (AW.seqLe (E := [(1, .fp [.v (.int .i64 n), .sl l.length (rowA ExV.cs l)] 0), (2, .pt 0 0)]) (H := [(0, .own 0 [.v (.bool false), .v (.slice none 0 0), .v (.int .i64 0)])]) (W.sound ?_) (W.sound ?_))
 ·show @W Tryz.prog 31 ⟨_⟩ ⟨_⟩ _ _
  simp (disch := omega) only [go_sem]
  exact (Le.frz 30000000 (z := 0) (ks := [.v (.int .i64 n), .sl l.length (rowA ExV.cs l)]) (by simp (disch := omega) only [go_sem]) rfl (by simp (disch := omega) only [go_sem])).trans (Le.lst [(0, 40000000)] _ _ rfl (by simp (disch := omega) only [go_sem]) (by simp (disch := omega) only [go_sem]))
 show @W Tryz.prog 31 ⟨_⟩ ⟨fun x σ => @retW _ _ _ ⟨_⟩ _ ⟨_⟩ x σ⟩ _ _
 simp (disch := omega) only [go_sem]
 refine loop_intro (fun j : Nat => [(1, .fp [.v (.int .i64 n), .sl l.length (rowA ExV.cs l)] 0), (2, .pt 0 0), (3, .pt 1 0), (8, .v (.int .i64 n)), (9, .v (.int .i64 j))])
  (fun j => [(0, .own 0 [.v (.bool false), .v (.slice none 0 0), .v (.int .i64 0)]), (1, .own 0 [.v (.bool (normF n l j).s), .sl (lim (normF n l j).m).length (ints (lim (normF n l j).m)), .v (.int .i64 (normF n l j).e)])]) (fun j => j ≤ n) (fun j => n - j) 0 (by omega)
  ((Le.nilC 50000000 1 (zo := 0) (cs := [.v (.bool false), .v (.slice none 0 0), .v (.int .i64 0)]) (by simp (disch := omega) only [go_sem]) rfl).trans (Le.lst [(1, 50000000)] _ _ rfl (by simp (disch := omega) only [go_sem]) (by simp (disch := omega) only [go_sem, List.set_cons_succ, List.set_cons_zero, show normF n l 0 = ex0 from rfl, ex0, lim_zero]))) ?_
 intro j hj
 have hN := normF_bd hl hb (by omega) j hj
 have hNs := normF_succ n l j
 generalize hNN : normF n l j = A at *
 simp (disch := omega) only [go_sem]
 refine ifW_dec (fun h1 => ?_) (fun h1 => ?_)
 ·simp (disch := omega) only [go_sem, h1]
  refine loop_intro (fun k : Nat => [(1, .fp [.v (.int .i64 n), .sl l.length (rowA ExV.cs l)] 0), (2, .pt 0 0), (3, .pt 1 0), (4, .v (.int .i64 j)), (5, .pt 2 0), (8, .v (.int .i64 n)), (9, .v (.int .i64 j)), (13, .v (.int .i64 n)), (14, .v (.int .i64 k))])
   (fun k => [(0, .own 0 [.v (.bool false), .v (.slice none 0 0), .v (.int .i64 0)]), (1, .own 0 [.v (.bool A.s), .sl (lim A.m).length (ints (lim A.m)), .v (.int .i64 A.e)]), (2, .own 0 [.v (.bool (colF n l j k).s), .sl (lim (colF n l j k).m).length (ints (lim (colF n l j k).m)), .v (.int .i64 (colF n l j k).e)])]) (fun k => k ≤ n) (fun k => n - k) 0 (by omega)
   ((Le.nilC 70000000 1 (zo := 0) (cs := [.v (.bool false), .v (.slice none 0 0), .v (.int .i64 0)]) (by simp (disch := omega) only [go_sem]) rfl).trans (Le.lst [(2, 70000000)] _ _ rfl (by simp (disch := omega) only [go_sem]) (by simp (disch := omega) only [go_sem, List.set_cons_succ, List.set_cons_zero, show colF n l j 0 = ex0 from rfl, ex0, lim_zero]))) ?_
  intro k hk
  have hC := colF_bd (k := k) (show j < n by omega) hk hl hb (by omega)
  have hCs := colF_succ n l j k
  generalize hCC : colF n l j k = D at *
  simp (disch := omega) only [go_sem]
  refine ifW_dec (fun h2 => ?_) (fun h2 => ?_)
  ·have hx := idx_lt (show k < n by omega) (show j < n by omega)
   have c1 := con_at n l k j (by omega) (by omega) (by omega) (by omega) (by omega)
   have b1 := gbd_get hb (show k * n + j < l.length by omega)
   generalize l.getD (k * n + j) ex0 = x at *
   simp (disch := omega) only [go_sem, h2]
   refine draw_of rfl [⟨0, [], []⟩, ⟨1, [0], []⟩, ⟨2, [0, 1], []⟩, ⟨3, [0, 1], []⟩, ⟨4, [0], []⟩, ⟨5, [0], []⟩, ⟨6, [], []⟩, ⟨7, [], []⟩] (by kernel_rfl) ?_
   simp (disch := omega) only [go_sem]
   refine call_oI (c1) ?_
   simp (disch := omega) only [go_sem]
   refine call_oI (con_absV x) ?_
   simp (disch := omega) only [go_sem]
   refine call_oI (con_plusV D x.abs (hC.mono (by omega) (by omega)) (ExV.abs_bd (b1.mono (by omega) (by omega)))) ?_
   simp (disch := omega) only [go_sem]
   exact next_intro (k + 1) [] (by show k + 1 ≤ _; omega) (by show n - (k + 1) < n - k; omega) rfl (by simp (disch := omega) only [go_sem]; try omega) (by simp (disch := omega) only [go_sem, hCs])
  ·obtain rfl : n = k := by omega
   rw [hCC] at hNs
   simp (disch := omega) only [go_sem, h2]
   have hrow : ([.v (.bool A.s), .sl (lim A.m).length (ints (lim A.m)), .v (.int .i64 A.e), .v (.bool D.s), .sl (lim D.m).length (ints (lim D.m)), .v (.int .i64 D.e)] : List AV) = rowA ExV.cs [A, D] := rfl
   rw [hrow]
   refine call_lend false [290000000] (con_mostN [A, D] (by simp) (by simp) (fun x hx => ?_)) (by simp (disch := omega) only [go_sem]) (by simp (disch := omega) only [go_sem]) rfl (lend_cons (z := 3) (cs := rowA ExV.cs [A, D]) (by simp (disch := omega) only [go_sem]) (by simp (disch := omega) only [go_sem])) (by intro n hn; exact ⟨_, List.mem_cons_self .., by rw [List.mem_singleton.1 hn]; rfl⟩) ?_
   ·simp only [List.mem_cons, List.not_mem_nil, or_false] at hx
    rcases hx with rfl | rfl
    ·exact hN.mono (by omega) (by omega)
    ·exact hC.mono (by omega) (by omega)
   rintro r hs bs ⟨rfl, rfl, rfl⟩ -
   refine ⟨by simp [freeN], ?_⟩
   simp (disch := omega) only [go_sem]
   exact next_intro (j + 1) [] (by show j + 1 ≤ _; omega) (by show n - (j + 1) < n - j; omega) rfl (by simp (disch := omega) only [go_sem]; try omega) (by simp (disch := omega) only [go_sem, hNs])
 ·simp (disch := omega) only [go_sem, h1]
  obtain rfl : n = j := by omega
  rw [hNN]
  exact fin_frz
end Go.Ab
namespace Go.Ab
open Go Go.Proofs
set_option linter.unusedVariables false
set_option linter.unusedSimpArgs false
def ExV.can (x : ExV) : ExV := ⟨oS x.s x.m, oM x.m, oE x.m x.e⟩
def ExV.fit (x : ExV) : Bool := dyFit x.m x.e
def SpV.can (s : SpV) : SpV := ⟨s.lo.can, s.hi.can⟩
def SpV.fit (s : SpV) : Bool := s.lo.fit && s.hi.fit
theorem con_dyV (x : ExV) (hx : x.bd (-400000) 400000) : Con Tryz.prog 68 false [.ag [.v (.bool (x).s), .sl (lim (x).m).length (ints (lim (x).m)), .v (.int .i64 (x).e)]] [] (isA (if x.fit = true then .tu [.ag [.v (.bool (x.can).s), .sl (lim (x.can).m).length (ints (lim (x.can).m)), .v (.int .i64 (x.can).e)], .v (.bool true)] else .tu [.ag [.v (.bool (false)), .sl (lim (0)).length (ints (lim (0))), .v (.int .i64 (0))], .v (.bool false)])) := by
 obtain ⟨a1, a2, a3⟩ := hx
 exact con_dyX x.s x.m x.e (by omega) (by omega)
set_option maxRecDepth 100000 in
theorem con_dysOf (l : List ExV) (hl : l.length ≤ 1000) (hb : gbd (-400000) 400000 l) : Con Tryz.prog 166 false [.sl l.length (rowA ExV.cs l)] []
  (isA (if l.all ExV.fit = true then .tu [.sl l.length (rowA ExV.cs (l.map ExV.can)), .v (.bool true)] else .tu [.sl 0 [], .v (.bool false)])) := by
 refine Con.frzA ?_
 refine Con.of_aw Tryz.func166 rfl Tryz.ntmps166 (by simp) (by simp) (by simp) (W.sound ?_)
 show @W Tryz.prog 28 ⟨_⟩ ⟨fun x σ => @retW _ _ _ ⟨_⟩ _ ⟨_⟩ x σ⟩ _ _
 simp (disch := omega) only [go_sem]
 refine loop_intro (fun i : Nat => [(2, .v (.slice none 0 0)), (3, .v (.bool false)), (4, .rf 1 0 i), (9, .sl l.length (rowA ExV.cs l)), (10, .v (.int .i64 l.length)), (11, .v (.int .i64 i))])
  (fun i => [(1, .own 3 (rowA ExV.cs (mpT l ExV.can i)))]) (fun i => i ≤ l.length ∧ ∀ x ∈ l.take i, x.fit = true) (fun i => l.length - i) 0 ⟨by omega, by simp⟩
  ((Le.ghost 4 1 3 (by simp (disch := omega) only [go_sem]) (by simp (disch := omega) only [go_sem])).trans (Le.lst [] _ _ rfl (by simp (disch := omega) only [go_sem]) (by simp (disch := omega) only [go_sem, mpT_zero, exs_nil]))) ?_
 rintro i ⟨hi, hf⟩
 simp (disch := omega) only [go_sem]
 refine ifW_dec (fun h1 => ?_) (fun h1 => ?_)
 ·have hi2 : i < l.length := by omega
  have hci := exs_get hi2
  have hcut := exs_cutK (mpT_len (F := ExV.can) hi)
  have hml := mpT_len (F := ExV.can) hi
  have hs := mpT_succ (F := ExV.can) ex0 hi2
  have hx := gbd_get hb hi2
  have hmem : l.getD i ex0 ∈ l := by rw [List.getD_eq_getElem?_getD, List.getElem?_eq_getElem hi2]; exact List.getElem_mem _
  have htk : l.take (i + 1) = l.take i ++ [l.getD i ex0] := by
   rw [List.take_add_one, List.getElem?_eq_getElem hi2, List.getD_eq_getElem?_getD, List.getElem?_eq_getElem hi2]; rfl
  generalize l.getD i ex0 = x at *
  have cd := con_dyV x hx
  simp (disch := omega) only [go_sem, h1, hci]
  refine ⟨by omega, by omega, ?_⟩
  cases hft : x.fit
  ·have hall : l.all ExV.fit = false := by rw [List.all_eq_false]; exact ⟨x, hmem, by rw [hft]; simp⟩
   rw [hft, if_neg (by simp)] at cd
   rw [hall, if_neg (by simp)]
   refine call_oI (cd) ?_
   simp (disch := omega) only [go_sem]
   exact fin_frz
  ·rw [hft, if_pos rfl] at cd
   refine call_oI (cd) ?_
   simp (disch := omega) only [go_sem]
   simp (disch := omega) only [go_sem, hcut, exs_snoc]
   refine ⟨⟨by rw [hml]; exact Nat.le_refl _, by omega⟩, next_intro (i + 1) [(1, 270000000)] ⟨by show i + 1 ≤ _; omega, fun y hy => ?_⟩ (by show l.length - (i + 1) < l.length - i; omega) rfl (by simp (disch := omega) only [go_sem]; try omega) (by simp (disch := omega) only [go_sem, hs])⟩
   rw [htk] at hy
   rcases List.mem_append.1 hy with h | h
   ·exact hf y h
   ·rw [List.mem_singleton.1 h]; exact hft
 ·simp (disch := omega) only [go_sem, h1]
  obtain rfl : i = l.length := by omega
  rw [List.take_length] at hf
  have hall : l.all ExV.fit = true := List.all_eq_true.2 hf
  rw [hall, if_pos rfl]
  refine fin_intro [(0, 1)] [.own 3 (rowA ExV.cs (mpT l ExV.can l.length))] [] [.rf 0 0 l.length, .v (.bool true)] rfl (by simp (disch := omega) only [go_sem]) (by simp (disch := omega) only [go_sem]) (by simp) (by simp) ?_
  show snap _ 6 _ = _
  simp (disch := omega) only [go_sem, snap_tu, rhp_zero, mpT_all, exs_cutK (l := l.map ExV.can) (k := l.length) (List.length_map ..)]
theorem con_mat (n : Nat) (l : List ExV) (hl : l.length ≤ 1000) (hb : gbd (-400000) 400000 l) : Con Tryz.prog 81 false [.ag [.v (.int .i64 (n)), .sl (l).length (rowA ExV.cs (l))]] []
  (isA (if l.all ExV.fit = true then .tu [.ag [.v (.int .i64 n), .sl l.length (rowA ExV.cs (l.map ExV.can))], .v (.bool true)] else .tu [.ag [.v (.int .i64 0), .sl 0 []], .v (.bool false)])) := by
 refine Con.frzA ?_
 have cd := con_dysOf l hl hb
 generalize l.map ExV.can = L at *
 cases hf : l.all ExV.fit
 ·rw [hf, if_neg (by simp)] at cd
  rw [if_neg (by simp)]
  refine Con.of_w (rs := [.cell 2 42, .tmp 3]) Tryz.func81 rfl Tryz.ntmps81 rfl ?_
  simp (disch := omega) only [go_sem]
  refine call_oI (cd) ?_
  simp (disch := omega) only [go_sem]
  exact fin_frz
 ·rw [hf, if_pos rfl] at cd
  rw [if_pos rfl]
  refine Con.of_w (rs := [.cell 2 42, .tmp 3]) Tryz.func81 rfl Tryz.ntmps81 rfl ?_
  simp (disch := omega) only [go_sem]
  refine call_oI (cd) ?_
  simp (disch := omega) only [go_sem]
  exact fin_frz
theorem con_withNumber (n : Nat) (l : List ExV) (x : ExV) (hl : l.length ≤ 1000) (hb : gbd (-400000) 400000 l) (hx : x.bd (-400000) 400000) : Con Tryz.prog 154 false [.ag [.v (.int .i64 (n)), .sl (l).length (rowA ExV.cs (l))], .ag [.v (.bool (x).s), .sl (lim (x).m).length (ints (lim (x).m)), .v (.int .i64 (x).e)]] []
  (isA (if (l.all ExV.fit && x.fit) = true then .tu [.ag [.v (.int .i64 n), .sl l.length (rowA ExV.cs (l.map ExV.can))], .ag [.v (.bool (x.can).s), .sl (lim (x.can).m).length (ints (lim (x.can).m)), .v (.int .i64 (x.can).e)], .v (.bool true)] else .tu [.ag [.v (.int .i64 0), .sl 0 []], .ag [.v (.bool (false)), .sl (lim (0)).length (ints (lim (0))), .v (.int .i64 (0))], .v (.bool false)])) := by
 refine Con.frzA ?_
 have cd := con_mat n l hl hb
 have cx := con_dyV x hx
 generalize l.map ExV.can = L at *
 cases hf : l.all ExV.fit <;> cases hg : x.fit
 ·rw [hf, if_neg (by simp)] at cd
  rw [hg, if_neg (by simp)] at cx
  rw [if_neg (by simp)]
  refine Con.of_w (rs := [.cell 4 42, .cell 5 29, .tmp 6]) Tryz.func154 rfl Tryz.ntmps154 rfl ?_
  simp (disch := omega) only [go_sem]
  refine call_oI (cd) ?_
  simp (disch := omega) only [go_sem]
  refine call_oI (cx) ?_
  simp (disch := omega) only [go_sem]
  exact fin_frz (hp := by simp (disch := omega) only [go_sem, lim_zero, List.length_nil, ints_nil])
 ·rw [hf, if_neg (by simp)] at cd
  rw [hg, if_pos rfl] at cx
  rw [if_neg (by simp)]
  refine Con.of_w (rs := [.cell 4 42, .cell 5 29, .tmp 6]) Tryz.func154 rfl Tryz.ntmps154 rfl ?_
  simp (disch := omega) only [go_sem]
  refine call_oI (cd) ?_
  simp (disch := omega) only [go_sem]
  refine call_oI (cx) ?_
  simp (disch := omega) only [go_sem]
  exact fin_frz (hp := by simp (disch := omega) only [go_sem, lim_zero, List.length_nil, ints_nil])
 ·rw [hf, if_pos rfl] at cd
  rw [hg, if_neg (by simp)] at cx
  rw [if_neg (by simp)]
  refine Con.of_w (rs := [.cell 4 42, .cell 5 29, .tmp 6]) Tryz.func154 rfl Tryz.ntmps154 rfl ?_
  simp (disch := omega) only [go_sem]
  refine call_oI (cd) ?_
  simp (disch := omega) only [go_sem]
  refine call_oI (cx) ?_
  simp (disch := omega) only [go_sem]
  exact fin_frz (hp := by simp (disch := omega) only [go_sem, lim_zero, List.length_nil, ints_nil])
 ·rw [hf, if_pos rfl] at cd
  rw [hg, if_pos rfl] at cx
  rw [if_pos (by rfl)]
  refine Con.of_w (rs := [.cell 4 42, .cell 5 29, .tmp 6]) Tryz.func154 rfl Tryz.ntmps154 rfl ?_
  simp (disch := omega) only [go_sem]
  refine call_oI (cd) ?_
  simp (disch := omega) only [go_sem]
  refine call_oI (cx) ?_
  simp (disch := omega) only [go_sem]
  refine draw_of rfl [⟨0, [], []⟩, ⟨1, [0], []⟩, ⟨2, [1], []⟩, ⟨3, [], []⟩, ⟨4, [], []⟩] (by kernel_rfl) ?_
  simp (disch := omega) only [go_sem]
  exact fin_frz
theorem con_spIvC (s : SpV) (hs : s.bd (-400000) 400000) : Con Tryz.prog 91 false [.ag [.v (.bool (s).lo.s), .sl (lim (s).lo.m).length (ints (lim (s).lo.m)), .v (.int .i64 (s).lo.e), .v (.bool (s).hi.s), .sl (lim (s).hi.m).length (ints (lim (s).hi.m)), .v (.int .i64 (s).hi.e)]] []
  (isA (if s.fit = true then .tu [.ag [.v (.bool (s.can).lo.s), .sl (lim (s.can).lo.m).length (ints (lim (s.can).lo.m)), .v (.int .i64 (s.can).lo.e), .v (.bool (s.can).hi.s), .sl (lim (s.can).hi.m).length (ints (lim (s.can).hi.m)), .v (.int .i64 (s.can).hi.e)], .v (.bool true)] else .tu [.ag [.v (.bool (sp0).lo.s), .sl (lim (sp0).lo.m).length (ints (lim (sp0).lo.m)), .v (.int .i64 (sp0).lo.e), .v (.bool (sp0).hi.s), .sl (lim (sp0).hi.m).length (ints (lim (sp0).hi.m)), .v (.int .i64 (sp0).hi.e)], .v (.bool false)])) := by
 refine Con.frzA ?_
 have c1 := con_dyV s.lo hs.1
 have c2 := con_dyV s.hi hs.2
 unfold SpV.fit
 cases h1 : s.lo.fit <;> cases h2 : s.hi.fit
 ·rw [h1, if_neg (by simp)] at c1
  rw [h2, if_neg (by simp)] at c2
  rw [if_neg (by simp)]
  refine Con.of_w (rs := [.cell 2 50, .tmp 3]) Tryz.func91 rfl Tryz.ntmps91 rfl ?_
  simp (disch := omega) only [go_sem]
  refine call_oI (c1) ?_
  simp (disch := omega) only [go_sem]
  refine call_oI (c2) ?_
  simp (disch := omega) only [go_sem]
  exact fin_frz (hp := by simp (disch := omega) only [go_sem, sp0, ex0, lim_zero, List.length_nil, ints_nil])
 ·rw [h1, if_neg (by simp)] at c1
  rw [h2, if_pos rfl] at c2
  rw [if_neg (by simp)]
  refine Con.of_w (rs := [.cell 2 50, .tmp 3]) Tryz.func91 rfl Tryz.ntmps91 rfl ?_
  simp (disch := omega) only [go_sem]
  refine call_oI (c1) ?_
  simp (disch := omega) only [go_sem]
  refine call_oI (c2) ?_
  simp (disch := omega) only [go_sem]
  exact fin_frz (hp := by simp (disch := omega) only [go_sem, sp0, ex0, lim_zero, List.length_nil, ints_nil])
 ·rw [h1, if_pos rfl] at c1
  rw [h2, if_neg (by simp)] at c2
  rw [if_neg (by simp)]
  refine Con.of_w (rs := [.cell 2 50, .tmp 3]) Tryz.func91 rfl Tryz.ntmps91 rfl ?_
  simp (disch := omega) only [go_sem]
  refine call_oI (c1) ?_
  simp (disch := omega) only [go_sem]
  refine call_oI (c2) ?_
  simp (disch := omega) only [go_sem]
  exact fin_frz (hp := by simp (disch := omega) only [go_sem, sp0, ex0, lim_zero, List.length_nil, ints_nil])
 ·rw [h1, if_pos rfl] at c1
  rw [h2, if_pos rfl] at c2
  rw [if_pos (by rfl)]
  refine Con.of_w (rs := [.cell 2 50, .tmp 3]) Tryz.func91 rfl Tryz.ntmps91 rfl ?_
  simp (disch := omega) only [go_sem]
  refine call_oI (c1) ?_
  simp (disch := omega) only [go_sem]
  refine call_oI (c2) ?_
  simp (disch := omega) only [go_sem]
  exact fin_frz (hp := by simp (disch := omega) only [go_sem, SpV.can])
set_option maxRecDepth 100000 in
theorem con_ivMat (n : Nat) (l : List SpV) (hl : l.length ≤ 1000) (hb : sbd (-400000) 400000 l) : Con Tryz.prog 149 false [.ag [.v (.int .i64 (n)), .sl (l).length (rowA SpV.cs (l))]] []
  (isA (if l.all SpV.fit = true then .tu [.ag [.v (.int .i64 n), .sl l.length (rowA SpV.cs (l.map SpV.can))], .v (.bool true)] else .tu [.ag [.v (.int .i64 0), .sl 0 []], .v (.bool false)])) := by
 refine Con.frzA ?_
 refine Con.of_aw Tryz.func149 rfl Tryz.ntmps149 (by simp) (by simp) (by simp) (W.sound ?_)
 show @W Tryz.prog 35 ⟨_⟩ ⟨fun x σ => @retW _ _ _ ⟨_⟩ _ ⟨_⟩ x σ⟩ _ _
 simp (disch := omega) only [go_sem]
 refine loop_intro (fun i : Nat => [(2, .pt 2 0), (3, .v (.bool false)), (4, .pt 0 0), (13, .sl l.length (rowA SpV.cs l)), (14, .v (.int .i64 l.length)), (15, .v (.int .i64 i))])
  (fun i => [(0, .own 0 [.v (.int .i64 n), .rf 1 0 i]), (1, .own 6 (rowA SpV.cs (mpT l SpV.can i))), (2, .own 0 [.v (.int .i64 0), .v (.slice none 0 0)])]) (fun i => i ≤ l.length ∧ ∀ x ∈ l.take i, x.fit = true) (fun i => l.length - i) 0 ⟨by omega, by simp⟩
  ((Le.ghostC 60000000 1 1 6 (zo := 0) (cs := [.v (.int .i64 n), .v (.slice none 0 0)]) (by simp (disch := omega) only [go_sem]) rfl (by simp (disch := omega) only [go_sem])).trans (Le.lst [(0, 60000000), (2, 40000000)] _ _ rfl (by simp (disch := omega) only [go_sem]) (by simp (disch := omega) only [go_sem, mpT_zero, sps_nil, List.set_cons_succ, List.set_cons_zero]))) ?_
 rintro i ⟨hi, hf⟩
 simp (disch := omega) only [go_sem]
 refine ifW_dec (fun h1 => ?_) (fun h1 => ?_)
 ·have hi2 : i < l.length := by omega
  have hci := sps_get hi2
  have hcut := sps_cutK (mpT_len (F := SpV.can) hi)
  have hml := mpT_len (F := SpV.can) hi
  have hs := mpT_succ (F := SpV.can) sp0 hi2
  have hx := sbd_get hb hi2
  have hmem : l.getD i sp0 ∈ l := by rw [List.getD_eq_getElem?_getD, List.getElem?_eq_getElem hi2]; exact List.getElem_mem _
  have htk : l.take (i + 1) = l.take i ++ [l.getD i sp0] := by
   rw [List.take_add_one, List.getElem?_eq_getElem hi2, List.getD_eq_getElem?_getD, List.getElem?_eq_getElem hi2]; rfl
  generalize l.getD i sp0 = x at *
  have cd := con_spIvC x hx
  simp (disch := omega) only [go_sem, h1, hci]
  refine ⟨by omega, by omega, ?_⟩
  cases hft : x.fit
  ·have hall : l.all SpV.fit = false := by rw [List.all_eq_false]; exact ⟨x, hmem, by rw [hft]; simp⟩
   rw [hft, if_neg (by simp)] at cd
   rw [hall, if_neg (by simp)]
   refine call_oI (cd) ?_
   simp (disch := omega) only [go_sem]
   exact fin_frz
  ·rw [hft, if_pos rfl] at cd
   refine call_oI (cd) ?_
   simp (disch := omega) only [go_sem]
   simp (disch := omega) only [go_sem, hcut, sps_snoc]
   refine ⟨⟨by rw [hml]; exact Nat.le_refl _, by omega⟩, next_intro (i + 1) [(1, 330000000)] ⟨by show i + 1 ≤ _; omega, fun y hy => ?_⟩ (by show l.length - (i + 1) < l.length - i; omega) rfl (by simp (disch := omega) only [go_sem]; try omega) (by simp (disch := omega) only [go_sem, hs])⟩
   rw [htk] at hy
   rcases List.mem_append.1 hy with h | h
   ·exact hf y h
   ·rw [List.mem_singleton.1 h]; exact hft
 ·simp (disch := omega) only [go_sem, h1]
  obtain rfl : i = l.length := by omega
  rw [List.take_length] at hf
  have hall : l.all SpV.fit = true := List.all_eq_true.2 hf
  rw [hall, if_pos rfl]
  refine fin_intro [(0, 1)] [.own 6 (rowA SpV.cs (mpT l SpV.can l.length))] [] [.ag [.v (.int .i64 n), .rf 0 0 l.length], .v (.bool true)] rfl (by simp (disch := omega) only [go_sem]) (by simp (disch := omega) only [go_sem]) (by simp) (by simp) ?_
  show snap _ 6 _ = _
  simp (disch := omega) only [go_sem, snap_tu, rhp_zero, mpT_all, sps_cutK (l := l.map SpV.can) (k := l.length) (List.length_map ..)]
end Go.Ab
namespace Go.Ab
open Go Go.Proofs
set_option linter.unusedVariables false
set_option linter.unusedSimpArgs false
def fct : Nat → Nat
 | 0 => 1
 | n + 1 => (n + 1) * fct n
theorem fct_bl : ∀ n, n ≤ 500 → bl (fct n) ≤ 9 * n + 1
 | 0, _ => by decide
 | n + 1, h => by
  have h1 := fct_bl n (by omega)
  have h2 := bl_mulle (n + 1) (fct n)
  have h3 : bl (n + 1) ≤ 9 := bl_le.2 (by omega)
  show bl ((n + 1) * fct n) ≤ _
  omega
theorem fct_pos : ∀ n, 0 < fct n
 | 0 => by decide
 | n + 1 => Nat.mul_pos (by omega) (fct_pos n)
theorem con_fact (n : Nat) (hn : n ≤ 402) : Con Tryz.prog 271 false [.v (.int .i64 n)] [] (isA (.sl (lim (fct n)).length (ints (lim (fct n))))) := by
 refine Con.frzA ?_
 refine Con.of_w (rs := [.tmp 2]) Tryz.func271 rfl Tryz.ntmps271 rfl ?_
 simp (disch := omega) only [go_sem]
 refine call_oI (con_smallN 1 (by omega)) ?_
 simp (disch := omega) only [go_sem]
 by_cases h1 : n ≤ 1
 ·have e1 : fct n = 1 := by
   rcases (by omega : n = 0 ∨ n = 1) with rfl | rfl <;> rfl
  rw [e1]
  refine loop_intro (fun _ : Nat => [(0, .v (.int .i64 n)), (2, .v (.slice none 0 0)), (3, .sl (lim (1)).length (ints (lim (1)))), (4, .v (.int .i64 2))]) (fun _ => []) (fun _ => True) (fun _ => 0) 0 trivial (Le.lst [] _ _ rfl (by simp (disch := omega) only [go_sem]) (by simp (disch := omega) only [go_sem])) ?_
  intro _ _
  simp (disch := omega) only [go_sem]
  have q : decide ((2 : Int) ≤ (n : Int)) = false := decide_eq_false (by omega)
  simp (disch := omega) only [go_sem, q]
  exact fin_frz
 ·refine loop_intro (fun k : Nat => [(0, .v (.int .i64 n)), (2, .v (.slice none 0 0)), (3, .sl (lim (fct k)).length (ints (lim (fct k)))), (4, .v (.int .i64 ((k : Int) + 1)))]) (fun _ => []) (fun k => 1 ≤ k ∧ k ≤ n) (fun k => n - k) 1 (by omega) (Le.lst [] _ _ rfl (by simp (disch := omega) only [go_sem, show fct 1 = 1 from rfl, show ((1 : Nat) : Int) + 1 = 2 from rfl]; try rfl) (by simp (disch := omega) only [go_sem])) ?_
  rintro k ⟨hk1, hk⟩
  simp (disch := omega) only [go_sem]
  refine ifW_dec (fun h2 => ?_) (fun h2 => ?_)
  ·simp (disch := omega) only [go_sem, h2]
   have e1 : (k : Int) + 1 = ((k + 1 : Nat) : Int) := by omega
   have l1 := len_bl (fct_bl k (by omega))
   have l2 := len_bl (m := k + 1) (B := 9) (bl_le.2 (by omega))
   have cs := con_smallN (k + 1) (by omega)
   rw [← e1] at cs
   refine call_oI (cs) ?_
   simp (disch := omega) only [go_sem]
   refine call_oI (con_timesN (fct k) (k + 1) (by omega) (by omega)) ?_
   simp (disch := omega) only [go_sem]
   have e2 : fct k * (k + 1) = fct (k + 1) := Nat.mul_comm _ _
   exact next_intro (k + 1) [] ⟨by omega, by omega⟩ (by show n - (k + 1) < n - k; omega) rfl (by simp (disch := omega) only [go_sem, e2]; try omega) (by simp (disch := omega) only [go_sem])
  ·simp (disch := omega) only [go_sem, h2]
   obtain rfl : n = k := by omega
   exact fin_frz
def tmS (W : Nat) : Nat → Nat → Nat
 | _, 0 => 0
 | k, f + 1 => if fct (k + 1) * 2 ^ k < 2 ^ W then tmS W (k + 1) f else k
def tmF (W : Nat) : Nat := tmS W 1 402
theorem con_terms (B : Nat) (hW : B ≤ 400) : Con Tryz.prog 225 true [.v (.int .i64 (-(B : Int)))] [] (isA (.v (.int .i64 (tmF B)))) := by
 refine Con.of_w (rs := [.tmp 2]) Tryz.func225 rfl Tryz.ntmps225 rfl ?_
 simp (disch := omega) only [go_sem]
 refine loop_intro (fun k : Nat => [(0, .v (.int .i64 (-(B : Int)))), (2, .v (.int .i64 0)), (3, .v (.int .i64 k))]) (fun _ => []) (fun k => 1 ≤ k ∧ k ≤ 401 ∧ tmS B k (403 - k) = tmF B) (fun k => 402 - k) 1 ⟨by omega, by omega, rfl⟩ (Le.lst [] _ _ rfl (by simp (disch := omega) only [go_sem]) (by simp (disch := omega) only [go_sem])) ?_
 rintro k ⟨hk1, hk2, ht⟩
 have e1 : (k : Int) + 1 = ((k + 1 : Nat) : Int) := by omega
 have e2 : 0 - (-(B : Int)) = (B : Int) := by omega
 have cf := con_fact (k + 1) (by omega)
 rw [← e1] at cf
 have b1 := fct_bl (k + 1) (by omega)
 have l1 := len_bl b1
 have b2 := bl_up (fct (k + 1)) k
 have l2 := len_bl (m := fct (k + 1) * 2 ^ k) (B := 5000) (by omega)
 have b3 := bl_up 1 B
 have b4 : bl 1 ≤ 1 := bl_le.2 (by decide)
 have l3 := len_bl (m := 1 * 2 ^ B) (B := 500) (by omega)
 have l4 := len_bl b4
 have cu := con_upN 1 B (by omega) (by omega)
 rw [← e2] at cu
 have cc := con_compare (fct (k + 1) * 2 ^ k) (1 * 2 ^ B) (by omega) (by omega)
 have hstep : tmS B k (403 - k) = if fct (k + 1) * 2 ^ k < 2 ^ B then tmS B (k + 1) (403 - (k + 1)) else k := by
  rw [show 403 - k = (403 - (k + 1)) + 1 by omega]; rfl
 have hbig : fct (k + 1) * 2 ^ k < 2 ^ B → k < B := fun h => by
  rcases Nat.lt_or_ge k B with h' | h'
  ·exact h'
  ·have g1 : 2 ^ B ≤ 2 ^ k := Nat.pow_le_pow_right (by omega) h'
   have g2 : 1 * 2 ^ k ≤ fct (k + 1) * 2 ^ k := Nat.mul_le_mul_right _ (fct_pos _)
   omega
 have hcl := (cmpI_le ((fct (k + 1) * 2 ^ k : Nat) : Int) ((1 * 2 ^ B : Nat) : Int)).2.1
 generalize cmpI ((fct (k + 1) * 2 ^ k : Nat) : Int) ((1 * 2 ^ B : Nat) : Int) = C at *
 generalize fct (k + 1) = FF at *
 simp (disch := omega) only [go_sem]
 refine call_oI (cf) ?_
 simp (disch := omega) only [go_sem]
 refine call_oI (con_upN FF k (by omega) (by omega)) ?_
 simp (disch := omega) only [go_sem]
 refine call_oI (con_smallN 1 (by omega)) ?_
 simp (disch := omega) only [go_sem]
 refine call_oI (cu) ?_
 simp (disch := omega) only [go_sem]
 refine call_cI (cc) ?_
 simp (disch := omega) only [go_sem]
 refine ifW_dec (fun h1 => ?_) (fun h1 => ?_)
 ·simp (disch := omega) only [go_sem, h1]
  have hlt : FF * 2 ^ k < 2 ^ B := by have := hcl.1 h1; omega
  have := hbig hlt
  rw [if_pos hlt, ht] at hstep
  exact next_intro (k + 1) [] ⟨by omega, by omega, hstep.symm⟩ (by show 402 - (k + 1) < 402 - k; omega) rfl (by simp (disch := omega) only [go_sem]; try omega) (by simp (disch := omega) only [go_sem])
 ·simp (disch := omega) only [go_sem, h1]
  have hlt : ¬ FF * 2 ^ k < 2 ^ B := fun h => h1 (hcl.2 (by omega))
  rw [if_neg hlt, ht] at hstep
  rw [hstep]
  exact fin_cI
end Go.Ab
namespace Go.Ab
open Go
set_option linter.unusedVariables false
section
variable {P : Program}
theorem chF_snd2 {L : Nat → Option Blk → Prop} {w0 : World} {R0 : Nat → Prop} {N : Nat} {ops : Array Oper} {K : St → Prop} {Q' : Exit → Act → World → Prop} {rest : List Nat} (hQ : ∀ σ a w, In L w0 R0 N σ a w → K σ → wpOps P ops Q' rest a w) :
  ∀ (r : List Oper) (k : Nat), (∀ j, j < r.length → ops[k + j]? = r[j]?) → ∀ {e h a w}, In L w0 R0 N ⟨e, h⟩ a w → ChF P N ops.toList K r e h → wpOps P ops Q' (List.range' k r.length ++ rest) a w
 | [], k, hk, e, h, a, w, hi, hs => by
  simp only [List.length_nil, List.range'_zero, List.nil_append]
  exact hQ _ _ _ hi hs
 | ⟨d, op, ty, pos, af, g⟩ :: r, k, hk, e, h, a, w, hi, hs => by
  have ho : ops[k]? = some ⟨d, op, ty, pos, af, g⟩ := by
   have := hk 0 (by simp)
   simpa using this
  have hr : ∀ j, j < r.length → ops[k + 1 + j]? = r[j]? := fun j hj => by
   have := hk (j + 1) (by simpa using hj)
   rw [show k + 1 + j = k + (j + 1) by omega, this]; simp
  have hd : dOk N d := by cases g <;> exact hs.1
  simp only [List.length_cons, List.range'_succ, List.cons_append, wpOps, ho]
  have run : @Op1 P ⟨d⟩ ⟨op⟩ ⟨fun v hp => ChF P N ops.toList K r (putE e d v) hp⟩ e h → Oper.wp P ⟨d, op, ty, pos, af, g⟩ a w (wpOps P ops Q' (List.range' (k + 1) r.length ++ rest)) Q' := fun hs => by
   obtain ⟨R, ι, hR, hinv⟩ := hi.inv
   refine op_snd hinv (Op1.sound hs ty pos af g) fun x w' R' ι' av hp' hR' hK hx hm hi' => ?_
   exact chF_snd2 hQ r (k + 1) hr (hi.put (o := ⟨d, op, ty, pos, af, g⟩) hd hR hR' hx hm hi') hK
  have skip : ChF P N ops.toList K r (putE e d (.v (.tuple ⟨[]⟩))) h → wpOps P ops Q' (List.range' (k + 1) r.length ++ rest) (a.put d undef) w := fun hs => by
   obtain ⟨R, ι, hR, hinv⟩ := hi.inv
   exact chF_snd2 hQ r (k + 1) hr (hi.put (o := ⟨d, op, ty, pos, af, g⟩) hd hR (fun _ h => .inl h) (.fr _ _ (.v _)) (by simp [AV.All]) hinv) hs
  cases g with
  | none =>
   rw [if_pos (by simp [Region.wanted])]
   exact .inl (run hs.2)
  | some p =>
   obtain ⟨j, want⟩ := p
   have h2 := hs.2
   unfold grdW at h2
   dsimp only at h2
   split at h2
   ·rename_i d' hd'
    have key : ∀ v c, e d' = .v v → (match v with | .bool b => some b | _ => none) = c → yielded ops a.tmps j = c := by
     intro v c hv hc
     obtain ⟨R, ι, hR, hinv⟩ := hi.inv
     have := hinv.env d'
     change Rep _ _ _ _ (e d') at this
     rw [hv] at this
     have := this.v_inv
     unfold yielded
     rw [Array.getElem?_toList] at hd'
     rw [hd']
     rw [Array.getD_eq_getD_getElem?] at this
     cases ee : a.tmps[d']? with
     | none =>
      rw [ee] at this
      subst hc
      have : v = undef := this.symm
      subst this; simp [ee, undef]
     | some y => rw [ee] at this; simp at this; subst this; subst hc; simp only [Option.bind_some, ee]; cases y <;> rfl
    unfold boolW at h2
    split at h2
    ·rename_i b hb
     have hy := key _ _ hb rfl
     have hw : Region.wanted ⟨d, op, ty, pos, af, some (j, want)⟩ (yielded ops a.tmps) = (b == want) := by
      simp only [Region.wanted, hy]
      cases b <;> cases want <;> rfl
     rw [hw]
     cases hbw : b == want with
     | true => rw [if_pos rfl]; exact .inl (run (h2.1 hbw))
     | false => rw [if_neg (by simp)]; exact skip (h2.2 hbw)
    ·rename_i hb
     have hy := key _ _ hb rfl
     have hw : Region.wanted ⟨d, op, ty, pos, af, some (j, want)⟩ (yielded ops a.tmps) = false := by
      simp only [Region.wanted, hy]
      cases want <;> rfl
     rw [hw, if_neg (by simp)]
     exact skip (h2.2 rfl)
    ·exact h2.elim
   ·exact h2.elim
theorem draw_le {N : Nat} {l : List Oper} {Q : St → Prop} {e : Nat → AV} {h : Nat → Ob} {E : List (Nat × AV)} {H : List (Nat × Ob)} (hl : Le ⟨e, h⟩ ⟨ofL .un E, ofH H⟩) (hd : @drawW P N ⟨l⟩ ⟨Q⟩ ⟨ofL .un E, ofH H⟩) : @drawW P N ⟨l⟩ ⟨Q⟩ ⟨e, h⟩ :=
 fun id => AW.le hl (hd id)
theorem AW.regSplit {N : Nat} {Q : Exit → St → Prop} {e : Nat → AV} {h : Nat → Ob} {id : Nat} {l : List Oper} {y : Code} (k : Nat) {pre suf : List Oper} (hp : l.take k = pre) (hs : l.drop k = suf) {E : List (Nat × AV)} {H : List (Nat × Ob)}
  (h1 : @Ch P N ⟨l⟩ ⟨pre⟩ ⟨fun σ' => Le σ' ⟨ofL .un E, ofH H⟩⟩ e h) (h2 : @Ch P N ⟨l⟩ ⟨suf⟩ ⟨fun σ => @W P N ⟨y⟩ ⟨Q⟩ σ.env σ.hp⟩ (ofL .un E) (ofH H)) : AW P N (.seq (.region id ⟨l⟩ false) y) Q ⟨e, h⟩ := by
 refine AW.seq fun L w0 R0 a w hi => wp_region ?_
 have hl : l = pre ++ suf := by rw [← hp, ← hs, List.take_append_drop]
 have hr : List.range (⟨l⟩ : Array Oper).size = List.range' 0 pre.length ++ (List.range' pre.length suf.length ++ []) := by
  have hsz : (⟨l⟩ : Array Oper).size = pre.length + suf.length := by show l.length = _; rw [hl, List.length_append]
  rw [hsz, List.append_nil, List.range_eq_range', List.range'_append_1.symm, Nat.zero_add]
 rw [hr]
 refine chF_snd2 (K := fun σ' => Le σ' ⟨ofL .un E, ofH H⟩) (fun σ a w hi2 hle => ?_) pre 0 (fun j hj => ?_) hi h1
 ·refine chF_snd2 (K := fun σ => @W P N ⟨y⟩ ⟨Q⟩ σ.env σ.hp) (fun σ a w hi3 hq => ?_) suf pre.length (fun j hj => ?_) (hle L w0 R0 N a w hi2) h2
  ·exact ⟨σ, hi3, W.sound hq⟩
  ·rw [List.getElem?_toArray, hl, List.getElem?_append_right (by omega), Nat.add_sub_cancel_left]
 ·rw [List.getElem?_toArray, hl, Nat.zero_add, List.getElem?_append_left hj]
end
end Go.Ab
namespace Go.Ab
open Go Go.Proofs
set_option linter.unusedVariables false
set_option linter.unusedSimpArgs false
instance (lo hi : Int) (x : ExV) : Decidable (x.bd lo hi) := inferInstanceAs (Decidable ((x.m = 0 → x.s = false) ∧ lo ≤ x.e ∧ (bl x.m : Int) + x.e ≤ hi))
instance (lo hi : Int) (x : SpV) : Decidable (x.bd lo hi) := inferInstanceAs (Decidable (x.lo.bd lo hi ∧ x.hi.bd lo hi))
instance (lo hi : Int) (l : List ExV) : Decidable (gbd lo hi l) := inferInstanceAs (Decidable (∀ x ∈ l, x.bd lo hi))
instance (lo hi : Int) (l : List SpV) : Decidable (sbd lo hi l) := inferInstanceAs (Decidable (∀ x ∈ l, x.bd lo hi))
def hB : List SpV := (gScaled 1 [ex0] (ex1.shift 0)).map ptS
def hSt : Nat → List SpV × List SpV
 | 0 => ((gId 1).map ptS, (gId 1).map ptS)
 | i + 1 => (fPlus (hSt i).1 ((fTimes 1 (hSt i).2 hB).map fun s => s.divd (i + 1) (-22)), (fTimes 1 (hSt i).2 hB).map fun s => s.divd (i + 1) (-22))
def hFat : List SpV := (hSt 7).1.map fun s => s.fat (ex1.shift (-22))
def hRes : List SpV := hFat.map fun s => s.out (-14)
theorem hSt_len : ∀ i, (hSt i).1.length = 1 ∧ (hSt i).2.length = 1
 | 0 => by decide +kernel
 | i + 1 => ⟨fPlus_len.trans (hSt_len i).1, by show (List.map _ _).length = 1; rw [List.length_map]; exact gly_len⟩
theorem hSt_bd : ∀ i, i < 8 → sbd (-100000) 100000 (hSt i).1 ∧ sbd (-100000) 100000 (hSt i).2 ∧ sbd (-100000) 100000 (fTimes 1 (hSt i).2 hB) := by decide +kernel
theorem tm22 : tmF 22 = 7 := by decide +kernel
set_option maxRecDepth 100000 in
theorem con_hold0 (n : Nat) (h1 : n = 1) : Con Tryz.prog 148 false [.ag [.v (.int .i64 (n)), .sl ([ex0]).length (rowA ExV.cs ([ex0]))], .v (.int .i64 (-10))] [] (isA (.ag [.v (.int .i64 (n)), .sl (hRes).length (rowA SpV.cs (hRes))])) := by
 refine Con.frzA ?_
 have hn : n ≤ 4 := by omega
 have cn := con_norm n [ex0] hn (by rw [h1]; rfl) (by decide +kernel)
 rw [show normF n [ex0] n = ex0 by rw [h1]; decide +kernel] at cn
 have cz : Con Tryz.prog 193 true [.ag [.v (.bool (ex0).s), .sl (lim (ex0).m).length (ints (lim (ex0).m)), .v (.int .i64 (ex0).e)]] [] (isA (.v (.bool true))) := con_isZero ex0.s ex0.m ex0.e
 have cs := con_shiftV ex1 0 (by decide) (by decide)
 have cg := con_gScaled n [ex0] (ex1.shift 0) hn (by rw [h1]; rfl) (by decide +kernel) (by decide +kernel)
 have cf := con_fieldOf n (gScaled n [ex0] (ex1.shift 0)) (by show (gl _ _ _).length ≤ _; rw [gl_len, h1]; decide)
 rw [show (gScaled n [ex0] (ex1.shift 0)).map ptS = hB by rw [h1]; rfl] at cf
 have ci := con_gId n hn
 have cfi := con_fieldOf n (gId n) (by show (gl _ _ _).length ≤ _; rw [gl_len, h1]; decide)
 rw [show (gId n).map ptS = (hSt 0).1 by rw [h1]; rfl] at cfi
 have ct : Con Tryz.prog 225 true [.v (.int .i64 (-22))] [] (isA (.v (.int .i64 7))) := by have := con_terms 22 (by omega); rw [tm22] at this; exact this
 have hw : (-10 - 2 * 0 - 12 : Int) = -22 := rfl
 have cs2 := con_shiftV ex1 (-22) (by decide) (by decide)
 have cft := con_fFat n (hSt 7).1 (ex1.shift (-22)) (by rw [(hSt_len 7).1]; decide) (sbd_mono (hSt_bd 7 (by decide)).1 (by omega) (by omega)) (by decide +kernel)
 change Con _ _ _ _ _ (isA (.ag [.v (.int .i64 (n)), .sl (hFat).length (rowA SpV.cs (hFat))])) at cft
 have cot := con_fOut n hFat (-14) (by show (List.map _ _).length ≤ _; rw [List.length_map, (hSt_len 7).1]; decide) (by decide +kernel) (by omega)
 change Con _ _ _ _ _ (isA (.ag [.v (.int .i64 (n)), .sl (hRes).length (rowA SpV.cs (hRes))])) at cot
 generalize gScaled n [ex0] (ex1.shift 0) = G at *
 generalize gId n = I at *
 refine Con.of_w (rs := [.cell 4 157]) Tryz.func148 rfl Tryz.ntmps148 rfl ?_
 simp (disch := omega) only [go_sem]
 refine call_oI (cn) ?_
 simp (disch := omega) only [go_sem]
 refine call_cI (cz) ?_
 simp (disch := omega) only [go_sem]
 rw [hw]
 refine draw_of rfl [⟨0, [], []⟩, ⟨2, [0], []⟩, ⟨3, [0], []⟩, ⟨7, [0], []⟩, ⟨1, [0], [100000000]⟩, ⟨4, [0], [100000000]⟩, ⟨5, [], [100000000]⟩, ⟨6, [], [100000000]⟩, ⟨8, [], []⟩] (by kernel_rfl) ?_
 simp (disch := omega) only [go_sem]
 refine call_oI (con_oneV) ?_
 simp (disch := omega) only [go_sem]
 refine call_oI (cs) ?_ (by simp (disch := omega) only [go_sem, show (0 - 0 : Int) = 0 from rfl])
 simp (disch := omega) only [go_sem]
 refine call_oI (cg) ?_
 simp (disch := omega) only [go_sem]
 refine call_oI (cf) ?_
 simp (disch := omega) only [go_sem]
 refine call_oI (ci) ?_
 simp (disch := omega) only [go_sem]
 refine call_oI (cfi) ?_
 simp (disch := omega) only [go_sem]
 refine loop_intro (fun i : Nat => [(1, .v (.int .i64 (-10))), (4, .pt 0 0), (6, .v (.int .i64 0)), (7, .v (.int .i64 (-22))), (8, .pt 1 0), (9, .pt 2 0), (10, .pt 3 0), (11, .v (.int .i64 ((i : Int) + 1)))])
  (fun i => [(0, .own 0 [.v (.int .i64 0), .v (.slice none 0 0)]), (1, .own 0 [.v (.int .i64 n), .sl hB.length (rowA SpV.cs hB)]), (2, .own 0 [.v (.int .i64 n), .sl (hSt i).1.length (rowA SpV.cs (hSt i).1)]), (3, .own 0 [.v (.int .i64 n), .sl (hSt i).2.length (rowA SpV.cs (hSt i).2)])])
  (fun i => i ≤ 7) (fun i => 7 - i) 0 (by omega)
  (Le.lst [(0, 60000000), (1, 100000000), (2, 110000000), (3, 120000000)] _ _ rfl (by simp (disch := omega) only [go_sem, show (0 : Int) + 1 = 1 from rfl]) (by simp (disch := omega) only [go_sem, show (hSt 0).2 = (hSt 0).1 from rfl])) ?_
 intro i hi
 obtain ⟨b1, b2, b3⟩ := hSt_bd i (by omega)
 obtain ⟨l1, l2⟩ := hSt_len i
 have ei : (i : Int) + 1 = ((i + 1 : Nat) : Int) := by omega
 have hBl : hB.length = 1 := by decide +kernel
 have hBb : sbd (-190000) 190000 hB := by decide +kernel
 have cT := con_fTimes n (hSt i).2 hB hn (by rw [h1, l2]) (by rw [h1, hBl]) (sbd_mono b2 (by omega) (by omega)) hBb
 rw [show fTimes n (hSt i).2 hB = fTimes 1 (hSt i).2 hB by rw [h1]] at cT
 have hTl : (fTimes 1 (hSt i).2 hB).length = 1 := gly_len
 have cD := con_fDiv n (fTimes 1 (hSt i).2 hB) (i + 1) (-22) (by omega) b3 (by omega) (by omega) (by omega)
 rw [← ei] at cD
 change Con _ _ _ _ _ (isA (.ag [.v (.int .i64 (n)), .sl ((hSt (i + 1)).2).length (rowA SpV.cs ((hSt (i + 1)).2))])) at cD
 simp (disch := omega) only [go_sem]
 refine call_cI (ct) ?_
 simp (disch := omega) only [go_sem]
 refine ifW_dec (fun h2 => ?_) (fun h2 => ?_)
 ·have b4 := (hSt_bd (i + 1) (by omega)).2.1
  have cP := con_fPlus n (hSt i).1 (hSt (i + 1)).2 (by omega) (by rw [l1]; exact (hSt_len (i + 1)).2) (sbd_mono b1 (by omega) (by omega)) (sbd_mono b4 (by omega) (by omega))
  change Con _ _ _ _ _ (isA (.ag [.v (.int .i64 (n)), .sl ((hSt (i + 1)).1).length (rowA SpV.cs ((hSt (i + 1)).1))])) at cP
  generalize fTimes 1 (hSt i).2 hB = T at *
  generalize hS2 : (hSt (i + 1)).2 = S2 at *
  generalize hS1 : (hSt (i + 1)).1 = S1 at *
  simp (disch := omega) only [go_sem, h2]
  refine call_oI (cT) ?_
  simp (disch := omega) only [go_sem]
  refine call_oI (cD) ?_
  simp (disch := omega) only [go_sem]
  refine call_oI (cP) ?_
  simp (disch := omega) only [go_sem]
  exact next_intro (i + 1) [] (by show i + 1 ≤ 7; omega) (by show 7 - (i + 1) < 7 - i; omega) rfl (by simp (disch := omega) only [go_sem]; try omega) (by simp (disch := omega) only [go_sem, hS1, hS2])
 ·obtain rfl : i = 7 := by omega
  simp (disch := omega) only [go_sem, h2]
  refine draw_of rfl [⟨0, [], []⟩, ⟨2, [0], []⟩, ⟨1, [0], []⟩, ⟨3, [0], []⟩, ⟨4, [], []⟩, ⟨5, [], []⟩] (by kernel_rfl) ?_
  simp (disch := omega) only [go_sem]
  refine call_oI (con_oneV) ?_
  simp (disch := omega) only [go_sem]
  refine call_oI (cs2) ?_
  simp (disch := omega) only [go_sem]
  refine call_oI (cft) ?_
  simp (disch := omega) only [go_sem]
  refine loop_intro (fun _ : Nat => [(1, .v (.int .i64 (-10))), (4, .pt 0 0), (9, .pt 2 0), (58, .v (.int .i64 0)), (59, .v (.int .i64 0))])
   (fun _ => [(0, .own 0 [.v (.int .i64 0), .v (.slice none 0 0)]), (2, .own 0 [.v (.int .i64 n), .sl hFat.length (rowA SpV.cs hFat)])]) (fun _ => True) (fun _ => 0) 0 trivial (Le.lst [] _ _ rfl (by simp (disch := omega) only [go_sem]) (by simp (disch := omega) only [go_sem])) ?_
  intro _ _
  have q : decide ((0 : Int) < 0) = false := rfl
  simp (disch := omega) only [go_sem, q]
  refine call_oI (cot) ?_ (by simp (disch := omega) only [go_sem, show (-10 - 4 : Int) = -14 from rfl])
  simp (disch := omega) only [go_sem]
  exact fin_frz
end Go.Ab
namespace Go.Ab
open Go Go.Proofs
set_option linter.unusedVariables false
set_option linter.unusedSimpArgs false
section
variable (g : Nat) (p : DyV → Bool)
theorem con_allDy1 (x : DyV) (hf : Con Tryz.prog g true [.ag x.cs] [] (isA (.v (.bool (p x))))) (hg : fnOk Tryz.prog g = True) :
  Con Tryz.prog 283 true [.ag x.cs, .fp [.fn g []] 0] [] (isA (.v (.bool (!p x)))) := by
 unfold DyV.cs at hf ⊢
 refine Con.of_w (rs := [.tmp 3]) Tryz.func283 rfl Tryz.ntmps283 rfl ?_
 simp (disch := omega) only [go_sem, hg]
 refine call_closed hf (by simp (disch := omega) only [go_sem]) ?_
 rintro r hs ⟨rfl, rfl, _⟩
 refine ⟨by simp [freeN], ?_⟩
 simp (disch := omega) only [go_sem]
 exact fin_cI
theorem con_indexDy (f : Nat) (caps : List AV) (xs : List DyV) (hl : xs.length ≤ 2 ^ 40) (hf : ∀ x ∈ xs, Con Tryz.prog f true (.ag x.cs :: caps) [] (isA (.v (.bool (p x))))) (hg : fnOk Tryz.prog f = True)
  (hc : ∀ h : Nat → Ob, caps.map (snap h 6) = caps) (hc5 : ∀ h : Nat → Ob, caps.map (snap h 5) = caps) (hn : ∀ ks, AllL (memK ks) caps) (hr : ∀ ρ, renL ρ caps = caps) :
  Con Tryz.prog 304 true [.sl xs.length (rowA DyV.cs xs), .fn f caps] [] (fun r hs bs => ∃ i : Int, r = .v (.int .i64 i) ∧ hs = [] ∧ (0 ≤ i ↔ ∃ x ∈ xs, p x = true)) := by
 refine Con.of_aw Tryz.func304 rfl Tryz.ntmps304 (by simp) (by simp) (by simp) (W.sound ?_)
 show @W Tryz.prog 19 ⟨_⟩ ⟨fun x σ => @retW _ _ _ ⟨_⟩ _ ⟨_⟩ x σ⟩ _ _
 simp (disch := omega) only [go_sem]
 refine loop_intro (fun i : Nat => [(0, .sl xs.length (rowA DyV.cs xs)), (1, .fn f caps), (6, .sl xs.length (rowA DyV.cs xs)), (7, .v (.int .i64 xs.length)), (8, .v (.int .i64 i))])
  (fun _ => []) (fun i => i ≤ xs.length ∧ ∀ j, j < i → p (xs.getD j ⟨false, [], 0⟩) = false) (fun i => xs.length - i) 0 ⟨by omega, fun j hj => by omega⟩ (Le.lst [] _ _ rfl (by simp (disch := omega) only [go_sem, hr, hn]) (by simp (disch := omega) only [go_sem])) ?_
 rintro i ⟨hi, hp⟩
 simp (disch := omega) only [go_sem]
 refine ifW_dec (fun h1 => ?_) (fun h1 => ?_)
 ·have hcut := row_get (l := xs) dy_cs3 (i := i) (by omega) ⟨false, [], 0⟩
  simp (disch := omega) only [go_sem, h1, hcut, hg]
  refine ⟨by omega, by omega, call_closed (hf (xs.getD i ⟨false, [], 0⟩) (by rw [List.getD_eq_getElem?_getD, List.getElem?_eq_getElem (by omega)]; exact List.getElem_mem _)) (by simp (disch := omega) only [go_sem, hc, hc5]) ?_⟩
  rintro r hs ⟨rfl, rfl, _⟩
  refine ⟨by simp [freeN], ?_⟩
  simp (disch := omega) only [go_sem]
  refine ifW_b (fun h2 => ?_) (fun h2 => ?_)
  ·simp (disch := omega) only [go_sem, h2]
   refine fin_valc (by simp (disch := omega) only [go_sem]) (by simp (disch := omega) only [go_sem]) ⟨i, rfl, rfl, ?_⟩
   refine ⟨fun _ => ⟨_, ?_, h2⟩, fun _ => by omega⟩
   rw [List.getD_eq_getElem?_getD, List.getElem?_eq_getElem (by omega)]; exact List.getElem_mem _
  ·simp (disch := omega) only [go_sem, h2]
   refine next_intro (i + 1) [] ⟨by omega, fun j hj => ?_⟩ (by show xs.length - (i + 1) < xs.length - i; omega) rfl (by simp (disch := omega) only [go_sem, hr, hn]; try omega) (by simp (disch := omega) only [go_sem])
   rcases (by omega : j < i ∨ j = i) with h | h
   ·exact hp j h
   ·subst h; exact h2
 ·simp (disch := omega) only [go_sem, h1]
  refine fin_valc (by simp (disch := omega) only [go_sem]) (by simp (disch := omega) only [go_sem]) ⟨-1, rfl, rfl, ?_⟩
  refine ⟨fun h => by omega, fun ⟨x, hx, hpx⟩ => ?_⟩
  obtain ⟨j, hj, rfl⟩ := List.getElem_of_mem hx
  have := hp j (by omega)
  rw [List.getD_eq_getElem?_getD, List.getElem?_eq_getElem hj] at this
  simp only [Option.getD_some] at this
  rw [this] at hpx; cases hpx
theorem con_containsDy (f : Nat) (caps : List AV) (xs : List DyV) (hl : xs.length ≤ 2 ^ 40) (hf : ∀ x ∈ xs, Con Tryz.prog f true (.ag x.cs :: caps) [] (isA (.v (.bool (p x))))) (hg : fnOk Tryz.prog f = True)
  (hc : ∀ h : Nat → Ob, caps.map (snap h 6) = caps) (hc5 : ∀ h : Nat → Ob, caps.map (snap h 5) = caps) (hn : ∀ ks, AllL (memK ks) caps) (hr : ∀ ρ, renL ρ caps = caps) :
  Con Tryz.prog 282 true [.sl xs.length (rowA DyV.cs xs), .fn f caps] [] (isA (.v (.bool (xs.any p)))) := by
 refine Con.of_aw Tryz.func282 rfl Tryz.ntmps282 (by simp) (by simp) (by simp) (W.sound ?_)
 show @W Tryz.prog 9 ⟨_⟩ ⟨fun x σ => @retW _ _ _ ⟨_⟩ _ ⟨_⟩ x σ⟩ _ _
 simp (disch := omega) only [go_sem]
 refine call_closed (con_indexDy p f caps xs hl hf hg hc hc5 hn hr) (by simp (disch := omega) only [go_sem, hc, hc5]) ?_
 rintro r hs ⟨i, rfl, rfl, hi⟩
 refine ⟨by simp [freeN], ?_⟩
 simp (disch := omega) only [go_sem]
 refine fin_valc (by simp (disch := omega) only [go_sem]) (by simp (disch := omega) only [go_sem]) ⟨?_, rfl, rfl⟩
 have : decide (0 ≤ i) = xs.any p := by rw [Bool.eq_iff_iff, decide_eq_true_eq, hi, List.any_eq_true]
 rw [this]; rfl
theorem con_allDy (xs : List DyV) (hl : xs.length ≤ 2 ^ 40) (hf : ∀ x ∈ xs, Con Tryz.prog g true [.ag x.cs] [] (isA (.v (.bool (p x))))) (hg : fnOk Tryz.prog g = True) :
  Con Tryz.prog 238 true [.sl xs.length (rowA DyV.cs xs), .fn g []] [] (isA (.v (.bool (xs.all p)))) := by
 refine Con.of_aw Tryz.func238 rfl Tryz.ntmps238 (by simp) (by simp) (by simp) (W.sound ?_)
 show @W Tryz.prog 9 ⟨_⟩ ⟨fun x σ => @retW _ _ _ ⟨_⟩ _ ⟨_⟩ x σ⟩ _ _
 simp (disch := omega) only [go_sem]
 refine call_closed (con_containsDy (fun x => !p x) 283 [.fp [.fn g []] 0] xs hl (fun x hx => con_allDy1 g p x (hf x hx) hg) (by simp (disch := omega) only [go_sem]) (fun h => rfl) (fun h => rfl) (fun ks => by simp (disch := omega) only [go_sem]) (fun ρ => rfl)) (by simp (disch := omega) only [go_sem]) ?_
 rintro r hs ⟨rfl, rfl, _⟩
 refine ⟨by simp [freeN], ?_⟩
 simp (disch := omega) only [go_sem]
 refine fin_valc (by simp (disch := omega) only [go_sem]) (by simp (disch := omega) only [go_sem]) ⟨?_, rfl, rfl⟩
 have : (!xs.any fun x => !p x) = xs.all p := by rw [List.all_eq_not_any_not]
 rw [this]; rfl
end
def DyV.ok (x : DyV) : Bool := dyB x.s x.xs x.e
theorem con_areDys (xs : List DyV) (hl : xs.length ≤ 2 ^ 40) (hx : ∀ x ∈ xs, x.xs.length ≤ 2 ^ 40) : Con Tryz.prog 161 true [.sl xs.length (rowA DyV.cs xs)] [] (isA (.v (.bool (xs.all DyV.ok)))) := by
 refine Con.of_w (rs := [.tmp 2]) Tryz.func161 rfl Tryz.ntmps161 rfl ?_
 simp (disch := omega) only [go_sem]
 refine call_cI (con_allDy 63 DyV.ok xs hl (fun x h => con_dyok x.s x.xs x.e (hx x h)) (by simp (disch := omega) only [go_sem])) ?_
 simp (disch := omega) only [go_sem]
 exact fin_cI
def matB (n : Int) (l : List DyV) : Bool := (decide (1 ≤ n) && decide (n ≤ 4)) && (decide ((l.length : Int) = n * n) && l.all DyV.ok)
theorem con_MatOk (n : Int) (l : List DyV) (hl : l.length ≤ 2 ^ 40) (hx : ∀ x ∈ l, x.xs.length ≤ 2 ^ 40) : Con Tryz.prog 76 true [.ag [.v (.int .i64 n), .sl l.length (rowA DyV.cs l)]] [] (isA (.v (.bool (matB n l)))) := by
 unfold matB
 cases h1 : (decide (1 ≤ n) && decide (n ≤ 4))
 ·rw [Bool.false_and]
  refine Con.of_w (rs := [.tmp 2]) Tryz.func76 rfl Tryz.ntmps76 rfl ?_
  simp (disch := omega) only [go_sem]
  refine call_cI (con_withinI n 1 4) ?_
  simp (disch := omega) only [go_sem]
  simp (disch := omega) only [go_sem, h1]
  exact fin_cI
 ·rw [Bool.true_and]
  have h1' : 1 ≤ n ∧ n ≤ 4 := by simpa using h1
  have hq : 0 ≤ n * n ∧ n * n ≤ 16 := ⟨Int.mul_nonneg (by omega) (by omega), Int.mul_le_mul h1'.2 h1'.2 (by omega) (by omega)⟩
  cases h2 : decide ((l.length : Int) = n * n)
  ·rw [Bool.false_and]
   refine Con.of_w (rs := [.tmp 2]) Tryz.func76 rfl Tryz.ntmps76 rfl ?_
   simp (disch := omega) only [go_sem]
   refine call_cI (con_withinI n 1 4) ?_
   simp (disch := omega) only [go_sem]
   simp (disch := omega) only [go_sem, h1, h2]
   exact fin_cI
  ·rw [Bool.true_and]
   refine Con.of_w (rs := [.tmp 2]) Tryz.func76 rfl Tryz.ntmps76 rfl ?_
   simp (disch := omega) only [go_sem]
   refine call_cI (con_withinI n 1 4) ?_
   simp (disch := omega) only [go_sem]
   simp (disch := omega) only [go_sem, h1, h2]
   refine call_cI (con_areDys l hl hx) ?_
   simp (disch := omega) only [go_sem]
   exact fin_cI
end Go.Ab
namespace Go.Ab
open Go Go.Proofs
set_option linter.unusedVariables false
set_option linter.unusedSimpArgs false
def ExV.dy (x : ExV) : DyV := ⟨x.s, lim x.m, x.e⟩
theorem row_dy (l : List ExV) : rowA ExV.cs l = rowA DyV.cs (l.map ExV.dy) := by unfold rowA; rw [List.map_map]; rfl
def ExV.ok (x : ExV) : Bool := dyB x.s (lim x.m) x.e
def matE (n : Int) (l : List ExV) : Bool := (decide (1 ≤ n) && decide (n ≤ 4)) && (decide ((l.length : Int) = n * n) && l.all ExV.ok)
theorem matE_eq (n : Int) (l : List ExV) : matB n (l.map ExV.dy) = matE n l := by
 unfold matB matE
 rw [List.length_map, List.all_map]; rfl
theorem con_MatOkE (n : Int) (l : List ExV) (hl : l.length ≤ 2 ^ 40) (hx : ∀ x ∈ l, (lim x.m).length ≤ 2 ^ 40) : Con Tryz.prog 76 true [.ag [.v (.int .i64 n), .sl l.length (rowA ExV.cs l)]] [] (isA (.v (.bool (matE n l)))) := by
 have := con_MatOk n (l.map ExV.dy) (by rw [List.length_map]; exact hl) (fun x h => by
  obtain ⟨y, hy, rfl⟩ := List.mem_map.1 h
  exact hx y hy)
 rw [matE_eq, ← row_dy, List.length_map] at this
 exact this
def offL (F : List SpV) (X : List ExV) (k : Nat) : List ExV := (List.range k).map fun i => mostL [((F.getD i sp0).hi.plus (X.getD i ex0).neg).abs, ((X.getD i ex0).plus (F.getD i sp0).lo.neg).abs]
theorem offL_len {F : List SpV} {X : List ExV} {k : Nat} : (offL F X k).length = k := by simp [offL]
theorem offL_succ {F : List SpV} {X : List ExV} {k : Nat} : offL F X (k + 1) = offL F X k ++ [mostL [((F.getD k sp0).hi.plus (X.getD k ex0).neg).abs, ((X.getD k ex0).plus (F.getD k sp0).lo.neg).abs]] := by simp [offL, List.range_succ]
theorem off_two {lo hi : Int} {s : SpV} {x : ExV} (hs : s.bd lo hi) (hx : x.bd lo hi) : gbd lo (hi + 1) [(s.hi.plus x.neg).abs, (x.plus s.lo.neg).abs] := by
 intro y hy
 simp only [List.mem_cons, List.not_mem_nil, or_false] at hy
 rcases hy with rfl | rfl
 ·exact ExV.abs_bd (ExV.plus_bd hs.2 (ExV.neg_bd hx))
 ·exact ExV.abs_bd (ExV.plus_bd hx (ExV.neg_bd hs.1))
theorem offL_bd {lo hi : Int} {F : List SpV} {X : List ExV} {k : Nat} (hF : sbd lo hi F) (hX : gbd lo hi X) (h1 : k ≤ F.length) (h2 : k ≤ X.length) : gbd lo (hi + 1) (offL F X k) := by
 intro y hy
 simp only [offL, List.mem_map, List.mem_range] at hy
 obtain ⟨i, hi, rfl⟩ := hy
 exact mostL_bd (off_two (sbd_get hF (by omega)) (gbd_get hX (by omega))) (by simp)
def expX (n : Nat) (F : List SpV) (low : Int) : List ExV := gRnd n (F.map midF) low 0
def expFar (n : Nat) (F : List SpV) (low : Int) : ExV := normF n (offL F (expX n F low) (n * n)) n
theorem midF_bd {lo hi : Int} {s : SpV} (hs : s.bd lo hi) : (midF s).bd (lo - 1) hi := by
 have := ExV.shift_bd (k := -1) (ExV.plus_bd hs.1 hs.2)
 exact this.mono (by omega) (by omega)
theorem gRnd_bd {lo hi low mode : Int} {n : Nat} {l : List ExV} (hl : l.length = n * n) (h : gbd lo hi l) (h1 : lo ≤ low) (h2 : low ≤ hi) : gbd lo (hi + 1) (gRnd n l low mode) :=
 gl_bd fun i j hi hj => ExV.rnd_bd (gbd_get h (by rw [hl]; exact idx_lt hi hj)) h1 h2
set_option maxRecDepth 100000 in
set_option maxHeartbeats 2000000 in
theorem con_ExpMatG (n : Nat) (L : List ExV) (low : Int) (F : List SpV) (hn : n ≤ 4) (hL : L.length = n * n) (hlow : -1000 ≤ low ∧ low ≤ 1000) (ca : Con Tryz.prog 147 true [.ag [.v (.int .i64 (n)), .sl (L).length (rowA ExV.cs (L))], .v (.int .i64 low)] [] (isA (.v (.bool true))))
  (ch : Con Tryz.prog 148 false [.ag [.v (.int .i64 (n)), .sl (L).length (rowA ExV.cs (L))], .v (.int .i64 low)] [] (isA (.ag [.v (.int .i64 (n)), .sl (F).length (rowA SpV.cs (F))]))) (hF : F.length = n * n) (hFb : sbd (-300000) 300000 F) (hfit : F.all SpV.fit = true) :
  Con Tryz.prog 70 false [.ag [.v (.int .i64 (n)), .sl (L).length (rowA ExV.cs (L))], .v (.int .i64 low)] []
   (isA (if ((expX n F low).all ExV.fit && (expFar n F low).fit) = true then .tu [.ag [.v (.int .i64 n), .sl (expX n F low).length (rowA ExV.cs ((expX n F low).map ExV.can))], .ag [.v (.bool ((expFar n F low).can).s), .sl (lim ((expFar n F low).can).m).length (ints (lim ((expFar n F low).can).m)), .v (.int .i64 ((expFar n F low).can).e)], .v (.bool true)] else .tu [.ag [.v (.int .i64 0), .sl 0 []], .ag [.v (.bool (false)), .sl (lim (0)).length (ints (lim (0))), .v (.int .i64 (0))], .v (.bool false)])) := by
 refine Con.frzA ?_
 have hq := sq_le hn
 have cg := con_matGrid n L (by omega)
 have cv := con_ivMat n F (by omega) (sbd_mono hFb (by omega) (by omega))
 rw [hfit, if_pos rfl] at cv
 have cm := con_mid n F (by omega) (sbd_mono hFb (by omega) (by omega))
 have hml : (F.map midF).length = n * n := by rw [List.length_map, hF]
 have hmb : gbd (-300001) 300000 (F.map midF) := by
  intro x hx
  obtain ⟨s, hs, rfl⟩ := List.mem_map.1 hx
  exact (midF_bd (hFb s hs)).mono (by omega) (by omega)
 have cr := con_gRnd n (F.map midF) low 0 hn hml (gbd_mono hmb (by omega) (by omega)) (by omega)
 have hXl : (expX n F low).length = n * n := by unfold expX gRnd; exact gl_len
 have hXb : gbd (-300001) 300001 (expX n F low) := gRnd_bd hml hmb (by omega) (by omega)
 change Con _ _ _ _ _ (isA (.ag [.v (.int .i64 (n)), .sl (expX n F low).length (rowA ExV.cs (expX n F low))])) at cr
 have hOb : gbd (-300001) 300002 (offL F (expX n F low) (n * n)) := offL_bd (sbd_mono hFb (by omega) (by omega)) hXb (by omega) (by omega)
 have cno := con_norm n (offL F (expX n F low) (n * n)) hn offL_len (gbd_mono hOb (by omega) (by omega))
 change Con _ _ _ _ _ (isA (.ag [.v (.bool (expFar n F low).s), .sl (lim (expFar n F low).m).length (ints (lim (expFar n F low).m)), .v (.int .i64 (expFar n F low).e)])) at cno
 have hFar : (expFar n F low).bd (-300001) 300006 := (normF_bd offL_len hOb (by omega) n (Nat.le_refl _)).mono (by omega) (by omega)
 have cw := con_withNumber n (expX n F low) (expFar n F low) (by omega) (gbd_mono hXb (by omega) (by omega)) (hFar.mono (by omega) (by omega))
 generalize expFar n F low = far at *
 generalize expX n F low = X at *
 generalize F.map midF = M at *
 generalize F.map SpV.can = FC at *
 refine Con.of_w (rs := [.cell 4 42, .cell 5 29, .tmp 6]) Tryz.func70 rfl Tryz.ntmps70 rfl ?_
 simp (disch := omega) only [go_sem]
 refine call_cI (ca) ?_
 simp (disch := omega) only [go_sem]
 refine call_oI (cg) ?_
 simp (disch := omega) only [go_sem]
 refine call_oI (ch) ?_
 simp (disch := omega) only [go_sem]
 refine call_oI (cv) ?_
 simp (disch := omega) only [go_sem]
 refine call_oI (cm) ?_
 simp (disch := omega) only [go_sem]
 refine call_oI (cr) ?_
 simp (disch := omega) only [go_sem]
 refine loop_intro (fun i : Nat => [(4, .pt 2 0), (5, .pt 3 0), (7, .pt 4 0), (10, .pt 5 0), (11, .pt 0 0), (41, .sl F.length (rowA SpV.cs F)), (42, .v (.int .i64 F.length)), (43, .v (.int .i64 i))])
  (fun i => [(0, .own 0 [.v (.int .i64 n), .rf 1 0 i]), (1, .own 3 (rowA ExV.cs (offL F X i))), (2, .own 0 [.v (.int .i64 0), .v (.slice none 0 0)]), (3, .own 0 [.v (.bool false), .v (.slice none 0 0), .v (.int .i64 0)]), (4, .own 0 [.v (.int .i64 n), .sl F.length (rowA SpV.cs F)]), (5, .own 0 [.v (.int .i64 n), .sl X.length (rowA ExV.cs X)])])
  (fun i => i ≤ F.length) (fun i => F.length - i) 0 (by omega)
  ((Le.ghostC 130000000 1 1 3 (zo := 0) (cs := [.v (.int .i64 n), .v (.slice none 0 0)]) (by simp (disch := omega) only [go_sem]) rfl (by simp (disch := omega) only [go_sem])).trans (Le.lst [(0, 130000000), (2, 60000000), (3, 70000000), (4, 90000000), (5, 120000000)] _ _ rfl (by simp (disch := omega) only [go_sem]) (by simp (disch := omega) only [go_sem, show offL F X 0 = [] from rfl, exs_nil, List.set_cons_succ, List.set_cons_zero]))) ?_
 intro i hi
 simp (disch := omega) only [go_sem]
 refine ifW_dec (fun h1 => ?_) (fun h1 => ?_)
 ·have hi2 : i < F.length := by omega
  have hci := sps_get hi2
  have hcx := exs_get (l := X) (i := i) (by omega)
  have hcut := exs_cutK (offL_len (F := F) (X := X) (k := i))
  have hs := offL_succ (F := F) (X := X) (k := i)
  have bs := sbd_get hFb hi2
  have bx := gbd_get hXb (show i < X.length by omega)
  have b2 := off_two (SpV.bd.mono bs (by omega) (by omega)) bx
  generalize F.getD i sp0 = s at *
  generalize X.getD i ex0 = x at *
  simp (disch := omega) only [go_sem, h1, hci]
  refine ⟨by omega, by omega, ?_⟩
  refine draw_of rfl [⟨0, [], []⟩, ⟨1, [], []⟩, ⟨2, [1], []⟩, ⟨3, [1], []⟩, ⟨4, [1, 3], []⟩, ⟨5, [1, 3], []⟩, ⟨6, [1, 3, 5], []⟩, ⟨7, [1, 3], []⟩, ⟨8, [1, 3], []⟩, ⟨11, [1, 3, 5, 8], []⟩, ⟨12, [1, 3, 5, 8], []⟩, ⟨13, [1, 3, 5, 8, 12], []⟩, ⟨14, [1, 3, 5, 8], []⟩, ⟨15, [1, 3, 5, 8], []⟩, ⟨16, [1, 3, 5, 8, 12, 15], []⟩, ⟨17, [1, 3, 5, 8, 12, 15], []⟩, ⟨9, [1, 12, 15, 17], []⟩, ⟨10, [1, 12, 15, 17], []⟩, ⟨18, [1], []⟩, ⟨19, [1], []⟩, ⟨20, [1], []⟩, ⟨21, [1], []⟩, ⟨22, [1], []⟩, ⟨23, [], []⟩, ⟨24, [], []⟩, ⟨25, [], []⟩] (by kernel_rfl) ?_
  simp (disch := omega) only [go_sem, hcx]
  refine ⟨by omega, by omega, by omega, by omega, ?_⟩
  refine call_oI (con_minusV s.hi x (bs.2.mono (by omega) (by omega)) (bx.mono (by omega) (by omega))) ?_
  simp (disch := omega) only [go_sem]
  refine call_oI (con_absV (s.hi.plus x.neg)) ?_
  simp (disch := omega) only [go_sem]
  refine call_oI (con_minusV x s.lo (bx.mono (by omega) (by omega)) (bs.1.mono (by omega) (by omega))) ?_
  simp (disch := omega) only [go_sem]
  refine call_oI (con_absV (x.plus s.lo.neg)) ?_
  simp (disch := omega) only [go_sem]
  generalize (s.hi.plus x.neg).abs = A at *
  generalize (x.plus s.lo.neg).abs = B at *
  have hrow : ([.v (.bool A.s), .sl (lim A.m).length (ints (lim A.m)), .v (.int .i64 A.e), .v (.bool B.s), .sl (lim B.m).length (ints (lim B.m)), .v (.int .i64 B.e)] : List AV) = rowA ExV.cs [A, B] := rfl
  rw [hrow]
  refine call_lend false [700000000] (con_mostN [A, B] (by simp) (by simp) (gbd_mono b2 (by omega) (by omega))) (by simp (disch := omega) only [go_sem]) (by simp (disch := omega) only [go_sem]) rfl (lend_cons (z := 3) (cs := rowA ExV.cs [A, B]) (by simp (disch := omega) only [go_sem]) (by simp (disch := omega) only [go_sem])) (by intro n hn; exact ⟨_, List.mem_cons_self .., by rw [List.mem_singleton.1 hn]; rfl⟩) ?_
  rintro r hs2 bs2 ⟨rfl, rfl, rfl⟩ -
  refine ⟨by simp [freeN], ?_⟩
  simp (disch := omega) only [go_sem, hcut, exs_snoc]
  refine ⟨⟨by rw [offL_len]; exact Nat.le_refl _, by omega⟩, next_intro (i + 1) [(1, 730000000)] (by show i + 1 ≤ _; omega) (by show F.length - (i + 1) < F.length - i; omega) rfl (by simp (disch := omega) only [go_sem]; try omega) (by simp (disch := omega) only [go_sem, hs])⟩
 ·simp (disch := omega) only [go_sem, h1]
  obtain rfl : i = F.length := by omega
  have hol := offL_len (F := F) (X := X) (k := n * n)
  rw [hF]
  generalize offL F X (n * n) = O at *
  rw [hol] at cno
  refine draw_le (E := [(4, .pt 2 0), (5, .pt 3 0), (10, .pt 5 0), (11, .pt 0 0)]) (H := [(0, .own 0 [.v (.int .i64 n), .sl (n * n) (rowA ExV.cs O)]), (2, .own 0 [.v (.int .i64 0), .v (.slice none 0 0)]), (3, .own 0 [.v (.bool false), .v (.slice none 0 0), .v (.int .i64 0)]), (5, .own 0 [.v (.int .i64 n), .sl X.length (rowA ExV.cs X)])])
   ((Le.frz 1 (z := 3) (ks := rowA ExV.cs O) (by simp (disch := omega) only [go_sem]) rfl (by simp (disch := omega) only [go_sem])).trans (Le.lst [] _ _ rfl (by simp (disch := omega) only [go_sem]) (by simp (disch := omega) only [go_sem, exs_cutK hol]))) ?_
  refine draw_of rfl [⟨0, [], []⟩, ⟨1, [0], []⟩, ⟨2, [0], []⟩, ⟨3, [], []⟩, ⟨4, [], []⟩, ⟨5, [], []⟩, ⟨6, [], []⟩, ⟨7, [], []⟩, ⟨8, [], []⟩, ⟨9, [], []⟩] (by kernel_rfl) ?_
  simp (disch := omega) only [go_sem]
  refine call_oI (cno) ?_
  simp (disch := omega) only [go_sem]
  cases hc : (X.all ExV.fit && far.fit)
  ·rw [hc, if_neg (by simp)] at cw
   rw [if_neg (by simp)]
   refine call_oI (cw) ?_
   simp (disch := omega) only [go_sem]
   exact fin_frz (hp := by simp (disch := omega) only [go_sem, lim_zero, List.length_nil, ints_nil])
  ·rw [hc, if_pos rfl] at cw
   rw [if_pos rfl]
   refine call_oI (cw) ?_
   simp (disch := omega) only [go_sem]
   exact fin_frz
theorem con_isAsked0 (n : Nat) (h1 : n = 1) : Con Tryz.prog 147 true [.ag [.v (.int .i64 (n)), .sl ([ex0]).length (rowA ExV.cs ([ex0]))], .v (.int .i64 (-10))] [] (isA (.v (.bool true))) := by
 have cm := con_MatOkE n [ex0] (by decide) (by intro x hx; rw [List.mem_singleton.1 hx]; show (lim 0).length ≤ _; rw [lim_zero]; decide)
 have hm : matE n [ex0] = true := by
  rw [h1]; unfold matE; rw [List.all_cons, List.all_nil, show ex0.ok = true by show dyB false (lim 0) 0 = true; rw [lim_zero]; decide]; decide
 rw [hm] at cm
 have cg := con_matGrid n [ex0] (by decide)
 have cn := con_norm n [ex0] (by omega) (by rw [h1]; rfl) (by decide +kernel)
 rw [show normF n [ex0] n = ex0 by rw [h1]; decide +kernel] at cn
 have cc := con_cmpV ex0 (exN 64) (by decide +kernel) (by decide +kernel)
 rw [show ex0.cmp (exN 64) = -1 by decide +kernel] at cc
 have q : decide ((-1 : Int) ≤ 0) = true := rfl
 have q1 : (decide ((-120 : Int) ≤ -10) && decide ((-10 : Int) ≤ 0)) = true := rfl
 have cwi := con_withinI (-10) (-120) 0
 rw [q1] at cwi
 refine Con.of_w (rs := [.tmp 4]) Tryz.func147 rfl Tryz.ntmps147 rfl ?_
 simp (disch := omega) only [go_sem]
 refine call_cI (cm) ?_
 simp (disch := omega) only [go_sem]
 refine call_cI (cwi) ?_
 simp (disch := omega) only [go_sem]
 refine call_oI (cg) ?_
 simp (disch := omega) only [go_sem]
 refine call_oI (cn) ?_
 simp (disch := omega) only [go_sem]
 refine call_oI (con_smallN 64 (by omega)) ?_
 simp (disch := omega) only [go_sem]
 refine call_closed cc (by simp (disch := omega) only [go_sem, exN]) ?_
 rintro r hs ⟨rfl, rfl, _⟩
 refine ⟨by simp [freeN], ?_⟩
 simp (disch := omega) only [go_sem, q]
 exact fin_cI
end Go.Ab
namespace Go.Ab
open Go Go.Proofs
set_option linter.unusedVariables false
set_option linter.unusedSimpArgs false
theorem con_l2norm (cl : Bool) (xs : List Int) (m : Nat) (hl : xs.length ≤ 2 ^ 39) (hx : gd xs) (hv : vl xs = (m : Int)) : Con Tryz.prog 259 cl [.sl xs.length (ints xs)] [] (natR m) := by
 refine Con.of_aw Tryz.func259 rfl Tryz.ntmps259 (by simp) (by simp) (by simp) (W.sound ?_)
 show @W Tryz.prog 24 ⟨_⟩ ⟨fun x σ => @retW _ _ _ ⟨_⟩ _ ⟨_⟩ x σ⟩ _ _
 simp (disch := omega) only [go_sem]
 have hcz : cutZ xs = lim m := by rw [cutZ_lim hx, hv, Int.toNat_natCast]
 refine loop_intro (fun k : Nat => [(0, .sl xs.length (ints xs)), (2, .pt 40000000 0), (3, .v (.int .i64 k))]) (fun _ => [(40000000, .own 0 [.v (.slice none 0 0)])]) (fun k => k ≤ xs.length ∧ cutZ (xs.take k) = cutZ xs) id xs.length ⟨Nat.le_refl _, by simp⟩
  (Le.lst [] _ _ rfl (by simp (disch := omega) only [go_sem]) (by simp (disch := omega) only [go_sem])) ?_
 intro k ⟨hk, hc⟩
 have hkx : ∀ j, j + 1 = k → xs.take k = xs.take j ++ [xs.getD j 0] := fun j hj => by rw [← hj]; exact take_succ' (by omega)
 simp (disch := omega) only [go_sem]
 refine ifW_dec (fun h1 => ?_) (fun h1 => ?_)
 ·obtain ⟨j, rfl⟩ : ∃ j, k = j + 1 := ⟨k - 1, by omega⟩
  have e1 : ((j + 1 : Nat) : Int) - 1 = (j : Nat) := by omega
  rw [hkx j rfl] at hc
  simp (disch := omega) only [go_sem, h1, e1]
  refine ⟨by omega, by omega, ifW_dec (fun h2 => ?_) (fun h2 => ?_)⟩
  ·simp (disch := omega) only [go_sem, h2, e1]
   rw [h2, cutZ_zero] at hc
   exact next_intro j [] ⟨by omega, hc⟩ (by show j < j + 1; omega) rfl (by simp (disch := omega) only [go_sem]; try omega) (by simp (disch := omega) only [go_sem])
  ·rw [cutZ_ne _ h2, ← hkx j rfl, hcz] at hc
   have hlm : j + 1 = (lim m).length := by rw [← hc, List.length_take]; omega
   have e0 : (((j + 1 : Nat) : Int) - 0).toNat = (lim m).length := by omega
   rw [hlm] at hc
   simp (disch := omega) only [go_sem, h2, e0, hc]
   refine ⟨by omega, by omega, ?_⟩
   refine fin_intro [(0, 240000000)] [.own 1 (ints (lim m))] [] [.ag [.rf 0 0 (lim m).length]] rfl (by simp (disch := omega) only [go_sem]) (by simp (disch := omega) only [go_sem]) (by simp) (by intro _; simp [tupA, AV.pu, AV.pu.puL, Ob.pu, pu_ints]) (.inr ⟨[], rfl, by rw [List.append_nil]⟩)
 ·have hlm : k = (lim m).length := by
   have : k = 0 := by omega
   rw [← hcz, ← hc, this]; rfl
  subst hlm
  have hc : xs.take (lim m).length = lim m := by
   have : lim m = [] := List.length_eq_zero_iff.1 (by omega)
   rw [this]; simp
  have e0 : (((lim m).length : Int) - 0).toNat = (lim m).length := by omega
  simp (disch := omega) only [go_sem, h1, e0, hc]
  refine ⟨by omega, by omega, ?_⟩
  refine fin_intro [(0, 240000000)] [.own 1 (ints (lim m))] [] [.ag [.rf 0 0 (lim m).length]] rfl (by simp (disch := omega) only [go_sem]) (by simp (disch := omega) only [go_sem]) (by simp) (by intro _; simp [tupA, AV.pu, AV.pu.puL, Ob.pu, pu_ints]) (.inr ⟨[], rfl, by rw [List.append_nil]⟩)
theorem con_l2of (cl : Bool) (n : Nat) (hn : n < 2 ^ 63) : Con Tryz.prog 203 cl [.v (.int .i64 n)] [] (natR n) := by
 refine Con.of_aw Tryz.func203 rfl Tryz.ntmps203 (by simp) (by simp) (by simp) (W.sound ?_)
 show @W Tryz.prog 15 ⟨_⟩ ⟨fun x σ => @retW _ _ _ ⟨_⟩ _ ⟨_⟩ x σ⟩ _ _
 simp (disch := omega) only [go_sem]
 refine loop_intro (fun x : Nat × List Int => [(0, .v (.int .i64 x.1)), (2, .pt 2 0), (3, .rf 1 0 x.2.length)]) (fun x => [(1, .own 1 (ints x.2)), (2, .own 0 [.v (.slice none 0 0)])]) (fun x => x.1 < 2 ^ 63 ∧ x.2 ++ lim x.1 = lim n) (fun x => x.1) (n, []) ⟨hn, rfl⟩
  ((Le.ghost 3 1 1 (by simp (disch := omega) only [go_sem]) (by simp (disch := omega) only [go_sem])).trans (Le.lst [(2, 40000000)] _ _ rfl (by simp (disch := omega) only [go_sem]) (by simp (disch := omega) only [go_sem]))) ?_
 rintro ⟨k, l⟩ ⟨hk, hl⟩
 dsimp only at hk hl ⊢
 have hlen : l.length ≤ 4 := by
  have h1 := congrArg List.length hl
  have h2 := lim_len (n := n) (k := 4) |>.2 (by omega)
  rw [List.length_append] at h1; omega
 simp (disch := omega) only [go_sem]
 refine ifW_dec (fun h1 => ?_) (fun h1 => ?_)
 ·simp (disch := omega) only [go_sem, h1]
  have hk0 : k ≠ 0 := by omega
  refine ⟨by omega, next_intro (k / 65536, l ++ [(k : Int) % 65536]) [(1, 120000000)] ⟨by show k / 65536 < 2 ^ 63; omega, ?_⟩ (by show k / 65536 < k; omega) rfl (by simp (disch := omega) only [go_sem, List.length_append]; try omega) (by simp (disch := omega) only [go_sem])⟩
  rw [lim_pos hk0] at hl
  rw [← hl, List.append_assoc]; rfl
 ·simp (disch := omega) only [go_sem, h1]
  have hk0 : k = 0 := by omega
  subst hk0
  rw [lim_zero, List.append_nil] at hl
  subst hl
  refine fin_intro [(0, 1)] [.own 1 (ints (lim n ++ []))] [] [.ag [.rf 0 0 (lim n).length]] rfl (by simp (disch := omega) only [go_sem]) (by simp (disch := omega) only [go_sem]) (by simp) (by intro _; simp [tupA, AV.pu, AV.pu.puL, Ob.pu, pu_ints]) (.inr ⟨[], rfl, rfl⟩)
end Go.Ab
namespace Go.Ab
open Go Go.Proofs
set_option linter.unusedVariables false
set_option linter.unusedSimpArgs false
set_option maxRecDepth 100000 in
theorem con_l2add (cl : Bool) (a b : Nat) (la : (lim a).length ≤ 2000000) (lb : (lim b).length ≤ 2000000) : Con Tryz.prog 206 cl [.ag [.sl (lim (a)).length (ints (lim (a)))], .ag [.sl (lim (b)).length (ints (lim (b)))]] [] (natR (a + b)) := by
 refine Con.of_aw Tryz.func206 rfl Tryz.ntmps206 (by simp) (by simp) (by simp) (W.sound ?_)
 show @W Tryz.prog 61 ⟨_⟩ ⟨fun x σ => @retW _ _ _ ⟨_⟩ _ ⟨_⟩ x σ⟩ _ _
 simp (disch := omega) only [go_sem]
 have hA := gd_lim a
 have hB := gd_lim b
 refine loop_intro (fun x : Nat × List Int × Int => [(2, .pt 3 0), (3, .pt 4 0), (4, .pt 2 0), (5, .rf 1 0 x.2.1.length), (6, .v (.int .i64 x.2.2)), (7, .v (.int .i64 x.1))])
  (fun x => [(1, .own 1 (ints x.2.1)), (2, .own 0 [.v (.slice none 0 0)]), (3, .own 0 [.sl (lim (a)).length (ints (lim (a)))]), (4, .own 0 [.sl (lim (b)).length (ints (lim (b)))])])
  (fun x => x.1 ≤ max (lim a).length (lim b).length + 1 ∧ x.2.1.length = x.1 ∧ gd x.2.1 ∧ (0 ≤ x.2.2 ∧ x.2.2 ≤ 1) ∧ vl x.2.1 + 65536 ^ x.1 * x.2.2 = vl ((lim a).take x.1) + vl ((lim b).take x.1) ∧ (max (lim a).length (lim b).length < x.1 → x.2.2 = 0))
  (fun x => 2 * (max (lim a).length (lim b).length - x.1) + x.2.2.toNat) (0, [], 0) ⟨by simp, rfl, gd_nil, by simp, by simp [vl], fun h => rfl⟩
  ((Le.ghost 5 1 1 (by simp (disch := omega) only [go_sem]) (by simp (disch := omega) only [go_sem])).trans (Le.lst [(2, 60000000), (3, 40000000), (4, 50000000)] _ _ rfl (by simp (disch := omega) only [go_sem]) (by simp (disch := omega) only [go_sem]))) ?_
 rintro ⟨i, out, cy⟩ ⟨hi, hol, hog, hcy, hov, hcz⟩
 dsimp only at hi hol hog hcy hov hcz ⊢
 have hx := gd_getD hA i
 have hy := gd_getD hB i
 have hxz : ¬ (i : Int) < (lim a).length → (lim a).getD i 0 = 0 := fun h => by rw [List.getD_eq_getElem?_getD, List.getElem?_eq_none (by omega)]; rfl
 have hyz : ¬ (i : Int) < (lim b).length → (lim b).getD i 0 = 0 := fun h => by rw [List.getD_eq_getElem?_getD, List.getElem?_eq_none (by omega)]; rfl
 have hstep : ∀ q : Int, q = cy + (lim a).getD i 0 + (lim b).getD i 0 → vl (out ++ [q % 65536]) + 65536 ^ (i + 1) * (q / 65536) = vl ((lim a).take (i + 1)) + vl ((lim b).take (i + 1)) := by
  intro q hq
  rw [vl_snoc, vl_take_any, vl_take_any, hol, Int.pow_succ]
  have e3 : q % 65536 + 65536 * (q / 65536) = q := Int.emod_add_mul_ediv q 65536
  generalize (65536 : Int) ^ i = Pi at *
  grind
 have key : ∀ q : Int, q = cy + (lim a).getD i 0 + (lim b).getD i 0 → (i : Int) < (lim a).length ∨ (i : Int) < (lim b).length ∨ 0 < cy →
   ((i + 1 ≤ max (lim a).length (lim b).length + 1 ∧ (out ++ [q % 65536]).length = i + 1 ∧ gd (out ++ [q % 65536]) ∧ (0 ≤ q / 65536 ∧ q / 65536 ≤ 1) ∧ vl (out ++ [q % 65536]) + 65536 ^ (i + 1) * (q / 65536) = vl ((lim a).take (i + 1)) + vl ((lim b).take (i + 1)) ∧ (max (lim a).length (lim b).length < i + 1 → q / 65536 = 0)) ∧
   2 * (max (lim a).length (lim b).length - (i + 1)) + (q / 65536).toNat < 2 * (max (lim a).length (lim b).length - i) + cy.toNat) := by
  intro q hq hc
  have hle : i ≤ max (lim a).length (lim b).length := by
   rcases Nat.lt_or_ge (max (lim a).length (lim b).length) i with h | h
   ·have := hcz h; omega
   ·exact h
  have hbig : max (lim a).length (lim b).length < i + 1 → q / 65536 = 0 := fun h => by
   have := hxz (by omega)
   have := hyz (by omega)
   omega
  refine ⟨⟨by omega, by simp [hol], gd_append.2 ⟨hog, gd_one.2 (by omega)⟩, by omega, hstep q hq, hbig⟩, ?_⟩
  by_cases hm : max (lim a).length (lim b).length < i + 1
  ·have := hbig hm; omega
  ·omega
 by_cases h1 : (i : Int) < (lim a).length <;> by_cases h2 : (i : Int) < (lim b).length
 ·simp (disch := omega) only [go_sem, h1, h2]
  obtain ⟨k1, k2⟩ := key _ rfl (.inl h1)
  refine ⟨by omega, by omega, by omega, by omega, by omega, next_intro (i + 1, out ++ [(cy + (lim a).getD i 0 + (lim b).getD i 0) % 65536], (cy + (lim a).getD i 0 + (lim b).getD i 0) / 65536) [(1, 580000000)] k1 k2 rfl (by simp (disch := omega) only [go_sem, List.length_append]; try omega) (by simp (disch := omega) only [go_sem])⟩
 ·simp (disch := omega) only [go_sem, h1, h2]
  have e0 : cy + (lim a).getD i 0 = cy + (lim a).getD i 0 + (lim b).getD i 0 := by rw [hyz h2]; omega
  obtain ⟨k1, k2⟩ := key (cy + (lim a).getD i 0) e0 (.inl h1)
  refine ⟨by omega, by omega, by omega, next_intro (i + 1, out ++ [(cy + (lim a).getD i 0) % 65536], (cy + (lim a).getD i 0) / 65536) [(1, 580000000)] k1 k2 rfl (by simp (disch := omega) only [go_sem, List.length_append]; try omega) (by simp (disch := omega) only [go_sem])⟩
 ·simp (disch := omega) only [go_sem, h1, h2]
  have e0 : cy + (lim b).getD i 0 = cy + (lim a).getD i 0 + (lim b).getD i 0 := by rw [hxz h1]; omega
  obtain ⟨k1, k2⟩ := key (cy + (lim b).getD i 0) e0 (.inr (.inl h2))
  refine ⟨by omega, by omega, by omega, next_intro (i + 1, out ++ [(cy + (lim b).getD i 0) % 65536], (cy + (lim b).getD i 0) / 65536) [(1, 580000000)] k1 k2 rfl (by simp (disch := omega) only [go_sem, List.length_append]; try omega) (by simp (disch := omega) only [go_sem])⟩
 ·by_cases h3 : 0 < cy
  ·simp (disch := omega) only [go_sem, h1, h2, h3]
   have e0 : cy = cy + (lim a).getD i 0 + (lim b).getD i 0 := by rw [hxz h1, hyz h2]; omega
   obtain ⟨k1, k2⟩ := key cy e0 (.inr (.inr h3))
   refine ⟨by omega, next_intro (i + 1, out ++ [cy % 65536], cy / 65536) [(1, 580000000)] k1 k2 rfl (by simp (disch := omega) only [go_sem, List.length_append]; try omega) (by simp (disch := omega) only [go_sem])⟩
  ·have hcy0 : cy = 0 := by omega
   have hov2 : vl out = ((a + b : Nat) : Int) := by
    rw [List.take_of_length_le (by omega), List.take_of_length_le (by omega), vl_lim, vl_lim, hcy0] at hov
    simp at hov; omega
   simp (disch := omega) only [go_sem, h1, h2, h3]
   refine call_closed (con_l2norm true out (a + b) (by omega) hog hov2) (by simp (disch := omega) only [go_sem]) ?_
   rintro r hs (⟨h0, rfl, rfl⟩ | ⟨zs, rfl, rfl⟩)
   ·refine ⟨⟨by simp, by simp (disch := omega) only [go_sem]⟩, ?_⟩
    simp (disch := omega) only [go_sem]
    refine fin_intro [] [] [] [.ag [.v (.slice none 0 0)]] rfl (by simp (disch := omega) only [go_sem]) (by simp (disch := omega) only [go_sem]) (by simp) (by intro _; simp [tupA, AV.pu, AV.pu.puL, Ob.pu, pu_ints]) (.inl ⟨h0, rfl, rfl⟩)
   ·refine ⟨⟨by simp, by simp (disch := omega) only [go_sem]⟩, ?_⟩
    simp (disch := omega) only [go_sem]
    refine fin_intro [(0, 620000000)] [.own 1 (ints (lim (a + b) ++ zs))] [] [.ag [.rf 0 0 (lim (a + b)).length]] rfl (by simp (disch := omega) only [go_sem]) (by simp (disch := omega) only [go_sem]) (by simp) (by intro _; simp [tupA, AV.pu, AV.pu.puL, Ob.pu, pu_ints]) (.inr ⟨zs, rfl, rfl⟩)
end Go.Ab
namespace Go.Ab
open Go Go.Proofs
set_option linter.unusedVariables false
set_option linter.unusedSimpArgs false
set_option maxRecDepth 100000 in
theorem con_l2mulL (cl : Bool) (A : List Int) (hA : gd A) (b : Nat) (lA : A.length ≤ 1000000) (lB : (lim b).length ≤ 1000000) (m : Nat) (hm : vl A * (b : Int) = (m : Int)) :
  Con Tryz.prog 265 cl [.ag [.sl A.length (ints A)], .ag [.sl (lim (b)).length (ints (lim (b)))]] [] (natR m) := by
 refine Con.of_aw Tryz.func265 rfl Tryz.ntmps265 (by simp) (by simp) (by simp) (W.sound ?_)
 show @W Tryz.prog 80 ⟨_⟩ ⟨fun x σ => @retW _ _ _ ⟨_⟩ _ ⟨_⟩ x σ⟩ _ _
 have hvb := vl_lim b
 have hB := gd_lim b
 generalize lim b = B at *
 simp (disch := omega) only [go_sem]
 refine ⟨by omega, ?_⟩
 refine loop_intro (fun x : Nat × List Int => [(2, .pt 0 0), (3, .pt 1 0), (4, .pt 2 0), (5, .rf 3 0 (A.length + B.length)), (6, .v (.int .i64 x.1))])
  (fun x => [(0, .own 0 [.sl A.length (ints A)]), (1, .own 0 [.sl B.length (ints B)]), (2, .own 0 [.v (.slice none 0 0)]), (3, .own 1 (ints x.2))])
  (fun x => x.1 ≤ A.length ∧ x.2.length = A.length + B.length ∧ gd x.2 ∧ vl x.2 = vl (A.take x.1) * vl B ∧ ∀ j, x.1 + B.length ≤ j → x.2.getD j 0 = 0)
  (fun x => A.length - x.1) (0, List.replicate (A.length + B.length) 0) ⟨by simp, by simp, gd_replicate _, by simp [vl_replicate, vl], fun j _ => by
   rw [List.getD_eq_getElem?_getD, List.getElem?_replicate]; split <;> rfl⟩
  (Le.lst [(0, 40000000), (1, 50000000), (2, 60000000), (3, 190000000)] _ _ rfl (by simp (disch := omega) only [go_sem]; try omega) (by simp (disch := omega) only [go_sem, show ((A.length : Int) + (B.length : Int)).toNat = A.length + B.length by omega])) ?_
 rintro ⟨i, out⟩ ⟨hi, hol, hog, hov, hoz⟩
 dsimp only at hi hol hog hov hoz ⊢
 simp (disch := omega) only [go_sem]
 refine ifW_dec (fun h1 => ?_) (fun h1 => ?_)
 ·have hx := gd_getD hA i
  simp (disch := omega) only [go_sem, h1]
  refine loop_intro (fun x : Nat × List Int × Int => [(2, .pt 0 0), (3, .pt 1 0), (4, .pt 2 0), (5, .rf 3 0 (A.length + B.length)), (6, .v (.int .i64 i)), (7, .v (.int .i64 x.2.2)), (8, .v (.int .i64 x.1))])
   (fun x => [(0, .own 0 [.sl A.length (ints A)]), (1, .own 0 [.sl B.length (ints B)]), (2, .own 0 [.v (.slice none 0 0)]), (3, .own 1 (ints x.2.1))])
   (fun x => x.1 ≤ B.length ∧ x.2.1.length = A.length + B.length ∧ gd x.2.1 ∧ (0 ≤ x.2.2 ∧ x.2.2 < 65536) ∧ vl x.2.1 + 65536 ^ (i + x.1) * x.2.2 = vl out + 65536 ^ i * (A.getD i 0 * vl (B.take x.1)) ∧ ∀ j, i + B.length ≤ j → x.2.1.getD j 0 = 0)
   (fun x => B.length - x.1) (0, out, 0) ⟨by simp, hol, hog, by simp, by simp [vl], hoz⟩
   (Le.lst [] _ _ rfl (by simp (disch := omega) only [go_sem]; try omega) (by simp (disch := omega) only [go_sem])) ?_
  rintro ⟨j, o2, cy⟩ ⟨hj, hol2, hog2, hcy, hov2, hoz2⟩
  dsimp only at hj hol2 hog2 hcy hov2 hoz2 ⊢
  simp (disch := omega) only [go_sem]
  refine ifW_dec (fun h2 => ?_) (fun h2 => ?_)
  ·have hy := gd_getD hB j
   have ho := gd_getD hog2 (i + j)
   have hxy := mul_lim hx hy
   have e1 : ((i : Int) + (j : Int)).toNat = i + j := by omega
   simp (disch := omega) only [go_sem, h2]
   refine draw_of rfl [⟨0, [], []⟩, ⟨1, [], []⟩, ⟨2, [], []⟩, ⟨3, [], []⟩, ⟨4, [], []⟩, ⟨5, [], []⟩, ⟨6, [5], []⟩, ⟨7, [5], []⟩, ⟨8, [5, 7], []⟩, ⟨9, [5], []⟩, ⟨10, [5], []⟩, ⟨11, [5, 7, 10], []⟩, ⟨12, [5, 7, 10], []⟩, ⟨13, [5, 7, 10, 12], []⟩, ⟨14, [5, 7, 10], []⟩, ⟨15, [5, 7, 10], []⟩, ⟨16, [5], []⟩, ⟨17, [], []⟩, ⟨18, [5, 7, 10, 12, 15], []⟩, ⟨19, [], []⟩, ⟨20, [], []⟩] (by kernel_rfl) ?_
   simp (disch := omega) only [go_sem, e1]
   generalize hq : o2.getD (i + j) 0 + A.getD i 0 * B.getD j 0 + cy = q
   refine ⟨by omega, by omega, by omega, by omega, by omega, by omega, by omega, by omega, next_intro (j + 1, o2.set (i + j) (q % 65536), q / 65536) [] ⟨by show j + 1 ≤ _; omega, by simp [hol2], gd_set hog2 (by omega), by show 0 ≤ q / 65536 ∧ q / 65536 < 65536; omega, ?_, fun k hk => ?_⟩
    (by show B.length - (j + 1) < B.length - j; omega) rfl (by simp (disch := omega) only [go_sem]; try omega) (by simp (disch := omega) only [go_sem])⟩
   ·show vl (o2.set (i + j) (q % 65536)) + 65536 ^ (i + (j + 1)) * (q / 65536) = vl out + 65536 ^ i * (A.getD i 0 * vl (B.take (j + 1)))
    rw [vl_set (by omega), vl_take_succ (by omega), ← Nat.add_assoc, Int.pow_succ]
    have e2 : (65536 : Int) ^ (i + j) = 65536 ^ i * 65536 ^ j := Int.pow_add _ _ _
    have e3 : q % 65536 + 65536 * (q / 65536) = q := Int.emod_add_mul_ediv q 65536
    rw [e2] at hov2 ⊢
    generalize (65536 : Int) ^ i = Pi at *
    generalize (65536 : Int) ^ j = Pj at *
    grind
   ·show (o2.set (i + j) (q % 65536)).getD k 0 = 0
    rw [List.getD_eq_getElem?_getD, List.getElem?_set_ne (by omega), ← List.getD_eq_getElem?_getD]
    exact hoz2 k hk
  ·simp (disch := omega) only [go_sem, h2]
   have e1 : ((i : Int) + (B.length : Int)).toNat = i + B.length := by omega
   have hjB : j = B.length := by omega
   subst hjB
   rw [List.take_length] at hov2
   have hz := hoz2 (i + B.length) (Nat.le_refl _)
   refine draw_of rfl [⟨0, [], []⟩, ⟨1, [], []⟩, ⟨2, [], []⟩, ⟨3, [], []⟩, ⟨4, [], []⟩, ⟨5, [], []⟩, ⟨6, [3], []⟩, ⟨7, [3], []⟩, ⟨8, [3], []⟩, ⟨9, [3], []⟩, ⟨10, [3], []⟩, ⟨11, [3], []⟩, ⟨12, [3], []⟩, ⟨13, [3], []⟩, ⟨14, [3, 9, 13], []⟩, ⟨15, [3], []⟩, ⟨16, [], []⟩, ⟨17, [], []⟩] (by kernel_rfl) ?_
   simp (disch := omega) only [go_sem, e1, hz]
   have e0 : (0 : Int) + cy = cy := by omega
   refine ⟨by omega, by omega, by omega, by omega, next_intro (i + 1, o2.set (i + B.length) cy) [] ⟨by show i + 1 ≤ _; omega, by simp [hol2], gd_set hog2 hcy, ?_, fun k hk => ?_⟩ (by show A.length - (i + 1) < A.length - i; omega) rfl (by simp (disch := omega) only [go_sem]; try omega) (by simp (disch := omega) only [go_sem, e0])⟩
   ·show vl (o2.set (i + B.length) cy) = vl (A.take (i + 1)) * vl B
    rw [vl_set (by omega), hz, vl_take_succ (by omega)]
    generalize (65536 : Int) ^ i = Pi at *
    grind
   ·show (o2.set (i + B.length) cy).getD k 0 = 0
    rw [List.getD_eq_getElem?_getD, List.getElem?_set_ne (by show i + B.length ≠ k; omega), ← List.getD_eq_getElem?_getD]
    exact hoz2 k (by omega)
 ·simp (disch := omega) only [go_sem, h1]
  have hiA : i = A.length := by omega
  subst hiA
  rw [List.take_length, hvb, hm] at hov
  rw [← hol]
  refine call_closed (con_l2norm true (out) (m) (by omega) (hog) (hov)) (by simp (disch := omega) only [go_sem]) ?_
  rintro r hs (⟨h0, rfl, rfl⟩ | ⟨zs, rfl, rfl⟩)
  ·refine ⟨⟨by simp, by simp (disch := omega) only [go_sem]⟩, ?_⟩
   simp (disch := omega) only [go_sem]
   refine fin_intro [] [] [] [.ag [.v (.slice none 0 0)]] rfl (by simp (disch := omega) only [go_sem]) (by simp (disch := omega) only [go_sem]) (by simp) (by intro _; simp [tupA, AV.pu, AV.pu.puL, Ob.pu, pu_ints]) (.inl ⟨h0, rfl, rfl⟩)
  ·refine ⟨⟨by simp, by simp (disch := omega) only [go_sem]⟩, ?_⟩
   simp (disch := omega) only [go_sem]
   refine fin_intro [(0, 810000000)] [.own 1 (ints (lim (m) ++ zs))] [] [.ag [.rf 0 0 (lim (m)).length]] rfl (by simp (disch := omega) only [go_sem]) (by simp (disch := omega) only [go_sem]) (by simp) (by intro _; simp [tupA, AV.pu, AV.pu.puL, Ob.pu, pu_ints]) (.inr ⟨zs, rfl, rfl⟩)
theorem con_l2mul (cl : Bool) (a b : Nat) (la : (lim a).length ≤ 1000000) (lb : (lim b).length ≤ 1000000) : Con Tryz.prog 265 cl [.ag [.sl (lim (a)).length (ints (lim (a)))], .ag [.sl (lim (b)).length (ints (lim (b)))]] [] (natR (a * b)) :=
 con_l2mulL cl (lim a) (gd_lim a) b la lb (a * b) (by rw [vl_lim, Int.natCast_mul])
end Go.Ab
namespace Go.Ab
open Go Go.Proofs
set_option linter.unusedVariables false
set_option linter.unusedSimpArgs false
def natR2 (m : Nat) (r0 : Int) : AV → List Ob → List Ob → Prop := fun r hs bs =>
 (m = 0 ∧ r = .tu [.ag [.v (.slice none 0 0)], .v (.int .i64 r0)] ∧ hs = []) ∨ ∃ zs, r = .tu [.ag [.rf 0 0 (lim m).length], .v (.int .i64 r0)] ∧ hs = [.own 1 (ints (lim m ++ zs))]
theorem Con.natF2 {P : Program} {f : FuncId} {args : List AV} {m : Nat} {r0 : Int} (h : Con P f false args [] (natR2 m r0)) : Con P f false args [] (isA (.tu [.ag [.sl (lim (m)).length (ints (lim (m)))], .v (.int .i64 r0)])) :=
 Con.frzA <| h.mono fun r hs bs h => by
  rcases h with ⟨rfl, rfl, rfl⟩ | ⟨zs, rfl, rfl⟩
  ·show snap _ 6 _ = _
   rw [lim_zero]; rfl
  ·show snap _ 6 _ = _
   rw [snap_tu, List.map_cons, List.map_cons, List.map_nil, snap_ag, List.map_cons, List.map_nil, snap_num (k := 2) (l := lim m) (zs := zs) rhp_zero rfl]
   rfl
theorem con_l2smallL (cl : Bool) (A : List Int) (d : Nat) (hA : gd A) (lA : A.length ≤ 1000000) (hd : 0 < d) (hd2 : d < 65536) (m : Nat) (hm : vl A / (d : Int) = (m : Int)) :
  Con Tryz.prog 279 cl [.ag [.sl A.length (ints A)], .v (.int .i64 d)] [] (natR2 m (vl A % d)) := by
 refine Con.of_aw Tryz.func279 rfl Tryz.ntmps279 (by simp) (by simp) (by simp) (W.sound ?_)
 show @W Tryz.prog 42 ⟨_⟩ ⟨fun x σ => @retW _ _ _ ⟨_⟩ _ ⟨_⟩ x σ⟩ _ _
 simp (disch := omega) only [go_sem]
 refine ⟨by omega, ?_⟩
 refine loop_intro (fun x : Nat × List Int × Int => [(1, .v (.int .i64 d)), (2, .pt 0 0), (4, .pt 1 0), (6, .rf 2 0 A.length), (7, .v (.int .i64 x.2.2)), (8, .v (.int .i64 ((x.1 : Int) - 1)))])
  (fun x => [(0, .own 0 [.sl A.length (ints A)]), (1, .own 0 [.v (.slice none 0 0)]), (2, .own 1 (ints x.2.1))])
  (fun x => x.1 ≤ A.length ∧ x.2.1.length = A.length ∧ gd x.2.1 ∧ x.2.2 = vl (A.drop x.1) % d ∧ vl (x.2.1.drop x.1) = vl (A.drop x.1) / d)
  (fun x => x.1) (A.length, List.replicate A.length 0, 0) ⟨Nat.le_refl _, by simp, gd_replicate _, by simp [vl], by simp [vl]⟩
  (Le.lst [(0, 40000000), (1, 60000000), (2, 150000000)] _ _ rfl (by simp (disch := omega) only [go_sem, List.length_replicate]; try omega) (by simp (disch := omega) only [go_sem])) ?_
 rintro ⟨k, out, rest⟩ ⟨hk, hol, hog, hr, hov⟩
 dsimp only at hk hol hog hr hov ⊢
 have hr0 : 0 ≤ rest ∧ rest < d := by rw [hr]; exact ⟨Int.emod_nonneg _ (by omega), Int.emod_lt_of_pos _ (by omega)⟩
 simp (disch := omega) only [go_sem]
 refine ifW_dec (fun h1 => ?_) (fun h1 => ?_)
 ·obtain ⟨i, rfl⟩ : ∃ i, k = i + 1 := ⟨k - 1, by omega⟩
  have ei : ((i + 1 : Nat) : Int) - 1 = (i : Nat) := by omega
  have hx := gd_getD hA i
  have hq6 : 0 ≤ (rest * 65536 + A.getD i 0) / d ∧ (rest * 65536 + A.getD i 0) / d < 65536 := by
   refine ⟨Int.ediv_nonneg (by omega) (by omega), Int.ediv_lt_of_lt_mul (by omega) ?_⟩
   have : rest + 1 ≤ (d : Int) := by omega
   have := Int.mul_le_mul_of_nonneg_left this (show (0 : Int) ≤ 65536 by omega)
   omega
  simp (disch := omega) only [go_sem, h1, ei]
  generalize hq : rest * 65536 + A.getD i 0 = q at *
  refine ⟨by omega, by omega, by omega, by omega, by omega, by omega, next_intro (i, out.set i (q / d), q % d) [] ⟨by show i ≤ _; omega, by simp [hol], gd_set hog hq6, ?_, ?_⟩ (by show i < i + 1; omega) rfl (by simp (disch := omega) only [go_sem]; try omega) (by simp (disch := omega) only [go_sem])⟩
  ·show q % d = vl (A.drop i) % d
   rw [vl_drop (l := A) (i := i) (by omega), ← hq, hr]
   have h3 := Int.emod_add_mul_ediv (vl (A.drop (i + 1))) d
   rw [show A.getD i 0 + 65536 * vl (A.drop (i + 1)) = vl (A.drop (i + 1)) % d * 65536 + A.getD i 0 + d * (65536 * (vl (A.drop (i + 1)) / d)) by grind, Int.add_mul_emod_self_left]
  ·show vl ((out.set i (q / d)).drop i) = vl (A.drop i) / d
   rw [drop_set (by omega), vl, hov, vl_drop (l := A) (i := i) (by omega), ← hq, hr]
   have h3 := Int.emod_add_mul_ediv (vl (A.drop (i + 1))) d
   rw [show A.getD i 0 + 65536 * vl (A.drop (i + 1)) = vl (A.drop (i + 1)) % d * 65536 + A.getD i 0 + d * (65536 * (vl (A.drop (i + 1)) / d)) by grind, Int.add_mul_ediv_left _ _ (by omega)]
 ·simp (disch := omega) only [go_sem, h1]
  have : k = 0 := by omega
  subst this
  rw [List.drop_zero, List.drop_zero, hm] at hov
  rw [List.drop_zero] at hr
  rw [← hol]
  refine call_closed (con_l2norm true out m (by omega) hog hov) (by simp (disch := omega) only [go_sem]) ?_
  rintro r hs (⟨h0, rfl, rfl⟩ | ⟨zs, rfl, rfl⟩)
  ·refine ⟨⟨by simp, by simp (disch := omega) only [go_sem]⟩, ?_⟩
   simp (disch := omega) only [go_sem]
   rw [hr]
   refine fin_intro [] [] [] [.ag [.v (.slice none 0 0)], .v (.int .i64 (vl A % d))] rfl (by simp (disch := omega) only [go_sem]) (by simp (disch := omega) only [go_sem]) (by simp) (by intro _; simp [tupA, AV.pu, AV.pu.puL, Ob.pu, pu_ints]) (.inl ⟨h0, rfl, rfl⟩)
  ·refine ⟨⟨by simp, by simp (disch := omega) only [go_sem]⟩, ?_⟩
   simp (disch := omega) only [go_sem]
   rw [hr]
   refine fin_intro [(0, 420000000)] [.own 1 (ints (lim m ++ zs))] [] [.ag [.rf 0 0 (lim m).length], .v (.int .i64 (vl A % d))] rfl (by simp (disch := omega) only [go_sem]) (by simp (disch := omega) only [go_sem]) (by simp) (by intro _; simp [tupA, AV.pu, AV.pu.puL, Ob.pu, pu_ints]) (.inr ⟨zs, rfl, rfl⟩)
/-! ### Shifts -/
theorem shl_one {k : Nat} (hk : k < 16) : IntKind.i64.wrap (1 * 2 ^ (min ((k : Int)).toNat 64)) = ((2 ^ k : Nat) : Int) := by
 have e : min ((k : Int)).toNat 64 = k := by omega
 rw [e, Int.one_mul]
 have h := pow_le_15 k hk
 rw [wrap_id (by omega) (by omega), Int.natCast_pow]; rfl
theorem con_l2shl (cl : Bool) (a k : Nat) (la : (lim a).length ≤ 400000) (hk : k ≤ 5000000) : Con Tryz.prog 235 cl [.ag [.sl (lim (a)).length (ints (lim (a)))], .v (.int .i64 k)] [] (natR (a * 2 ^ k)) := by
 refine Con.of_aw Tryz.func235 rfl Tryz.ntmps235 (by simp) (by simp) (by simp) (W.sound ?_)
 show @W Tryz.prog 22 ⟨_⟩ ⟨fun x σ => @retW _ _ _ ⟨_⟩ _ ⟨_⟩ x σ⟩ _ _
 have hz : ((lim a).length : Int) = 0 → a = 0 := fun h => lim_eq_nil.1 (List.length_eq_zero_iff.1 (by omega))
 have hvA := vl_lim a
 have gA := gd_lim a
 generalize hLA : lim a = A at *
 simp (disch := omega) only [go_sem]
 refine ifW_dec (fun h1 => ?_) (fun h1 => ?_)
 ·simp (disch := omega) only [go_sem, h1]
  have h0 := hz h1
  subst h0
  refine fin_intro [] [] [] [.ag [.v (.slice none 0 0)]] rfl (by simp (disch := omega) only [go_sem]) (by simp (disch := omega) only [go_sem]) (by simp) (by intro _; simp [tupA, AV.pu, AV.pu.puL, Ob.pu, pu_ints]) (.inl ⟨by simp, rfl, rfl⟩)
 ·simp (disch := omega) only [go_sem, h1]
  refine draw_of rfl [⟨0, [], []⟩, ⟨1, [], []⟩, ⟨3, [], []⟩, ⟨4, [], []⟩, ⟨7, [4], []⟩, ⟨8, [4], []⟩, ⟨9, [4], []⟩, ⟨2, [4], []⟩, ⟨5, [], []⟩, ⟨6, [], []⟩, ⟨10, [], []⟩, ⟨11, [], []⟩, ⟨12, [], []⟩] (by kernel_rfl) ?_
  have e16 : ((k : Int) / 16).toNat = k / 16 := by omega
  have e17 : (k : Int) % 16 = ((k % 16 : Nat) : Int) := by omega
  have es : IntKind.i64.wrap (1 * 2 ^ (min ((k : Int) % 16).toNat 64)) = ((2 ^ (k % 16) : Nat) : Int) := by rw [e17]; exact shl_one (by omega)
  have hp15 : 2 ^ (k % 16) ≤ 2 ^ 15 := Nat.pow_le_pow_right (by omega) (by omega)
  have ecut : (List.replicate (k / 16) (0 : Int)).take (k / 16) = List.replicate (k / 16) 0 := List.take_of_length_le (by simp)
  simp (disch := omega) only [go_sem, e16, ecut, es]
  refine ⟨by omega, by omega, by simp; omega, ?_⟩
  refine call_oI ((con_l2of false (2 ^ (k % 16)) (by omega)).natF) ?_
  simp (disch := omega) only [go_sem]
  have hvA2 : vl (List.replicate (k / 16) 0 ++ A) * ((2 ^ (k % 16) : Nat) : Int) = ((a * 2 ^ k : Nat) : Int) := by
   rw [vl_append, vl_replicate, hvA, List.length_replicate]
   have h2 : a * 2 ^ k = 65536 ^ (k / 16) * a * 2 ^ (k % 16) := by
    have : 2 ^ k = 65536 ^ (k / 16) * 2 ^ (k % 16) := by rw [pow16, ← Nat.pow_add, Nat.div_add_mod]
    rw [this]; grind
   rw [h2, Int.natCast_mul, Int.natCast_mul, Int.natCast_pow]
   simp
  have gA2 : gd (List.replicate (k / 16) 0 ++ A) := gd_append.2 ⟨gd_replicate _, gA⟩
  have lA2 : (List.replicate (k / 16) (0 : Int) ++ A).length = k / 16 + A.length := by simp
  have et : (List.replicate (k / 16) (0 : Int) ++ A).take (k / 16 + A.length) = List.replicate (k / 16) 0 ++ A := List.take_of_length_le (by simp)
  have l2s : (lim (2 ^ (k % 16))).length ≤ 1000000 := by
   have := len_bl (m := 2 ^ (k % 16)) (B := 16) (bl_le.2 (by omega)); omega
  refine call_closed (con_l2mulL true (List.replicate (k / 16) 0 ++ A) gA2 (2 ^ (k % 16)) (by omega) l2s (a * 2 ^ k) hvA2) (by simp (disch := omega) only [go_sem, lA2, et]) ?_
  rintro r hs (⟨h0, rfl, rfl⟩ | ⟨zs, rfl, rfl⟩)
  ·refine ⟨⟨by simp, by simp (disch := omega) only [go_sem]⟩, ?_⟩
   simp (disch := omega) only [go_sem]
   refine fin_intro [] [] [] [.ag [.v (.slice none 0 0)]] rfl (by simp (disch := omega) only [go_sem]) (by simp (disch := omega) only [go_sem]) (by simp) (by intro _; simp [tupA, AV.pu, AV.pu.puL, Ob.pu, pu_ints]) (.inl ⟨h0, rfl, rfl⟩)
  ·refine ⟨⟨by simp, by simp (disch := omega) only [go_sem]⟩, ?_⟩
   simp (disch := omega) only [go_sem]
   refine fin_intro [(0, 230000000)] [.own 1 (ints (lim (a * 2 ^ k) ++ zs))] [] [.ag [.rf 0 0 (lim (a * 2 ^ k)).length]] rfl (by simp (disch := omega) only [go_sem]) (by simp (disch := omega) only [go_sem]) (by simp) (by intro _; simp [tupA, AV.pu, AV.pu.puL, Ob.pu, pu_ints]) (.inr ⟨zs, rfl, rfl⟩)
end Go.Ab
namespace Go.Ab
open Go Go.Proofs
set_option linter.unusedVariables false
set_option linter.unusedSimpArgs false
theorem con_l2shr (a k : Nat) (la : (lim a).length ≤ 1000000) (hk : k ≤ 100000000) : Con Tryz.prog 234 false [.ag [.sl (lim (a)).length (ints (lim (a)))], .v (.int .i64 k)] [] (isA (.ag [.sl (lim (a / 2 ^ k)).length (ints (lim (a / 2 ^ k)))])) := by
 refine Con.frzA ?_
 refine Con.of_aw Tryz.func234 rfl Tryz.ntmps234 (by simp) (by simp) (by simp) (W.sound ?_)
 show @W Tryz.prog 28 ⟨_⟩ ⟨fun x σ => @retW _ _ _ ⟨_⟩ _ ⟨_⟩ x σ⟩ _ _
 simp (disch := omega) only [go_sem]
 refine ifW_dec (fun h1 => ?_) (fun h1 => ?_)
 ·simp (disch := omega) only [go_sem, h1]
  have h0 : a / 2 ^ k = 0 := by
   refine Nat.div_eq_of_lt (Nat.lt_of_lt_of_le (lim_lt a) ?_)
   rw [pow16]; exact Nat.pow_le_pow_right (by omega) (by omega)
  rw [h0, lim_zero]
  exact fin_frz
 ·simp (disch := omega) only [go_sem, h1]
  refine draw_of rfl [⟨0, [], []⟩, ⟨1, [], []⟩, ⟨2, [1], []⟩, ⟨3, [1], []⟩, ⟨4, [], []⟩, ⟨5, [], []⟩, ⟨6, [1, 4], []⟩, ⟨7, [1, 4], []⟩, ⟨8, [1, 4], []⟩, ⟨13, [1, 4], []⟩, ⟨9, [], [70000000]⟩, ⟨10, [], [70000000]⟩, ⟨11, [], [70000000]⟩, ⟨12, [], [70000000]⟩, ⟨14, [], []⟩, ⟨15, [], []⟩] (by kernel_rfl) ?_
  have e16 : ((k : Int) / 16).toNat = k / 16 := by omega
  have e17 : (k : Int) % 16 = ((k % 16 : Nat) : Int) := by omega
  have e18 : (((lim a).length : Int) - (k : Int) / 16).toNat = ((lim a).drop (k / 16)).length := by simp; omega
  have es : IntKind.i64.wrap (1 * 2 ^ (min ((k : Int) % 16).toNat 64)) = ((2 ^ (k % 16) : Nat) : Int) := by rw [e17]; exact shl_one (by omega)
  have hp15 : 2 ^ (k % 16) ≤ 2 ^ 15 := Nat.pow_le_pow_right (by omega) (by omega)
  have hp0 : 0 < 2 ^ (k % 16) := Nat.pow_pos (by omega)
  have hvD := vl_div (gd_lim a) (i := k / 16) (by omega)
  have gD := gd_drop (gd_lim a) (k / 16)
  have hlD : ((lim a).drop (k / 16)).length ≤ 1000000 := by simp; omega
  have hm : vl ((lim a).drop (k / 16)) / ((2 ^ (k % 16) : Nat) : Int) = ((a / 2 ^ k : Nat) : Int) := by
   rw [← hvD, vl_lim]
   have : a / 2 ^ k = a / 65536 ^ (k / 16) / 2 ^ (k % 16) := by rw [Nat.div_div_eq_div_mul, pow16, ← Nat.pow_add, Nat.div_add_mod]
   rw [this, Int.natCast_ediv, Int.natCast_ediv, Int.natCast_pow 65536]; rfl
  have et : ((lim a).drop (k / 16)).take ((lim a).drop (k / 16)).length = (lim a).drop (k / 16) := List.take_length
  simp (disch := omega) only [go_sem, e16, e18, et, es]
  generalize (lim a).drop (k / 16) = D at *
  refine ⟨by omega, by omega, ?_⟩
  refine call_oI ((con_l2smallL false D (2 ^ (k % 16)) gD hlD hp0 (by omega) (a / 2 ^ k) hm).natF2) ?_
  simp (disch := omega) only [go_sem]
  exact fin_frz
theorem con_l2bits (a : Nat) (la : (lim a).length ≤ 2 ^ 40) : Con Tryz.prog 290 true [.ag [.sl (lim (a)).length (ints (lim (a)))]] [] (isA (.v (.int .i64 (bl a)))) := by
 refine Con.of_aw Tryz.func290 rfl Tryz.ntmps290 (by simp) (by simp) (by simp) (W.sound ?_)
 show @W Tryz.prog 29 ⟨_⟩ ⟨fun x σ => @retW _ _ _ ⟨_⟩ _ ⟨_⟩ x σ⟩ _ _
 simp (disch := omega) only [go_sem]
 refine ifW_dec (fun h1 => ?_) (fun h1 => ?_)
 ·simp (disch := omega) only [go_sem, h1]
  have : a = 0 := lim_eq_nil.1 (List.length_eq_zero_iff.1 (by omega))
  subst this
  rw [bl_zero]
  exact fin_cI
 ·have hm : a ≠ 0 := fun e => by rw [e, lim_zero] at h1; simp at h1
  have e2 : (((lim a).length : Int) - 1).toNat = (lim a).length - 1 := by omega
  have ht := len_top hm
  have hb := bl_lim hm
  have eq : (lim a).getD ((lim a).length - 1) 0 = ((a / 65536 ^ ((lim a).length - 1) : Nat) : Int) := by rw [lim_get, Nat.mod_eq_of_lt ht.2]
  generalize a / 65536 ^ ((lim a).length - 1) = q at *
  simp (disch := omega) only [go_sem, h1, e2, eq]
  refine ⟨by omega, by omega, ?_⟩
  refine loop_intro (fun x : Nat × Nat => [(3, .v (.int .i64 x.1)), (4, .v (.int .i64 x.2))]) (fun _ => []) (fun x => x.1 + bl x.2 = bl a ∧ x.2 < 65536 ∧ x.1 ≤ 2 ^ 45) (fun x => x.2) (16 * ((lim a).length - 1), q) ⟨hb.symm, ht.2, by show 16 * ((lim a).length - 1) ≤ 2 ^ 45; omega⟩ (Le.lst [] _ _ rfl (by simp (disch := omega) only [go_sem]; try omega) (by simp (disch := omega) only [go_sem])) ?_
  rintro ⟨n, x⟩ ⟨hn, hx, hn2⟩
  dsimp only at hn hx hn2 ⊢
  simp (disch := omega) only [go_sem]
  refine ifW_dec (fun h2 => ?_) (fun h2 => ?_)
  ·simp (disch := omega) only [go_sem, h2]
   have hd := bl_dbl (x := x) (by omega)
   have hp := bl_le.2 (show x < 2 ^ 16 by omega)
   refine next_intro (n + 1, x / 2) [] ⟨by show n + 1 + bl (x / 2) = bl a; omega, by show x / 2 < 65536; omega, ?_⟩ (by show x / 2 < x; omega) rfl (by simp (disch := omega) only [go_sem]; try omega) (by simp (disch := omega) only [go_sem])
   show n + 1 ≤ 2 ^ 45
   have := bl_len (m := a)
   omega
  ·simp (disch := omega) only [go_sem, h2]
   have : x = 0 := by omega
   subst this
   rw [bl_zero] at hn
   refine fin_valc (by simp (disch := omega) only [go_sem]) (by simp (disch := omega) only [go_sem]) ⟨?_, rfl, rfl⟩
   simp [tupA]; omega
theorem con_l2bit (m : Nat) (i : Int) (hl : (lim m).length ≤ 2 ^ 40) (hi : 0 ≤ i) (hi2 : i < 2 ^ 62) : Con Tryz.prog 138 true [.ag [.sl (lim (m)).length (ints (lim (m)))], .v (.int .i64 i)] [] (isA (.v (.int .i64 ((m / 2 ^ i.toNat % 2 : Nat) : Int)))) := by
 refine Con.of_w (rs := [.tmp 4]) Tryz.func138 rfl Tryz.ntmps138 rfl ?_
 obtain ⟨k, rfl⟩ := Int.eq_ofNat_of_zero_le hi
 rw [Int.toNat_natCast]
 have h0 : ¬ ((k : Int) < 0) := by omega
 have e16 : ((k : Int) / 16).toNat = k / 16 := by omega
 have em : min ((k : Int) % 16).toNat 64 = k % 16 := by omega
 have hb := bit_div m k
 simp (disch := omega) only [go_sem, h0]
 refine ifW_dec (fun h1 => ?_) (fun h1 => ?_)
 ·simp (disch := omega) only [go_sem, h1]
  have : m / 2 ^ k % 2 = 0 := by
   rw [← hb]
   have h2 := lim_get m (k / 16)
   rw [List.getD_eq_getElem?_getD, List.getElem?_eq_none (by omega)] at h2
   have h3 : m / 65536 ^ (k / 16) % 65536 = 0 := by simp only [Option.getD_none] at h2; omega
   rw [h3]; simp
  rw [this]
  exact fin_cI
 ·have hx := gd_getD (gd_lim m) (k / 16)
  have hp : (0 : Int) < 2 ^ (k % 16) := Int.pow_pos (by omega)
  have efd : ∀ x : Int, x.fdiv (2 ^ (k % 16)) = x / 2 ^ (k % 16) := fun x => Int.fdiv_eq_ediv_of_nonneg _ (Int.le_of_lt hp)
  have hq : 0 ≤ (lim m).getD (k / 16) 0 / 2 ^ (k % 16) ∧ (lim m).getD (k / 16) 0 / 2 ^ (k % 16) < 65536 := by
   refine ⟨Int.ediv_nonneg hx.1 (Int.le_of_lt hp), Int.lt_of_le_of_lt (Int.ediv_le_self _ hx.1) hx.2⟩
  have hr : (lim m).getD (k / 16) 0 / 2 ^ (k % 16) % 2 = ((m / 2 ^ k % 2 : Nat) : Int) := by
   rw [← hb, lim_get]
   generalize m / 65536 ^ (k / 16) % 65536 = x
   rw [Int.natCast_emod, Int.natCast_ediv, Int.natCast_pow]; rfl
  simp (disch := omega) only [go_sem, h1, e16, em, efd, hr]
  refine ⟨by omega, by omega, by omega, ?_⟩
  exact fin_cI
theorem tz_first {m i : Nat} (hz : ∀ j, j < i → m / 2 ^ j % 2 = 0) (h1 : m / 2 ^ i % 2 = 1) : tz m = i := by
 have key : ∀ k, k ≤ i → 2 ^ k * (m / 2 ^ k) = m := by
  intro k
  induction k with
  | zero => intro _; simp
  | succ k ih =>
   intro hk
   have h2 := ih (by omega)
   have h3 := hz k (by omega)
   have h4 : m / 2 ^ (k + 1) = m / 2 ^ k / 2 := by rw [Nat.pow_succ, Nat.div_div_eq_div_mul]
   rw [h4, Nat.pow_succ, Nat.mul_assoc, show 2 * (m / 2 ^ k / 2) = m / 2 ^ k by omega]; exact h2
 refine tz_uniq (a := m / 2 ^ i / 2) ?_
 have := key i (Nat.le_refl _)
 rw [show 2 * (m / 2 ^ i / 2) + 1 = m / 2 ^ i by omega]; exact this.symm
theorem con_l2trail (m : Nat) (hl : (lim m).length ≤ 2 ^ 40) : Con Tryz.prog 233 true [.ag [.sl (lim (m)).length (ints (lim (m)))]] [] (isA (.v (.int .i64 (tz m)))) := by
 refine Con.of_w (rs := [.tmp 2]) Tryz.func233 rfl Tryz.ntmps233 rfl ?_
 simp (disch := omega) only [go_sem]
 refine loop_intro (fun i : Nat => [(1, .pt 0 0), (3, .v (.int .i64 i))]) (fun _ => [(0, .own 0 [.sl (lim (m)).length (ints (lim (m)))])]) (fun i => i ≤ 16 * (lim m).length ∧ ∀ j, j < i → m / 2 ^ j % 2 = 0) (fun i => 16 * (lim m).length - i) 0 ⟨by omega, fun j hj => by omega⟩ (Le.lst [(0, 30000000)] _ _ rfl (by simp (disch := omega) only [go_sem]; try omega) (by simp (disch := omega) only [go_sem])) ?_
 rintro i ⟨hi, hz⟩
 simp (disch := omega) only [go_sem]
 refine ifW_dec (fun h1 => ?_) (fun h1 => ?_)
 ·simp (disch := omega) only [go_sem, h1]
  refine call_cI (con_l2bit m i hl (by omega) (by omega)) ?_
  simp (disch := omega) only [go_sem]
  refine ifW_dec (fun h2 => ?_) (fun h2 => ?_)
  ·simp (disch := omega) only [go_sem, h2]
   have := tz_first hz (by omega)
   rw [this]
   exact fin_cI
  ·simp (disch := omega) only [go_sem, h2]
   refine next_intro (i + 1) [] ⟨by omega, fun j hj => ?_⟩ (by show 16 * (lim m).length - (i + 1) < 16 * (lim m).length - i; omega) rfl (by simp (disch := omega) only [go_sem]; try omega) (by simp (disch := omega) only [go_sem])
   rcases (by omega : j < i ∨ j = i) with h | h
   ·exact hz j h
   ·subst h; omega
 ·simp (disch := omega) only [go_sem, h1]
  have hm : m = 0 := by
   have h3 := bl_len (m := m)
   rcases Nat.eq_zero_or_pos m with h | h
   ·exact h
   ·have h4 := tz_lt_bl (n := m) (by omega)
    have h5 := (odd_part (n := m) (by omega)).1
    have := hz (tz m) (by omega)
    omega
  subst hm
  rw [tz_zero]
  exact fin_cI
theorem con_l2int (m : Nat) (hm : m < 2 ^ 63) : Con Tryz.prog 262 true [.ag [.sl (lim (m)).length (ints (lim (m)))]] [] (isA (.v (.int .i64 m))) := by
 refine Con.of_aw Tryz.func262 rfl Tryz.ntmps262 (by simp) (by simp) (by simp) (W.sound ?_)
 show @W Tryz.prog 22 ⟨_⟩ ⟨fun x σ => @retW _ _ _ ⟨_⟩ _ ⟨_⟩ x σ⟩ _ _
 simp (disch := omega) only [go_sem]
 have hl : (lim m).length ≤ 4 := lim_len.2 (by omega)
 have hb : ∀ i, i ≤ (lim m).length → 0 ≤ vl ((lim m).drop i) ∧ vl ((lim m).drop i) < 2 ^ 63 := fun i hi => by
  have h1 := vl_nonneg (gd_drop (gd_lim m) i)
  have h2 := vl_take_drop (lim m) i hi
  have h3 := vl_nonneg (gd_take (gd_lim m) i)
  have hp : (0 : Int) < 65536 ^ i := Int.pow_pos (by omega)
  rw [vl_lim] at h2
  have h4 := Int.mul_le_mul_of_nonneg_right (show (1 : Int) ≤ 65536 ^ i by omega) h1
  omega
 refine loop_intro (fun k : Nat => [(1, .pt 0 0), (3, .v (.int .i64 (vl ((lim m).drop k)))), (4, .v (.int .i64 ((k : Int) - 1)))]) (fun _ => [(0, .own 0 [.sl (lim (m)).length (ints (lim (m)))])]) (fun k => k ≤ (lim m).length) (fun k => k) (lim m).length (Nat.le_refl _) (Le.lst [(0, 30000000)] _ _ rfl (by simp (disch := omega) only [go_sem, List.drop_length, vl]; try omega) (by simp (disch := omega) only [go_sem])) ?_
 intro k hk
 have hbk := hb k hk
 simp (disch := omega) only [go_sem]
 refine ifW_dec (fun h1 => ?_) (fun h1 => ?_)
 ·obtain ⟨i, rfl⟩ : ∃ i, k = i + 1 := ⟨k - 1, by omega⟩
  have ei : ((i + 1 : Nat) : Int) - 1 = (i : Nat) := by omega
  have hx := gd_getD (gd_lim m) i
  have hbi := hb i (by omega)
  have hd := vl_drop (l := lim m) (i := i) (by omega)
  have e2 : vl ((lim m).drop (i + 1)) * 65536 + (lim m).getD i 0 = vl ((lim m).drop i) := by omega
  simp (disch := omega) only [go_sem, h1, ei, e2]
  refine ⟨by omega, by omega, next_intro i [] (by show i ≤ _; omega) (by show i < i + 1; omega) rfl (by simp (disch := omega) only [go_sem]; try omega) (by simp (disch := omega) only [go_sem])⟩
 ·have : k = 0 := by omega
  subst this
  have e2 : vl ((lim m).drop 0) = (m : Int) := by rw [List.drop_zero, vl_lim]
  simp (disch := omega) only [go_sem, h1, e2]
  exact fin_valc (by simp (disch := omega) only [go_sem]) (by simp (disch := omega) only [go_sem]) ⟨by simp [tupA, vl_lim], rfl, rfl⟩
end Go.Ab
namespace Go.Ab
open Go Go.Proofs
set_option linter.unusedVariables false
set_option linter.unusedSimpArgs false
theorem lenpos (m : Nat) : decide ((0 : Int) < ((lim m).length : Int)) = decide (m ≠ 0) := by
 rw [decide_eq_decide]
 exact ⟨fun h e => by rw [e, lim_zero] at h; simp at h, fun h => by have := lim_ne h; omega⟩
theorem con_l2normF (m : Nat) (hl : (lim m).length ≤ 2 ^ 39) : Con Tryz.prog 259 false [.sl (lim (m)).length (ints (lim (m)))] [] (isA (.ag [.sl (lim (m)).length (ints (lim (m)))])) := (con_l2norm false (lim m) m hl (gd_lim m) (vl_lim m)).natF
theorem con_l2ofF (n : Nat) (hn : n < 2 ^ 63) : Con Tryz.prog 203 false [.v (.int .i64 n)] [] (isA (.ag [.sl (lim (n)).length (ints (lim (n)))])) := (con_l2of false n hn).natF
theorem con_l2addF (a b : Nat) (la : (lim a).length ≤ 2000000) (lb : (lim b).length ≤ 2000000) : Con Tryz.prog 206 false [.ag [.sl (lim (a)).length (ints (lim (a)))], .ag [.sl (lim (b)).length (ints (lim (b)))]] [] (isA (.ag [.sl (lim (a + b)).length (ints (lim (a + b)))])) := (con_l2add false a b la lb).natF
theorem con_l2mulF (a b : Nat) (la : (lim a).length ≤ 1000000) (lb : (lim b).length ≤ 1000000) : Con Tryz.prog 265 false [.ag [.sl (lim (a)).length (ints (lim (a)))], .ag [.sl (lim (b)).length (ints (lim (b)))]] [] (isA (.ag [.sl (lim (a * b)).length (ints (lim (a * b)))])) := (con_l2mul false a b la lb).natF
theorem con_l2shlF (a k : Nat) (la : (lim a).length ≤ 400000) (hk : k ≤ 5000000) : Con Tryz.prog 235 false [.ag [.sl (lim (a)).length (ints (lim (a)))], .v (.int .i64 k)] [] (isA (.ag [.sl (lim (a * 2 ^ k)).length (ints (lim (a * 2 ^ k)))])) := (con_l2shl false a k la hk).natF
theorem con_l3make (s : Bool) (m : Nat) (hl : (lim m).length ≤ 2 ^ 39) : Con Tryz.prog 202 false [.v (.bool s), .ag [.sl (lim (m)).length (ints (lim (m)))]] [] (isA (.ag [.v (.bool (s && decide (m ≠ 0))), .sl (lim (m)).length (ints (lim (m)))])) := by
 refine Con.frzA ?_
 refine Con.of_w (rs := [.cell 4 27]) Tryz.func202 rfl Tryz.ntmps202 rfl ?_
 simp (disch := omega) only [go_sem]
 refine draw_of rfl [⟨0, [], []⟩, ⟨1, [], []⟩, ⟨2, [], []⟩, ⟨3, [], []⟩, ⟨4, [], []⟩, ⟨5, [], []⟩, ⟨6, [], []⟩, ⟨7, [3], []⟩, ⟨8, [3], []⟩, ⟨9, [3], []⟩, ⟨10, [], []⟩, ⟨11, [], []⟩] (by kernel_rfl) ?_
 simp (disch := omega) only [go_sem]
 refine ifW_b (fun h1 => ?_) (fun h1 => ?_)
 ·simp (disch := omega) only [go_sem, h1, lenpos]
  refine call_oI (con_l2normF m hl) ?_
  simp (disch := omega) only [go_sem]
  exact fin_frz (hp := by simp (disch := omega) only [go_sem, h1, Bool.true_and])
 ·simp (disch := omega) only [go_sem, h1]
  refine call_oI (con_l2normF m hl) ?_
  simp (disch := omega) only [go_sem]
  exact fin_frz (hp := by simp (disch := omega) only [go_sem, h1, Bool.false_and])
theorem con_l3of (n : Int) (h : -9223372036854775808 ≤ n ∧ n < 9223372036854775808) : Con Tryz.prog 129 false [.v (.int .i64 n)] [] (isA (.ag [.v (.bool (decide (n < 0))), .sl (lim (n.natAbs)).length (ints (lim (n.natAbs)))])) := by
 refine Con.frzA ?_
 refine Con.of_aw Tryz.func129 rfl Tryz.ntmps129 (by simp) (by simp) (by simp) (W.sound ?_)
 show @W Tryz.prog 15 ⟨_⟩ ⟨fun x σ => @retW _ _ _ ⟨_⟩ _ ⟨_⟩ x σ⟩ _ _
 simp (disch := omega) only [go_sem]
 refine ifW_dec (fun h1 => ?_) (fun h1 => ?_)
 ·simp (disch := omega) only [go_sem, h1]
  have e1 : 0 - (n + 1) = (((0 - (n + 1)).toNat : Nat) : Int) := by omega
  refine call_oI (con_l2ofF (0 - (n + 1)).toNat (by omega)) ?_ (by simp (disch := omega) only [go_sem, ← e1])
  simp (disch := omega) only [go_sem]
  refine call_oI (con_l2ofF 1 (by omega)) ?_
  simp (disch := omega) only [go_sem]
  have l1 := len_bl (m := (0 - (n + 1)).toNat) (B := 64) (bl_le.2 (by omega))
  have l2 := len_bl (m := 1) (B := 64) (by decide)
  refine call_oI (con_l2addF (0 - (n + 1)).toNat 1 (by omega) (by omega)) ?_
  simp (disch := omega) only [go_sem]
  have e2 : (0 - (n + 1)).toNat + 1 = n.natAbs := by omega
  have l3 := len_bl (m := (0 - (n + 1)).toNat + 1) (B := 64) (bl_le.2 (by omega))
  refine call_oI (con_l3make true ((0 - (n + 1)).toNat + 1) (by omega)) ?_
  simp (disch := omega) only [go_sem]
  refine fin_val (by simp (disch := omega) only [go_sem]) ?_
  show snap _ 6 _ = _
  have e3 : decide (n.natAbs ≠ 0) = true := by simp; omega
  rw [e2]
  simp (disch := omega) only [go_sem, e3, h1, Bool.true_and]
 ·simp (disch := omega) only [go_sem, h1]
  have e1 : n = ((n.natAbs : Nat) : Int) := by omega
  refine call_oI (con_l2ofF n.natAbs (by omega)) ?_ (by simp (disch := omega) only [go_sem, ← e1])
  simp (disch := omega) only [go_sem]
  have l3 := len_bl (m := n.natAbs) (B := 64) (bl_le.2 (by omega))
  refine call_oI (con_l3make false n.natAbs (by omega)) ?_
  simp (disch := omega) only [go_sem]
  exact fin_frz (hp := by simp (disch := omega) only [go_sem, h1, Bool.false_and])
theorem con_l3mul (s1 : Bool) (m1 : Nat) (s2 : Bool) (m2 : Nat) (h1 : bl m1 ≤ 4000000) (h2 : bl m2 ≤ 4000000) : Con Tryz.prog 213 false [.ag [.v (.bool (s1)), .sl (lim (m1)).length (ints (lim (m1)))], .ag [.v (.bool (s2)), .sl (lim (m2)).length (ints (lim (m2)))]] [] (isA (.ag [.v (.bool ((s1 != s2) && decide (m1 * m2 ≠ 0))), .sl (lim (m1 * m2)).length (ints (lim (m1 * m2)))])) := by
 refine Con.frzA ?_
 refine Con.of_w (rs := [.cell 4 27]) Tryz.func213 rfl Tryz.ntmps213 rfl ?_
 simp (disch := omega) only [go_sem]
 have l1 := len_bl h1
 have l2 := len_bl h2
 refine draw_of rfl [⟨0, [], []⟩, ⟨1, [], []⟩, ⟨2, [1], []⟩, ⟨3, [1], []⟩, ⟨4, [], []⟩, ⟨5, [1, 3], []⟩, ⟨6, [1, 3], []⟩, ⟨7, [1, 3, 6], []⟩, ⟨8, [1, 3, 6], []⟩, ⟨9, [1, 3], []⟩, ⟨10, [], []⟩, ⟨11, [], []⟩] (by kernel_rfl) ?_
 simp (disch := omega) only [go_sem]
 refine call_oI (con_l2mulF m1 m2 (by omega) (by omega)) ?_
 simp (disch := omega) only [go_sem]
 have l3 := len_bl (Nat.le_trans (bl_mulle m1 m2) (Nat.add_le_add h1 h2))
 refine call_oI (con_l3make (s1 != s2) (m1 * m2) (by omega)) ?_
 simp (disch := omega) only [go_sem]
 exact fin_frz
theorem con_l4make (s : Bool) (m : Nat) (e : Int) (hm : bl m ≤ 8000000) (he : -2 ^ 40 ≤ e ∧ e ≤ 2 ^ 40) : Con Tryz.prog 156 false [.ag [.v (.bool (s)), .sl (lim (m)).length (ints (lim (m)))], .v (.int .i64 e)] [] (isA (.ag [.v (.bool (oS s m)), .sl (lim (oM m)).length (ints (lim (oM m))), .v (.int .i64 (oE m e))])) := by
 refine Con.frzA ?_
 refine Con.of_aw Tryz.func156 rfl Tryz.ntmps156 (by simp) (by simp) (by simp) (W.sound ?_)
 show @W Tryz.prog 26 ⟨_⟩ ⟨fun x σ => @retW _ _ _ ⟨_⟩ _ ⟨_⟩ x σ⟩ _ _
 simp (disch := omega) only [go_sem]
 have hl := len_bl hm
 refine ifW_dec (fun h1 => ?_) (fun h1 => ?_)
 ·simp (disch := omega) only [go_sem, h1]
  have h0 : m = 0 := lim_eq_nil.1 (List.length_eq_zero_iff.1 (by omega))
  subst h0
  refine fin_val (by simp (disch := omega) only [go_sem]) ?_
  show snap _ 6 _ = _
  simp only [oS, oM_zero, oE, lim_zero, if_true]
  simp (disch := omega) only [go_sem]
 ·have h0 : m ≠ 0 := fun e => h1 (by rw [e, lim_zero]; rfl)
  have ht := tz_lt_bl h0
  simp (disch := omega) only [go_sem, h1]
  refine call_cI (con_l2trail m (by omega)) ?_
  simp (disch := omega) only [go_sem]
  refine draw_of rfl [⟨0, [], []⟩, ⟨1, [], []⟩, ⟨2, [1], []⟩, ⟨3, [1], []⟩, ⟨4, [1, 3], []⟩, ⟨7, [1, 3], []⟩, ⟨8, [1, 3], []⟩, ⟨9, [1, 3], []⟩, ⟨5, [1], []⟩, ⟨6, [], []⟩, ⟨10, [], []⟩, ⟨11, [], []⟩] (by kernel_rfl) ?_
  simp (disch := omega) only [go_sem]
  refine call_oI (con_l2shr m (tz m) (by omega) (by omega)) ?_
  simp (disch := omega) only [go_sem]
  have l3 := len_bl (Nat.le_trans (bl_divle m (2 ^ tz m)) hm)
  refine call_oI (con_l3make s (m / 2 ^ tz m) (by omega)) ?_
  simp (disch := omega) only [go_sem]
  refine fin_val (by simp (disch := omega) only [go_sem]) ?_
  show snap _ 6 _ = _
  have h3 : decide (m / 2 ^ tz m ≠ 0) = true := by
   have := (odd_part h0).1
   simp only [decide_eq_true_eq]; omega
  simp only [oS, oM, oE, if_neg h0]
  simp (disch := omega) only [go_sem, h3, Bool.and_true]
theorem con_l4mul (s1 : Bool) (m1 : Nat) (e1 : Int) (s2 : Bool) (m2 : Nat) (e2 : Int) (h1 : bl m1 ≤ 4000000) (h2 : bl m2 ≤ 4000000) (he1 : -2 ^ 39 ≤ e1 ∧ e1 ≤ 2 ^ 39) (he2 : -2 ^ 39 ≤ e2 ∧ e2 ≤ 2 ^ 39) :
  Con Tryz.prog 140 false [.ag [.v (.bool (s1)), .sl (lim (m1)).length (ints (lim (m1))), .v (.int .i64 (e1))], .ag [.v (.bool (s2)), .sl (lim (m2)).length (ints (lim (m2))), .v (.int .i64 (e2))]] [] (isA (.ag [.v (.bool (oS ((s1 != s2) && decide (m1 * m2 ≠ 0)) (m1 * m2))), .sl (lim (oM (m1 * m2))).length (ints (lim (oM (m1 * m2)))), .v (.int .i64 (oE (m1 * m2) (e1 + e2)))])) := by
 refine Con.frzA ?_
 refine Con.of_w (rs := [.cell 4 29]) Tryz.func140 rfl Tryz.ntmps140 rfl ?_
 simp (disch := omega) only [go_sem]
 refine draw_of rfl [⟨0, [], []⟩, ⟨1, [], []⟩, ⟨2, [1], []⟩, ⟨3, [1], []⟩, ⟨5, [1, 3], []⟩, ⟨6, [1, 3], []⟩, ⟨7, [1, 3, 6], []⟩, ⟨8, [1, 3, 6], []⟩, ⟨9, [1, 3], []⟩, ⟨4, [6, 8], []⟩, ⟨10, [], []⟩, ⟨11, [], []⟩] (by kernel_rfl) ?_
 simp (disch := omega) only [go_sem]
 refine call_oI (con_l3mul s1 m1 s2 m2 h1 h2) ?_
 simp (disch := omega) only [go_sem]
 have h3 := Nat.le_trans (bl_mulle m1 m2) (Nat.add_le_add h1 h2)
 refine call_oI (con_l4make ((s1 != s2) && decide (m1 * m2 ≠ 0)) (m1 * m2) (e1 + e2) (by omega) (by omega)) ?_
 simp (disch := omega) only [go_sem]
 exact fin_frz
theorem con_l4top (s : Bool) (m : Nat) (e : Int) (hm : (lim m).length ≤ 2 ^ 40) (he : -2 ^ 40 ≤ e ∧ e ≤ 2 ^ 40) : Con Tryz.prog 260 true [.ag [.v (.bool (s)), .sl (lim (m)).length (ints (lim (m))), .v (.int .i64 (e))]] [] (isA (.v (.int .i64 (if m = 0 then 0 else e + (bl m : Int))))) := by
 refine Con.of_w (rs := [.tmp 2]) Tryz.func260 rfl Tryz.ntmps260 rfl ?_
 simp (disch := omega) only [go_sem]
 refine ifW_dec (fun h1 => ?_) (fun h1 => ?_)
 ·simp (disch := omega) only [go_sem, h1]
  have h0 : m = 0 := lim_eq_nil.1 (List.length_eq_zero_iff.1 (by omega))
  rw [if_pos h0]
  exact fin_cI
 ·have h0 : m ≠ 0 := fun e => h1 (by rw [e, lim_zero]; rfl)
  have := bl_len (m := m)
  simp (disch := omega) only [go_sem, h1]
  refine draw_of rfl [⟨0, [], []⟩, ⟨1, [], []⟩, ⟨2, [1], []⟩, ⟨3, [1], []⟩, ⟨4, [1], []⟩, ⟨5, [1], []⟩, ⟨6, [], []⟩, ⟨7, [], []⟩] (by kernel_rfl) ?_
  simp (disch := omega) only [go_sem]
  refine call_cI (con_l2bits m hm) ?_
  simp (disch := omega) only [go_sem]
  rw [if_neg h0]
  exact fin_cI
end Go.Ab
