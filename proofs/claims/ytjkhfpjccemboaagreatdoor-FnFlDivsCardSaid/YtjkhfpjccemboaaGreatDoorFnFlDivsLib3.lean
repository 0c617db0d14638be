/- What the proof of this claim stands on: the walks of the functions and the plain laws, part 3. -/
import Derived.Test.YtjkhfpjccemboaaGreatDoorFnFlDivsLib2
namespace Go.Ab
open Go
set_option linter.unusedVariables false
section
variable {P : Program} {f : FuncId} {args : List AV} {post : AV → List Ob → List Ob → Prop}
theorem Con.frz (h : Con P f false args [] post) : Con P f false args [] (fun r' hs' bs' => hs' = [] ∧ bs' = [] ∧ ∃ r hs, post r hs [] ∧ r' = snap (rhp hs []) 6 r) := by
 intro R ι w vs h1 h2 h3 h4 h5
 refine (h R ι w vs h1 h2 h3 h4 h5).mono ?_
 rintro e w' ⟨x, r, hs, bs', R', ι', he, hp, hF⟩
 have hb : bs' = [] := List.length_eq_zero_iff.1 (by simpa using hF.len)
 subst hb
 have hfree : ∀ m, 10000000 ≤ m → rhp hs [] m = .free := fun m hm => by simp [rhp, hm]
 have hO : HpOk R' ι' w' (rhp hs []) := by
  refine ⟨fun m => ?_, fun m z cs B e hB hr => hF.nR m z cs B e hB (.inr hr), hF.inj, hF.men⟩
  rcases Nat.lt_or_ge m 10000000 with hm | hm
  ·exact hF.okF m hm
  ·rw [hfree m hm]; trivial
 have hown : ∀ {m z cs B}, rhp hs [] m = .own z cs → ι' m = some B → w.heap.size ≤ B.b ∧ B.b < w'.heap.size := by
  intro m z cs B e hB
  have hm : m < 10000000 := by
   rcases Nat.lt_or_ge m 10000000 with hm | hm
   ·exact hm
   ·rw [hfree m hm] at e; cases e
  refine ⟨hF.fresh m z cs B hm e hB, ?_⟩
  have := hF.okF m hm
  rw [e, hB] at this
  obtain ⟨c, T, lo, hi, g1, _⟩ := this
  rcases Nat.lt_or_ge B.b w'.heap.size with h' | h'
  ·exact h'
  ·simp [Array.getElem?_eq_none h'] at g1
 refine ⟨x, snap (rhp hs []) 6 r, [], [], fun b => R' b ∨ OwnB (rhp hs []) ι' b, ι', he, ⟨rfl, rfl, r, hs, hp, rfl⟩, ?_⟩
 have hnil : ∀ m, rhp [] [] m = .free := fun m => by simp [rhp]
 refine ⟨hF.ext, fun b hb => ?_, fun b hb => ?_, .fr _ _ (snap_rep hO (fun _ h => .inl h) (fun _ h => .inr h) 6 hF.rep), snap_all 6 r, fun m _ => ?_, fun m _ => ?_, fun m z cs B e => ?_, fun m m' z z' cs cs' B B' e => ?_, fun m z cs e => ?_, fun m z cs B _ e => ?_, rfl, hF.bown, fun i hi => by simp at hi⟩
 ·rcases hb with hb | ⟨m, z, cs, B, e, hB, rfl⟩
  ·exact hF.rlt b hb
  ·exact (hown e hB).2
 ·rcases hb with hb | ⟨m, z, cs, B, e, hB, rfl⟩
  ·exact hF.rnew b hb
  ·exact .inl (hown e hB).1
 ·rw [hnil]; trivial
 ·rw [hnil]; trivial
 all_goals (rw [hnil] at e; cases e)
def numR (l : List Int) : AV → List Ob → List Ob → Prop := fun r hs bs =>
 (l = [] ∧ r = .v (.slice none 0 0) ∧ hs = []) ∨ ∃ zs, r = .rf 0 0 l.length ∧ hs = [.own 1 (ints (l ++ zs))]
def numF (l : List Int) : AV → List Ob → List Ob → Prop := fun r hs bs => r = .sl l.length (ints l) ∧ hs = [] ∧ bs = []
theorem Con.num {l : List Int} (h : Con P f false args [] (numR l)) : Con P f false args [] (numF l) :=
 h.frz.mono fun r hs bs ⟨h1, h2, r0, hs0, h3, h4⟩ => by
  refine ⟨?_, h1, h2⟩
  rcases h3 with ⟨rfl, rfl, rfl⟩ | ⟨zs, rfl, rfl⟩
  ·rw [h4]; rfl
  ·rw [h4]
   show AV.sl l.length ((cut (ints (l ++ zs)) 0 (l.length * 1)).map (snap _ 5)) = _
   rw [ints_cut, List.drop_zero, Nat.mul_one, List.take_left' rfl, snap_ints]
def bytR (l : List UInt8) : AV → List Ob → List Ob → Prop := fun r hs bs =>
 (l = [] ∧ r = .v (.slice none 0 0) ∧ hs = []) ∨ ∃ zs, r = .rf 0 0 l.length ∧ hs = [.own 1 (bytesA (l ++ zs))]
def bytF (l : List UInt8) : AV → List Ob → List Ob → Prop := fun r hs bs => r = .sl l.length (bytesA l) ∧ hs = [] ∧ bs = []
theorem bytes_length (l : List UInt8) : (bytesA l).length = l.length := by simp [bytesA]
theorem bytes_cut {xs : List UInt8} {o n : Nat} : cut (bytesA xs) o n = bytesA ((xs.drop o).take n) := by simp [cut, bytesA]
theorem bytes_app {xs ys : List UInt8} : bytesA xs ++ bytesA ys = bytesA (xs ++ ys) := by simp [bytesA]
theorem bytes_snap {h : Nat → Ob} {k : Nat} {xs : List UInt8} : (bytesA xs).map (snap h (k + 1)) = bytesA xs := by simp [bytesA, snap_int]
theorem bytes_wr {xs : List UInt8} {o : Nat} {b : UInt8} : wr (bytesA xs) o [.v (.int .u8 b.toNat)] = bytesA (xs.set o b) := by
 simp [wr, bytesA, List.map_set]
theorem bytes_ck {xs : List UInt8} : cellOk (bytesA xs) = True := by
 simp only [eq_iff_iff, iff_true]; intro k hk; obtain ⟨n, _, rfl⟩ := List.mem_map.1 hk; rfl
theorem bytes_ren {ρ : Nat → Nat} {xs : List UInt8} : renL ρ (bytesA xs) = bytesA xs := by simp [renL_map, bytesA, AV.ren]
theorem bytes_all {p : Nat → Prop} {xs : List UInt8} : AllL p (bytesA xs) = True := by
 simp only [eq_iff_iff, iff_true]; exact AllL.of_mem fun a ha => by obtain ⟨n, _, rfl⟩ := List.mem_map.1 ha; simp [AV.All]
theorem bytes_get {xs : List UInt8} {o : Nat} (ho : o < xs.length) : (bytesA xs).getD o .un = .v (.int .u8 (xs.getD o 0).toNat) := by
 simp [bytesA, List.getD_eq_getElem?_getD, List.getElem?_eq_getElem ho]
theorem load_bytes {h : Nat → Ob} {sz o : Nat} {xs : List UInt8} {K : AV → Prop} : @loadW false sz h (.fp (bytesA xs) o) ⟨K⟩ = (o < xs.length ∧ K (.v (.int .u8 (xs.getD o 0).toNat))) := by
 rw [load_fp, rd_f, cond_false, bytes_length]
 refine propext ⟨fun ⟨h1, h2⟩ => ?_, fun ⟨h1, h2⟩ => ?_⟩
 ·rw [bytes_get (by omega)] at h2; exact ⟨by omega, h2⟩
 ·rw [bytes_get h1]; exact ⟨by omega, h2⟩
end
theorem pu_ints {l : List Int} : AV.pu.puL (ints l) = True := by
 simp only [eq_iff_iff, iff_true]
 induction l with
 | nil => simp [ints, AV.pu.puL]
 | cons x r ih => exact ⟨trivial, ih⟩
def nsl (n : Nat) : AV := .sl (lim n).length (ints (lim n))
attribute [go_sem] bytes_wr bytes_length bytes_cut bytes_app bytes_snap bytes_ck bytes_ren bytes_all load_bytes
end Go.Ab
namespace Go.Ab
open Go
set_option linter.unusedVariables false
mutual
theorem ren_id : ∀ a : AV, a.ren (fun m => m) = a
 | .un | .v _ | .sl _ _ | .fp _ _ | .rf _ _ _ | .pt _ _ => rfl
 | .ag cs => by simp only [AV.ren, renL_id cs]
 | .tu cs => by simp only [AV.ren, renL_id cs]
 | .fn _ cs => by simp only [AV.ren, renL_id cs]
theorem renL_id : ∀ cs : List AV, renL (fun m => m) cs = cs
 | [] => rfl
 | a :: r => by simp only [renL, ren_id a, renL_id r]
end
section
variable {P : Program} {N : Nat} {Q : Exit → St → Prop} {e : Nat → AV} {h : Nat → Ob}
theorem leL_self : ∀ {l : List AV}, AllL (memK []) l → leL [] [] l l
 | [], _ => trivial
 | a :: r, hl => by
  rw [allL_cons] at hl
  exact ⟨⟨ren_id a, hl.1⟩, leL_self hl.2⟩
theorem fin_val {post : AV → List Ob → List Ob → Prop} {l : List AV} (hl : AllL (memK []) l) (hp : post (tupA l) [] []) : @finW N false 0 ⟨post⟩ ⟨e⟩ l h :=
 fin_intro [] [] [] l rfl (leL_self hl) trivial (by simp) (by simp) hp
theorem fin_valc {post : AV → List Ob → List Ob → Prop} {l : List AV} (hl : AllL (memK []) l) (hu : AV.pu.puL l) (hp : post (tupA l) [] []) : @finW N true 0 ⟨post⟩ ⟨e⟩ l h := by
 refine fin_intro [] [] [] l rfl (leL_self hl) trivial (by simp) (fun _ => ⟨by simp, by simp, ?_⟩) hp
 unfold tupA; split
 ·exact hu.1
 ·exact hu
theorem ifW_nb {b : Bool} {A B : Prop} (ha : b = false → A) (hb : b = true → B) : @ifW (!b) ⟨A⟩ ⟨B⟩ := ⟨fun h => ha (by simpa using h), fun h => hb (by simpa using h)⟩
theorem pu_nil : AV.pu.puL [] = True := by simp [AV.pu.puL]
theorem pu_cons {a : AV} {r : List AV} : AV.pu.puL (a :: r) = (a.pu ∧ AV.pu.puL r) := by simp [AV.pu.puL]
theorem pu_v {x : Value} : AV.pu (.v x) = True := by simp [AV.pu]
theorem pu_un : AV.pu .un = True := by simp [AV.pu]
theorem pu_ag {cs : List AV} : AV.pu (.ag cs) = AV.pu.puL cs := by simp [AV.pu]
theorem pu_tu {cs : List AV} : AV.pu (.tu cs) = AV.pu.puL cs := by simp [AV.pu]
theorem pu_rf {m o n : Nat} : AV.pu (.rf m o n) = True := by simp [AV.pu]
theorem pu_sl0 {n : Nat} : AV.pu (.sl n []) = True := by simp [AV.pu]
theorem snap_tu {k : Nat} {cs : List AV} : snap h (k + 1) (.tu cs) = .tu (cs.map (snap h k)) := _root_.id rfl
def isA (a : AV) : AV → List Ob → List Ob → Prop := fun r hs bs => r = a ∧ hs = [] ∧ bs = []
def frzR (a : AV) : AV → List Ob → List Ob → Prop := fun r hs bs => snap (rhp hs []) 6 r = a
theorem Con.frzA {f : FuncId} {args : List AV} {a : AV} (h : Con P f false args [] (frzR a)) : Con P f false args [] (isA a) :=
 h.frz.mono fun r hs bs ⟨h1, h2, r0, hs0, h3, h4⟩ => ⟨by rw [h4]; exact h3, h1, h2⟩
theorem rhp_zero {a : Ob} {hs : List Ob} : rhp (a :: hs) [] 0 = a := by simp [rhp]
theorem rhp_one {a b : Ob} {hs : List Ob} : rhp (a :: b :: hs) [] 1 = b := by simp [rhp]
theorem snap_num {hp : Nat → Ob} {k m n : Nat} {l zs : List Int} (h : hp m = .own 1 (ints (l ++ zs))) (hn : l.length = n) : snap hp (k + 2) (.rf m 0 n) = .sl n (ints l) := by
 subst hn
 simp only [snap_rf, h]
 rw [ints_cut, List.drop_zero, Nat.mul_one, List.take_left' rfl, snap_ints]
def natR (m : Nat) : AV → List Ob → List Ob → Prop := fun r hs bs =>
 (m = 0 ∧ r = .ag [.v (.slice none 0 0)] ∧ hs = []) ∨ ∃ zs, r = .ag [.rf 0 0 (lim m).length] ∧ hs = [.own 1 (ints (lim m ++ zs))]
theorem Con.natF {f : FuncId} {args : List AV} {m : Nat} (h : Con P f false args [] (natR m)) : Con P f false args [] (isA (.ag [.sl (lim m).length (ints (lim m))])) :=
 Con.frzA <| h.mono fun r hs bs h => by
  rcases h with ⟨rfl, rfl, rfl⟩ | ⟨zs, rfl, rfl⟩
  ·show snap _ 6 _ = _
   rw [lim_zero]; rfl
  ·show snap _ 6 _ = _
   rw [snap_ag, List.map_cons, List.map_nil, snap_num (k := 3) (l := lim m) (zs := zs) rhp_zero rfl]
theorem Con.scalar {f : FuncId} {cl : Bool} {xs : List Value} {y : Value} (h : ∀ w, Gd w → Calls P f ⟨xs⟩ w fun e w' => e = .returned y ∧ w' = w) : Con P f cl (xs.map .v) [] (isA (.v y)) := by
 intro R ι w vs h1 h2 h3 h4 h5
 have hvs : vs = ⟨xs⟩ := by
  obtain ⟨g1, g2⟩ := h2
  apply Array.ext'
  apply List.ext_getElem
  ·simpa using g1
  ·intro i i1 i2
   have := g2 i (by simpa using i2)
   simp only [List.getElem_map] at this
   have := this.v_inv
   rw [Array.getD_eq_getD_getElem?, Array.getElem?_eq_getElem (by simpa using i1)] at this
   simpa using this
 subst hvs
 refine (h w h5.1).mono ?_
 rintro e w' ⟨rfl, rfl⟩
 have hnil : ∀ m, rhp [] [] m = .free := fun m => by simp [rhp]
 refine ⟨y, .v y, [], [], fun _ => False, ι, rfl, ⟨rfl, rfl, rfl⟩, Ext.refl _ _, fun _ h => h.elim, fun _ h => h.elim, .fr _ _ (.v _), by simp [AV.All], fun m _ => ?_, fun m _ => ?_, fun m z cs B e => ?_, fun m m' z z' cs cs' B B' e => ?_, fun m z cs e => ?_, fun m z cs B _ e => ?_, rfl, fun m _ => rfl, fun i hi => by simp at hi⟩
 ·rw [hnil]; trivial
 ·rw [hnil]; trivial
 all_goals (rw [hnil] at e; cases e)
end
theorem cut_z {cs : List AV} {o : Nat} : cut cs o 0 = [] := by simp [cut]
attribute [go_sem] Bool.not_not cut_z snap_tu pu_nil pu_cons pu_v pu_un pu_ag pu_tu pu_rf pu_sl0
section
variable {P : Program} {N : Nat} {e : Nat → AV} {h : Nat → Ob} {f : FuncId} {c : Nat} {aa0 args : List AV} {K : KV} {a : AV} {l : List AV}
theorem call_oI (hc : Con P f false args [] (isA a)) (hk : K (a.ren (rho c [])) h) (ha : aa0.map (snap (fun _ => .dead) 6) = args := by simp (disch := omega) only [go_sem]) : @callW P f aa0 h c ⟨K⟩ :=
 call_open hc ha fun r hs hp => by
  obtain ⟨h1, h2, _⟩ := hp
  subst h1; subst h2
  exact ⟨⟨by simp, trivial⟩, hk⟩
theorem call_cI (hc : Con P f true args [] (isA a)) (hk : K (a.ren (rho c [])) h) (ha : aa0.map (snap h 6) = args := by simp (disch := omega) only [go_sem]) : @callW P f aa0 h c ⟨K⟩ :=
 call_closed hc ha fun r hs hp => by
  obtain ⟨h1, h2, _⟩ := hp
  subst h1; subst h2
  exact ⟨⟨by simp, trivial⟩, hk⟩
theorem fin_frz (hl : AllL (memK []) l := by simp (disch := omega) only [go_sem]) (hp : snap (rhp [] []) 6 (tupA l) = a := by simp (disch := omega) only [go_sem]) : @finW N false 0 ⟨frzR a⟩ ⟨e⟩ l h := fin_val hl hp
theorem fin_cI (hl : AllL (memK []) l := by simp (disch := omega) only [go_sem]) (hu : AV.pu.puL l := by simp (disch := omega) only [go_sem]) : @finW N true 0 ⟨isA (tupA l)⟩ ⟨e⟩ l h := fin_valc hl hu ⟨rfl, rfl, rfl⟩
theorem Con.of_w {fn : Func} {c : Code} {cl : Bool} {rs : List ResultVar} {post : AV → List Ob → List Ob → Prop} (hf : P.funcs[f]? = some fn) (hb : fn.body = some c) (hN : fn.ntmps = N) (hr : fn.results.toList = rs)
  (h : @W P N ⟨c⟩ ⟨fun x σ => @retW P N cl ⟨rs⟩ 0 ⟨post⟩ x σ⟩ (argE args) (chp [] [])) (ha : args.length ≤ N := by simp) : Con P f cl args [] post :=
 Con.of_aw hf hb hN ha (by simp) (by simp) (W.sound (by rw [hr]; exact h))
end
end Go.Ab
namespace Go.Ab
set_option linter.unusedVariables false
theorem lim_get (m i : Nat) : (lim m).getD i 0 = ((m / 65536 ^ i % 65536 : Nat) : Int) := by
 induction i generalizing m with
 | zero =>
  by_cases h : m = 0
  ·subst h; rw [lim_zero]; rfl
  ·rw [lim_pos h, List.getD_cons_zero]; simp
 | succ i ih =>
  by_cases h : m = 0
  ·subst h; rw [lim_zero]; simp
  ·rw [lim_pos h, List.getD_cons_succ, ih, Nat.div_div_eq_div_mul, Nat.pow_succ, Nat.mul_comm]
/-! ### Bits -/
def bl (n : Nat) : Nat := if n = 0 then 0 else Nat.log2 n + 1
theorem bl_le {n k : Nat} : bl n ≤ k ↔ n < 2 ^ k := by
 unfold bl
 by_cases h : n = 0
 ·subst h; simp; exact Nat.pow_pos (by omega)
 ·rw [if_neg h, ← Nat.log2_lt h]; omega
theorem bl_lt (n : Nat) : n < 2 ^ bl n := bl_le.1 (Nat.le_refl _)
theorem bl_ge {n : Nat} (h : n ≠ 0) : 2 ^ (bl n - 1) ≤ n := by
 rcases Nat.lt_or_ge n (2 ^ (bl n - 1)) with h1 | h1
 ·have h2 := bl_le.2 h1
  have : bl n ≠ 0 := fun e => by unfold bl at e; rw [if_neg h] at e; omega
  omega
 ·exact h1
theorem bl_zero : bl 0 = 0 := rfl
theorem bl_pos {n : Nat} (h : n ≠ 0) : 0 < bl n := by unfold bl; rw [if_neg h]; omega
theorem bl_mono {a b : Nat} (h : a ≤ b) : bl a ≤ bl b := bl_le.2 (Nat.lt_of_le_of_lt h (bl_lt b))
theorem bl_eq {n k : Nat} (h1 : 2 ^ k ≤ n) (h2 : n < 2 ^ (k + 1)) : bl n = k + 1 := by
 have h3 := bl_le.2 h2
 have h4 : ¬ bl n ≤ k := fun h => by have := bl_le.1 h; omega
 omega
theorem bl_mul_pow {n : Nat} (h : n ≠ 0) (k : Nat) : bl (n * 2 ^ k) = bl n + k := by
 have h1 := bl_ge h
 have h2 := bl_lt n
 have h3 := bl_pos h
 have e : bl n + k = (bl n - 1 + k) + 1 := by omega
 rw [e]
 refine bl_eq ?_ ?_
 ·rw [Nat.pow_add]; exact Nat.mul_le_mul_right _ h1
 ·rw [show bl n - 1 + k + 1 = bl n + k by omega, Nat.pow_add]; exact Nat.mul_lt_mul_of_pos_right h2 (Nat.pow_pos (by omega))
theorem bl_div {n k : Nat} (h : 2 ^ k ≤ n) : bl n = k + bl (n / 2 ^ k) := by
 have hp : 0 < 2 ^ k := Nat.pow_pos (by omega)
 have hq : n / 2 ^ k ≠ 0 := by have := Nat.div_pos h hp; omega
 have h1 := bl_ge hq
 have h2 := bl_lt (n / 2 ^ k)
 have h3 := bl_pos hq
 have e : k + bl (n / 2 ^ k) = (k + (bl (n / 2 ^ k) - 1)) + 1 := by omega
 rw [e]
 refine bl_eq ?_ ?_
 ·rw [Nat.pow_add, Nat.mul_comm]; exact (Nat.le_div_iff_mul_le hp).1 h1
 ·rw [show k + (bl (n / 2 ^ k) - 1) + 1 = k + bl (n / 2 ^ k) by omega, Nat.pow_add, Nat.mul_comm]; exact (Nat.div_lt_iff_lt_mul hp).1 h2
theorem pow16 (k : Nat) : (65536 : Nat) ^ k = 2 ^ (16 * k) := by rw [Nat.pow_mul]
theorem bl_lim {m : Nat} (h : m ≠ 0) : bl m = 16 * ((lim m).length - 1) + bl (m / 65536 ^ ((lim m).length - 1)) := by
 rw [pow16]; exact bl_div (by rw [← pow16]; exact lim_ge h)
theorem bl_dbl {x : Nat} (h : x ≠ 0) : bl x = bl (x / 2) + 1 := by
 by_cases h1 : x / 2 = 0
 ·have : x = 1 := by omega
  subst this; rfl
 ·have h2 := bl_ge h1
  have h3 := bl_lt (x / 2)
  have h4 := bl_pos h1
  refine bl_eq ?_ ?_
  ·obtain ⟨k, hk⟩ : ∃ k, bl (x / 2) = k + 1 := ⟨bl (x / 2) - 1, by omega⟩
   rw [hk] at h2 ⊢; rw [Nat.add_sub_cancel] at h2; rw [Nat.pow_succ]; omega
  ·rw [Nat.pow_succ]; omega
theorem len_top {m : Nat} (h : m ≠ 0) : 0 < m / 65536 ^ ((lim m).length - 1) ∧ m / 65536 ^ ((lim m).length - 1) < 65536 := by
 have hp : 0 < 65536 ^ ((lim m).length - 1) := Nat.pow_pos (by omega)
 have h2 := lim_lt m
 have h3 : (lim m).length ≠ 0 := fun e => h (lim_eq_nil.1 (List.length_eq_zero_iff.1 e))
 refine ⟨Nat.div_pos (lim_ge h) hp, (Nat.div_lt_iff_lt_mul hp).2 ?_⟩
 rw [Nat.mul_comm, ← Nat.pow_succ, Nat.succ_eq_add_one, show (lim m).length - 1 + 1 = (lim m).length by omega]; exact h2
def tz (n : Nat) : Nat := if n = 0 then 0 else if n % 2 = 1 then 0 else tz (n / 2) + 1
termination_by n
theorem tz_zero : tz 0 = 0 := by rw [tz]; simp
theorem tz_mk (k a : Nat) : tz (2 ^ k * (2 * a + 1)) = k := by
 induction k with
 | zero => rw [tz, if_neg (by omega), if_pos (by omega)]
 | succ k ih =>
  have h : 0 < 2 ^ k * (2 * a + 1) := Nat.mul_pos (Nat.pow_pos (by omega)) (by omega)
  have e : 2 ^ (k + 1) * (2 * a + 1) = 2 * (2 ^ k * (2 * a + 1)) := by rw [Nat.pow_succ]; grind
  rw [tz, e, if_neg (by omega), if_neg (by omega), show 2 * (2 ^ k * (2 * a + 1)) / 2 = 2 ^ k * (2 * a + 1) by omega, ih]
theorem tz_spec {n : Nat} (h : n ≠ 0) : ∃ a, n = 2 ^ tz n * (2 * a + 1) := by
 induction n using Nat.strongRecOn with
 | _ n ih =>
  rw [tz, if_neg h]
  by_cases h1 : n % 2 = 1
  ·rw [if_pos h1]; exact ⟨n / 2, by simp; omega⟩
  ·rw [if_neg h1]
   obtain ⟨a, ha⟩ := ih (n / 2) (by omega) (by omega)
   refine ⟨a, ?_⟩
   rw [Nat.pow_succ]
   have : n = 2 * (n / 2) := by omega
   rw [this, ha]
   have e : 2 * (2 ^ tz (n / 2) * (2 * a + 1)) / 2 = 2 ^ tz (n / 2) * (2 * a + 1) := by omega
   rw [e, tz_mk]; grind
theorem tz_uniq {n k a : Nat} (h : n = 2 ^ k * (2 * a + 1)) : tz n = k := by rw [h, tz_mk]
theorem tz_mul_pow {n : Nat} (h : n ≠ 0) (k : Nat) : tz (n * 2 ^ k) = tz n + k := by
 obtain ⟨a, ha⟩ := tz_spec h
 refine tz_uniq (a := a) ?_
 conv => lhs; rw [ha]
 rw [Nat.pow_add]; grind
theorem tz_lt_bl {n : Nat} (h : n ≠ 0) : tz n < bl n := by
 obtain ⟨a, ha⟩ := tz_spec h
 have h1 := bl_lt n
 rcases Nat.lt_or_ge (tz n) (bl n) with h2 | h2
 ·exact h2
 ·have h3 : 2 ^ bl n ≤ 2 ^ tz n := Nat.pow_le_pow_right (by omega) h2
  have h4 : 2 ^ tz n * 1 ≤ 2 ^ tz n * (2 * a + 1) := Nat.mul_le_mul_left _ (by omega)
  omega
theorem odd_part {n : Nat} (h : n ≠ 0) : n / 2 ^ tz n % 2 = 1 ∧ n / 2 ^ tz n * 2 ^ tz n = n := by
 obtain ⟨a, ha⟩ := tz_spec h
 have hp : 0 < 2 ^ tz n := Nat.pow_pos (by omega)
 have e : n / 2 ^ tz n = 2 * a + 1 := by
  conv => lhs; lhs; rw [ha]
  exact Nat.mul_div_cancel_left _ hp
 rw [e]
 exact ⟨by omega, by rw [Nat.mul_comm]; exact ha.symm⟩
theorem bit_div (m i : Nat) : m / 65536 ^ (i / 16) % 65536 / 2 ^ (i % 16) % 2 = m / 2 ^ i % 2 := by
 have e : m / 2 ^ i = m / 65536 ^ (i / 16) / 2 ^ (i % 16) := by
  rw [Nat.div_div_eq_div_mul, pow16, ← Nat.pow_add, Nat.div_add_mod]
 rw [e]
 generalize m / 65536 ^ (i / 16) = x
 have hs : i % 16 < 16 := by omega
 generalize i % 16 = s at *
 have h16 : (65536 : Nat) = 2 ^ s * (2 * 2 ^ (15 - s)) := by
  rw [Nat.mul_left_comm, ← Nat.pow_add, show s + (15 - s) = 15 by omega]
 rw [h16]
 have hp : 0 < 2 ^ s := Nat.pow_pos (by omega)
 rw [Nat.mod_mul_right_div_self]
 rw [Nat.mod_mul_right_mod]
/-! ### Comparison -/
def cmpI (a b : Int) : Int := if a < b then -1 else if b < a then 1 else 0
theorem vl_lt_of {A B : List Int} (hA : gd A) (hB : gd B) {i : Nat} (hi : i < A.length) (hl : A.length = B.length) (hd : A.drop (i + 1) = B.drop (i + 1)) (hlt : A.getD i 0 < B.getD i 0) : vl A < vl B := by
 have ha := vl_take_drop A i (by omega)
 have hb := vl_take_drop B i (by omega)
 have h1 := vl_lt (gd_take hA i)
 have h2 := vl_nonneg (gd_take hB i)
 rw [List.length_take, Nat.min_eq_left (by omega)] at h1
 rw [vl_drop hi] at ha
 rw [vl_drop (by omega), ← hd] at hb
 have hp : (0 : Int) < 65536 ^ i := Int.pow_pos (by omega)
 generalize (65536 : Int) ^ i = p at *
 generalize vl (A.drop (i + 1)) = D at *
 have h3 : p * 1 ≤ p * (B.getD i 0 - A.getD i 0) := Int.mul_le_mul_of_nonneg_left (by omega) (by omega)
 have e1 : p * (A.getD i 0 + 65536 * D) = p * A.getD i 0 + p * (65536 * D) := Int.mul_add _ _ _
 have e2 : p * (B.getD i 0 + 65536 * D) = p * B.getD i 0 + p * (65536 * D) := Int.mul_add _ _ _
 rw [Int.mul_sub] at h3
 omega
theorem lim_lt_of {a b : Nat} (h : (lim a).length < (lim b).length) : a < b := by
 rcases Nat.lt_or_ge a b with h1 | h1
 ·exact h1
 ·have := lim_mono h1; omega
theorem drop_eq_of {A B : List Int} {k : Nat} (hl : A.length = B.length) (hk : k ≤ A.length) (h : ∀ j, k ≤ j → A.getD j 0 = B.getD j 0) : A.drop k = B.drop k := by
 apply List.ext_getElem
 ·simp [hl]
 ·intro i h1 h2
  have h3 := h (k + i) (by omega)
  simp only [List.length_drop] at h1 h2
  rw [List.getD_eq_getElem?_getD, List.getD_eq_getElem?_getD, List.getElem?_eq_getElem (by omega), List.getElem?_eq_getElem (by omega)] at h3
  simpa using h3
end Go.Ab
namespace Go.Ab
set_option linter.unusedVariables false
/-! ### The digit of a quotient -/
section
variable {p x y u2 top v2 v1 q r W v : Int}
theorem kn_init (hW : W = x + p * (u2 + 65536 * top)) (hv : v = y + p * (v2 + 65536 * v1)) (hx : 0 ≤ x ∧ x < p) (hy : 0 ≤ y ∧ y < p) (hu : 0 ≤ u2 ∧ u2 < 65536) (hv2 : 0 ≤ v2) (hq : 0 ≤ q)
  (ht : top < (q + 1) * v1) : W < (q + 1) * v := by
 have h1 : u2 + 65536 * top + 1 ≤ 65536 * ((q + 1) * v1) := by omega
 have h2 := Int.mul_le_mul_of_nonneg_left h1 (show 0 ≤ p by omega)
 have h3 : 0 ≤ (q + 1) * y := Int.mul_nonneg (by omega) hy.1
 have h4 : 0 ≤ p * ((q + 1) * v2) := Int.mul_nonneg (by omega) (Int.mul_nonneg (by omega) hv2)
 have e1 : (q + 1) * v = (q + 1) * y + p * ((q + 1) * v2) + p * (65536 * ((q + 1) * v1)) := by rw [hv]; grind
 have e2 : p * (u2 + 65536 * top + 1) = p * (u2 + 65536 * top) + p := by grind
 omega
theorem kn_step (hW : W = x + p * (u2 + 65536 * top)) (hv : v = y + p * (v2 + 65536 * v1)) (hx : 0 ≤ x ∧ x < p) (hy : 0 ≤ y ∧ y < p) (hWB : W < 65536 * v) (hv2 : 0 ≤ v2) (hv1 : 0 ≤ v1) (hq : 0 ≤ q)
  (hr : q * v1 + r = top) (hc : 65536 ≤ q ∨ r * 65536 + u2 < q * v2) : W < q * v := by
 have hv0 : 0 ≤ v := by
  have := Int.mul_nonneg (show 0 ≤ p by omega) (show 0 ≤ v2 + 65536 * v1 by omega)
  omega
 rcases hc with h | h
 ·have := Int.mul_le_mul_of_nonneg_right h hv0
  omega
 ·have h1 : u2 + 65536 * top + 1 ≤ q * v2 + 65536 * (q * v1) := by omega
  have h2 := Int.mul_le_mul_of_nonneg_left h1 (show 0 ≤ p by omega)
  have h3 : 0 ≤ q * y := Int.mul_nonneg hq hy.1
  have e1 : q * v = q * y + p * (q * v2 + 65536 * (q * v1)) := by rw [hv]; grind
  have e2 : p * (u2 + 65536 * top + 1) = p * (u2 + 65536 * top) + p := by grind
  omega
theorem kn_exit (hW : W = x + p * (u2 + 65536 * top)) (hv : v = y + p * (v2 + 65536 * v1)) (hx : 0 ≤ x ∧ x < p) (hy : 0 ≤ y ∧ y < p) (hv2 : 0 ≤ v2) (hv1 : 1 ≤ v1) (hq : 0 ≤ q ∧ q < 65536)
  (hr : q * v1 + r = top) (hc : q * v2 ≤ r * 65536 + u2) : q * v < W + v := by
 have h1 : q * v2 + 65536 * (q * v1) ≤ u2 + 65536 * top := by omega
 have h2 := Int.mul_le_mul_of_nonneg_left h1 (show 0 ≤ p by omega)
 have h3 : q * y ≤ 65535 * p := Int.mul_le_mul (by omega) (by omega) hy.1 (by omega)
 have e1 : q * v = q * y + p * (q * v2 + 65536 * (q * v1)) := by rw [hv]; grind
 have h4 : p * 65536 ≤ p * (v2 + 65536 * v1) := Int.mul_le_mul_of_nonneg_left (by omega) (by omega)
 omega
theorem kn_top {u0 u1 : Int} (hW : W = x + p * (u2 + 65536 * (u0 * 65536 + u1))) (hv : v = y + p * (v2 + 65536 * v1)) (hx : 0 ≤ x ∧ x < p) (hy : 0 ≤ y ∧ y < p) (hu2 : 0 ≤ u2) (hu1 : 0 ≤ u1) (hv2 : v2 < 65536)
  (hWB : W < 65536 * v) : u0 ≤ v1 := by
 rcases (by omega : v1 < u0 ∨ u0 ≤ v1) with h | h
 ·exfalso
  have h1 : 65536 * (v2 + 65536 * v1 + 1) ≤ u2 + 65536 * (u0 * 65536 + u1) := by omega
  have h2 := Int.mul_le_mul_of_nonneg_left h1 (show 0 ≤ p by omega)
  have e1 : p * (65536 * (v2 + 65536 * v1 + 1)) = 65536 * (p * (v2 + 65536 * v1)) + 65536 * p := by grind
  omega
 ·exact h
end
theorem vl_win {D : List Int} {n : Nat} (hn : n < D.length) (h2 : 2 ≤ n) (hz : vl (D.drop (n + 1)) = 0) :
  vl D = vl (D.take (n - 2)) + 65536 ^ (n - 2) * (D.getD (n - 2) 0 + 65536 * (D.getD n 0 * 65536 + D.getD (n - 1) 0)) := by
 rw [vl_take_drop D (n - 2) (by omega), vl_drop (i := n - 2) (by omega), show n - 2 + 1 = n - 1 by omega, vl_drop (i := n - 1) (by omega), show n - 1 + 1 = n by omega, vl_drop (i := n) (by omega), hz]
 grind
theorem vl_top2 {V : List Int} (h2 : 2 ≤ V.length) : vl V = vl (V.take (V.length - 2)) + 65536 ^ (V.length - 2) * (V.getD (V.length - 2) 0 + 65536 * V.getD (V.length - 1) 0) := by
 rw [vl_take_drop V (V.length - 2) (by omega), vl_drop (i := V.length - 2) (by omega), show V.length - 2 + 1 = V.length - 1 by omega, vl_drop (i := V.length - 1) (by omega), show V.length - 1 + 1 = V.length by omega, List.drop_length]
 have : vl [] = 0 := rfl
 rw [this]
 have e : V.take (V.length - 2) = V.take (V.length - 2) := rfl
 grind
theorem vl_above {D V : List Int} (hD : gd D) (hV : gd V) (hn : V.length < D.length) (h : vl D < 65536 * vl V) : vl (D.drop (V.length + 1)) = 0 := by
 have h1 := vl_take_drop D (V.length + 1) (by omega)
 have h2 := vl_nonneg (gd_take hD (V.length + 1))
 have h3 := vl_nonneg (gd_drop hD (V.length + 1))
 have h4 := vl_lt hV
 rw [Int.pow_succ] at h1
 generalize vl (D.drop (V.length + 1)) = z at *
 have hp : (0 : Int) < 65536 ^ V.length := Int.pow_pos (by omega)
 generalize (65536 : Int) ^ V.length = p at *
 rcases (by omega : 0 < z ∨ z ≤ 0) with h5 | h5
 ·exfalso
  have : p * 65536 * 1 ≤ p * 65536 * z := Int.mul_le_mul_of_nonneg_left (by omega) (by omega)
  omega
 ·omega
end Go.Ab
namespace Go.Ab
set_option linter.unusedVariables false
theorem getD_set {l : List Int} {i : Nat} {x : Int} (h : i < l.length) (t : Nat) : (l.set i x).getD t 0 = if t = i then x else l.getD t 0 := by
 rw [List.getD_eq_getElem?_getD, List.getD_eq_getElem?_getD, List.getElem?_set]
 by_cases e : i = t
 ·subst e; simp [h]
 ·rw [if_neg e, if_neg (fun h => e h.symm)]
theorem getD_drop0 {l : List Int} {i j : Nat} : (l.drop i).getD j 0 = l.getD (i + j) 0 := by
 rw [List.getD_eq_getElem?_getD, List.getD_eq_getElem?_getD, List.getElem?_drop]
theorem take_same {A B : List Int} {j : Nat} (hl : A.length = B.length) (h : ∀ t, t < j → A.getD t 0 = B.getD t 0) : A.take j = B.take j := by
 apply List.ext_getElem
 ·simp [hl]
 ·intro i h1 h2
  simp only [List.length_take] at h1 h2
  have h3 := h i (by omega)
  rw [List.getD_eq_getElem?_getD, List.getD_eq_getElem?_getD, List.getElem?_eq_getElem (by omega), List.getElem?_eq_getElem (by omega)] at h3
  simpa using h3
theorem drop_same {A B : List Int} {j : Nat} (hl : A.length = B.length) (h : ∀ t, j ≤ t → A.getD t 0 = B.getD t 0) : A.drop j = B.drop j := by
 rcases Nat.lt_or_ge A.length j with h1 | h1
 ·rw [List.drop_of_length_le (by omega), List.drop_of_length_le (by omega)]
 ·exact drop_eq_of hl h1 h
theorem drop_val {A B : List Int} {j : Nat} {c : Int} (hj : j ≤ A.length) (hl : A.length = B.length) (ht : A.take j = B.take j) (h : vl A = vl B + 65536 ^ j * c) : vl (A.drop j) = vl (B.drop j) + c := by
 have h1 := vl_take_drop A j hj
 have h2 := vl_take_drop B j (by omega)
 rw [ht] at h1
 have hp : (0 : Int) < 65536 ^ j := Int.pow_pos (by omega)
 generalize (65536 : Int) ^ j = p at *
 have : p * vl (A.drop j) = p * (vl (B.drop j) + c) := by rw [Int.mul_add]; omega
 exact Int.eq_of_mul_eq_mul_left (by omega) this
theorem gd_of {l : List Int} (h : ∀ t, 0 ≤ l.getD t 0 ∧ l.getD t 0 < 65536) : gd l := fun x hx => by
 obtain ⟨i, hi, rfl⟩ := List.getElem_of_mem hx
 have := h i
 rwa [List.getD_eq_getElem?_getD, List.getElem?_eq_getElem hi] at this
theorem win_top {D : List Int} {n : Nat} (hn : n < D.length) (hg : ∀ t, t ≠ n → 0 ≤ D.getD t 0 ∧ D.getD t 0 < 65536) (hz : vl (D.drop (n + 1)) = 0) :
  ∃ low, 0 ≤ low ∧ low < 65536 ^ n ∧ vl D = low + 65536 ^ n * D.getD n 0 := by
 refine ⟨vl (D.take n), ?_, ?_, ?_⟩
 ·refine vl_nonneg (gd_of fun t => ?_)
  rw [List.getD_eq_getElem?_getD, List.getElem?_take]
  by_cases h : t < n
  ·rw [if_pos h, ← List.getD_eq_getElem?_getD]; exact hg t (by omega)
  ·rw [if_neg h]; simp
 ·have := vl_lt (l := D.take n) (gd_of fun t => by
   rw [List.getD_eq_getElem?_getD, List.getElem?_take]
   by_cases h : t < n
   ·rw [if_pos h, ← List.getD_eq_getElem?_getD]; exact hg t (by omega)
   ·rw [if_neg h]; simp)
  rwa [List.length_take, Nat.min_eq_left (by omega)] at this
 ·rw [vl_take_drop D n (by omega), vl_drop hn, hz]; simp
theorem win_sign {n : Nat} {low top x : Int} (h0 : 0 ≤ low) (h1 : low < 65536 ^ n) (h : x = low + 65536 ^ n * top) : (top < 0 ↔ x < 0) ∧ (0 ≤ x → x < 65536 ^ n → top = 0) ∧ (-65536 ^ n < x → -1 ≤ top) := by
 have hp : (0 : Int) < 65536 ^ n := Int.pow_pos (by omega)
 generalize (65536 : Int) ^ n = p at *
 have k1 : top ≤ -1 → p * top ≤ -p := fun g => by
  have := Int.mul_le_mul_of_nonneg_left g (show 0 ≤ p by omega)
  omega
 have k2 : top ≤ -2 → p * top ≤ -2 * p := fun g => by
  have := Int.mul_le_mul_of_nonneg_left g (show 0 ≤ p by omega)
  omega
 have k3 : 1 ≤ top → p ≤ p * top := fun g => by
  have := Int.mul_le_mul_of_nonneg_left g (show 0 ≤ p by omega)
  omega
 have k4 : top = 0 → p * top = 0 := fun g => by rw [g]; simp
 refine ⟨⟨fun g => ?_, fun g => ?_⟩, fun g1 g2 => ?_, fun g => ?_⟩
 ·have := k1 (by omega); omega
 ·rcases (by omega : top < 0 ∨ top = 0 ∨ 1 ≤ top) with h | h | h
  ·exact h
  ·have := k4 h; omega
  ·have := k3 h; omega
 ·rcases (by omega : top ≤ -1 ∨ top = 0 ∨ 1 ≤ top) with h | h | h
  ·have := k1 h; omega
  ·exact h
  ·have := k3 h; omega
 ·rcases (by omega : top ≤ -2 ∨ -1 ≤ top) with h | h
  ·have := k2 h; omega
  ·exact h
theorem norm_div {b : Nat} (hb : b ≠ 0) (s : Nat) (hs : s = 16 - bl (b / 65536 ^ ((lim b).length - 1))) :
  s < 16 ∧ (lim (b * 2 ^ s)).length = (lim b).length ∧ 32768 ≤ (lim (b * 2 ^ s)).getD ((lim b).length - 1) 0 ∧ 32768 * 65536 ^ ((lim b).length - 1) ≤ b * 2 ^ s := by
 have h1 := len_top hb
 have h2 := bl_lim hb
 have hl : (lim b).length ≠ 0 := fun e => hb (lim_eq_nil.1 (List.length_eq_zero_iff.1 e))
 generalize hq : b / 65536 ^ ((lim b).length - 1) = q at *
 have hq0 : q ≠ 0 := by omega
 have h3 : bl q ≤ 16 := bl_le.2 (by omega)
 have h4 := bl_pos hq0
 have h5 := bl_mul_pow hb s
 have h6 : bl (b * 2 ^ s) = 16 * (lim b).length := by omega
 have h7 := bl_lt (b * 2 ^ s)
 rw [h6, ← pow16] at h7
 have h8 : b * 2 ^ s ≠ 0 := by have : 0 < 2 ^ s := Nat.pow_pos (by omega); have := Nat.mul_pos (show 0 < b by omega) this; omega
 have h9 := bl_ge h8
 rw [h6] at h9
 have h10 : 2 ^ (16 * (lim b).length - 1) = 32768 * 65536 ^ ((lim b).length - 1) := by
  rw [show 16 * (lim b).length - 1 = 15 + 16 * ((lim b).length - 1) by omega, Nat.pow_add, ← pow16]
 rw [h10] at h9
 have hp : 0 < 65536 ^ ((lim b).length - 1) := Nat.pow_pos (by omega)
 have hlen : (lim (b * 2 ^ s)).length = (lim b).length := by
  have g1 := lim_len.2 h7
  rcases Nat.lt_or_ge (lim (b * 2 ^ s)).length (lim b).length with g | g
  ·have g2 : b * 2 ^ s < 65536 ^ ((lim b).length - 1) := lim_len.1 (by omega)
   omega
  ·omega
 refine ⟨by omega, hlen, ?_, h9⟩
 rw [lim_get]
 have g1 : 32768 ≤ b * 2 ^ s / 65536 ^ ((lim b).length - 1) := (Nat.le_div_iff_mul_le hp).2 h9
 have g2 : b * 2 ^ s / 65536 ^ ((lim b).length - 1) < 65536 := by
  refine (Nat.div_lt_iff_lt_mul hp).2 ?_
  rw [Nat.mul_comm 65536, ← Nat.pow_succ, Nat.succ_eq_add_one, show (lim b).length - 1 + 1 = (lim b).length by omega]; exact h7
 rw [Nat.mod_eq_of_lt g2]; omega
theorem vl_div {D : List Int} (hD : gd D) {i : Nat} (hi : i ≤ D.length) : vl D / 65536 ^ i = vl (D.drop i) := by
 have hP : (0 : Int) < 65536 ^ i := Int.pow_pos (by omega)
 have h1 := vl_nonneg (gd_take hD i)
 have h2 := vl_lt (gd_take hD i)
 rw [List.length_take, Nat.min_eq_left hi] at h2
 rw [vl_take_drop D i hi, Int.add_mul_ediv_left _ _ (by omega), Int.ediv_eq_zero_of_lt h1 h2]; omega
theorem lim_up_len (a : Nat) {s : Nat} (hs : s < 16) : (lim (a * 2 ^ s)).length ≤ (lim a).length + 1 := by
 refine lim_len.2 ?_
 have h1 := lim_lt a
 have h2 : 2 ^ s ≤ 2 ^ 16 := Nat.pow_le_pow_right (by omega) (by omega)
 have h3 : 0 < 2 ^ s := Nat.pow_pos (by omega)
 rw [Nat.pow_succ]
 calc a * 2 ^ s < 65536 ^ (lim a).length * 2 ^ s := Nat.mul_lt_mul_of_pos_right h1 h3
  _ ≤ 65536 ^ (lim a).length * 65536 := Nat.mul_le_mul_left _ h2
theorem lim_up_ge (a : Nat) (s : Nat) : (lim a).length ≤ (lim (a * 2 ^ s)).length := lim_mono (Nat.le_mul_of_pos_right _ (Nat.pow_pos (by omega)))
theorem first_win {a b s : Nat} {U : List Int} (hU : gd U) (hl : (lim b).length ≤ (lim a).length) (hb : 0 < (lim b).length) (hs : s < 16) (hUl : U.length = (lim a).length + 1) (hv : vl U = ((a * 2 ^ s : Nat) : Int)) (hge : 32768 * 65536 ^ ((lim b).length - 1) ≤ b * 2 ^ s) :
  vl (U.drop ((lim a).length - (lim b).length + 1)) < ((b * 2 ^ s : Nat) : Int) := by
 have h1 := vl_div hU (i := (lim a).length - (lim b).length + 1) (by omega)
 rw [← h1, hv]
 have h2 := lim_lt a
 have h3 : 2 ^ s ≤ 2 ^ 15 := Nat.pow_le_pow_right (by omega) (by omega)
 have h4 : 0 < 2 ^ s := Nat.pow_pos (by omega)
 have h5 : a * 2 ^ s / 65536 ^ ((lim a).length - (lim b).length + 1) < b * 2 ^ s := by
  refine Nat.lt_of_lt_of_le ?_ hge
  refine (Nat.div_lt_iff_lt_mul (Nat.pow_pos (by omega))).2 ?_
  rw [Nat.mul_assoc, ← Nat.pow_add, show (lim b).length - 1 + ((lim a).length - (lim b).length + 1) = (lim a).length by omega, Nat.mul_comm]
  calc 2 ^ s * a < 2 ^ s * 65536 ^ (lim a).length := Nat.mul_lt_mul_of_pos_left h2 h4
   _ ≤ 32768 * 65536 ^ (lim a).length := Nat.mul_le_mul_right _ h3
 have e : (((a * 2 ^ s : Nat) : Int) / 65536 ^ ((lim a).length - (lim b).length + 1)) = ((a * 2 ^ s / 65536 ^ ((lim a).length - (lim b).length + 1) : Nat) : Int) := by
  rw [Int.natCast_ediv, Int.natCast_pow]; rfl
 rw [e]; omega
theorem lim_ne {n : Nat} (h : n ≠ 0) : 0 < (lim n).length := by
 rcases Nat.eq_zero_or_pos (lim n).length with e | e
 ·exact absurd (lim_eq_nil.1 (List.length_eq_zero_iff.1 e)) h
 ·exact e
theorem take_step {U V U' : List Int} {j : Nat} {q bo : Int} (gU : gd U) (gV : gd V) (hj : j + V.length < U.length) (hW : vl (U.drop j) < 65536 * vl V) (hq1 : vl (U.drop j) < (q + 1) * vl V) (hq2 : q * vl V < vl (U.drop j) + vl V)
  (hl : U'.length = U.length) (gU' : gd U') (hs : ∀ t, t < j ∨ j + V.length ≤ t → U'.getD t 0 = U.getD t 0) (hv : vl U' - 65536 ^ (j + V.length) * bo = vl U - 65536 ^ j * (q * vl V)) (T : List Int) (hT : T = U'.set (j + V.length) (U.getD (j + V.length) 0 - bo)) :
  T.length = U.length ∧ vl T = vl U - 65536 ^ j * (q * vl V) ∧ vl (T.drop j) = vl (U.drop j) - q * vl V ∧ T.getD (j + V.length) 0 = U.getD (j + V.length) 0 - bo ∧ vl (T.drop (j + V.length + 1)) = 0 ∧
  (¬ U.getD (j + V.length) 0 - bo < 0 → gd T ∧ q * vl V ≤ vl (U.drop j)) ∧ (U.getD (j + V.length) 0 - bo < 0 → (-1 ≤ U.getD (j + V.length) 0 - bo ∧ vl (U.drop j) < q * vl V) ∧ ∀ t, t ≠ j + V.length → 0 ≤ T.getD t 0 ∧ T.getD t 0 < 65536) := by
 have hlT : T.length = U.length := by rw [hT]; simp [hl]
 have hg : ∀ t, T.getD t 0 = if t = j + V.length then U.getD (j + V.length) 0 - bo else U'.getD t 0 := fun t => by rw [hT, getD_set (by omega)]
 have es := hs (j + V.length) (by omega)
 have hvT : vl T = vl U + 65536 ^ j * (-(q * vl V)) := by
  rw [hT, vl_set (by omega), es]
  rw [Int.mul_sub, Int.mul_sub, Int.mul_neg]
  omega
 have htk : T.take j = U.take j := take_same hlT fun t ht => by rw [hg, if_neg (by omega)]; exact hs t (by omega)
 have hwT := drop_val (by omega) hlT htk hvT
 have hab : vl (T.drop (j + V.length + 1)) = 0 := by
  have h1 : T.drop (j + V.length + 1) = U.drop (j + V.length + 1) := drop_same hlT fun t ht => by rw [hg, if_neg (by omega)]; exact hs t (by omega)
  have h2 := vl_above (D := U.drop j) (gd_drop gU j) gV (by simp; omega) hW
  rw [List.drop_drop] at h2
  rw [h1]; exact h2
 have hgood : ∀ t, t ≠ j + V.length → 0 ≤ T.getD t 0 ∧ T.getD t 0 < 65536 := fun t ht => by rw [hg, if_neg ht]; exact gd_getD gU' t
 have htop : T.getD (j + V.length) 0 = U.getD (j + V.length) 0 - bo := by rw [hg, if_pos rfl]
 obtain ⟨low, l0, l1, l2⟩ := win_top (D := T.drop j) (n := V.length) (by simp; omega) (fun t ht => by rw [getD_drop0]; exact hgood _ (by omega)) (by rw [List.drop_drop]; exact hab)
 rw [getD_drop0, htop] at l2
 obtain ⟨s1, s2, s3⟩ := win_sign l0 l1 l2
 have hV := vl_lt gV
 rw [Int.add_mul] at hq1
 refine ⟨hlT, by rw [hvT, Int.mul_neg]; omega, by omega, htop, hab, fun h => ⟨gd_of fun t => ?_, ?_⟩, fun h => ⟨⟨s3 (by omega), ?_⟩, hgood⟩⟩
 ·by_cases e : t = j + V.length
  ·subst e
   have := s2 (by have := s1; omega) (by omega)
   rw [htop]; omega
  ·exact hgood t e
 ·have := s1; omega
 ·have := s1; omega
theorem back_step {T V T' : List Int} {j : Nat} (gV : gd V) (hj : j + V.length < T.length) (hl : T'.length = T.length) (hg : ∀ t, t ≠ j + V.length → 0 ≤ T'.getD t 0 ∧ T'.getD t 0 < 65536)
  (hs : ∀ t, t < j ∨ j + V.length < t → T'.getD t 0 = T.getD t 0) (hab : vl (T.drop (j + V.length + 1)) = 0) (hv : vl T' = vl T + 65536 ^ j * vl V) (h0 : 0 ≤ vl (T.drop j) + vl V) (h1 : vl (T.drop j) < 0) :
  gd T' ∧ vl (T'.drop j) = vl (T.drop j) + vl V := by
 have htk : T'.take j = T.take j := take_same hl fun t ht => hs t (by omega)
 have hw := drop_val (by omega) hl htk hv
 have hab' : vl (T'.drop (j + V.length + 1)) = 0 := by
  rw [drop_same hl fun t ht => hs t (by omega)]; exact hab
 obtain ⟨low, l0, l1, l2⟩ := win_top (D := T'.drop j) (n := V.length) (by simp; omega) (fun t ht => by rw [getD_drop0]; exact hg _ (by omega)) (by rw [List.drop_drop]; exact hab')
 rw [getD_drop0] at l2
 obtain ⟨s1, s2, s3⟩ := win_sign l0 l1 l2
 have hV := vl_lt gV
 refine ⟨gd_of fun t => ?_, hw⟩
 by_cases e : t = j + V.length
 ·subst e; have := s2 (by omega) (by omega); omega
 ·exact hg t e
theorem set_drop_val {O : List Int} {j : Nat} (hj : j < O.length) (x : Int) : vl ((O.set j x).drop j) = x + 65536 * vl (O.drop (j + 1)) := by
 rw [vl_drop (by simpa using hj), getD_set hj, if_pos rfl]
 congr 2
 exact congrArg vl (drop_same (by simp) fun t ht => by rw [getD_set hj, if_neg (by omega)])
theorem div_norm {a b P u o : Nat} (hP : 0 < P) (hb : 0 < b) (h : u + b * P * o = a * P) (hu : u < b * P) : o = a / b ∧ u = a % b * P := by
 have h1 : (a * P) / (b * P) = o := by
  rw [← h, Nat.add_mul_div_left _ _ (by omega), Nat.div_eq_of_lt hu]; omega
 have h2 : (a * P) % (b * P) = u := by
  rw [← h, Nat.add_mul_mod_self_left, Nat.mod_eq_of_lt hu]
 rw [Nat.mul_div_mul_right _ _ hP] at h1
 rw [Nat.mul_mod_mul_right] at h2
 exact ⟨h1.symm, h2.symm⟩
end Go.Ab
namespace Go.Ab
set_option linter.unusedVariables false
theorem len_bl {m B : Nat} (h : bl m ≤ B) : (lim m).length ≤ B / 16 + 1 := by
 refine lim_len.2 ?_
 rw [pow16]
 exact Nat.lt_of_lt_of_le (bl_le.1 h) (Nat.pow_le_pow_right (by omega) (by omega))
theorem bl_up (m k : Nat) : bl (m * 2 ^ k) ≤ bl m + k := by
 by_cases h : m = 0
 ·subst h; simp [bl_zero]
 ·rw [bl_mul_pow h]; omega
theorem bl_len {m : Nat} : bl m ≤ 16 * (lim m).length := by
 refine bl_le.2 ?_
 rw [← pow16]; exact lim_lt m
theorem bl_divle (m k : Nat) : bl (m / k) ≤ bl m := bl_mono (Nat.div_le_self _ _)
theorem bl_succ (m : Nat) : bl (m + 1) ≤ bl m + 1 := by
 refine bl_le.2 ?_
 have := bl_lt m
 rw [Nat.pow_succ]; omega
theorem bl_mulle (a b : Nat) : bl (a * b) ≤ bl a + bl b := by
 refine bl_le.2 ?_
 rw [Nat.pow_add]
 have h1 := bl_lt a
 have h2 := bl_lt b
 rcases Nat.eq_zero_or_pos b with h | h
 ·subst h; simp; exact Nat.mul_pos (Nat.pow_pos (by omega)) (Nat.pow_pos (by omega))
 ·exact Nat.mul_lt_mul_of_lt_of_le h1 (Nat.le_of_lt h2) (Nat.pow_pos (by omega))
def rup (neg odd : Bool) (half mode : Int) : Bool :=
 if mode = 2 then !neg else if mode = 3 then neg else if mode = 0 then (decide (0 < half) || (decide (half = 0) && odd)) else if mode = 4 then decide (0 ≤ half) else false
def rq (neg : Bool) (a b : Nat) (mode : Int) : Nat :=
 if a % b = 0 then a / b else if rup neg (decide (a / b % 2 = 1)) (cmpI ((a % b * 2 : Nat) : Int) (b : Int)) mode then a / b + 1 else a / b
theorem rq_le (neg : Bool) (a b : Nat) (mode : Int) : rq neg a b mode ≤ a / b + 1 := by
 unfold rq; split
 ·omega
 ·split <;> omega
def oM (m : Nat) : Nat := m / 2 ^ tz m
def oE (m : Nat) (e : Int) : Int := if m = 0 then 0 else e + tz m
def oS (s : Bool) (m : Nat) : Bool := if m = 0 then false else s
theorem oM_zero : oM 0 = 0 := by simp [oM]
theorem oM_eq_zero {m : Nat} : oM m = 0 ↔ m = 0 := by
 constructor
 ·intro h
  rcases Nat.eq_zero_or_pos m with h0 | h0
  ·exact h0
  ·have := (odd_part (n := m) (by omega)).1
   unfold oM at h; omega
 ·rintro rfl; exact oM_zero
theorem oM_le (m : Nat) : oM m ≤ m := Nat.div_le_self _ _
theorem oM_mul {m : Nat} : oM m * 2 ^ tz m = m := by
 by_cases h : m = 0
 ·subst h; simp [oM]
 ·exact (odd_part h).2
theorem bl_oM {m : Nat} (h : m ≠ 0) : bl (oM m) + tz m = bl m := by
 have h1 := bl_mul_pow (n := oM m) (fun e => h (oM_eq_zero.1 e)) (tz m)
 rw [oM_mul] at h1; omega
end Go.Ab
