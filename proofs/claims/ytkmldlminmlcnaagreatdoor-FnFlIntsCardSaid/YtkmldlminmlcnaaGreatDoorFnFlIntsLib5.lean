/- What the proof of this claim stands on: the walks of the functions and the plain laws, part 5. -/
import Derived.Test.YtkmldlminmlcnaaGreatDoorFnFlIntsLib4
namespace Go.Ab
open Go Go.Proofs
set_option linter.unusedVariables false
set_option linter.unusedSimpArgs false

/-- A quotient by a small number, and the rest. -/
def natR2 (m : Nat) (r0 : Int) : AV → List Ob → List Ob → Prop := fun r hs bs =>
  (m = 0 ∧ r = .tu [.ag [.v (.slice none 0 0)], .v (.int .i64 r0)] ∧ hs = []) ∨ ∃ zs, r = .tu [.ag [.rf 0 0 (lim m).length], .v (.int .i64 r0)] ∧ hs = [.own 1 (ints (lim m ++ zs))]

theorem Con.natF2 {P : Program} {f : FuncId} {args : List AV} {m : Nat} {r0 : Int} (h : Con P f false args [] (natR2 m r0)) : Con P f false args [] (isA (.tu [.ag [.sl (lim (m)).length (ints (lim (m)))], .v (.int .i64 r0)])) :=
  Con.frzA <| h.mono fun r hs bs h => by
    rcases h with ⟨rfl, rfl, rfl⟩ | ⟨zs, rfl, rfl⟩
    · show snap _ 6 _ = _
      rw [lim_zero]; rfl
    · show snap _ 6 _ = _
      rw [snap_tu, List.map_cons, List.map_cons, List.map_nil, snap_ag, List.map_cons, List.map_nil, snap_num (k := 2) (l := lim m) (zs := zs) rhp_zero rfl]
      rfl

theorem con_l2smallL (cl : Bool) (A : List Int) (d : Nat) (hA : gd A) (lA : A.length ≤ 1000000) (hd : 0 < d) (hd2 : d < 65536) (m : Nat) (hm : vl A / (d : Int) = (m : Int)) :
    Con Tryz.prog 128 cl [.ag [.sl A.length (ints A)], .v (.int .i64 d)] [] (natR2 m (vl A % d)) := by
  refine Con.of_aw Tryz.func128 rfl Tryz.ntmps128 (by simp) (by simp) (by simp) (W.sound ?_)
  show @W Tryz.prog 42 ⟨_⟩ ⟨fun x σ => @retW _ _ _ ⟨_⟩ _ ⟨_⟩ x σ⟩ _ _
  simp (disch := omega) only [go_sem]
  refine ⟨by omega, ?_⟩
  refine loop_intro (fun x : Nat × List Int × Int => [(1, .v (.int .i64 d)), (2, .pt 0 0), (4, .pt 1 0), (6, .rf 2 0 A.length), (7, .v (.int .i64 x.2.2)), (8, .v (.int .i64 ((x.1 : Int) - 1)))])
    (fun x => [(0, .own 0 [.sl A.length (ints A)]), (1, .own 0 [.v (.slice none 0 0)]), (2, .own 1 (ints x.2.1))])
    (fun x => x.1 ≤ A.length ∧ x.2.1.length = A.length ∧ gd x.2.1 ∧ x.2.2 = vl (A.drop x.1) % d ∧ vl (x.2.1.drop x.1) = vl (A.drop x.1) / d)
    (fun x => x.1) (A.length, List.replicate A.length 0, 0) ⟨Nat.le_refl _, by simp, gd_replicate _, by simp [vl], by simp [vl]⟩
    (Le.lst [(0, 40000000), (1, 60000000), (2, 150000000)] _ _ rfl (by simp (disch := omega) only [go_sem, List.length_replicate]; try omega) (by simp (disch := omega) only [go_sem])) ?_
  rintro ⟨k, out, rest⟩ ⟨hk, hol, hog, hr, hov⟩
  dsimp only at hk hol hog hr hov ⊢
  have hr0 : 0 ≤ rest ∧ rest < d := by rw [hr]; exact ⟨Int.emod_nonneg _ (by omega), Int.emod_lt_of_pos _ (by omega)⟩
  simp (disch := omega) only [go_sem]
  refine ifW_dec (fun h1 => ?_) (fun h1 => ?_)
  · obtain ⟨i, rfl⟩ : ∃ i, k = i + 1 := ⟨k - 1, by omega⟩
    have ei : ((i + 1 : Nat) : Int) - 1 = (i : Nat) := by omega
    have hx := gd_getD hA i
    have hq6 : 0 ≤ (rest * 65536 + A.getD i 0) / d ∧ (rest * 65536 + A.getD i 0) / d < 65536 := by
      refine ⟨Int.ediv_nonneg (by omega) (by omega), Int.ediv_lt_of_lt_mul (by omega) ?_⟩
      have : rest + 1 ≤ (d : Int) := by omega
      have := Int.mul_le_mul_of_nonneg_left this (show (0 : Int) ≤ 65536 by omega)
      omega
    simp (disch := omega) only [go_sem, h1, ei]
    generalize hq : rest * 65536 + A.getD i 0 = q at *
    refine ⟨by omega, by omega, by omega, by omega, by omega, by omega, next_intro (i, out.set i (q / d), q % d) [] ⟨by show i ≤ _; omega, by simp [hol], gd_set hog hq6, ?_, ?_⟩ (by show i < i + 1; omega) rfl (by simp (disch := omega) only [go_sem]; try omega) (by simp (disch := omega) only [go_sem])⟩
    · show q % d = vl (A.drop i) % d
      rw [vl_drop (l := A) (i := i) (by omega), ← hq, hr]
      have h3 := Int.emod_add_mul_ediv (vl (A.drop (i + 1))) d
      rw [show A.getD i 0 + 65536 * vl (A.drop (i + 1)) = vl (A.drop (i + 1)) % d * 65536 + A.getD i 0 + d * (65536 * (vl (A.drop (i + 1)) / d)) by grind, Int.add_mul_emod_self_left]
    · show vl ((out.set i (q / d)).drop i) = vl (A.drop i) / d
      rw [drop_set (by omega), vl, hov, vl_drop (l := A) (i := i) (by omega), ← hq, hr]
      have h3 := Int.emod_add_mul_ediv (vl (A.drop (i + 1))) d
      rw [show A.getD i 0 + 65536 * vl (A.drop (i + 1)) = vl (A.drop (i + 1)) % d * 65536 + A.getD i 0 + d * (65536 * (vl (A.drop (i + 1)) / d)) by grind, Int.add_mul_ediv_left _ _ (by omega)]
  · simp (disch := omega) only [go_sem, h1]
    have : k = 0 := by omega
    subst this
    rw [List.drop_zero, List.drop_zero, hm] at hov
    rw [List.drop_zero] at hr
    rw [← hol]
    refine call_closed (con_l2norm true out m (by omega) hog hov) (by simp (disch := omega) only [go_sem]) ?_
    rintro r hs (⟨h0, rfl, rfl⟩ | ⟨zs, rfl, rfl⟩)
    · refine ⟨⟨by simp, by simp (disch := omega) only [go_sem]⟩, ?_⟩
      simp (disch := omega) only [go_sem]
      rw [hr]
      refine fin_intro [] [] [] [.ag [.v (.slice none 0 0)], .v (.int .i64 (vl A % d))] rfl (by simp (disch := omega) only [go_sem]) (by simp (disch := omega) only [go_sem]) (by simp) (by intro _; simp [tupA, AV.pu, AV.pu.puL, Ob.pu, pu_ints]) (.inl ⟨h0, rfl, rfl⟩)
    · refine ⟨⟨by simp, by simp (disch := omega) only [go_sem]⟩, ?_⟩
      simp (disch := omega) only [go_sem]
      rw [hr]
      refine fin_intro [(0, 420000000)] [.own 1 (ints (lim m ++ zs))] [] [.ag [.rf 0 0 (lim m).length], .v (.int .i64 (vl A % d))] rfl (by simp (disch := omega) only [go_sem]) (by simp (disch := omega) only [go_sem]) (by simp) (by intro _; simp [tupA, AV.pu, AV.pu.puL, Ob.pu, pu_ints]) (.inr ⟨zs, rfl, rfl⟩)

/-! ### Shifts -/
theorem shl_one {k : Nat} (hk : k < 16) : IntKind.i64.wrap (1 * 2 ^ (min ((k : Int)).toNat 64)) = ((2 ^ k : Nat) : Int) := by
  have e : min ((k : Int)).toNat 64 = k := by omega
  rw [e, Int.one_mul]
  have h := pow_le_15 k hk
  rw [wrap_id (by omega) (by omega), Int.natCast_pow]; rfl

theorem con_l2shl (cl : Bool) (a k : Nat) (la : (lim a).length ≤ 400000) (hk : k ≤ 5000000) : Con Tryz.prog 134 cl [.ag [.sl (lim (a)).length (ints (lim (a)))], .v (.int .i64 k)] [] (natR (a * 2 ^ k)) := by
  refine Con.of_aw Tryz.func134 rfl Tryz.ntmps134 (by simp) (by simp) (by simp) (W.sound ?_)
  show @W Tryz.prog 22 ⟨_⟩ ⟨fun x σ => @retW _ _ _ ⟨_⟩ _ ⟨_⟩ x σ⟩ _ _
  have hz : ((lim a).length : Int) = 0 → a = 0 := fun h => lim_eq_nil.1 (List.length_eq_zero_iff.1 (by omega))
  have hvA := vl_lim a
  have gA := gd_lim a
  generalize hLA : lim a = A at *
  simp (disch := omega) only [go_sem]
  refine ifW_dec (fun h1 => ?_) (fun h1 => ?_)
  · simp (disch := omega) only [go_sem, h1]
    have h0 := hz h1
    subst h0
    refine fin_intro [] [] [] [.ag [.v (.slice none 0 0)]] rfl (by simp (disch := omega) only [go_sem]) (by simp (disch := omega) only [go_sem]) (by simp) (by intro _; simp [tupA, AV.pu, AV.pu.puL, Ob.pu, pu_ints]) (.inl ⟨by simp, rfl, rfl⟩)
  · simp (disch := omega) only [go_sem, h1]
    refine draw_of rfl [⟨0, [], []⟩, ⟨1, [], []⟩, ⟨3, [], []⟩, ⟨4, [], []⟩, ⟨7, [4], []⟩, ⟨8, [4], []⟩, ⟨9, [4], []⟩, ⟨2, [4], []⟩, ⟨5, [], []⟩, ⟨6, [], []⟩, ⟨10, [], []⟩, ⟨11, [], []⟩, ⟨12, [], []⟩] (by kernel_rfl) ?_
    have e16 : ((k : Int) / 16).toNat = k / 16 := by omega
    have e17 : (k : Int) % 16 = ((k % 16 : Nat) : Int) := by omega
    have es : IntKind.i64.wrap (1 * 2 ^ (min ((k : Int) % 16).toNat 64)) = ((2 ^ (k % 16) : Nat) : Int) := by rw [e17]; exact shl_one (by omega)
    have hp15 : 2 ^ (k % 16) ≤ 2 ^ 15 := Nat.pow_le_pow_right (by omega) (by omega)
    have ecut : (List.replicate (k / 16) (0 : Int)).take (k / 16) = List.replicate (k / 16) 0 := List.take_of_length_le (by simp)
    simp (disch := omega) only [go_sem, e16, ecut, es]
    refine ⟨by omega, by omega, by simp; omega, ?_⟩
    refine call_open ((con_l2of false (2 ^ (k % 16)) (by omega)).natF) (by simp (disch := omega) only [go_sem]) ?_
    rintro r hs ⟨rfl, rfl, _⟩
    refine ⟨by simp [freeN], ?_⟩
    simp (disch := omega) only [go_sem]
    have hvA2 : vl (List.replicate (k / 16) 0 ++ A) * ((2 ^ (k % 16) : Nat) : Int) = ((a * 2 ^ k : Nat) : Int) := by
      rw [vl_append, vl_replicate, hvA, List.length_replicate]
      have h2 : a * 2 ^ k = 65536 ^ (k / 16) * a * 2 ^ (k % 16) := by
        have : 2 ^ k = 65536 ^ (k / 16) * 2 ^ (k % 16) := by rw [pow16, ← Nat.pow_add, Nat.div_add_mod]
        rw [this]; grind
      rw [h2, Int.natCast_mul, Int.natCast_mul, Int.natCast_pow]
      simp
    have gA2 : gd (List.replicate (k / 16) 0 ++ A) := gd_append.2 ⟨gd_replicate _, gA⟩
    have lA2 : (List.replicate (k / 16) (0 : Int) ++ A).length = k / 16 + A.length := by simp
    have et : (List.replicate (k / 16) (0 : Int) ++ A).take (k / 16 + A.length) = List.replicate (k / 16) 0 ++ A := List.take_of_length_le (by simp)
    have l2s : (lim (2 ^ (k % 16))).length ≤ 1000000 := by
      have := len_bl (m := 2 ^ (k % 16)) (B := 16) (bl_le.2 (by omega)); omega
    refine call_closed (con_l2mulL true (List.replicate (k / 16) 0 ++ A) gA2 (2 ^ (k % 16)) (by omega) l2s (a * 2 ^ k) hvA2) (by simp (disch := omega) only [go_sem, lA2, et]) ?_
    rintro r hs (⟨h0, rfl, rfl⟩ | ⟨zs, rfl, rfl⟩)
    · refine ⟨⟨by simp, by simp (disch := omega) only [go_sem]⟩, ?_⟩
      simp (disch := omega) only [go_sem]
      refine fin_intro [] [] [] [.ag [.v (.slice none 0 0)]] rfl (by simp (disch := omega) only [go_sem]) (by simp (disch := omega) only [go_sem]) (by simp) (by intro _; simp [tupA, AV.pu, AV.pu.puL, Ob.pu, pu_ints]) (.inl ⟨h0, rfl, rfl⟩)
    · refine ⟨⟨by simp, by simp (disch := omega) only [go_sem]⟩, ?_⟩
      simp (disch := omega) only [go_sem]
      refine fin_intro [(0, 230000000)] [.own 1 (ints (lim (a * 2 ^ k) ++ zs))] [] [.ag [.rf 0 0 (lim (a * 2 ^ k)).length]] rfl (by simp (disch := omega) only [go_sem]) (by simp (disch := omega) only [go_sem]) (by simp) (by intro _; simp [tupA, AV.pu, AV.pu.puL, Ob.pu, pu_ints]) (.inr ⟨zs, rfl, rfl⟩)
end Go.Ab
namespace Go.Ab
open Go Go.Proofs
set_option linter.unusedVariables false
set_option linter.unusedSimpArgs false

theorem con_l2shr (a k : Nat) (la : (lim a).length ≤ 1000000) (hk : k ≤ 100000000) : Con Tryz.prog 97 false [.ag [.sl (lim (a)).length (ints (lim (a)))], .v (.int .i64 k)] [] (isA (.ag [.sl (lim (a / 2 ^ k)).length (ints (lim (a / 2 ^ k)))])) := by
  refine Con.frzA ?_
  refine Con.of_aw Tryz.func97 rfl Tryz.ntmps97 (by simp) (by simp) (by simp) (W.sound ?_)
  show @W Tryz.prog 28 ⟨_⟩ ⟨fun x σ => @retW _ _ _ ⟨_⟩ _ ⟨_⟩ x σ⟩ _ _
  simp (disch := omega) only [go_sem]
  refine ifW_dec (fun h1 => ?_) (fun h1 => ?_)
  · simp (disch := omega) only [go_sem, h1]
    have h0 : a / 2 ^ k = 0 := by
      refine Nat.div_eq_of_lt (Nat.lt_of_lt_of_le (lim_lt a) ?_)
      rw [pow16]; exact Nat.pow_le_pow_right (by omega) (by omega)
    rw [h0, lim_zero]
    refine fin_val (by simp (disch := omega) only [go_sem]) ?_
    show snap _ 6 _ = _
    simp (disch := omega) only [go_sem]
  · simp (disch := omega) only [go_sem, h1]
    refine draw_of rfl [⟨0, [], []⟩, ⟨1, [], []⟩, ⟨2, [1], []⟩, ⟨3, [1], []⟩, ⟨4, [], []⟩, ⟨5, [], []⟩, ⟨6, [1, 4], []⟩, ⟨7, [1, 4], []⟩, ⟨8, [1, 4], []⟩, ⟨13, [1, 4], []⟩, ⟨9, [], [70000000]⟩, ⟨10, [], [70000000]⟩, ⟨11, [], [70000000]⟩, ⟨12, [], [70000000]⟩, ⟨14, [], []⟩, ⟨15, [], []⟩] (by kernel_rfl) ?_
    have e16 : ((k : Int) / 16).toNat = k / 16 := by omega
    have e17 : (k : Int) % 16 = ((k % 16 : Nat) : Int) := by omega
    have e18 : (((lim a).length : Int) - (k : Int) / 16).toNat = ((lim a).drop (k / 16)).length := by simp; omega
    have es : IntKind.i64.wrap (1 * 2 ^ (min ((k : Int) % 16).toNat 64)) = ((2 ^ (k % 16) : Nat) : Int) := by rw [e17]; exact shl_one (by omega)
    have hp15 : 2 ^ (k % 16) ≤ 2 ^ 15 := Nat.pow_le_pow_right (by omega) (by omega)
    have hp0 : 0 < 2 ^ (k % 16) := Nat.pow_pos (by omega)
    have hvD := vl_div (gd_lim a) (i := k / 16) (by omega)
    have gD := gd_drop (gd_lim a) (k / 16)
    have hlD : ((lim a).drop (k / 16)).length ≤ 1000000 := by simp; omega
    have hm : vl ((lim a).drop (k / 16)) / ((2 ^ (k % 16) : Nat) : Int) = ((a / 2 ^ k : Nat) : Int) := by
      rw [← hvD, vl_lim]
      have : a / 2 ^ k = a / 65536 ^ (k / 16) / 2 ^ (k % 16) := by rw [Nat.div_div_eq_div_mul, pow16, ← Nat.pow_add, Nat.div_add_mod]
      rw [this, Int.natCast_ediv, Int.natCast_ediv, Int.natCast_pow 65536]; rfl
    have et : ((lim a).drop (k / 16)).take ((lim a).drop (k / 16)).length = (lim a).drop (k / 16) := List.take_length
    simp (disch := omega) only [go_sem, e16, e18, et, es]
    generalize (lim a).drop (k / 16) = D at *
    refine ⟨by omega, by omega, ?_⟩
    refine call_open ((con_l2smallL false D (2 ^ (k % 16)) gD hlD hp0 (by omega) (a / 2 ^ k) hm).natF2) (by simp (disch := omega) only [go_sem]) ?_
    rintro r hs ⟨rfl, rfl, _⟩
    refine ⟨by simp [freeN], ?_⟩
    simp (disch := omega) only [go_sem]
    refine fin_val (by simp (disch := omega) only [go_sem]) ?_
    show snap _ 6 _ = _
    simp (disch := omega) only [go_sem]

theorem con_l2bits (a : Nat) (la : (lim a).length ≤ 2 ^ 40) : Con Tryz.prog 156 true [.ag [.sl (lim (a)).length (ints (lim (a)))]] [] (isA (.v (.int .i64 (bl a)))) := by
  refine Con.of_aw Tryz.func156 rfl Tryz.ntmps156 (by simp) (by simp) (by simp) (W.sound ?_)
  show @W Tryz.prog 29 ⟨_⟩ ⟨fun x σ => @retW _ _ _ ⟨_⟩ _ ⟨_⟩ x σ⟩ _ _
  simp (disch := omega) only [go_sem]
  refine ifW_dec (fun h1 => ?_) (fun h1 => ?_)
  · simp (disch := omega) only [go_sem, h1]
    have : a = 0 := lim_eq_nil.1 (List.length_eq_zero_iff.1 (by omega))
    subst this
    rw [bl_zero]
    exact fin_valc (by simp (disch := omega) only [go_sem]) (by simp (disch := omega) only [go_sem]) isA_mk
  · have hm : a ≠ 0 := fun e => by rw [e, lim_zero] at h1; simp at h1
    have e2 : (((lim a).length : Int) - 1).toNat = (lim a).length - 1 := by omega
    have ht := len_top hm
    have hb := bl_lim hm
    have eq : (lim a).getD ((lim a).length - 1) 0 = ((a / 65536 ^ ((lim a).length - 1) : Nat) : Int) := by rw [lim_get, Nat.mod_eq_of_lt ht.2]
    generalize a / 65536 ^ ((lim a).length - 1) = q at *
    simp (disch := omega) only [go_sem, h1, e2, eq]
    refine ⟨by omega, by omega, ?_⟩
    refine loop_intro (fun x : Nat × Nat => [(3, .v (.int .i64 x.1)), (4, .v (.int .i64 x.2))]) (fun _ => []) (fun x => x.1 + bl x.2 = bl a ∧ x.2 < 65536 ∧ x.1 ≤ 2 ^ 45) (fun x => x.2) (16 * ((lim a).length - 1), q) ⟨hb.symm, ht.2, by show 16 * ((lim a).length - 1) ≤ 2 ^ 45; omega⟩ (Le.lst [] _ _ rfl (by simp (disch := omega) only [go_sem]; try omega) (by simp (disch := omega) only [go_sem])) ?_
    rintro ⟨n, x⟩ ⟨hn, hx, hn2⟩
    dsimp only at hn hx hn2 ⊢
    simp (disch := omega) only [go_sem]
    refine ifW_dec (fun h2 => ?_) (fun h2 => ?_)
    · simp (disch := omega) only [go_sem, h2]
      have hd := bl_dbl (x := x) (by omega)
      have hp := bl_le.2 (show x < 2 ^ 16 by omega)
      refine next_intro (n + 1, x / 2) [] ⟨by show n + 1 + bl (x / 2) = bl a; omega, by show x / 2 < 65536; omega, ?_⟩ (by show x / 2 < x; omega) rfl (by simp (disch := omega) only [go_sem]; try omega) (by simp (disch := omega) only [go_sem])
      show n + 1 ≤ 2 ^ 45
      have := bl_len (m := a)
      omega
    · simp (disch := omega) only [go_sem, h2]
      have : x = 0 := by omega
      subst this
      rw [bl_zero] at hn
      refine fin_valc (by simp (disch := omega) only [go_sem]) (by simp (disch := omega) only [go_sem]) ⟨?_, rfl, rfl⟩
      simp [tupA]; omega

theorem con_l2bit (m : Nat) (i : Int) (hl : (lim m).length ≤ 2 ^ 40) (hi : 0 ≤ i) (hi2 : i < 2 ^ 62) : Con Tryz.prog 105 true [.ag [.sl (lim (m)).length (ints (lim (m)))], .v (.int .i64 i)] [] (isA (.v (.int .i64 ((m / 2 ^ i.toNat % 2 : Nat) : Int)))) := by
  refine Con.of_aw Tryz.func105 rfl Tryz.ntmps105 (by simp) (by simp) (by simp) (W.sound ?_)
  show @W Tryz.prog 25 ⟨_⟩ ⟨fun x σ => @retW _ _ _ ⟨_⟩ _ ⟨_⟩ x σ⟩ _ _
  obtain ⟨k, rfl⟩ := Int.eq_ofNat_of_zero_le hi
  rw [Int.toNat_natCast]
  have h0 : ¬ ((k : Int) < 0) := by omega
  have e16 : ((k : Int) / 16).toNat = k / 16 := by omega
  have em : min ((k : Int) % 16).toNat 64 = k % 16 := by omega
  have hb := bit_div m k
  simp (disch := omega) only [go_sem, h0]
  refine ifW_dec (fun h1 => ?_) (fun h1 => ?_)
  · simp (disch := omega) only [go_sem, h1]
    have : m / 2 ^ k % 2 = 0 := by
      rw [← hb]
      have h2 := lim_get m (k / 16)
      rw [List.getD_eq_getElem?_getD, List.getElem?_eq_none (by omega)] at h2
      have h3 : m / 65536 ^ (k / 16) % 65536 = 0 := by simp only [Option.getD_none] at h2; omega
      rw [h3]; simp
    rw [this]
    exact fin_valc (by simp (disch := omega) only [go_sem]) (by simp (disch := omega) only [go_sem]) isA_mk
  · have hx := gd_getD (gd_lim m) (k / 16)
    have hp : (0 : Int) < 2 ^ (k % 16) := Int.pow_pos (by omega)
    have efd : ∀ x : Int, x.fdiv (2 ^ (k % 16)) = x / 2 ^ (k % 16) := fun x => Int.fdiv_eq_ediv_of_nonneg _ (Int.le_of_lt hp)
    have hq : 0 ≤ (lim m).getD (k / 16) 0 / 2 ^ (k % 16) ∧ (lim m).getD (k / 16) 0 / 2 ^ (k % 16) < 65536 := by
      refine ⟨Int.ediv_nonneg hx.1 (Int.le_of_lt hp), Int.lt_of_le_of_lt (Int.ediv_le_self _ hx.1) hx.2⟩
    have hr : (lim m).getD (k / 16) 0 / 2 ^ (k % 16) % 2 = ((m / 2 ^ k % 2 : Nat) : Int) := by
      rw [← hb, lim_get]
      generalize m / 65536 ^ (k / 16) % 65536 = x
      rw [Int.natCast_emod, Int.natCast_ediv, Int.natCast_pow]; rfl
    simp (disch := omega) only [go_sem, h1, e16, em, efd, hr]
    refine ⟨by omega, by omega, by omega, ?_⟩
    exact fin_valc (by simp (disch := omega) only [go_sem]) (by simp (disch := omega) only [go_sem]) isA_mk

theorem tz_first {m i : Nat} (hz : ∀ j, j < i → m / 2 ^ j % 2 = 0) (h1 : m / 2 ^ i % 2 = 1) : tz m = i := by
  have key : ∀ k, k ≤ i → 2 ^ k * (m / 2 ^ k) = m := by
    intro k
    induction k with
    | zero => intro _; simp
    | succ k ih =>
      intro hk
      have h2 := ih (by omega)
      have h3 := hz k (by omega)
      have h4 : m / 2 ^ (k + 1) = m / 2 ^ k / 2 := by rw [Nat.pow_succ, Nat.div_div_eq_div_mul]
      rw [h4, Nat.pow_succ, Nat.mul_assoc, show 2 * (m / 2 ^ k / 2) = m / 2 ^ k by omega]; exact h2
  refine tz_uniq (a := m / 2 ^ i / 2) ?_
  have := key i (Nat.le_refl _)
  rw [show 2 * (m / 2 ^ i / 2) + 1 = m / 2 ^ i by omega]; exact this.symm

theorem con_l2trail (m : Nat) (hl : (lim m).length ≤ 2 ^ 40) : Con Tryz.prog 96 true [.ag [.sl (lim (m)).length (ints (lim (m)))]] [] (isA (.v (.int .i64 (tz m)))) := by
  refine Con.of_aw Tryz.func96 rfl Tryz.ntmps96 (by simp) (by simp) (by simp) (W.sound ?_)
  show @W Tryz.prog 17 ⟨_⟩ ⟨fun x σ => @retW _ _ _ ⟨_⟩ _ ⟨_⟩ x σ⟩ _ _
  simp (disch := omega) only [go_sem]
  refine loop_intro (fun i : Nat => [(1, .pt 0 0), (3, .v (.int .i64 i))]) (fun _ => [(0, .own 0 [.sl (lim (m)).length (ints (lim (m)))])]) (fun i => i ≤ 16 * (lim m).length ∧ ∀ j, j < i → m / 2 ^ j % 2 = 0) (fun i => 16 * (lim m).length - i) 0 ⟨by omega, fun j hj => by omega⟩ (Le.lst [(0, 30000000)] _ _ rfl (by simp (disch := omega) only [go_sem]; try omega) (by simp (disch := omega) only [go_sem])) ?_
  rintro i ⟨hi, hz⟩
  simp (disch := omega) only [go_sem]
  refine ifW_dec (fun h1 => ?_) (fun h1 => ?_)
  · simp (disch := omega) only [go_sem, h1]
    refine call_closed (con_l2bit m i hl (by omega) (by omega)) (by simp (disch := omega) only [go_sem]) ?_
    rintro r hs ⟨rfl, rfl, _⟩
    refine ⟨by simp [freeN], ?_⟩
    simp (disch := omega) only [go_sem]
    refine ifW_dec (fun h2 => ?_) (fun h2 => ?_)
    · simp (disch := omega) only [go_sem, h2]
      have := tz_first hz (by omega)
      rw [this]
      exact fin_valc (by simp (disch := omega) only [go_sem]) (by simp (disch := omega) only [go_sem]) isA_mk
    · simp (disch := omega) only [go_sem, h2]
      refine next_intro (i + 1) [] ⟨by omega, fun j hj => ?_⟩ (by show 16 * (lim m).length - (i + 1) < 16 * (lim m).length - i; omega) rfl (by simp (disch := omega) only [go_sem]; try omega) (by simp (disch := omega) only [go_sem])
      rcases (by omega : j < i ∨ j = i) with h | h
      · exact hz j h
      · subst h; omega
  · simp (disch := omega) only [go_sem, h1]
    have hm : m = 0 := by
      have h3 := bl_len (m := m)
      rcases Nat.eq_zero_or_pos m with h | h
      · exact h
      · have h4 := tz_lt_bl (n := m) (by omega)
        have h5 := (odd_part (n := m) (by omega)).1
        have := hz (tz m) (by omega)
        omega
    subst hm
    rw [tz_zero]
    exact fin_valc (by simp (disch := omega) only [go_sem]) (by simp (disch := omega) only [go_sem]) isA_mk

theorem con_l2int (m : Nat) (hm : m < 2 ^ 63) : Con Tryz.prog 145 true [.ag [.sl (lim (m)).length (ints (lim (m)))]] [] (isA (.v (.int .i64 m))) := by
  refine Con.of_aw Tryz.func145 rfl Tryz.ntmps145 (by simp) (by simp) (by simp) (W.sound ?_)
  show @W Tryz.prog 22 ⟨_⟩ ⟨fun x σ => @retW _ _ _ ⟨_⟩ _ ⟨_⟩ x σ⟩ _ _
  simp (disch := omega) only [go_sem]
  have hl : (lim m).length ≤ 4 := lim_len.2 (by omega)
  have hb : ∀ i, i ≤ (lim m).length → 0 ≤ vl ((lim m).drop i) ∧ vl ((lim m).drop i) < 2 ^ 63 := fun i hi => by
    have h1 := vl_nonneg (gd_drop (gd_lim m) i)
    have h2 := vl_take_drop (lim m) i hi
    have h3 := vl_nonneg (gd_take (gd_lim m) i)
    have hp : (0 : Int) < 65536 ^ i := Int.pow_pos (by omega)
    rw [vl_lim] at h2
    have h4 := Int.mul_le_mul_of_nonneg_right (show (1 : Int) ≤ 65536 ^ i by omega) h1
    omega
  refine loop_intro (fun k : Nat => [(1, .pt 0 0), (3, .v (.int .i64 (vl ((lim m).drop k)))), (4, .v (.int .i64 ((k : Int) - 1)))]) (fun _ => [(0, .own 0 [.sl (lim (m)).length (ints (lim (m)))])]) (fun k => k ≤ (lim m).length) (fun k => k) (lim m).length (Nat.le_refl _) (Le.lst [(0, 30000000)] _ _ rfl (by simp (disch := omega) only [go_sem, List.drop_length, vl]; try omega) (by simp (disch := omega) only [go_sem])) ?_
  intro k hk
  have hbk := hb k hk
  simp (disch := omega) only [go_sem]
  refine ifW_dec (fun h1 => ?_) (fun h1 => ?_)
  · obtain ⟨i, rfl⟩ : ∃ i, k = i + 1 := ⟨k - 1, by omega⟩
    have ei : ((i + 1 : Nat) : Int) - 1 = (i : Nat) := by omega
    have hx := gd_getD (gd_lim m) i
    have hbi := hb i (by omega)
    have hd := vl_drop (l := lim m) (i := i) (by omega)
    have e2 : vl ((lim m).drop (i + 1)) * 65536 + (lim m).getD i 0 = vl ((lim m).drop i) := by omega
    simp (disch := omega) only [go_sem, h1, ei, e2]
    refine ⟨by omega, by omega, next_intro i [] (by show i ≤ _; omega) (by show i < i + 1; omega) rfl (by simp (disch := omega) only [go_sem]; try omega) (by simp (disch := omega) only [go_sem])⟩
  · have : k = 0 := by omega
    subst this
    have e2 : vl ((lim m).drop 0) = (m : Int) := by rw [List.drop_zero, vl_lim]
    simp (disch := omega) only [go_sem, h1, e2]
    exact fin_valc (by simp (disch := omega) only [go_sem]) (by simp (disch := omega) only [go_sem]) ⟨by simp [tupA, vl_lim], rfl, rfl⟩
end Go.Ab
namespace Go.Ab
open Go Go.Proofs
set_option linter.unusedVariables false
set_option linter.unusedSimpArgs false

theorem lenpos (m : Nat) : decide ((0 : Int) < ((lim m).length : Int)) = decide (m ≠ 0) := by
  rw [decide_eq_decide]
  exact ⟨fun h e => by rw [e, lim_zero] at h; simp at h, fun h => by have := lim_ne h; omega⟩
theorem con_l2normF (m : Nat) (hl : (lim m).length ≤ 2 ^ 39) : Con Tryz.prog 124 false [.sl (lim (m)).length (ints (lim (m)))] [] (isA (.ag [.sl (lim (m)).length (ints (lim (m)))])) := (con_l2norm false (lim m) m hl (gd_lim m) (vl_lim m)).natF
theorem con_l2ofF (n : Nat) (hn : n < 2 ^ 63) : Con Tryz.prog 91 false [.v (.int .i64 n)] [] (isA (.ag [.sl (lim (n)).length (ints (lim (n)))])) := (con_l2of false n hn).natF
theorem con_l2addF (a b : Nat) (la : (lim a).length ≤ 2000000) (lb : (lim b).length ≤ 2000000) : Con Tryz.prog 90 false [.ag [.sl (lim (a)).length (ints (lim (a)))], .ag [.sl (lim (b)).length (ints (lim (b)))]] [] (isA (.ag [.sl (lim (a + b)).length (ints (lim (a + b)))])) := (con_l2add false a b la lb).natF
theorem con_l2shlF (a k : Nat) (la : (lim a).length ≤ 400000) (hk : k ≤ 5000000) : Con Tryz.prog 134 false [.ag [.sl (lim (a)).length (ints (lim (a)))], .v (.int .i64 k)] [] (isA (.ag [.sl (lim (a * 2 ^ k)).length (ints (lim (a * 2 ^ k)))])) := (con_l2shl false a k la hk).natF

theorem con_l3make (s : Bool) (m : Nat) (hl : (lim m).length ≤ 2 ^ 39) : Con Tryz.prog 89 false [.v (.bool s), .ag [.sl (lim (m)).length (ints (lim (m)))]] [] (isA (.ag [.v (.bool (s && decide (m ≠ 0))), .sl (lim (m)).length (ints (lim (m)))])) := by
  refine Con.frzA ?_
  refine Con.of_aw Tryz.func89 rfl Tryz.ntmps89 (by simp) (by simp) (by simp) (W.sound ?_)
  show @W Tryz.prog 16 ⟨_⟩ ⟨fun x σ => @retW _ _ _ ⟨_⟩ _ ⟨_⟩ x σ⟩ _ _
  simp (disch := omega) only [go_sem]
  refine draw_of rfl [⟨0, [], []⟩, ⟨1, [], []⟩, ⟨2, [], []⟩, ⟨3, [], []⟩, ⟨4, [], []⟩, ⟨5, [], []⟩, ⟨6, [], []⟩, ⟨7, [3], []⟩, ⟨8, [3], []⟩, ⟨9, [3], []⟩, ⟨10, [], []⟩, ⟨11, [], []⟩] (by kernel_rfl) ?_
  simp (disch := omega) only [go_sem]
  refine ifW_b (fun h1 => ?_) (fun h1 => ?_)
  · simp (disch := omega) only [go_sem, h1, lenpos]
    refine call_open (con_l2normF m hl) (by simp (disch := omega) only [go_sem]) ?_
    rintro r hs ⟨rfl, rfl, _⟩
    refine ⟨by simp [freeN], ?_⟩
    simp (disch := omega) only [go_sem]
    refine fin_val (by simp (disch := omega) only [go_sem]) ?_
    show snap _ 6 _ = _
    simp (disch := omega) only [go_sem, h1, Bool.true_and]
  · simp (disch := omega) only [go_sem, h1]
    refine call_open (con_l2normF m hl) (by simp (disch := omega) only [go_sem]) ?_
    rintro r hs ⟨rfl, rfl, _⟩
    refine ⟨by simp [freeN], ?_⟩
    simp (disch := omega) only [go_sem]
    refine fin_val (by simp (disch := omega) only [go_sem]) ?_
    show snap _ 6 _ = _
    simp (disch := omega) only [go_sem, h1, Bool.false_and]

theorem con_l3of (n : Int) (h : -9223372036854775808 ≤ n ∧ n < 9223372036854775808) : Con Tryz.prog 48 false [.v (.int .i64 n)] [] (isA (.ag [.v (.bool (decide (n < 0))), .sl (lim (n.natAbs)).length (ints (lim (n.natAbs)))])) := by
  refine Con.frzA ?_
  refine Con.of_aw Tryz.func48 rfl Tryz.ntmps48 (by simp) (by simp) (by simp) (W.sound ?_)
  show @W Tryz.prog 15 ⟨_⟩ ⟨fun x σ => @retW _ _ _ ⟨_⟩ _ ⟨_⟩ x σ⟩ _ _
  simp (disch := omega) only [go_sem]
  refine ifW_dec (fun h1 => ?_) (fun h1 => ?_)
  · simp (disch := omega) only [go_sem, h1]
    have e1 : 0 - (n + 1) = (((0 - (n + 1)).toNat : Nat) : Int) := by omega
    refine call_open (con_l2ofF (0 - (n + 1)).toNat (by omega)) (by simp (disch := omega) only [go_sem, ← e1]) ?_
    rintro r hs ⟨rfl, rfl, _⟩
    refine ⟨by simp [freeN], ?_⟩
    simp (disch := omega) only [go_sem]
    refine call_open (con_l2ofF 1 (by omega)) (by simp (disch := omega) only [go_sem]) ?_
    rintro r hs ⟨rfl, rfl, _⟩
    refine ⟨by simp [freeN], ?_⟩
    simp (disch := omega) only [go_sem]
    have l1 := len_bl (m := (0 - (n + 1)).toNat) (B := 64) (bl_le.2 (by omega))
    have l2 := len_bl (m := 1) (B := 64) (by decide)
    refine call_open (con_l2addF (0 - (n + 1)).toNat 1 (by omega) (by omega)) (by simp (disch := omega) only [go_sem]) ?_
    rintro r hs ⟨rfl, rfl, _⟩
    refine ⟨by simp [freeN], ?_⟩
    simp (disch := omega) only [go_sem]
    have e2 : (0 - (n + 1)).toNat + 1 = n.natAbs := by omega
    have l3 := len_bl (m := (0 - (n + 1)).toNat + 1) (B := 64) (bl_le.2 (by omega))
    refine call_open (con_l3make true ((0 - (n + 1)).toNat + 1) (by omega)) (by simp (disch := omega) only [go_sem]) ?_
    rintro r hs ⟨rfl, rfl, _⟩
    refine ⟨by simp [freeN], ?_⟩
    simp (disch := omega) only [go_sem]
    refine fin_val (by simp (disch := omega) only [go_sem]) ?_
    show snap _ 6 _ = _
    have e3 : decide (n.natAbs ≠ 0) = true := by simp; omega
    rw [e2]
    simp (disch := omega) only [go_sem, e3, h1, Bool.true_and]
  · simp (disch := omega) only [go_sem, h1]
    have e1 : n = ((n.natAbs : Nat) : Int) := by omega
    refine call_open (con_l2ofF n.natAbs (by omega)) (by simp (disch := omega) only [go_sem, ← e1]) ?_
    rintro r hs ⟨rfl, rfl, _⟩
    refine ⟨by simp [freeN], ?_⟩
    simp (disch := omega) only [go_sem]
    have l3 := len_bl (m := n.natAbs) (B := 64) (bl_le.2 (by omega))
    refine call_open (con_l3make false n.natAbs (by omega)) (by simp (disch := omega) only [go_sem]) ?_
    rintro r hs ⟨rfl, rfl, _⟩
    refine ⟨by simp [freeN], ?_⟩
    simp (disch := omega) only [go_sem]
    refine fin_val (by simp (disch := omega) only [go_sem]) ?_
    show snap _ 6 _ = _
    simp (disch := omega) only [go_sem, h1, Bool.false_and]

theorem con_l4make (s : Bool) (m : Nat) (e : Int) (hm : bl m ≤ 8000000) (he : -2 ^ 40 ≤ e ∧ e ≤ 2 ^ 40) : Con Tryz.prog 57 false [.ag [.v (.bool (s)), .sl (lim (m)).length (ints (lim (m)))], .v (.int .i64 e)] [] (isA (.ag [.v (.bool (oS s m)), .sl (lim (oM m)).length (ints (lim (oM m))), .v (.int .i64 (oE m e))])) := by
  refine Con.frzA ?_
  refine Con.of_aw Tryz.func57 rfl Tryz.ntmps57 (by simp) (by simp) (by simp) (W.sound ?_)
  show @W Tryz.prog 26 ⟨_⟩ ⟨fun x σ => @retW _ _ _ ⟨_⟩ _ ⟨_⟩ x σ⟩ _ _
  simp (disch := omega) only [go_sem]
  have hl := len_bl hm
  refine ifW_dec (fun h1 => ?_) (fun h1 => ?_)
  · simp (disch := omega) only [go_sem, h1]
    have h0 : m = 0 := lim_eq_nil.1 (List.length_eq_zero_iff.1 (by omega))
    subst h0
    refine fin_val (by simp (disch := omega) only [go_sem]) ?_
    show snap _ 6 _ = _
    simp only [oS, oM_zero, oE, lim_zero, if_true]
    simp (disch := omega) only [go_sem]
  · have h0 : m ≠ 0 := fun e => h1 (by rw [e, lim_zero]; rfl)
    have ht := tz_lt_bl h0
    simp (disch := omega) only [go_sem, h1]
    refine call_closed (con_l2trail m (by omega)) (by simp (disch := omega) only [go_sem]) ?_
    rintro r hs ⟨rfl, rfl, _⟩
    refine ⟨by simp [freeN], ?_⟩
    simp (disch := omega) only [go_sem]
    refine draw_of rfl [⟨0, [], []⟩, ⟨1, [], []⟩, ⟨2, [1], []⟩, ⟨3, [1], []⟩, ⟨4, [1, 3], []⟩, ⟨7, [1, 3], []⟩, ⟨8, [1, 3], []⟩, ⟨9, [1, 3], []⟩, ⟨5, [1], []⟩, ⟨6, [], []⟩, ⟨10, [], []⟩, ⟨11, [], []⟩] (by kernel_rfl) ?_
    simp (disch := omega) only [go_sem]
    refine call_open (con_l2shr m (tz m) (by omega) (by omega)) (by simp (disch := omega) only [go_sem]) ?_
    rintro r hs ⟨rfl, rfl, _⟩
    refine ⟨by simp [freeN], ?_⟩
    simp (disch := omega) only [go_sem]
    have l3 := len_bl (Nat.le_trans (bl_divle m (2 ^ tz m)) hm)
    refine call_open (con_l3make s (m / 2 ^ tz m) (by omega)) (by simp (disch := omega) only [go_sem]) ?_
    rintro r hs ⟨rfl, rfl, _⟩
    refine ⟨by simp [freeN], ?_⟩
    simp (disch := omega) only [go_sem]
    refine fin_val (by simp (disch := omega) only [go_sem]) ?_
    show snap _ 6 _ = _
    have h3 : decide (m / 2 ^ tz m ≠ 0) = true := by
      have := (odd_part h0).1
      simp only [decide_eq_true_eq]; omega
    simp only [oS, oM, oE, if_neg h0]
    simp (disch := omega) only [go_sem, h3, Bool.and_true]

theorem con_l4top (s : Bool) (m : Nat) (e : Int) (hm : (lim m).length ≤ 2 ^ 40) (he : -2 ^ 40 ≤ e ∧ e ≤ 2 ^ 40) : Con Tryz.prog 143 true [.ag [.v (.bool (s)), .sl (lim (m)).length (ints (lim (m))), .v (.int .i64 (e))]] [] (isA (.v (.int .i64 (if m = 0 then 0 else e + (bl m : Int))))) := by
  refine Con.of_aw Tryz.func143 rfl Tryz.ntmps143 (by simp) (by simp) (by simp) (W.sound ?_)
  show @W Tryz.prog 16 ⟨_⟩ ⟨fun x σ => @retW _ _ _ ⟨_⟩ _ ⟨_⟩ x σ⟩ _ _
  simp (disch := omega) only [go_sem]
  refine ifW_dec (fun h1 => ?_) (fun h1 => ?_)
  · simp (disch := omega) only [go_sem, h1]
    have h0 : m = 0 := lim_eq_nil.1 (List.length_eq_zero_iff.1 (by omega))
    rw [if_pos h0]
    exact fin_valc (by simp (disch := omega) only [go_sem]) (by simp (disch := omega) only [go_sem]) isA_mk
  · have h0 : m ≠ 0 := fun e => h1 (by rw [e, lim_zero]; rfl)
    have := bl_len (m := m)
    simp (disch := omega) only [go_sem, h1]
    refine draw_of rfl [⟨0, [], []⟩, ⟨1, [], []⟩, ⟨2, [1], []⟩, ⟨3, [1], []⟩, ⟨4, [1], []⟩, ⟨5, [1], []⟩, ⟨6, [], []⟩, ⟨7, [], []⟩] (by kernel_rfl) ?_
    simp (disch := omega) only [go_sem]
    refine call_closed (con_l2bits m hm) (by simp (disch := omega) only [go_sem]) ?_
    rintro r hs ⟨rfl, rfl, _⟩
    refine ⟨by simp [freeN], ?_⟩
    simp (disch := omega) only [go_sem]
    rw [if_neg h0]
    exact fin_valc (by simp (disch := omega) only [go_sem]) (by simp (disch := omega) only [go_sem]) isA_mk
end Go.Ab
namespace Go.Ab
open Go Go.Proofs
set_option linter.unusedVariables false
set_option linter.unusedSimpArgs false

theorem con_l2cmp (a b : Nat) (la : (lim a).length ≤ 2 ^ 40) (lb : (lim b).length ≤ 2 ^ 40) :
    Con Tryz.prog 135 true [.ag [.sl (lim (a)).length (ints (lim (a)))], .ag [.sl (lim (b)).length (ints (lim (b)))]] [] (isA (.v (.int .i64 (cmpI a b)))) := by
  refine Con.of_aw Tryz.func135 rfl Tryz.ntmps135 (by simp) (by simp) (by simp) (W.sound ?_)
  show @W Tryz.prog 50 ⟨_⟩ ⟨fun x σ => @retW _ _ _ ⟨_⟩ _ ⟨_⟩ x σ⟩ _ _
  simp (disch := omega) only [go_sem]
  refine ifW_not (fun h1 => ?_) (fun h1 => ?_)
  · simp (disch := omega) only [go_sem, h1]
    refine ifW_dec (fun h2 => ?_) (fun h2 => ?_)
    · simp (disch := omega) only [go_sem, h2]
      have := lim_lt_of (a := a) (b := b) (by omega)
      rw [show cmpI (a : Int) (b : Int) = -1 by unfold cmpI; rw [if_pos (by omega)]]
      exact fin_valc (by simp (disch := omega) only [go_sem]) (by simp (disch := omega) only [go_sem]) isA_mk
    · simp (disch := omega) only [go_sem, h2]
      have := lim_lt_of (a := b) (b := a) (by omega)
      rw [show cmpI (a : Int) (b : Int) = 1 by unfold cmpI; rw [if_neg (by omega), if_pos (by omega)]]
      exact fin_valc (by simp (disch := omega) only [go_sem]) (by simp (disch := omega) only [go_sem]) isA_mk
  · simp (disch := omega) only [go_sem, h1]
    have hl : (lim a).length = (lim b).length := by omega
    refine loop_intro (fun k : Nat => [(2, .pt 40000000 0), (3, .pt 50000000 0), (5, .v (.int .i64 ((k : Int) - 1)))])
      (fun _ => [(40000000, .own 0 [.sl (lim (a)).length (ints (lim (a)))]), (50000000, .own 0 [.sl (lim (b)).length (ints (lim (b)))])]) (fun k => k ≤ (lim a).length ∧ (lim a).drop k = (lim b).drop k) (fun k => k) (lim a).length ⟨Nat.le_refl _, by rw [List.drop_length, hl, List.drop_length]⟩ (Le.lst [] _ _ rfl (by simp (disch := omega) only [go_sem]; try omega) (by simp (disch := omega) only [go_sem])) ?_
    rintro k ⟨hk, hd⟩
    simp (disch := omega) only [go_sem]
    refine ifW_dec (fun h2 => ?_) (fun h2 => ?_)
    · obtain ⟨i, rfl⟩ : ∃ i, k = i + 1 := ⟨k - 1, by omega⟩
      have ei : ((i + 1 : Nat) : Int) - 1 = (i : Nat) := by omega
      have hva := vl_lim a
      have hvb := vl_lim b
      simp (disch := omega) only [go_sem, h2, ei]
      refine draw_of rfl [⟨0, [], []⟩, ⟨1, [], []⟩, ⟨2, [1], []⟩, ⟨3, [], []⟩, ⟨4, [], []⟩, ⟨5, [1, 4], []⟩, ⟨6, [1, 4], []⟩, ⟨7, [1, 4, 6], []⟩, ⟨8, [1, 4], []⟩, ⟨9, [1, 4], []⟩, ⟨10, [], []⟩] (by kernel_rfl) ?_
      simp (disch := omega) only [go_sem, ei]
      refine ⟨by omega, by omega, by omega, by omega, ?_⟩
      refine ifW_dec (fun h3 => ?_) (fun h3 => ?_)
      · simp (disch := omega) only [go_sem, h3]
        have := vl_lt_of (gd_lim a) (gd_lim b) (by omega) hl hd h3
        rw [show cmpI (a : Int) (b : Int) = -1 by unfold cmpI; rw [if_pos (by omega)]]
        exact fin_valc (by simp (disch := omega) only [go_sem]) (by simp (disch := omega) only [go_sem]) isA_mk
      · simp (disch := omega) only [go_sem, h3]
        refine draw_of rfl [⟨0, [], []⟩, ⟨1, [], []⟩, ⟨2, [1], []⟩, ⟨3, [], []⟩, ⟨4, [], []⟩, ⟨5, [1, 4], []⟩, ⟨6, [1, 4], []⟩, ⟨7, [1, 4, 6], []⟩, ⟨8, [1, 4], []⟩, ⟨9, [1, 4], []⟩, ⟨10, [], []⟩] (by kernel_rfl) ?_
        simp (disch := omega) only [go_sem, ei]
        refine ⟨by omega, by omega, by omega, by omega, ?_⟩
        refine ifW_dec (fun h4 => ?_) (fun h4 => ?_)
        · simp (disch := omega) only [go_sem, h4]
          have := vl_lt_of (gd_lim b) (gd_lim a) (by omega) hl.symm hd.symm h4
          rw [show cmpI (a : Int) (b : Int) = 1 by unfold cmpI; rw [if_neg (by omega), if_pos (by omega)]]
          exact fin_valc (by simp (disch := omega) only [go_sem]) (by simp (disch := omega) only [go_sem]) isA_mk
        · simp (disch := omega) only [go_sem, h4]
          refine next_intro i [] ⟨by omega, ?_⟩ (by show i < i + 1; omega) rfl (by simp (disch := omega) only [go_sem]; try omega) (by simp (disch := omega) only [go_sem])
          have h5 : (lim a).getD i 0 = (lim b).getD i 0 := by omega
          rw [drop_getD (l := lim a) (by omega), drop_getD (l := lim b) (by omega), h5, hd]
    · simp (disch := omega) only [go_sem, h2]
      have : k = 0 := by omega
      subst this
      rw [List.drop_zero, List.drop_zero] at hd
      have := lim_inj hd
      subst this
      rw [show cmpI (a : Int) (a : Int) = 0 by simp [cmpI]]
      exact fin_valc (by simp (disch := omega) only [go_sem]) (by simp (disch := omega) only [go_sem]) isA_mk

end Go.Ab
namespace Go.Ab
open Go Go.Proofs
set_option linter.unusedVariables false
set_option linter.unusedSimpArgs false

theorem con_l3neg (s : Bool) (m : Nat) (hl : (lim m).length ≤ 2 ^ 39) : Con Tryz.prog 133 false [.ag [.v (.bool (s)), .sl (lim (m)).length (ints (lim (m)))]] [] (isA (.ag [.v (.bool ((!s) && decide (m ≠ 0))), .sl (lim (m)).length (ints (lim (m)))])) := by
  refine Con.frzA ?_
  refine Con.of_aw Tryz.func133 rfl Tryz.ntmps133 (by simp) (by simp) (by simp) (W.sound ?_)
  show @W Tryz.prog 9 ⟨_⟩ ⟨fun x σ => @retW _ _ _ ⟨_⟩ _ ⟨_⟩ x σ⟩ _ _
  simp (disch := omega) only [go_sem]
  refine call_open (con_l3make (!s) m hl) (by simp (disch := omega) only [go_sem]) ?_
  rintro r hs ⟨rfl, rfl, _⟩
  refine ⟨by simp [freeN], ?_⟩
  simp (disch := omega) only [go_sem]
  refine fin_val (by simp (disch := omega) only [go_sem]) ?_
  show snap _ 6 _ = _
  simp (disch := omega) only [go_sem]

theorem con_l4neg (s : Bool) (m : Nat) (e : Int) (hl : (lim m).length ≤ 2 ^ 39) : Con Tryz.prog 104 false [.ag [.v (.bool (s)), .sl (lim (m)).length (ints (lim (m))), .v (.int .i64 (e))]] [] (isA (.ag [.v (.bool ((!s) && decide (m ≠ 0))), .sl (lim (m)).length (ints (lim (m))), .v (.int .i64 (e))])) := by
  refine Con.frzA ?_
  refine Con.of_aw Tryz.func104 rfl Tryz.ntmps104 (by simp) (by simp) (by simp) (W.sound ?_)
  show @W Tryz.prog 9 ⟨_⟩ ⟨fun x σ => @retW _ _ _ ⟨_⟩ _ ⟨_⟩ x σ⟩ _ _
  simp (disch := omega) only [go_sem]
  refine draw_of rfl [⟨0, [], []⟩, ⟨1, [], []⟩, ⟨3, [1], []⟩, ⟨4, [1], []⟩, ⟨2, [4], []⟩, ⟨5, [], []⟩, ⟨6, [], []⟩] (by kernel_rfl) ?_
  simp (disch := omega) only [go_sem]
  refine call_open (con_l3neg s m hl) (by simp (disch := omega) only [go_sem]) ?_
  rintro r hs ⟨rfl, rfl, _⟩
  refine ⟨by simp [freeN], ?_⟩
  simp (disch := omega) only [go_sem]
  refine fin_val (by simp (disch := omega) only [go_sem]) ?_
  show snap _ 6 _ = _
  simp (disch := omega) only [go_sem]

/-- The power of two that the reference tells a sum in: that of two noughts is another one. -/
def alF (m1 : Nat) (e1 : Int) (m2 : Nat) (e2 : Int) : Int := if m1 = 0 then e2 else if m2 = 0 then e1 else if e1 ≤ e2 then e1 else e2
end Go.Ab
namespace Go.Ab
open Go Go.Proofs
set_option linter.unusedVariables false
set_option linter.unusedSimpArgs false

theorem con_l4ups (neg : Bool) (m k : Nat) (mode : Int) (hl : (lim m).length ≤ 2 ^ 40) (hk : 1 ≤ k) (hk2 : k ≤ 2 ^ 40) : Con Tryz.prog 157 true [.v (.bool neg), .ag [.sl (lim (m)).length (ints (lim (m)))], .v (.int .i64 k), .v (.int .i64 mode)] [] (isA (.v (.bool (upsB neg m k mode)))) := by
  refine Con.of_aw Tryz.func157 rfl Tryz.ntmps157 (by simp) (by simp) (by simp) (W.sound ?_)
  show @W Tryz.prog 44 ⟨_⟩ ⟨fun x σ => @retW _ _ _ ⟨_⟩ _ ⟨_⟩ x σ⟩ _ _
  have ek : ((k : Int) - 1) = ((k - 1 : Nat) : Int) := by omega
  have e1 : decide (((m / 2 ^ (k - 1) % 2 : Nat) : Int) = 1) = decide (m / 2 ^ (k - 1) % 2 = 1) := by rw [decide_eq_decide]; omega
  have e2 : decide (((m / 2 ^ k % 2 : Nat) : Int) = 1) = decide (m / 2 ^ k % 2 = 1) := by rw [decide_eq_decide]; omega
  have e3 : decide ((tz m : Int) < ((k - 1 : Nat) : Int)) = decide (tz m < k - 1) := by rw [decide_eq_decide]; omega
  simp (disch := omega) only [go_sem, ek]
  refine call_closed (con_l2bit m ((k - 1 : Nat) : Int) hl (by omega) (by omega)) (by simp (disch := omega) only [go_sem, ek]) ?_
  rintro r hs ⟨rfl, rfl, _⟩
  refine ⟨by simp [freeN], ?_⟩
  simp (disch := omega) only [go_sem, ek, e1]
  refine call_closed (con_l2trail m hl) (by simp (disch := omega) only [go_sem]) ?_
  rintro r hs ⟨rfl, rfl, _⟩
  refine ⟨by simp [freeN], ?_⟩
  simp (disch := omega) only [go_sem]
  refine ifW_dec (fun h1 => ?_) (fun h1 => ?_)
  · simp (disch := omega) only [go_sem, h1]
    exact fin_valc (by simp (disch := omega) only [go_sem]) (by simp (disch := omega) only [go_sem]) ⟨by simp [tupA, upsB, h1], rfl, rfl⟩
  · simp (disch := omega) only [go_sem, h1]
    refine ifW_dec (fun h2 => ?_) (fun h2 => ?_)
    · simp (disch := omega) only [go_sem, h2]
      exact fin_valc (by simp (disch := omega) only [go_sem]) (by simp (disch := omega) only [go_sem]) ⟨by simp [tupA, upsB, h2], rfl, rfl⟩
    · simp (disch := omega) only [go_sem, h2]
      refine ifW_dec (fun h3 => ?_) (fun h3 => ?_)
      · simp (disch := omega) only [go_sem, h3]
        exact fin_valc (by simp (disch := omega) only [go_sem]) (by simp (disch := omega) only [go_sem]) ⟨by simp [tupA, upsB, h3], rfl, rfl⟩
      · simp (disch := omega) only [go_sem, h3]
        refine ifW_dec (fun h4 => ?_) (fun h4 => ?_)
        · simp (disch := omega) only [go_sem, h4]
          exact fin_valc (by simp (disch := omega) only [go_sem]) (by simp (disch := omega) only [go_sem]) ⟨by simp [tupA, upsB, h4], rfl, rfl⟩
        · simp (disch := omega) only [go_sem, h4]
          refine ifW_b (fun h5 => ?_) (fun h5 => ?_)
          · simp (disch := omega) only [go_sem, h5]
            refine ifW_nb (fun h6 => ?_) (fun h6 => ?_)
            · simp (disch := omega) only [go_sem, h6]
              refine call_closed (con_l2bit m (k : Int) hl (by omega) (by omega)) (by simp (disch := omega) only [go_sem]) ?_
              rintro r hs ⟨rfl, rfl, _⟩
              refine ⟨by simp [freeN], ?_⟩
              simp (disch := omega) only [go_sem]
              have h7 : decide (tz m < k - 1) = false := by rw [← e3, ← ek]; exact h6
              rw [e2]
              refine fin_valc (by simp (disch := omega) only [go_sem]) (by simp (disch := omega) only [go_sem]) ⟨?_, rfl, rfl⟩
              show AV.v (.bool _) = AV.v (.bool _)
              unfold upsB; rw [if_neg h1, if_neg h2, if_neg h3, if_neg h4, h5, h7]; rfl
            · simp (disch := omega) only [go_sem, h6]
              have h7 : decide (tz m < k - 1) = true := by rw [← e3, ← ek]; exact h6
              refine fin_valc (by simp (disch := omega) only [go_sem]) (by simp (disch := omega) only [go_sem]) ⟨?_, rfl, rfl⟩
              show AV.v (.bool _) = AV.v (.bool _)
              unfold upsB; rw [if_neg h1, if_neg h2, if_neg h3, if_neg h4, h5, h7]; rfl
          · simp (disch := omega) only [go_sem, h5]
            refine fin_valc (by simp (disch := omega) only [go_sem]) (by simp (disch := omega) only [go_sem]) ⟨?_, rfl, rfl⟩
            show AV.v (.bool _) = AV.v (.bool _)
            unfold upsB; rw [if_neg h1, if_neg h2, if_neg h3, if_neg h4, h5]; rfl

/-- A number in its one form, rounded: as the reference does it. -/
def srM (s : Bool) (m : Nat) (e low mode : Int) : Nat := oM (roM s m e low mode)
def srE (s : Bool) (m : Nat) (e low mode : Int) : Int := if low ≤ e ∨ m = 0 then e else oE (roM s m e low mode) low

theorem con_l4round (s : Bool) (m : Nat) (e low mode : Int) (hodd : m % 2 = 1 ∨ m = 0) (hs : m = 0 → s = false) (hmode : 0 ≤ mode ∧ mode ≤ 4) (hm : bl m ≤ 4000000) (he : -1000000 ≤ e ∧ e ≤ 1000000) (hlo : -1000000 ≤ low ∧ low ≤ 1000000) :
    Con Tryz.prog 144 false [.ag [.v (.bool (s)), .sl (lim (m)).length (ints (lim (m))), .v (.int .i64 (e))], .v (.int .i64 low), .v (.int .i64 mode)] []
      (isA (.tu [.ag [.v (.bool (oS (roS s m e low mode) (roM s m e low mode))), .sl (lim (srM s m e low mode)).length (ints (lim (srM s m e low mode))), .v (.int .i64 (srE s m e low mode))], .v (.bool (roX m e low))])) := by
  refine Con.frzA ?_
  have l1 := len_bl hm
  refine Con.of_aw Tryz.func144 rfl Tryz.ntmps144 (by simp) (by simp) (by simp) (W.sound ?_)
  show @W Tryz.prog 51 ⟨_⟩ ⟨fun x σ => @retW _ _ _ ⟨_⟩ _ ⟨_⟩ x σ⟩ _ _
  simp (disch := omega) only [go_sem]
  refine ifW_not (fun h1 => ?_) (fun h1 => ?_)
  · have h0 : m ≠ 0 := fun e => h1 (by rw [e, lim_zero]; rfl)
    have hod : m % 2 = 1 := hodd.resolve_right h0
    simp (disch := omega) only [go_sem, h1]
    refine ifW_dec (fun h2 => ?_) (fun h2 => ?_)
    · simp (disch := omega) only [go_sem, h2]
      refine fin_val (by simp (disch := omega) only [go_sem]) ?_
      show snap _ 6 _ = _
      have ht := tz_odd hod
      have e3 : oM m = m := by unfold oM; rw [ht]; simp
      simp only [srM, srE, roM, roS, roX, h2, true_or, if_true, oS, if_neg h0, e3]
      simp (disch := omega) only [go_sem]
    · simp (disch := omega) only [go_sem, h2]
      have ek : low - e = (((low - e).toNat : Nat) : Int) := by omega
      have hk1 : 1 ≤ (low - e).toNat := by omega
      refine call_open (con_l2shr m (low - e).toNat (by omega) (by omega)) (by simp (disch := omega) only [go_sem, ← ek]) ?_
      rintro r hs ⟨rfl, rfl, _⟩
      refine ⟨by simp [freeN], ?_⟩
      simp (disch := omega) only [go_sem]
      refine call_closed (con_l4ups s m (low - e).toNat mode (by omega) hk1 (by omega)) (by simp (disch := omega) only [go_sem, ← ek]) ?_
      rintro r hs ⟨rfl, rfl, _⟩
      refine ⟨by simp [freeN], ?_⟩
      simp (disch := omega) only [go_sem]
      have hc : ¬ (low ≤ e ∨ m = 0) := by omega
      have hne := odd_mod hod hk1
      have hups := ups_eq (neg := s) hod hk1 hmode
      have hq : roM s m e low mode = if upsB s m (low - e).toNat mode = true then m / 2 ^ (low - e).toNat + 1 else m / 2 ^ (low - e).toNat := by
        unfold roM rq
        rw [if_neg hc, if_neg hne, ← hups]
      have hro : roS s m e low mode = (s && decide (roM s m e low mode ≠ 0)) := by unfold roS roM; rw [if_neg hc, if_neg hc]
      have hblq : bl (m / 2 ^ (low - e).toNat + 1) ≤ 4000001 := by
        have h3 := bl_succ (m / 2 ^ (low - e).toNat)
        have h4 := bl_divle m (2 ^ (low - e).toNat)
        omega
      have hblq0 : bl (m / 2 ^ (low - e).toNat) ≤ 4000001 := Nat.le_trans (bl_mono (by omega)) hblq
      have lq := len_bl hblq
      have lq0 := len_bl hblq0
      have hrx : roX m e low = false := by unfold roX; rw [if_neg hc]; simp [hne]
      have hfin : ∀ q, roM s m e low mode = q → bl q ≤ 4000001 → AV.ag [.v (.bool (oS (s && decide (q ≠ 0)) q)), .sl (lim (oM q)).length (ints (lim (oM q))), .v (.int .i64 (oE q low))] = AV.ag [.v (.bool (oS (roS s m e low mode) (roM s m e low mode))), .sl (lim (srM s m e low mode)).length (ints (lim (srM s m e low mode))), .v (.int .i64 (srE s m e low mode))] := by
        intro q hq' _
        rw [hro, hq']
        unfold srM srE
        rw [if_neg hc, hq']
      refine ifW_b (fun h3 => ?_) (fun h3 => ?_)
      · rw [if_pos h3] at hq
        simp (disch := omega) only [go_sem, h3]
        refine draw_of rfl [⟨0, [], []⟩, ⟨1, [0], []⟩, ⟨2, [], []⟩, ⟨3, [], []⟩] (by kernel_rfl) ?_
        simp (disch := omega) only [go_sem]
        refine call_open (con_l2ofF 1 (by omega)) (by simp (disch := omega) only [go_sem]) ?_
        rintro r hs ⟨rfl, rfl, _⟩
        refine ⟨by simp [freeN], ?_⟩
        simp (disch := omega) only [go_sem]
        refine call_open (con_l2addF (m / 2 ^ (low - e).toNat) 1 (by omega) (by have := len_bl (m := 1) (B := 1) (by decide); omega)) (by simp (disch := omega) only [go_sem]) ?_
        rintro r hs ⟨rfl, rfl, _⟩
        refine ⟨by simp [freeN], ?_⟩
        simp (disch := omega) only [go_sem]
        refine call_open (con_l3make s (m / 2 ^ (low - e).toNat + 1) (by omega)) (by simp (disch := omega) only [go_sem]) ?_
        rintro r hs ⟨rfl, rfl, _⟩
        refine ⟨by simp [freeN], ?_⟩
        simp (disch := omega) only [go_sem]
        refine call_open (con_l4make (s && decide (m / 2 ^ (low - e).toNat + 1 ≠ 0)) (m / 2 ^ (low - e).toNat + 1) low (by omega) (by omega)) (by simp (disch := omega) only [go_sem]) ?_
        rintro r hs ⟨rfl, rfl, _⟩
        refine ⟨by simp [freeN], ?_⟩
        simp (disch := omega) only [go_sem]
        refine fin_val (by simp (disch := omega) only [go_sem]) ?_
        show snap _ 6 _ = _
        rw [← hfin _ hq hblq, hrx]
        simp (disch := omega) only [go_sem]
      · rw [if_neg (by rw [h3]; simp)] at hq
        simp (disch := omega) only [go_sem, h3]
        refine call_open (con_l3make s (m / 2 ^ (low - e).toNat) (by omega)) (by simp (disch := omega) only [go_sem]) ?_
        rintro r hs ⟨rfl, rfl, _⟩
        refine ⟨by simp [freeN], ?_⟩
        simp (disch := omega) only [go_sem]
        refine call_open (con_l4make (s && decide (m / 2 ^ (low - e).toNat ≠ 0)) (m / 2 ^ (low - e).toNat) low (by omega) (by omega)) (by simp (disch := omega) only [go_sem]) ?_
        rintro r hs ⟨rfl, rfl, _⟩
        refine ⟨by simp [freeN], ?_⟩
        simp (disch := omega) only [go_sem]
        refine fin_val (by simp (disch := omega) only [go_sem]) ?_
        show snap _ 6 _ = _
        rw [← hfin _ hq hblq0, hrx]
        simp (disch := omega) only [go_sem]
  · have h0 : m = 0 := lim_eq_nil.1 (List.length_eq_zero_iff.1 (by omega))
    simp (disch := omega) only [go_sem, h1]
    refine fin_val (by simp (disch := omega) only [go_sem]) ?_
    show snap _ 6 _ = _
    have hs0 := hs h0
    subst h0
    subst hs0
    simp only [srM, srE, roM, roS, roX, or_true, if_true, oS, oM_zero]
    simp (disch := omega) only [go_sem]
end Go.Ab
namespace Go.Ab
open Go Go.Proofs
set_option linter.unusedVariables false
set_option linter.unusedSimpArgs false

theorem con_l5nan : Con Tryz.prog 113 true [] [] (isA (.ag [.v (.int .i64 (3)), .v (.bool (false)), .v (.int .i64 (0)), .v (.int .i64 (0))])) := by
  refine Con.of_aw Tryz.func113 rfl Tryz.ntmps113 (by simp) (by simp) (by simp) (W.sound ?_)
  show @W Tryz.prog 2 ⟨_⟩ ⟨fun x σ => @retW _ _ _ ⟨_⟩ _ ⟨_⟩ x σ⟩ _ _
  simp (disch := omega) only [go_sem]
  exact fin_valc (by simp (disch := omega) only [go_sem]) (by simp (disch := omega) only [go_sem]) isA_mk

theorem con_l5most (s : Bool) : Con Tryz.prog 136 true [.v (.bool s)] [] (isA (.ag [.v (.int .i64 (1)), .v (.bool (s)), .v (.int .i64 (9007199254740991)), .v (.int .i64 (971))])) := by
  refine Con.of_aw Tryz.func136 rfl Tryz.ntmps136 (by simp) (by simp) (by simp) (W.sound ?_)
  show @W Tryz.prog 5 ⟨_⟩ ⟨fun x σ => @retW _ _ _ ⟨_⟩ _ ⟨_⟩ x σ⟩ _ _
  simp (disch := omega) only [go_sem]
  exact fin_valc (by simp (disch := omega) only [go_sem]) (by simp (disch := omega) only [go_sem]) isA_mk

theorem sr_eq {s : Bool} {m : Nat} {e low mode : Int} (hodd : m % 2 = 1) : srM s m e low mode = oM (roM s m e low mode) ∧ srE s m e low mode = oE (roM s m e low mode) (roE m e low) := by
  refine ⟨rfl, ?_⟩
  unfold srE
  by_cases h : low ≤ e ∨ m = 0
  · have h0 : m ≠ 0 := fun e => by omega
    rw [if_pos h]
    unfold roM roE oE
    rw [if_pos h, if_pos h, if_neg h0, tz_odd hodd]; simp
  · rw [if_neg h]
    unfold roE
    rw [if_neg h]

theorem roS_eq {s : Bool} {m : Nat} {e low mode : Int} (h : roM s m e low mode ≠ 0) : oS (roS s m e low mode) (roM s m e low mode) = s := by
  unfold oS; rw [if_neg h]
  unfold roS roM at *
  by_cases hc : low ≤ e ∨ m = 0
  · rw [if_pos hc]
  · rw [if_neg hc] at h ⊢
    simp [h]

theorem oE_bnd {m : Nat} {e : Int} {B : Nat} (h : bl m ≤ B) (he : -1000000 ≤ e ∧ e ≤ 1000000) : -1000000 ≤ oE m e ∧ oE m e ≤ 1000000 + B := by
  unfold oE
  by_cases h0 : m = 0
  · rw [if_pos h0]; omega
  · rw [if_neg h0]; have := tz_lt_bl h0; omega

set_option maxRecDepth 100000 in
set_option maxHeartbeats 1000000 in
theorem con_l5round (s : Bool) (m : Nat) (e mode : Int) (z : Bool) (hodd : m % 2 = 1 ∨ m = 0) (hs : m = 0 → s = false) (hmode : 0 ≤ mode ∧ mode ≤ 4) (hm : bl m ≤ 100000) (he : -100000 ≤ e ∧ e ≤ 100000) :
    Con Tryz.prog 119 true [.ag [.v (.bool (s)), .sl (lim (m)).length (ints (lim (m))), .v (.int .i64 (e))], .v (.int .i64 mode), .v (.bool z)] []
      (isA (.tu [.ag [.v (.int .i64 ((flV s m e mode z).k)), .v (.bool ((flV s m e mode z).s)), .v (.int .i64 ((flV s m e mode z).m)), .v (.int .i64 ((flV s m e mode z).e))], .v (.int .i64 (flG s m e mode))])) := by
  have hl := len_bl hm
  refine Con.of_aw Tryz.func119 rfl Tryz.ntmps119 (by simp) (by simp) (by simp) (W.sound ?_)
  show @W Tryz.prog 105 ⟨_⟩ ⟨fun x σ => @retW _ _ _ ⟨_⟩ _ ⟨_⟩ x σ⟩ _ _
  simp (disch := omega) only [go_sem]
  refine ifW_dec (fun h1 => ?_) (fun h1 => ?_)
  · have h0 : m = 0 := lim_eq_nil.1 (List.length_eq_zero_iff.1 (by omega))
    simp (disch := omega) only [go_sem, h1]
    refine fin_valc (by simp (disch := omega) only [go_sem]) (by simp (disch := omega) only [go_sem]) ⟨?_, rfl, rfl⟩
    simp only [tupA, flV, flG, h0, if_true]
  · have h0 : m ≠ 0 := fun e => h1 (by rw [e, lim_zero]; rfl)
    have hod : m % 2 = 1 := hodd.resolve_right h0
    simp (disch := omega) only [go_sem, h1]
    have etop : (if m = 0 then (0 : Int) else e + (bl m : Int)) = (bl m : Int) + e := by rw [if_neg h0]; omega
    refine call_closed (con_l4top s m e (by omega) (by omega)) (by simp (disch := omega) only [go_sem, etop]) ?_
    rintro r hs ⟨rfl, rfl, _⟩
    refine ⟨by simp [freeN], ?_⟩
    simp (disch := omega) only [go_sem]
    simp (disch := omega) only [go_sem, etop]
    have hL0 : flLow ((bl m : Int) + e) = (if -1074 > (bl m : Int) + e - 53 then -1074 else (bl m : Int) + e - 53) := rfl
    have hVG : ∀ (k mm ee fg : Int), flK s mode (roM s m e (flLow (bl m + e)) mode) (roE m e (flLow (bl m + e))) = k → flMm s mode (roM s m e (flLow (bl m + e)) mode) (roE m e (flLow (bl m + e))) = mm → flEe s mode (roM s m e (flLow (bl m + e)) mode) (roE m e (flLow (bl m + e))) = ee →
        flFl (bl m + e) (roX m e (flLow (bl m + e))) (roM s m e (flLow (bl m + e)) mode) (roE m e (flLow (bl m + e))) = fg →
        AV.tu [.ag [.v (.int .i64 k), .v (.bool s), .v (.int .i64 mm), .v (.int .i64 ee)], .v (.int .i64 fg)] = .tu [.ag [.v (.int .i64 ((flV s m e mode z).k)), .v (.bool ((flV s m e mode z).s)), .v (.int .i64 ((flV s m e mode z).m)), .v (.int .i64 ((flV s m e mode z).e))], .v (.int .i64 (flG s m e mode))] := by
      intro k mm ee fg g1 g2 g3 g4
      unfold flV flG
      rw [if_neg h0, if_neg h0, g1, g2, g3, g4]
    have hform := ro_form (s := s) (m := m) (e := e) (mode := mode) h0
    refine ifW_dec (fun h2 => ?_) (fun h2 => ?_)
    · have hL : flLow ((bl m : Int) + e) = -1074 := by unfold flLow; rw [if_pos (by omega)]
      simp (disch := omega) only [go_sem, h2]
      have hbl := ro_bl (s := s) (e := e) (low := -1074) (mode := mode) hm
      have hroE : -1000000 ≤ roE m e (-1074) ∧ roE m e (-1074) ≤ 1000000 := by unfold roE; split <;> omega
      obtain ⟨q1, q2⟩ := sr_eq (s := s) (e := e) (low := -1074) (mode := mode) hod
      have q3 := roS_eq (s := s) (m := m) (e := e) (low := -1074) (mode := mode)
      refine call_open (con_l4round s m e (-1074) mode hodd hs hmode (by omega) (by omega) (by omega)) (by simp (disch := omega) only [go_sem, etop]) ?_
      rintro r hs ⟨rfl, rfl, _⟩
      refine ⟨by simp [freeN], ?_⟩
      simp (disch := omega) only [go_sem]
      rw [hL] at hVG hform
      generalize srM s m e (-1074) mode = xm at *
      generalize srE s m e (-1074) mode = xe at *
      generalize oS (roS s m e (-1074) mode) (roM s m e (-1074) mode) = xs at *
      generalize hrm : roM s m e (-1074) mode = rm at *
      generalize hre : roE m e (-1074) = re at *
      generalize hrx : roX m e (-1074) = same at *
      have hxm0 : ((lim xm).length : Int) = 0 ↔ rm = 0 := by rw [q1, ← oM_eq_zero]; exact ⟨fun h => lim_eq_nil.1 (List.length_eq_zero_iff.1 (by omega)), fun h => by rw [h, lim_zero]; rfl⟩
      have hxmb : bl xm ≤ 100001 := by rw [q1]; exact Nat.le_trans (bl_mono (oM_le rm)) hbl
      have lxm := len_bl hxmb
      have hxeb : -2000000 ≤ xe ∧ xe ≤ 2000000 := by have := oE_bnd hbl hroE; omega
      have etop2 : rm ≠ 0 → (if xm = 0 then (0 : Int) else xe + (bl xm : Int)) = (bl rm : Int) + re := fun h => by
        have h2 := bl_oM h
        have h3 : xm ≠ 0 := by rw [q1]; exact fun e => h (oM_eq_zero.1 e)
        rw [if_neg h3, q2, q1]; unfold oE; rw [if_neg h]; omega
      refine ifW_nb (fun h3 => ?_) (fun h3 => ?_)
      · simp (disch := omega) only [go_sem, h3]
        refine call_closed (con_l4top s m e (by omega) (by omega)) (by simp (disch := omega) only [go_sem, etop]) ?_
        rintro r hs ⟨rfl, rfl, _⟩
        refine ⟨by simp [freeN], ?_⟩
        simp (disch := omega) only [go_sem]
        simp (disch := omega) only [go_sem, etop]
        refine ifW_dec (fun h4 => ?_) (fun h4 => ?_)
        · have hfl : flFlags (bl m + e) same = 5 := by unfold flFlags; rw [h3, if_neg (by simp), if_pos (by omega)]
          have e5 : ((1 ||| 4 : Nat) : Int) = 5 := rfl
          simp (disch := omega) only [go_sem, h4, e5]
          refine ifW_dec (fun h5 => ?_) (fun h5 => ?_)
          · have hr0 : rm = 0 := hxm0.1 h5
            simp (disch := omega) only [go_sem, h5]
            refine fin_valc (by simp (disch := omega) only [go_sem]) (by simp (disch := omega) only [go_sem]) ⟨?_, rfl, rfl⟩
            refine hVG 0 0 0 5 (by simp [flK, hr0]) (by simp [flMm, hr0]) (by simp [flEe, hr0]) (by simp [flFl, hr0, hfl])
          · have hr0 : rm ≠ 0 := fun e => h5 (hxm0.2 e)
            have et2 := etop2 hr0
            have hxs : xs = s := q3 hr0
            have hff := hform hr0
            have hM := flM_lt hr0 hff
            simp (disch := omega) only [go_sem, h5]
            refine call_closed (con_l4top xs xm xe (by omega) (by omega)) (by simp (disch := omega) only [go_sem, et2]) ?_
            rintro r hs ⟨rfl, rfl, _⟩
            refine ⟨by simp [freeN], ?_⟩
            simp (disch := omega) only [go_sem]
            simp (disch := omega) only [go_sem, et2]
            refine ifW_dec (fun h6 => ?_) (fun h6 => ?_)
            · have hov : ∀ (k mm ee : Int), k = (if ovB s mode then 1 else 2) → mm = (if ovB s mode then 9007199254740991 else 0) → ee = (if ovB s mode then 971 else 0) → AV.tu [.ag [.v (.int .i64 k), .v (.bool s), .v (.int .i64 mm), .v (.int .i64 ee)], .v (.int .i64 3)] = .tu [.ag [.v (.int .i64 ((flV s m e mode z).k)), .v (.bool ((flV s m e mode z).s)), .v (.int .i64 ((flV s m e mode z).m)), .v (.int .i64 ((flV s m e mode z).e))], .v (.int .i64 (flG s m e mode))] := by
                rintro k mm ee rfl rfl rfl
                exact hVG _ _ _ 3 (by unfold flK; rw [if_neg hr0, if_pos h6]) (by unfold flMm; rw [if_neg hr0, if_pos h6]) (by unfold flEe; rw [if_neg hr0, if_pos h6]) (by unfold flFl; rw [if_pos ⟨hr0, h6⟩])
              clear hVG hform hrm hrx q3 hxs et2 hfl
              obtain rfl | rfl | rfl | rfl | rfl : mode = 0 ∨ mode = 1 ∨ mode = 2 ∨ mode = 3 ∨ mode = 4 := by omega
              · cases s
                · simp (disch := omega) only [go_sem, h6]
                  refine fin_valc (by simp (disch := omega) only [go_sem]) (by simp (disch := omega) only [go_sem]) ⟨?_, rfl, rfl⟩
                  exact hov _ _ _ rfl rfl rfl
                · simp (disch := omega) only [go_sem, h6]
                  refine fin_valc (by simp (disch := omega) only [go_sem]) (by simp (disch := omega) only [go_sem]) ⟨?_, rfl, rfl⟩
                  exact hov _ _ _ rfl rfl rfl
              · cases s
                · simp (disch := omega) only [go_sem, h6]
                  refine call_closed (con_l5most false) (by simp (disch := omega) only [go_sem]) ?_
                  rintro r hs ⟨rfl, rfl, _⟩
                  refine ⟨by simp [freeN], ?_⟩
                  simp (disch := omega) only [go_sem]
                  refine fin_valc (by simp (disch := omega) only [go_sem]) (by simp (disch := omega) only [go_sem]) ⟨?_, rfl, rfl⟩
                  exact hov _ _ _ rfl rfl rfl
                · simp (disch := omega) only [go_sem, h6]
                  refine call_closed (con_l5most true) (by simp (disch := omega) only [go_sem]) ?_
                  rintro r hs ⟨rfl, rfl, _⟩
                  refine ⟨by simp [freeN], ?_⟩
                  simp (disch := omega) only [go_sem]
                  refine fin_valc (by simp (disch := omega) only [go_sem]) (by simp (disch := omega) only [go_sem]) ⟨?_, rfl, rfl⟩
                  exact hov _ _ _ rfl rfl rfl
              · cases s
                · simp (disch := omega) only [go_sem, h6]
                  refine fin_valc (by simp (disch := omega) only [go_sem]) (by simp (disch := omega) only [go_sem]) ⟨?_, rfl, rfl⟩
                  exact hov _ _ _ rfl rfl rfl
                · simp (disch := omega) only [go_sem, h6]
                  refine call_closed (con_l5most true) (by simp (disch := omega) only [go_sem]) ?_
                  rintro r hs ⟨rfl, rfl, _⟩
                  refine ⟨by simp [freeN], ?_⟩
                  simp (disch := omega) only [go_sem]
                  refine fin_valc (by simp (disch := omega) only [go_sem]) (by simp (disch := omega) only [go_sem]) ⟨?_, rfl, rfl⟩
                  exact hov _ _ _ rfl rfl rfl
              · cases s
                · simp (disch := omega) only [go_sem, h6]
                  refine call_closed (con_l5most false) (by simp (disch := omega) only [go_sem]) ?_
                  rintro r hs ⟨rfl, rfl, _⟩
                  refine ⟨by simp [freeN], ?_⟩
                  simp (disch := omega) only [go_sem]
                  refine fin_valc (by simp (disch := omega) only [go_sem]) (by simp (disch := omega) only [go_sem]) ⟨?_, rfl, rfl⟩
                  exact hov _ _ _ rfl rfl rfl
                · simp (disch := omega) only [go_sem, h6]
                  refine fin_valc (by simp (disch := omega) only [go_sem]) (by simp (disch := omega) only [go_sem]) ⟨?_, rfl, rfl⟩
                  exact hov _ _ _ rfl rfl rfl
              · cases s
                · simp (disch := omega) only [go_sem, h6]
                  refine fin_valc (by simp (disch := omega) only [go_sem]) (by simp (disch := omega) only [go_sem]) ⟨?_, rfl, rfl⟩
                  exact hov _ _ _ rfl rfl rfl
                · simp (disch := omega) only [go_sem, h6]
                  refine fin_valc (by simp (disch := omega) only [go_sem]) (by simp (disch := omega) only [go_sem]) ⟨?_, rfl, rfl⟩
                  exact hov _ _ _ rfl rfl rfl
            · simp (disch := omega) only [go_sem, h6]
              refine call_closed (con_l4top xs xm xe (by omega) (by omega)) (by simp (disch := omega) only [go_sem, et2]) ?_
              rintro r hs ⟨rfl, rfl, _⟩
              refine ⟨by simp [freeN], ?_⟩
              simp (disch := omega) only [go_sem]
              simp (disch := omega) only [go_sem, et2]
              have hfin : ∀ mm : Int, mm = (flM rm re : Int) → AV.tu [.ag [.v (.int .i64 1), .v (.bool xs), .v (.int .i64 mm), .v (.int .i64 (flE rm re))], .v (.int .i64 5)] = .tu [.ag [.v (.int .i64 ((flV s m e mode z).k)), .v (.bool ((flV s m e mode z).s)), .v (.int .i64 ((flV s m e mode z).m)), .v (.int .i64 ((flV s m e mode z).e))], .v (.int .i64 (flG s m e mode))] := by
                rintro mm rfl
                rw [hxs]
                exact hVG 1 _ _ 5 (by unfold flK; rw [if_neg hr0, if_neg (by omega)]) (by unfold flMm; rw [if_neg hr0, if_neg (by omega)]) (by unfold flEe; rw [if_neg hr0, if_neg (by omega)]) (by unfold flFl; rw [if_neg (by omega), hfl])
              have ek : xe - flE rm re = (((oE rm re - flE rm re).toNat : Nat) : Int) := by omega
              have hk9 : (oE rm re - flE rm re).toNat ≤ 53 := by have h9 := hM; unfold flM at h9; rw [bl_mul_pow (fun e => hr0 (oM_eq_zero.1 e))] at h9; omega
              have hM6 : flM rm re < 2 ^ 53 := Nat.lt_of_lt_of_le (bl_lt _) (Nat.pow_le_pow_right (by omega) hM)
              have eM : xm * 2 ^ (oE rm re - flE rm re).toNat = flM rm re := by rw [q1]; rfl
              generalize hkk : (oE rm re - flE rm re).toNat = kk at *
              refine ifW_dec (fun h7 => ?_) (fun h7 => ?_)
              · have eE : flE rm re = -1074 := by unfold flE flLow; rw [if_pos (by omega)]
                simp (disch := omega) only [go_sem, h7]
                rw [eE] at ek hfin
                try rw [← et2] at hfin
                refine draw_of rfl [⟨0, [], []⟩, ⟨1, [], []⟩, ⟨2, [], []⟩, ⟨3, [2], []⟩, ⟨4, [2], []⟩, ⟨5, [2], []⟩, ⟨6, [2, 5], []⟩, ⟨7, [2, 5], []⟩, ⟨8, [2, 5, 7], []⟩, ⟨9, [2, 5], []⟩, ⟨12, [2, 5, 7], []⟩, ⟨14, [2, 5, 7], []⟩, ⟨10, [2], []⟩, ⟨11, [2], []⟩, ⟨13, [], []⟩, ⟨15, [], []⟩, ⟨16, [], []⟩] (by kernel_rfl) ?_
                simp (disch := omega) only [go_sem]
                refine call_open (con_l2shlF xm kk (by omega) (by omega)) (by simp (disch := omega) only [go_sem, ek, et2]) ?_
                rintro r hs ⟨rfl, rfl, _⟩
                refine ⟨by simp [freeN], ?_⟩
                simp (disch := omega) only [go_sem]
                refine call_closed (con_l2int (xm * 2 ^ kk) (by rw [eM]; omega)) (by simp (disch := omega) only [go_sem]) ?_
                rintro r hs ⟨rfl, rfl, _⟩
                refine ⟨by simp [freeN], ?_⟩
                simp (disch := omega) only [go_sem]
                refine fin_valc (by simp (disch := omega) only [go_sem]) (by simp (disch := omega) only [go_sem]) ⟨?_, rfl, rfl⟩
                exact hfin ((xm * 2 ^ kk : Nat) : Int) (by rw [eM])
              · have eE : flE rm re = (bl rm : Int) + re - 53 := by unfold flE flLow; rw [if_neg (by omega)]
                simp (disch := omega) only [go_sem, h7]
                rw [eE] at ek hfin
                try rw [← et2] at hfin
                refine draw_of rfl [⟨0, [], []⟩, ⟨1, [], []⟩, ⟨2, [], []⟩, ⟨3, [2], []⟩, ⟨4, [2], []⟩, ⟨5, [2], []⟩, ⟨6, [2, 5], []⟩, ⟨7, [2, 5], []⟩, ⟨8, [2, 5, 7], []⟩, ⟨9, [2, 5], []⟩, ⟨12, [2, 5, 7], []⟩, ⟨14, [2, 5, 7], []⟩, ⟨10, [2], []⟩, ⟨11, [2], []⟩, ⟨13, [], []⟩, ⟨15, [], []⟩, ⟨16, [], []⟩] (by kernel_rfl) ?_
                simp (disch := omega) only [go_sem]
                refine call_open (con_l2shlF xm kk (by omega) (by omega)) (by simp (disch := omega) only [go_sem, ek, et2]) ?_
                rintro r hs ⟨rfl, rfl, _⟩
                refine ⟨by simp [freeN], ?_⟩
                simp (disch := omega) only [go_sem]
                refine call_closed (con_l2int (xm * 2 ^ kk) (by rw [eM]; omega)) (by simp (disch := omega) only [go_sem]) ?_
                rintro r hs ⟨rfl, rfl, _⟩
                refine ⟨by simp [freeN], ?_⟩
                simp (disch := omega) only [go_sem]
                refine fin_valc (by simp (disch := omega) only [go_sem]) (by simp (disch := omega) only [go_sem]) ⟨?_, rfl, rfl⟩
                exact hfin ((xm * 2 ^ kk : Nat) : Int) (by rw [eM])
        · have hfl : flFlags (bl m + e) same = 1 := by unfold flFlags; rw [h3, if_neg (by simp), if_neg (by omega)]
          have e5 := (rfl : (0 : Nat) = 0)
          simp (disch := omega) only [go_sem, h4]
          refine ifW_dec (fun h5 => ?_) (fun h5 => ?_)
          · have hr0 : rm = 0 := hxm0.1 h5
            simp (disch := omega) only [go_sem, h5]
            refine fin_valc (by simp (disch := omega) only [go_sem]) (by simp (disch := omega) only [go_sem]) ⟨?_, rfl, rfl⟩
            refine hVG 0 0 0 1 (by simp [flK, hr0]) (by simp [flMm, hr0]) (by simp [flEe, hr0]) (by simp [flFl, hr0, hfl])
          · have hr0 : rm ≠ 0 := fun e => h5 (hxm0.2 e)
            have et2 := etop2 hr0
            have hxs : xs = s := q3 hr0
            have hff := hform hr0
            have hM := flM_lt hr0 hff
            simp (disch := omega) only [go_sem, h5]
            refine call_closed (con_l4top xs xm xe (by omega) (by omega)) (by simp (disch := omega) only [go_sem, et2]) ?_
            rintro r hs ⟨rfl, rfl, _⟩
            refine ⟨by simp [freeN], ?_⟩
            simp (disch := omega) only [go_sem]
            simp (disch := omega) only [go_sem, et2]
            refine ifW_dec (fun h6 => ?_) (fun h6 => ?_)
            · have hov : ∀ (k mm ee : Int), k = (if ovB s mode then 1 else 2) → mm = (if ovB s mode then 9007199254740991 else 0) → ee = (if ovB s mode then 971 else 0) → AV.tu [.ag [.v (.int .i64 k), .v (.bool s), .v (.int .i64 mm), .v (.int .i64 ee)], .v (.int .i64 3)] = .tu [.ag [.v (.int .i64 ((flV s m e mode z).k)), .v (.bool ((flV s m e mode z).s)), .v (.int .i64 ((flV s m e mode z).m)), .v (.int .i64 ((flV s m e mode z).e))], .v (.int .i64 (flG s m e mode))] := by
                rintro k mm ee rfl rfl rfl
                exact hVG _ _ _ 3 (by unfold flK; rw [if_neg hr0, if_pos h6]) (by unfold flMm; rw [if_neg hr0, if_pos h6]) (by unfold flEe; rw [if_neg hr0, if_pos h6]) (by unfold flFl; rw [if_pos ⟨hr0, h6⟩])
              clear hVG hform hrm hrx q3 hxs et2 hfl
              obtain rfl | rfl | rfl | rfl | rfl : mode = 0 ∨ mode = 1 ∨ mode = 2 ∨ mode = 3 ∨ mode = 4 := by omega
              · cases s
                · simp (disch := omega) only [go_sem, h6]
                  refine fin_valc (by simp (disch := omega) only [go_sem]) (by simp (disch := omega) only [go_sem]) ⟨?_, rfl, rfl⟩
                  exact hov _ _ _ rfl rfl rfl
                · simp (disch := omega) only [go_sem, h6]
                  refine fin_valc (by simp (disch := omega) only [go_sem]) (by simp (disch := omega) only [go_sem]) ⟨?_, rfl, rfl⟩
                  exact hov _ _ _ rfl rfl rfl
              · cases s
                · simp (disch := omega) only [go_sem, h6]
                  refine call_closed (con_l5most false) (by simp (disch := omega) only [go_sem]) ?_
                  rintro r hs ⟨rfl, rfl, _⟩
                  refine ⟨by simp [freeN], ?_⟩
                  simp (disch := omega) only [go_sem]
                  refine fin_valc (by simp (disch := omega) only [go_sem]) (by simp (disch := omega) only [go_sem]) ⟨?_, rfl, rfl⟩
                  exact hov _ _ _ rfl rfl rfl
                · simp (disch := omega) only [go_sem, h6]
                  refine call_closed (con_l5most true) (by simp (disch := omega) only [go_sem]) ?_
                  rintro r hs ⟨rfl, rfl, _⟩
                  refine ⟨by simp [freeN], ?_⟩
                  simp (disch := omega) only [go_sem]
                  refine fin_valc (by simp (disch := omega) only [go_sem]) (by simp (disch := omega) only [go_sem]) ⟨?_, rfl, rfl⟩
                  exact hov _ _ _ rfl rfl rfl
              · cases s
                · simp (disch := omega) only [go_sem, h6]
                  refine fin_valc (by simp (disch := omega) only [go_sem]) (by simp (disch := omega) only [go_sem]) ⟨?_, rfl, rfl⟩
                  exact hov _ _ _ rfl rfl rfl
                · simp (disch := omega) only [go_sem, h6]
                  refine call_closed (con_l5most true) (by simp (disch := omega) only [go_sem]) ?_
                  rintro r hs ⟨rfl, rfl, _⟩
                  refine ⟨by simp [freeN], ?_⟩
                  simp (disch := omega) only [go_sem]
                  refine fin_valc (by simp (disch := omega) only [go_sem]) (by simp (disch := omega) only [go_sem]) ⟨?_, rfl, rfl⟩
                  exact hov _ _ _ rfl rfl rfl
              · cases s
                · simp (disch := omega) only [go_sem, h6]
                  refine call_closed (con_l5most false) (by simp (disch := omega) only [go_sem]) ?_
                  rintro r hs ⟨rfl, rfl, _⟩
                  refine ⟨by simp [freeN], ?_⟩
                  simp (disch := omega) only [go_sem]
                  refine fin_valc (by simp (disch := omega) only [go_sem]) (by simp (disch := omega) only [go_sem]) ⟨?_, rfl, rfl⟩
                  exact hov _ _ _ rfl rfl rfl
                · simp (disch := omega) only [go_sem, h6]
                  refine fin_valc (by simp (disch := omega) only [go_sem]) (by simp (disch := omega) only [go_sem]) ⟨?_, rfl, rfl⟩
                  exact hov _ _ _ rfl rfl rfl
              · cases s
                · simp (disch := omega) only [go_sem, h6]
                  refine fin_valc (by simp (disch := omega) only [go_sem]) (by simp (disch := omega) only [go_sem]) ⟨?_, rfl, rfl⟩
                  exact hov _ _ _ rfl rfl rfl
                · simp (disch := omega) only [go_sem, h6]
                  refine fin_valc (by simp (disch := omega) only [go_sem]) (by simp (disch := omega) only [go_sem]) ⟨?_, rfl, rfl⟩
                  exact hov _ _ _ rfl rfl rfl
            · simp (disch := omega) only [go_sem, h6]
              refine call_closed (con_l4top xs xm xe (by omega) (by omega)) (by simp (disch := omega) only [go_sem, et2]) ?_
              rintro r hs ⟨rfl, rfl, _⟩
              refine ⟨by simp [freeN], ?_⟩
              simp (disch := omega) only [go_sem]
              simp (disch := omega) only [go_sem, et2]
              have hfin : ∀ mm : Int, mm = (flM rm re : Int) → AV.tu [.ag [.v (.int .i64 1), .v (.bool xs), .v (.int .i64 mm), .v (.int .i64 (flE rm re))], .v (.int .i64 1)] = .tu [.ag [.v (.int .i64 ((flV s m e mode z).k)), .v (.bool ((flV s m e mode z).s)), .v (.int .i64 ((flV s m e mode z).m)), .v (.int .i64 ((flV s m e mode z).e))], .v (.int .i64 (flG s m e mode))] := by
                rintro mm rfl
                rw [hxs]
                exact hVG 1 _ _ 1 (by unfold flK; rw [if_neg hr0, if_neg (by omega)]) (by unfold flMm; rw [if_neg hr0, if_neg (by omega)]) (by unfold flEe; rw [if_neg hr0, if_neg (by omega)]) (by unfold flFl; rw [if_neg (by omega), hfl])
              have ek : xe - flE rm re = (((oE rm re - flE rm re).toNat : Nat) : Int) := by omega
              have hk9 : (oE rm re - flE rm re).toNat ≤ 53 := by have h9 := hM; unfold flM at h9; rw [bl_mul_pow (fun e => hr0 (oM_eq_zero.1 e))] at h9; omega
              have hM6 : flM rm re < 2 ^ 53 := Nat.lt_of_lt_of_le (bl_lt _) (Nat.pow_le_pow_right (by omega) hM)
              have eM : xm * 2 ^ (oE rm re - flE rm re).toNat = flM rm re := by rw [q1]; rfl
              generalize hkk : (oE rm re - flE rm re).toNat = kk at *
              refine ifW_dec (fun h7 => ?_) (fun h7 => ?_)
              · have eE : flE rm re = -1074 := by unfold flE flLow; rw [if_pos (by omega)]
                simp (disch := omega) only [go_sem, h7]
                rw [eE] at ek hfin
                try rw [← et2] at hfin
                refine draw_of rfl [⟨0, [], []⟩, ⟨1, [], []⟩, ⟨2, [], []⟩, ⟨3, [2], []⟩, ⟨4, [2], []⟩, ⟨5, [2], []⟩, ⟨6, [2, 5], []⟩, ⟨7, [2, 5], []⟩, ⟨8, [2, 5, 7], []⟩, ⟨9, [2, 5], []⟩, ⟨12, [2, 5, 7], []⟩, ⟨14, [2, 5, 7], []⟩, ⟨10, [2], []⟩, ⟨11, [2], []⟩, ⟨13, [], []⟩, ⟨15, [], []⟩, ⟨16, [], []⟩] (by kernel_rfl) ?_
                simp (disch := omega) only [go_sem]
                refine call_open (con_l2shlF xm kk (by omega) (by omega)) (by simp (disch := omega) only [go_sem, ek, et2]) ?_
                rintro r hs ⟨rfl, rfl, _⟩
                refine ⟨by simp [freeN], ?_⟩
                simp (disch := omega) only [go_sem]
                refine call_closed (con_l2int (xm * 2 ^ kk) (by rw [eM]; omega)) (by simp (disch := omega) only [go_sem]) ?_
                rintro r hs ⟨rfl, rfl, _⟩
                refine ⟨by simp [freeN], ?_⟩
                simp (disch := omega) only [go_sem]
                refine fin_valc (by simp (disch := omega) only [go_sem]) (by simp (disch := omega) only [go_sem]) ⟨?_, rfl, rfl⟩
                exact hfin ((xm * 2 ^ kk : Nat) : Int) (by rw [eM])
              · have eE : flE rm re = (bl rm : Int) + re - 53 := by unfold flE flLow; rw [if_neg (by omega)]
                simp (disch := omega) only [go_sem, h7]
                rw [eE] at ek hfin
                try rw [← et2] at hfin
                refine draw_of rfl [⟨0, [], []⟩, ⟨1, [], []⟩, ⟨2, [], []⟩, ⟨3, [2], []⟩, ⟨4, [2], []⟩, ⟨5, [2], []⟩, ⟨6, [2, 5], []⟩, ⟨7, [2, 5], []⟩, ⟨8, [2, 5, 7], []⟩, ⟨9, [2, 5], []⟩, ⟨12, [2, 5, 7], []⟩, ⟨14, [2, 5, 7], []⟩, ⟨10, [2], []⟩, ⟨11, [2], []⟩, ⟨13, [], []⟩, ⟨15, [], []⟩, ⟨16, [], []⟩] (by kernel_rfl) ?_
                simp (disch := omega) only [go_sem]
                refine call_open (con_l2shlF xm kk (by omega) (by omega)) (by simp (disch := omega) only [go_sem, ek, et2]) ?_
                rintro r hs ⟨rfl, rfl, _⟩
                refine ⟨by simp [freeN], ?_⟩
                simp (disch := omega) only [go_sem]
                refine call_closed (con_l2int (xm * 2 ^ kk) (by rw [eM]; omega)) (by simp (disch := omega) only [go_sem]) ?_
                rintro r hs ⟨rfl, rfl, _⟩
                refine ⟨by simp [freeN], ?_⟩
                simp (disch := omega) only [go_sem]
                refine fin_valc (by simp (disch := omega) only [go_sem]) (by simp (disch := omega) only [go_sem]) ⟨?_, rfl, rfl⟩
                exact hfin ((xm * 2 ^ kk : Nat) : Int) (by rw [eM])
      · have hfl : flFlags (bl m + e) same = 0 := by unfold flFlags; rw [h3, if_pos rfl]
        have e5 := (rfl : (0 : Nat) = 0)
        simp (disch := omega) only [go_sem, h3]
        refine ifW_dec (fun h5 => ?_) (fun h5 => ?_)
        · have hr0 : rm = 0 := hxm0.1 h5
          simp (disch := omega) only [go_sem, h5]
          refine fin_valc (by simp (disch := omega) only [go_sem]) (by simp (disch := omega) only [go_sem]) ⟨?_, rfl, rfl⟩
          refine hVG 0 0 0 0 (by simp [flK, hr0]) (by simp [flMm, hr0]) (by simp [flEe, hr0]) (by simp [flFl, hr0, hfl])
        · have hr0 : rm ≠ 0 := fun e => h5 (hxm0.2 e)
          have et2 := etop2 hr0
          have hxs : xs = s := q3 hr0
          have hff := hform hr0
          have hM := flM_lt hr0 hff
          simp (disch := omega) only [go_sem, h5]
          refine call_closed (con_l4top xs xm xe (by omega) (by omega)) (by simp (disch := omega) only [go_sem, et2]) ?_
          rintro r hs ⟨rfl, rfl, _⟩
          refine ⟨by simp [freeN], ?_⟩
          simp (disch := omega) only [go_sem]
          simp (disch := omega) only [go_sem, et2]
          refine ifW_dec (fun h6 => ?_) (fun h6 => ?_)
          · have hov : ∀ (k mm ee : Int), k = (if ovB s mode then 1 else 2) → mm = (if ovB s mode then 9007199254740991 else 0) → ee = (if ovB s mode then 971 else 0) → AV.tu [.ag [.v (.int .i64 k), .v (.bool s), .v (.int .i64 mm), .v (.int .i64 ee)], .v (.int .i64 3)] = .tu [.ag [.v (.int .i64 ((flV s m e mode z).k)), .v (.bool ((flV s m e mode z).s)), .v (.int .i64 ((flV s m e mode z).m)), .v (.int .i64 ((flV s m e mode z).e))], .v (.int .i64 (flG s m e mode))] := by
              rintro k mm ee rfl rfl rfl
              exact hVG _ _ _ 3 (by unfold flK; rw [if_neg hr0, if_pos h6]) (by unfold flMm; rw [if_neg hr0, if_pos h6]) (by unfold flEe; rw [if_neg hr0, if_pos h6]) (by unfold flFl; rw [if_pos ⟨hr0, h6⟩])
            clear hVG hform hrm hrx q3 hxs et2 hfl
            obtain rfl | rfl | rfl | rfl | rfl : mode = 0 ∨ mode = 1 ∨ mode = 2 ∨ mode = 3 ∨ mode = 4 := by omega
            · cases s
              · simp (disch := omega) only [go_sem, h6]
                refine fin_valc (by simp (disch := omega) only [go_sem]) (by simp (disch := omega) only [go_sem]) ⟨?_, rfl, rfl⟩
                exact hov _ _ _ rfl rfl rfl
              · simp (disch := omega) only [go_sem, h6]
                refine fin_valc (by simp (disch := omega) only [go_sem]) (by simp (disch := omega) only [go_sem]) ⟨?_, rfl, rfl⟩
                exact hov _ _ _ rfl rfl rfl
            · cases s
              · simp (disch := omega) only [go_sem, h6]
                refine call_closed (con_l5most false) (by simp (disch := omega) only [go_sem]) ?_
                rintro r hs ⟨rfl, rfl, _⟩
                refine ⟨by simp [freeN], ?_⟩
                simp (disch := omega) only [go_sem]
                refine fin_valc (by simp (disch := omega) only [go_sem]) (by simp (disch := omega) only [go_sem]) ⟨?_, rfl, rfl⟩
                exact hov _ _ _ rfl rfl rfl
              · simp (disch := omega) only [go_sem, h6]
                refine call_closed (con_l5most true) (by simp (disch := omega) only [go_sem]) ?_
                rintro r hs ⟨rfl, rfl, _⟩
                refine ⟨by simp [freeN], ?_⟩
                simp (disch := omega) only [go_sem]
                refine fin_valc (by simp (disch := omega) only [go_sem]) (by simp (disch := omega) only [go_sem]) ⟨?_, rfl, rfl⟩
                exact hov _ _ _ rfl rfl rfl
            · cases s
              · simp (disch := omega) only [go_sem, h6]
                refine fin_valc (by simp (disch := omega) only [go_sem]) (by simp (disch := omega) only [go_sem]) ⟨?_, rfl, rfl⟩
                exact hov _ _ _ rfl rfl rfl
              · simp (disch := omega) only [go_sem, h6]
                refine call_closed (con_l5most true) (by simp (disch := omega) only [go_sem]) ?_
                rintro r hs ⟨rfl, rfl, _⟩
                refine ⟨by simp [freeN], ?_⟩
                simp (disch := omega) only [go_sem]
                refine fin_valc (by simp (disch := omega) only [go_sem]) (by simp (disch := omega) only [go_sem]) ⟨?_, rfl, rfl⟩
                exact hov _ _ _ rfl rfl rfl
            · cases s
              · simp (disch := omega) only [go_sem, h6]
                refine call_closed (con_l5most false) (by simp (disch := omega) only [go_sem]) ?_
                rintro r hs ⟨rfl, rfl, _⟩
                refine ⟨by simp [freeN], ?_⟩
                simp (disch := omega) only [go_sem]
                refine fin_valc (by simp (disch := omega) only [go_sem]) (by simp (disch := omega) only [go_sem]) ⟨?_, rfl, rfl⟩
                exact hov _ _ _ rfl rfl rfl
              · simp (disch := omega) only [go_sem, h6]
                refine fin_valc (by simp (disch := omega) only [go_sem]) (by simp (disch := omega) only [go_sem]) ⟨?_, rfl, rfl⟩
                exact hov _ _ _ rfl rfl rfl
            · cases s
              · simp (disch := omega) only [go_sem, h6]
                refine fin_valc (by simp (disch := omega) only [go_sem]) (by simp (disch := omega) only [go_sem]) ⟨?_, rfl, rfl⟩
                exact hov _ _ _ rfl rfl rfl
              · simp (disch := omega) only [go_sem, h6]
                refine fin_valc (by simp (disch := omega) only [go_sem]) (by simp (disch := omega) only [go_sem]) ⟨?_, rfl, rfl⟩
                exact hov _ _ _ rfl rfl rfl
          · simp (disch := omega) only [go_sem, h6]
            refine call_closed (con_l4top xs xm xe (by omega) (by omega)) (by simp (disch := omega) only [go_sem, et2]) ?_
            rintro r hs ⟨rfl, rfl, _⟩
            refine ⟨by simp [freeN], ?_⟩
            simp (disch := omega) only [go_sem]
            simp (disch := omega) only [go_sem, et2]
            have hfin : ∀ mm : Int, mm = (flM rm re : Int) → AV.tu [.ag [.v (.int .i64 1), .v (.bool xs), .v (.int .i64 mm), .v (.int .i64 (flE rm re))], .v (.int .i64 0)] = .tu [.ag [.v (.int .i64 ((flV s m e mode z).k)), .v (.bool ((flV s m e mode z).s)), .v (.int .i64 ((flV s m e mode z).m)), .v (.int .i64 ((flV s m e mode z).e))], .v (.int .i64 (flG s m e mode))] := by
              rintro mm rfl
              rw [hxs]
              exact hVG 1 _ _ 0 (by unfold flK; rw [if_neg hr0, if_neg (by omega)]) (by unfold flMm; rw [if_neg hr0, if_neg (by omega)]) (by unfold flEe; rw [if_neg hr0, if_neg (by omega)]) (by unfold flFl; rw [if_neg (by omega), hfl])
            have ek : xe - flE rm re = (((oE rm re - flE rm re).toNat : Nat) : Int) := by omega
            have hk9 : (oE rm re - flE rm re).toNat ≤ 53 := by have h9 := hM; unfold flM at h9; rw [bl_mul_pow (fun e => hr0 (oM_eq_zero.1 e))] at h9; omega
            have hM6 : flM rm re < 2 ^ 53 := Nat.lt_of_lt_of_le (bl_lt _) (Nat.pow_le_pow_right (by omega) hM)
            have eM : xm * 2 ^ (oE rm re - flE rm re).toNat = flM rm re := by rw [q1]; rfl
            generalize hkk : (oE rm re - flE rm re).toNat = kk at *
            refine ifW_dec (fun h7 => ?_) (fun h7 => ?_)
            · have eE : flE rm re = -1074 := by unfold flE flLow; rw [if_pos (by omega)]
              simp (disch := omega) only [go_sem, h7]
              rw [eE] at ek hfin
              try rw [← et2] at hfin
              refine draw_of rfl [⟨0, [], []⟩, ⟨1, [], []⟩, ⟨2, [], []⟩, ⟨3, [2], []⟩, ⟨4, [2], []⟩, ⟨5, [2], []⟩, ⟨6, [2, 5], []⟩, ⟨7, [2, 5], []⟩, ⟨8, [2, 5, 7], []⟩, ⟨9, [2, 5], []⟩, ⟨12, [2, 5, 7], []⟩, ⟨14, [2, 5, 7], []⟩, ⟨10, [2], []⟩, ⟨11, [2], []⟩, ⟨13, [], []⟩, ⟨15, [], []⟩, ⟨16, [], []⟩] (by kernel_rfl) ?_
              simp (disch := omega) only [go_sem]
              refine call_open (con_l2shlF xm kk (by omega) (by omega)) (by simp (disch := omega) only [go_sem, ek, et2]) ?_
              rintro r hs ⟨rfl, rfl, _⟩
              refine ⟨by simp [freeN], ?_⟩
              simp (disch := omega) only [go_sem]
              refine call_closed (con_l2int (xm * 2 ^ kk) (by rw [eM]; omega)) (by simp (disch := omega) only [go_sem]) ?_
              rintro r hs ⟨rfl, rfl, _⟩
              refine ⟨by simp [freeN], ?_⟩
              simp (disch := omega) only [go_sem]
              refine fin_valc (by simp (disch := omega) only [go_sem]) (by simp (disch := omega) only [go_sem]) ⟨?_, rfl, rfl⟩
              exact hfin ((xm * 2 ^ kk : Nat) : Int) (by rw [eM])
            · have eE : flE rm re = (bl rm : Int) + re - 53 := by unfold flE flLow; rw [if_neg (by omega)]
              simp (disch := omega) only [go_sem, h7]
              rw [eE] at ek hfin
              try rw [← et2] at hfin
              refine draw_of rfl [⟨0, [], []⟩, ⟨1, [], []⟩, ⟨2, [], []⟩, ⟨3, [2], []⟩, ⟨4, [2], []⟩, ⟨5, [2], []⟩, ⟨6, [2, 5], []⟩, ⟨7, [2, 5], []⟩, ⟨8, [2, 5, 7], []⟩, ⟨9, [2, 5], []⟩, ⟨12, [2, 5, 7], []⟩, ⟨14, [2, 5, 7], []⟩, ⟨10, [2], []⟩, ⟨11, [2], []⟩, ⟨13, [], []⟩, ⟨15, [], []⟩, ⟨16, [], []⟩] (by kernel_rfl) ?_
              simp (disch := omega) only [go_sem]
              refine call_open (con_l2shlF xm kk (by omega) (by omega)) (by simp (disch := omega) only [go_sem, ek, et2]) ?_
              rintro r hs ⟨rfl, rfl, _⟩
              refine ⟨by simp [freeN], ?_⟩
              simp (disch := omega) only [go_sem]
              refine call_closed (con_l2int (xm * 2 ^ kk) (by rw [eM]; omega)) (by simp (disch := omega) only [go_sem]) ?_
              rintro r hs ⟨rfl, rfl, _⟩
              refine ⟨by simp [freeN], ?_⟩
              simp (disch := omega) only [go_sem]
              refine fin_valc (by simp (disch := omega) only [go_sem]) (by simp (disch := omega) only [go_sem]) ⟨?_, rfl, rfl⟩
              exact hfin ((xm * 2 ^ kk : Nat) : Int) (by rw [eM])
    · have hL : flLow ((bl m : Int) + e) = (bl m : Int) + e - 53 := by unfold flLow; rw [if_neg (by omega)]
      simp (disch := omega) only [go_sem, h2]
      have hbl := ro_bl (s := s) (e := e) (low := (bl m : Int) + e - 53) (mode := mode) hm
      have hroE : -1000000 ≤ roE m e ((bl m : Int) + e - 53) ∧ roE m e ((bl m : Int) + e - 53) ≤ 1000000 := by unfold roE; split <;> omega
      obtain ⟨q1, q2⟩ := sr_eq (s := s) (e := e) (low := (bl m : Int) + e - 53) (mode := mode) hod
      have q3 := roS_eq (s := s) (m := m) (e := e) (low := (bl m : Int) + e - 53) (mode := mode)
      refine call_open (con_l4round s m e ((bl m : Int) + e - 53) mode hodd hs hmode (by omega) (by omega) (by omega)) (by simp (disch := omega) only [go_sem, etop]) ?_
      rintro r hs ⟨rfl, rfl, _⟩
      refine ⟨by simp [freeN], ?_⟩
      simp (disch := omega) only [go_sem]
      rw [hL] at hVG hform
      generalize srM s m e ((bl m : Int) + e - 53) mode = xm at *
      generalize srE s m e ((bl m : Int) + e - 53) mode = xe at *
      generalize oS (roS s m e ((bl m : Int) + e - 53) mode) (roM s m e ((bl m : Int) + e - 53) mode) = xs at *
      generalize hrm : roM s m e ((bl m : Int) + e - 53) mode = rm at *
      generalize hre : roE m e ((bl m : Int) + e - 53) = re at *
      generalize hrx : roX m e ((bl m : Int) + e - 53) = same at *
      have hxm0 : ((lim xm).length : Int) = 0 ↔ rm = 0 := by rw [q1, ← oM_eq_zero]; exact ⟨fun h => lim_eq_nil.1 (List.length_eq_zero_iff.1 (by omega)), fun h => by rw [h, lim_zero]; rfl⟩
      have hxmb : bl xm ≤ 100001 := by rw [q1]; exact Nat.le_trans (bl_mono (oM_le rm)) hbl
      have lxm := len_bl hxmb
      have hxeb : -2000000 ≤ xe ∧ xe ≤ 2000000 := by have := oE_bnd hbl hroE; omega
      have etop2 : rm ≠ 0 → (if xm = 0 then (0 : Int) else xe + (bl xm : Int)) = (bl rm : Int) + re := fun h => by
        have h2 := bl_oM h
        have h3 : xm ≠ 0 := by rw [q1]; exact fun e => h (oM_eq_zero.1 e)
        rw [if_neg h3, q2, q1]; unfold oE; rw [if_neg h]; omega
      refine ifW_nb (fun h3 => ?_) (fun h3 => ?_)
      · simp (disch := omega) only [go_sem, h3]
        refine call_closed (con_l4top s m e (by omega) (by omega)) (by simp (disch := omega) only [go_sem, etop]) ?_
        rintro r hs ⟨rfl, rfl, _⟩
        refine ⟨by simp [freeN], ?_⟩
        simp (disch := omega) only [go_sem]
        simp (disch := omega) only [go_sem, etop]
        refine ifW_dec (fun h4 => ?_) (fun h4 => ?_)
        · have hfl : flFlags (bl m + e) same = 5 := by unfold flFlags; rw [h3, if_neg (by simp), if_pos (by omega)]
          have e5 : ((1 ||| 4 : Nat) : Int) = 5 := rfl
          simp (disch := omega) only [go_sem, h4, e5]
          refine ifW_dec (fun h5 => ?_) (fun h5 => ?_)
          · have hr0 : rm = 0 := hxm0.1 h5
            simp (disch := omega) only [go_sem, h5]
            refine fin_valc (by simp (disch := omega) only [go_sem]) (by simp (disch := omega) only [go_sem]) ⟨?_, rfl, rfl⟩
            refine hVG 0 0 0 5 (by simp [flK, hr0]) (by simp [flMm, hr0]) (by simp [flEe, hr0]) (by simp [flFl, hr0, hfl])
          · have hr0 : rm ≠ 0 := fun e => h5 (hxm0.2 e)
            have et2 := etop2 hr0
            have hxs : xs = s := q3 hr0
            have hff := hform hr0
            have hM := flM_lt hr0 hff
            simp (disch := omega) only [go_sem, h5]
            refine call_closed (con_l4top xs xm xe (by omega) (by omega)) (by simp (disch := omega) only [go_sem, et2]) ?_
            rintro r hs ⟨rfl, rfl, _⟩
            refine ⟨by simp [freeN], ?_⟩
            simp (disch := omega) only [go_sem]
            simp (disch := omega) only [go_sem, et2]
            refine ifW_dec (fun h6 => ?_) (fun h6 => ?_)
            · have hov : ∀ (k mm ee : Int), k = (if ovB s mode then 1 else 2) → mm = (if ovB s mode then 9007199254740991 else 0) → ee = (if ovB s mode then 971 else 0) → AV.tu [.ag [.v (.int .i64 k), .v (.bool s), .v (.int .i64 mm), .v (.int .i64 ee)], .v (.int .i64 3)] = .tu [.ag [.v (.int .i64 ((flV s m e mode z).k)), .v (.bool ((flV s m e mode z).s)), .v (.int .i64 ((flV s m e mode z).m)), .v (.int .i64 ((flV s m e mode z).e))], .v (.int .i64 (flG s m e mode))] := by
                rintro k mm ee rfl rfl rfl
                exact hVG _ _ _ 3 (by unfold flK; rw [if_neg hr0, if_pos h6]) (by unfold flMm; rw [if_neg hr0, if_pos h6]) (by unfold flEe; rw [if_neg hr0, if_pos h6]) (by unfold flFl; rw [if_pos ⟨hr0, h6⟩])
              clear hVG hform hrm hrx q3 hxs et2 hfl
              obtain rfl | rfl | rfl | rfl | rfl : mode = 0 ∨ mode = 1 ∨ mode = 2 ∨ mode = 3 ∨ mode = 4 := by omega
              · cases s
                · simp (disch := omega) only [go_sem, h6]
                  refine fin_valc (by simp (disch := omega) only [go_sem]) (by simp (disch := omega) only [go_sem]) ⟨?_, rfl, rfl⟩
                  exact hov _ _ _ rfl rfl rfl
                · simp (disch := omega) only [go_sem, h6]
                  refine fin_valc (by simp (disch := omega) only [go_sem]) (by simp (disch := omega) only [go_sem]) ⟨?_, rfl, rfl⟩
                  exact hov _ _ _ rfl rfl rfl
              · cases s
                · simp (disch := omega) only [go_sem, h6]
                  refine call_closed (con_l5most false) (by simp (disch := omega) only [go_sem]) ?_
                  rintro r hs ⟨rfl, rfl, _⟩
                  refine ⟨by simp [freeN], ?_⟩
                  simp (disch := omega) only [go_sem]
                  refine fin_valc (by simp (disch := omega) only [go_sem]) (by simp (disch := omega) only [go_sem]) ⟨?_, rfl, rfl⟩
                  exact hov _ _ _ rfl rfl rfl
                · simp (disch := omega) only [go_sem, h6]
                  refine call_closed (con_l5most true) (by simp (disch := omega) only [go_sem]) ?_
                  rintro r hs ⟨rfl, rfl, _⟩
                  refine ⟨by simp [freeN], ?_⟩
                  simp (disch := omega) only [go_sem]
                  refine fin_valc (by simp (disch := omega) only [go_sem]) (by simp (disch := omega) only [go_sem]) ⟨?_, rfl, rfl⟩
                  exact hov _ _ _ rfl rfl rfl
              · cases s
                · simp (disch := omega) only [go_sem, h6]
                  refine fin_valc (by simp (disch := omega) only [go_sem]) (by simp (disch := omega) only [go_sem]) ⟨?_, rfl, rfl⟩
                  exact hov _ _ _ rfl rfl rfl
                · simp (disch := omega) only [go_sem, h6]
                  refine call_closed (con_l5most true) (by simp (disch := omega) only [go_sem]) ?_
                  rintro r hs ⟨rfl, rfl, _⟩
                  refine ⟨by simp [freeN], ?_⟩
                  simp (disch := omega) only [go_sem]
                  refine fin_valc (by simp (disch := omega) only [go_sem]) (by simp (disch := omega) only [go_sem]) ⟨?_, rfl, rfl⟩
                  exact hov _ _ _ rfl rfl rfl
              · cases s
                · simp (disch := omega) only [go_sem, h6]
                  refine call_closed (con_l5most false) (by simp (disch := omega) only [go_sem]) ?_
                  rintro r hs ⟨rfl, rfl, _⟩
                  refine ⟨by simp [freeN], ?_⟩
                  simp (disch := omega) only [go_sem]
                  refine fin_valc (by simp (disch := omega) only [go_sem]) (by simp (disch := omega) only [go_sem]) ⟨?_, rfl, rfl⟩
                  exact hov _ _ _ rfl rfl rfl
                · simp (disch := omega) only [go_sem, h6]
                  refine fin_valc (by simp (disch := omega) only [go_sem]) (by simp (disch := omega) only [go_sem]) ⟨?_, rfl, rfl⟩
                  exact hov _ _ _ rfl rfl rfl
              · cases s
                · simp (disch := omega) only [go_sem, h6]
                  refine fin_valc (by simp (disch := omega) only [go_sem]) (by simp (disch := omega) only [go_sem]) ⟨?_, rfl, rfl⟩
                  exact hov _ _ _ rfl rfl rfl
                · simp (disch := omega) only [go_sem, h6]
                  refine fin_valc (by simp (disch := omega) only [go_sem]) (by simp (disch := omega) only [go_sem]) ⟨?_, rfl, rfl⟩
                  exact hov _ _ _ rfl rfl rfl
            · simp (disch := omega) only [go_sem, h6]
              refine call_closed (con_l4top xs xm xe (by omega) (by omega)) (by simp (disch := omega) only [go_sem, et2]) ?_
              rintro r hs ⟨rfl, rfl, _⟩
              refine ⟨by simp [freeN], ?_⟩
              simp (disch := omega) only [go_sem]
              simp (disch := omega) only [go_sem, et2]
              have hfin : ∀ mm : Int, mm = (flM rm re : Int) → AV.tu [.ag [.v (.int .i64 1), .v (.bool xs), .v (.int .i64 mm), .v (.int .i64 (flE rm re))], .v (.int .i64 5)] = .tu [.ag [.v (.int .i64 ((flV s m e mode z).k)), .v (.bool ((flV s m e mode z).s)), .v (.int .i64 ((flV s m e mode z).m)), .v (.int .i64 ((flV s m e mode z).e))], .v (.int .i64 (flG s m e mode))] := by
                rintro mm rfl
                rw [hxs]
                exact hVG 1 _ _ 5 (by unfold flK; rw [if_neg hr0, if_neg (by omega)]) (by unfold flMm; rw [if_neg hr0, if_neg (by omega)]) (by unfold flEe; rw [if_neg hr0, if_neg (by omega)]) (by unfold flFl; rw [if_neg (by omega), hfl])
              have ek : xe - flE rm re = (((oE rm re - flE rm re).toNat : Nat) : Int) := by omega
              have hk9 : (oE rm re - flE rm re).toNat ≤ 53 := by have h9 := hM; unfold flM at h9; rw [bl_mul_pow (fun e => hr0 (oM_eq_zero.1 e))] at h9; omega
              have hM6 : flM rm re < 2 ^ 53 := Nat.lt_of_lt_of_le (bl_lt _) (Nat.pow_le_pow_right (by omega) hM)
              have eM : xm * 2 ^ (oE rm re - flE rm re).toNat = flM rm re := by rw [q1]; rfl
              generalize hkk : (oE rm re - flE rm re).toNat = kk at *
              refine ifW_dec (fun h7 => ?_) (fun h7 => ?_)
              · have eE : flE rm re = -1074 := by unfold flE flLow; rw [if_pos (by omega)]
                simp (disch := omega) only [go_sem, h7]
                rw [eE] at ek hfin
                try rw [← et2] at hfin
                refine draw_of rfl [⟨0, [], []⟩, ⟨1, [], []⟩, ⟨2, [], []⟩, ⟨3, [2], []⟩, ⟨4, [2], []⟩, ⟨5, [2], []⟩, ⟨6, [2, 5], []⟩, ⟨7, [2, 5], []⟩, ⟨8, [2, 5, 7], []⟩, ⟨9, [2, 5], []⟩, ⟨12, [2, 5, 7], []⟩, ⟨14, [2, 5, 7], []⟩, ⟨10, [2], []⟩, ⟨11, [2], []⟩, ⟨13, [], []⟩, ⟨15, [], []⟩, ⟨16, [], []⟩] (by kernel_rfl) ?_
                simp (disch := omega) only [go_sem]
                refine call_open (con_l2shlF xm kk (by omega) (by omega)) (by simp (disch := omega) only [go_sem, ek, et2]) ?_
                rintro r hs ⟨rfl, rfl, _⟩
                refine ⟨by simp [freeN], ?_⟩
                simp (disch := omega) only [go_sem]
                refine call_closed (con_l2int (xm * 2 ^ kk) (by rw [eM]; omega)) (by simp (disch := omega) only [go_sem]) ?_
                rintro r hs ⟨rfl, rfl, _⟩
                refine ⟨by simp [freeN], ?_⟩
                simp (disch := omega) only [go_sem]
                refine fin_valc (by simp (disch := omega) only [go_sem]) (by simp (disch := omega) only [go_sem]) ⟨?_, rfl, rfl⟩
                exact hfin ((xm * 2 ^ kk : Nat) : Int) (by rw [eM])
              · have eE : flE rm re = (bl rm : Int) + re - 53 := by unfold flE flLow; rw [if_neg (by omega)]
                simp (disch := omega) only [go_sem, h7]
                rw [eE] at ek hfin
                try rw [← et2] at hfin
                refine draw_of rfl [⟨0, [], []⟩, ⟨1, [], []⟩, ⟨2, [], []⟩, ⟨3, [2], []⟩, ⟨4, [2], []⟩, ⟨5, [2], []⟩, ⟨6, [2, 5], []⟩, ⟨7, [2, 5], []⟩, ⟨8, [2, 5, 7], []⟩, ⟨9, [2, 5], []⟩, ⟨12, [2, 5, 7], []⟩, ⟨14, [2, 5, 7], []⟩, ⟨10, [2], []⟩, ⟨11, [2], []⟩, ⟨13, [], []⟩, ⟨15, [], []⟩, ⟨16, [], []⟩] (by kernel_rfl) ?_
                simp (disch := omega) only [go_sem]
                refine call_open (con_l2shlF xm kk (by omega) (by omega)) (by simp (disch := omega) only [go_sem, ek, et2]) ?_
                rintro r hs ⟨rfl, rfl, _⟩
                refine ⟨by simp [freeN], ?_⟩
                simp (disch := omega) only [go_sem]
                refine call_closed (con_l2int (xm * 2 ^ kk) (by rw [eM]; omega)) (by simp (disch := omega) only [go_sem]) ?_
                rintro r hs ⟨rfl, rfl, _⟩
                refine ⟨by simp [freeN], ?_⟩
                simp (disch := omega) only [go_sem]
                refine fin_valc (by simp (disch := omega) only [go_sem]) (by simp (disch := omega) only [go_sem]) ⟨?_, rfl, rfl⟩
                exact hfin ((xm * 2 ^ kk : Nat) : Int) (by rw [eM])
        · have hfl : flFlags (bl m + e) same = 1 := by unfold flFlags; rw [h3, if_neg (by simp), if_neg (by omega)]
          have e5 := (rfl : (0 : Nat) = 0)
          simp (disch := omega) only [go_sem, h4]
          refine ifW_dec (fun h5 => ?_) (fun h5 => ?_)
          · have hr0 : rm = 0 := hxm0.1 h5
            simp (disch := omega) only [go_sem, h5]
            refine fin_valc (by simp (disch := omega) only [go_sem]) (by simp (disch := omega) only [go_sem]) ⟨?_, rfl, rfl⟩
            refine hVG 0 0 0 1 (by simp [flK, hr0]) (by simp [flMm, hr0]) (by simp [flEe, hr0]) (by simp [flFl, hr0, hfl])
          · have hr0 : rm ≠ 0 := fun e => h5 (hxm0.2 e)
            have et2 := etop2 hr0
            have hxs : xs = s := q3 hr0
            have hff := hform hr0
            have hM := flM_lt hr0 hff
            simp (disch := omega) only [go_sem, h5]
            refine call_closed (con_l4top xs xm xe (by omega) (by omega)) (by simp (disch := omega) only [go_sem, et2]) ?_
            rintro r hs ⟨rfl, rfl, _⟩
            refine ⟨by simp [freeN], ?_⟩
            simp (disch := omega) only [go_sem]
            simp (disch := omega) only [go_sem, et2]
            refine ifW_dec (fun h6 => ?_) (fun h6 => ?_)
            · have hov : ∀ (k mm ee : Int), k = (if ovB s mode then 1 else 2) → mm = (if ovB s mode then 9007199254740991 else 0) → ee = (if ovB s mode then 971 else 0) → AV.tu [.ag [.v (.int .i64 k), .v (.bool s), .v (.int .i64 mm), .v (.int .i64 ee)], .v (.int .i64 3)] = .tu [.ag [.v (.int .i64 ((flV s m e mode z).k)), .v (.bool ((flV s m e mode z).s)), .v (.int .i64 ((flV s m e mode z).m)), .v (.int .i64 ((flV s m e mode z).e))], .v (.int .i64 (flG s m e mode))] := by
                rintro k mm ee rfl rfl rfl
                exact hVG _ _ _ 3 (by unfold flK; rw [if_neg hr0, if_pos h6]) (by unfold flMm; rw [if_neg hr0, if_pos h6]) (by unfold flEe; rw [if_neg hr0, if_pos h6]) (by unfold flFl; rw [if_pos ⟨hr0, h6⟩])
              clear hVG hform hrm hrx q3 hxs et2 hfl
              obtain rfl | rfl | rfl | rfl | rfl : mode = 0 ∨ mode = 1 ∨ mode = 2 ∨ mode = 3 ∨ mode = 4 := by omega
              · cases s
                · simp (disch := omega) only [go_sem, h6]
                  refine fin_valc (by simp (disch := omega) only [go_sem]) (by simp (disch := omega) only [go_sem]) ⟨?_, rfl, rfl⟩
                  exact hov _ _ _ rfl rfl rfl
                · simp (disch := omega) only [go_sem, h6]
                  refine fin_valc (by simp (disch := omega) only [go_sem]) (by simp (disch := omega) only [go_sem]) ⟨?_, rfl, rfl⟩
                  exact hov _ _ _ rfl rfl rfl
              · cases s
                · simp (disch := omega) only [go_sem, h6]
                  refine call_closed (con_l5most false) (by simp (disch := omega) only [go_sem]) ?_
                  rintro r hs ⟨rfl, rfl, _⟩
                  refine ⟨by simp [freeN], ?_⟩
                  simp (disch := omega) only [go_sem]
                  refine fin_valc (by simp (disch := omega) only [go_sem]) (by simp (disch := omega) only [go_sem]) ⟨?_, rfl, rfl⟩
                  exact hov _ _ _ rfl rfl rfl
                · simp (disch := omega) only [go_sem, h6]
                  refine call_closed (con_l5most true) (by simp (disch := omega) only [go_sem]) ?_
                  rintro r hs ⟨rfl, rfl, _⟩
                  refine ⟨by simp [freeN], ?_⟩
                  simp (disch := omega) only [go_sem]
                  refine fin_valc (by simp (disch := omega) only [go_sem]) (by simp (disch := omega) only [go_sem]) ⟨?_, rfl, rfl⟩
                  exact hov _ _ _ rfl rfl rfl
              · cases s
                · simp (disch := omega) only [go_sem, h6]
                  refine fin_valc (by simp (disch := omega) only [go_sem]) (by simp (disch := omega) only [go_sem]) ⟨?_, rfl, rfl⟩
                  exact hov _ _ _ rfl rfl rfl
                · simp (disch := omega) only [go_sem, h6]
                  refine call_closed (con_l5most true) (by simp (disch := omega) only [go_sem]) ?_
                  rintro r hs ⟨rfl, rfl, _⟩
                  refine ⟨by simp [freeN], ?_⟩
                  simp (disch := omega) only [go_sem]
                  refine fin_valc (by simp (disch := omega) only [go_sem]) (by simp (disch := omega) only [go_sem]) ⟨?_, rfl, rfl⟩
                  exact hov _ _ _ rfl rfl rfl
              · cases s
                · simp (disch := omega) only [go_sem, h6]
                  refine call_closed (con_l5most false) (by simp (disch := omega) only [go_sem]) ?_
                  rintro r hs ⟨rfl, rfl, _⟩
                  refine ⟨by simp [freeN], ?_⟩
                  simp (disch := omega) only [go_sem]
                  refine fin_valc (by simp (disch := omega) only [go_sem]) (by simp (disch := omega) only [go_sem]) ⟨?_, rfl, rfl⟩
                  exact hov _ _ _ rfl rfl rfl
                · simp (disch := omega) only [go_sem, h6]
                  refine fin_valc (by simp (disch := omega) only [go_sem]) (by simp (disch := omega) only [go_sem]) ⟨?_, rfl, rfl⟩
                  exact hov _ _ _ rfl rfl rfl
              · cases s
                · simp (disch := omega) only [go_sem, h6]
                  refine fin_valc (by simp (disch := omega) only [go_sem]) (by simp (disch := omega) only [go_sem]) ⟨?_, rfl, rfl⟩
                  exact hov _ _ _ rfl rfl rfl
                · simp (disch := omega) only [go_sem, h6]
                  refine fin_valc (by simp (disch := omega) only [go_sem]) (by simp (disch := omega) only [go_sem]) ⟨?_, rfl, rfl⟩
                  exact hov _ _ _ rfl rfl rfl
            · simp (disch := omega) only [go_sem, h6]
              refine call_closed (con_l4top xs xm xe (by omega) (by omega)) (by simp (disch := omega) only [go_sem, et2]) ?_
              rintro r hs ⟨rfl, rfl, _⟩
              refine ⟨by simp [freeN], ?_⟩
              simp (disch := omega) only [go_sem]
              simp (disch := omega) only [go_sem, et2]
              have hfin : ∀ mm : Int, mm = (flM rm re : Int) → AV.tu [.ag [.v (.int .i64 1), .v (.bool xs), .v (.int .i64 mm), .v (.int .i64 (flE rm re))], .v (.int .i64 1)] = .tu [.ag [.v (.int .i64 ((flV s m e mode z).k)), .v (.bool ((flV s m e mode z).s)), .v (.int .i64 ((flV s m e mode z).m)), .v (.int .i64 ((flV s m e mode z).e))], .v (.int .i64 (flG s m e mode))] := by
                rintro mm rfl
                rw [hxs]
                exact hVG 1 _ _ 1 (by unfold flK; rw [if_neg hr0, if_neg (by omega)]) (by unfold flMm; rw [if_neg hr0, if_neg (by omega)]) (by unfold flEe; rw [if_neg hr0, if_neg (by omega)]) (by unfold flFl; rw [if_neg (by omega), hfl])
              have ek : xe - flE rm re = (((oE rm re - flE rm re).toNat : Nat) : Int) := by omega
              have hk9 : (oE rm re - flE rm re).toNat ≤ 53 := by have h9 := hM; unfold flM at h9; rw [bl_mul_pow (fun e => hr0 (oM_eq_zero.1 e))] at h9; omega
              have hM6 : flM rm re < 2 ^ 53 := Nat.lt_of_lt_of_le (bl_lt _) (Nat.pow_le_pow_right (by omega) hM)
              have eM : xm * 2 ^ (oE rm re - flE rm re).toNat = flM rm re := by rw [q1]; rfl
              generalize hkk : (oE rm re - flE rm re).toNat = kk at *
              refine ifW_dec (fun h7 => ?_) (fun h7 => ?_)
              · have eE : flE rm re = -1074 := by unfold flE flLow; rw [if_pos (by omega)]
                simp (disch := omega) only [go_sem, h7]
                rw [eE] at ek hfin
                try rw [← et2] at hfin
                refine draw_of rfl [⟨0, [], []⟩, ⟨1, [], []⟩, ⟨2, [], []⟩, ⟨3, [2], []⟩, ⟨4, [2], []⟩, ⟨5, [2], []⟩, ⟨6, [2, 5], []⟩, ⟨7, [2, 5], []⟩, ⟨8, [2, 5, 7], []⟩, ⟨9, [2, 5], []⟩, ⟨12, [2, 5, 7], []⟩, ⟨14, [2, 5, 7], []⟩, ⟨10, [2], []⟩, ⟨11, [2], []⟩, ⟨13, [], []⟩, ⟨15, [], []⟩, ⟨16, [], []⟩] (by kernel_rfl) ?_
                simp (disch := omega) only [go_sem]
                refine call_open (con_l2shlF xm kk (by omega) (by omega)) (by simp (disch := omega) only [go_sem, ek, et2]) ?_
                rintro r hs ⟨rfl, rfl, _⟩
                refine ⟨by simp [freeN], ?_⟩
                simp (disch := omega) only [go_sem]
                refine call_closed (con_l2int (xm * 2 ^ kk) (by rw [eM]; omega)) (by simp (disch := omega) only [go_sem]) ?_
                rintro r hs ⟨rfl, rfl, _⟩
                refine ⟨by simp [freeN], ?_⟩
                simp (disch := omega) only [go_sem]
                refine fin_valc (by simp (disch := omega) only [go_sem]) (by simp (disch := omega) only [go_sem]) ⟨?_, rfl, rfl⟩
                exact hfin ((xm * 2 ^ kk : Nat) : Int) (by rw [eM])
              · have eE : flE rm re = (bl rm : Int) + re - 53 := by unfold flE flLow; rw [if_neg (by omega)]
                simp (disch := omega) only [go_sem, h7]
                rw [eE] at ek hfin
                try rw [← et2] at hfin
                refine draw_of rfl [⟨0, [], []⟩, ⟨1, [], []⟩, ⟨2, [], []⟩, ⟨3, [2], []⟩, ⟨4, [2], []⟩, ⟨5, [2], []⟩, ⟨6, [2, 5], []⟩, ⟨7, [2, 5], []⟩, ⟨8, [2, 5, 7], []⟩, ⟨9, [2, 5], []⟩, ⟨12, [2, 5, 7], []⟩, ⟨14, [2, 5, 7], []⟩, ⟨10, [2], []⟩, ⟨11, [2], []⟩, ⟨13, [], []⟩, ⟨15, [], []⟩, ⟨16, [], []⟩] (by kernel_rfl) ?_
                simp (disch := omega) only [go_sem]
                refine call_open (con_l2shlF xm kk (by omega) (by omega)) (by simp (disch := omega) only [go_sem, ek, et2]) ?_
                rintro r hs ⟨rfl, rfl, _⟩
                refine ⟨by simp [freeN], ?_⟩
                simp (disch := omega) only [go_sem]
                refine call_closed (con_l2int (xm * 2 ^ kk) (by rw [eM]; omega)) (by simp (disch := omega) only [go_sem]) ?_
                rintro r hs ⟨rfl, rfl, _⟩
                refine ⟨by simp [freeN], ?_⟩
                simp (disch := omega) only [go_sem]
                refine fin_valc (by simp (disch := omega) only [go_sem]) (by simp (disch := omega) only [go_sem]) ⟨?_, rfl, rfl⟩
                exact hfin ((xm * 2 ^ kk : Nat) : Int) (by rw [eM])
      · have hfl : flFlags (bl m + e) same = 0 := by unfold flFlags; rw [h3, if_pos rfl]
        have e5 := (rfl : (0 : Nat) = 0)
        simp (disch := omega) only [go_sem, h3]
        refine ifW_dec (fun h5 => ?_) (fun h5 => ?_)
        · have hr0 : rm = 0 := hxm0.1 h5
          simp (disch := omega) only [go_sem, h5]
          refine fin_valc (by simp (disch := omega) only [go_sem]) (by simp (disch := omega) only [go_sem]) ⟨?_, rfl, rfl⟩
          refine hVG 0 0 0 0 (by simp [flK, hr0]) (by simp [flMm, hr0]) (by simp [flEe, hr0]) (by simp [flFl, hr0, hfl])
        · have hr0 : rm ≠ 0 := fun e => h5 (hxm0.2 e)
          have et2 := etop2 hr0
          have hxs : xs = s := q3 hr0
          have hff := hform hr0
          have hM := flM_lt hr0 hff
          simp (disch := omega) only [go_sem, h5]
          refine call_closed (con_l4top xs xm xe (by omega) (by omega)) (by simp (disch := omega) only [go_sem, et2]) ?_
          rintro r hs ⟨rfl, rfl, _⟩
          refine ⟨by simp [freeN], ?_⟩
          simp (disch := omega) only [go_sem]
          simp (disch := omega) only [go_sem, et2]
          refine ifW_dec (fun h6 => ?_) (fun h6 => ?_)
          · have hov : ∀ (k mm ee : Int), k = (if ovB s mode then 1 else 2) → mm = (if ovB s mode then 9007199254740991 else 0) → ee = (if ovB s mode then 971 else 0) → AV.tu [.ag [.v (.int .i64 k), .v (.bool s), .v (.int .i64 mm), .v (.int .i64 ee)], .v (.int .i64 3)] = .tu [.ag [.v (.int .i64 ((flV s m e mode z).k)), .v (.bool ((flV s m e mode z).s)), .v (.int .i64 ((flV s m e mode z).m)), .v (.int .i64 ((flV s m e mode z).e))], .v (.int .i64 (flG s m e mode))] := by
              rintro k mm ee rfl rfl rfl
              exact hVG _ _ _ 3 (by unfold flK; rw [if_neg hr0, if_pos h6]) (by unfold flMm; rw [if_neg hr0, if_pos h6]) (by unfold flEe; rw [if_neg hr0, if_pos h6]) (by unfold flFl; rw [if_pos ⟨hr0, h6⟩])
            clear hVG hform hrm hrx q3 hxs et2 hfl
            obtain rfl | rfl | rfl | rfl | rfl : mode = 0 ∨ mode = 1 ∨ mode = 2 ∨ mode = 3 ∨ mode = 4 := by omega
            · cases s
              · simp (disch := omega) only [go_sem, h6]
                refine fin_valc (by simp (disch := omega) only [go_sem]) (by simp (disch := omega) only [go_sem]) ⟨?_, rfl, rfl⟩
                exact hov _ _ _ rfl rfl rfl
              · simp (disch := omega) only [go_sem, h6]
                refine fin_valc (by simp (disch := omega) only [go_sem]) (by simp (disch := omega) only [go_sem]) ⟨?_, rfl, rfl⟩
                exact hov _ _ _ rfl rfl rfl
            · cases s
              · simp (disch := omega) only [go_sem, h6]
                refine call_closed (con_l5most false) (by simp (disch := omega) only [go_sem]) ?_
                rintro r hs ⟨rfl, rfl, _⟩
                refine ⟨by simp [freeN], ?_⟩
                simp (disch := omega) only [go_sem]
                refine fin_valc (by simp (disch := omega) only [go_sem]) (by simp (disch := omega) only [go_sem]) ⟨?_, rfl, rfl⟩
                exact hov _ _ _ rfl rfl rfl
              · simp (disch := omega) only [go_sem, h6]
                refine call_closed (con_l5most true) (by simp (disch := omega) only [go_sem]) ?_
                rintro r hs ⟨rfl, rfl, _⟩
                refine ⟨by simp [freeN], ?_⟩
                simp (disch := omega) only [go_sem]
                refine fin_valc (by simp (disch := omega) only [go_sem]) (by simp (disch := omega) only [go_sem]) ⟨?_, rfl, rfl⟩
                exact hov _ _ _ rfl rfl rfl
            · cases s
              · simp (disch := omega) only [go_sem, h6]
                refine fin_valc (by simp (disch := omega) only [go_sem]) (by simp (disch := omega) only [go_sem]) ⟨?_, rfl, rfl⟩
                exact hov _ _ _ rfl rfl rfl
              · simp (disch := omega) only [go_sem, h6]
                refine call_closed (con_l5most true) (by simp (disch := omega) only [go_sem]) ?_
                rintro r hs ⟨rfl, rfl, _⟩
                refine ⟨by simp [freeN], ?_⟩
                simp (disch := omega) only [go_sem]
                refine fin_valc (by simp (disch := omega) only [go_sem]) (by simp (disch := omega) only [go_sem]) ⟨?_, rfl, rfl⟩
                exact hov _ _ _ rfl rfl rfl
            · cases s
              · simp (disch := omega) only [go_sem, h6]
                refine call_closed (con_l5most false) (by simp (disch := omega) only [go_sem]) ?_
                rintro r hs ⟨rfl, rfl, _⟩
                refine ⟨by simp [freeN], ?_⟩
                simp (disch := omega) only [go_sem]
                refine fin_valc (by simp (disch := omega) only [go_sem]) (by simp (disch := omega) only [go_sem]) ⟨?_, rfl, rfl⟩
                exact hov _ _ _ rfl rfl rfl
              · simp (disch := omega) only [go_sem, h6]
                refine fin_valc (by simp (disch := omega) only [go_sem]) (by simp (disch := omega) only [go_sem]) ⟨?_, rfl, rfl⟩
                exact hov _ _ _ rfl rfl rfl
            · cases s
              · simp (disch := omega) only [go_sem, h6]
                refine fin_valc (by simp (disch := omega) only [go_sem]) (by simp (disch := omega) only [go_sem]) ⟨?_, rfl, rfl⟩
                exact hov _ _ _ rfl rfl rfl
              · simp (disch := omega) only [go_sem, h6]
                refine fin_valc (by simp (disch := omega) only [go_sem]) (by simp (disch := omega) only [go_sem]) ⟨?_, rfl, rfl⟩
                exact hov _ _ _ rfl rfl rfl
          · simp (disch := omega) only [go_sem, h6]
            refine call_closed (con_l4top xs xm xe (by omega) (by omega)) (by simp (disch := omega) only [go_sem, et2]) ?_
            rintro r hs ⟨rfl, rfl, _⟩
            refine ⟨by simp [freeN], ?_⟩
            simp (disch := omega) only [go_sem]
            simp (disch := omega) only [go_sem, et2]
            have hfin : ∀ mm : Int, mm = (flM rm re : Int) → AV.tu [.ag [.v (.int .i64 1), .v (.bool xs), .v (.int .i64 mm), .v (.int .i64 (flE rm re))], .v (.int .i64 0)] = .tu [.ag [.v (.int .i64 ((flV s m e mode z).k)), .v (.bool ((flV s m e mode z).s)), .v (.int .i64 ((flV s m e mode z).m)), .v (.int .i64 ((flV s m e mode z).e))], .v (.int .i64 (flG s m e mode))] := by
              rintro mm rfl
              rw [hxs]
              exact hVG 1 _ _ 0 (by unfold flK; rw [if_neg hr0, if_neg (by omega)]) (by unfold flMm; rw [if_neg hr0, if_neg (by omega)]) (by unfold flEe; rw [if_neg hr0, if_neg (by omega)]) (by unfold flFl; rw [if_neg (by omega), hfl])
            have ek : xe - flE rm re = (((oE rm re - flE rm re).toNat : Nat) : Int) := by omega
            have hk9 : (oE rm re - flE rm re).toNat ≤ 53 := by have h9 := hM; unfold flM at h9; rw [bl_mul_pow (fun e => hr0 (oM_eq_zero.1 e))] at h9; omega
            have hM6 : flM rm re < 2 ^ 53 := Nat.lt_of_lt_of_le (bl_lt _) (Nat.pow_le_pow_right (by omega) hM)
            have eM : xm * 2 ^ (oE rm re - flE rm re).toNat = flM rm re := by rw [q1]; rfl
            generalize hkk : (oE rm re - flE rm re).toNat = kk at *
            refine ifW_dec (fun h7 => ?_) (fun h7 => ?_)
            · have eE : flE rm re = -1074 := by unfold flE flLow; rw [if_pos (by omega)]
              simp (disch := omega) only [go_sem, h7]
              rw [eE] at ek hfin
              try rw [← et2] at hfin
              refine draw_of rfl [⟨0, [], []⟩, ⟨1, [], []⟩, ⟨2, [], []⟩, ⟨3, [2], []⟩, ⟨4, [2], []⟩, ⟨5, [2], []⟩, ⟨6, [2, 5], []⟩, ⟨7, [2, 5], []⟩, ⟨8, [2, 5, 7], []⟩, ⟨9, [2, 5], []⟩, ⟨12, [2, 5, 7], []⟩, ⟨14, [2, 5, 7], []⟩, ⟨10, [2], []⟩, ⟨11, [2], []⟩, ⟨13, [], []⟩, ⟨15, [], []⟩, ⟨16, [], []⟩] (by kernel_rfl) ?_
              simp (disch := omega) only [go_sem]
              refine call_open (con_l2shlF xm kk (by omega) (by omega)) (by simp (disch := omega) only [go_sem, ek, et2]) ?_
              rintro r hs ⟨rfl, rfl, _⟩
              refine ⟨by simp [freeN], ?_⟩
              simp (disch := omega) only [go_sem]
              refine call_closed (con_l2int (xm * 2 ^ kk) (by rw [eM]; omega)) (by simp (disch := omega) only [go_sem]) ?_
              rintro r hs ⟨rfl, rfl, _⟩
              refine ⟨by simp [freeN], ?_⟩
              simp (disch := omega) only [go_sem]
              refine fin_valc (by simp (disch := omega) only [go_sem]) (by simp (disch := omega) only [go_sem]) ⟨?_, rfl, rfl⟩
              exact hfin ((xm * 2 ^ kk : Nat) : Int) (by rw [eM])
            · have eE : flE rm re = (bl rm : Int) + re - 53 := by unfold flE flLow; rw [if_neg (by omega)]
              simp (disch := omega) only [go_sem, h7]
              rw [eE] at ek hfin
              try rw [← et2] at hfin
              refine draw_of rfl [⟨0, [], []⟩, ⟨1, [], []⟩, ⟨2, [], []⟩, ⟨3, [2], []⟩, ⟨4, [2], []⟩, ⟨5, [2], []⟩, ⟨6, [2, 5], []⟩, ⟨7, [2, 5], []⟩, ⟨8, [2, 5, 7], []⟩, ⟨9, [2, 5], []⟩, ⟨12, [2, 5, 7], []⟩, ⟨14, [2, 5, 7], []⟩, ⟨10, [2], []⟩, ⟨11, [2], []⟩, ⟨13, [], []⟩, ⟨15, [], []⟩, ⟨16, [], []⟩] (by kernel_rfl) ?_
              simp (disch := omega) only [go_sem]
              refine call_open (con_l2shlF xm kk (by omega) (by omega)) (by simp (disch := omega) only [go_sem, ek, et2]) ?_
              rintro r hs ⟨rfl, rfl, _⟩
              refine ⟨by simp [freeN], ?_⟩
              simp (disch := omega) only [go_sem]
              refine call_closed (con_l2int (xm * 2 ^ kk) (by rw [eM]; omega)) (by simp (disch := omega) only [go_sem]) ?_
              rintro r hs ⟨rfl, rfl, _⟩
              refine ⟨by simp [freeN], ?_⟩
              simp (disch := omega) only [go_sem]
              refine fin_valc (by simp (disch := omega) only [go_sem]) (by simp (disch := omega) only [go_sem]) ⟨?_, rfl, rfl⟩
              exact hfin ((xm * 2 ^ kk : Nat) : Int) (by rw [eM])
end Go.Ab
namespace Go.Ab
open Go Go.Proofs
set_option linter.unusedVariables false
set_option linter.unusedSimpArgs false

theorem con_natokS (xs : List Int) (hl : xs.length ≤ 2 ^ 40) : Con Tryz.prog 95 true [.ag [.sl xs.length (ints xs)]] [] (isA (.v (.bool (natB xs)))) := by
  refine Con.of_aw Tryz.func95 rfl Tryz.ntmps95 (by simp) (by simp) (by simp) (W.sound ?_)
  show @W Tryz.prog 44 ⟨_⟩ ⟨fun x σ => @retW _ _ _ ⟨_⟩ _ ⟨_⟩ x σ⟩ _ _
  simp (disch := omega) only [go_sem]
  refine ifW_dec (fun h1 => ?_) (fun h1 => ?_)
  · simp (disch := omega) only [go_sem, h1]
    refine fin_valc (by simp (disch := omega) only [go_sem]) (by simp (disch := omega) only [go_sem]) ⟨?_, rfl, rfl⟩
    have : ¬ (xs.length ≤ 100) := by omega
    simp [tupA, natB, this]
  · simp (disch := omega) only [go_sem, h1]
    refine loop_intro (fun i : Nat => [(1, .pt 30000000 0), (2, .v (.bool false)), (3, .v (.int .i64 i))]) (fun _ => [(30000000, .own 0 [.sl xs.length (ints xs)])]) (fun i => i ≤ xs.length ∧ ∀ x ∈ xs.take i, 0 ≤ x ∧ x ≤ 65535) (fun i => xs.length - i) 0 ⟨by omega, by simp⟩
      (Le.lst [] _ _ rfl (by simp (disch := omega) only [go_sem]) (by simp (disch := omega) only [go_sem])) ?_
    rintro i ⟨hi, hx⟩
    simp (disch := omega) only [go_sem]
    refine ifW_dec (fun h2 => ?_) (fun h2 => ?_)
    · simp (disch := omega) only [go_sem, h2]
      have hmem : xs.getD i 0 ∈ xs := by
        rw [List.getD_eq_getElem?_getD, List.getElem?_eq_getElem (by omega)]; exact List.getElem_mem _
      have bad : ¬ (0 ≤ xs.getD i 0 ∧ xs.getD i 0 ≤ 65535) → natB xs = false := by
        intro hc
        unfold natB
        have : xs.all (fun x => decide (0 ≤ x) && decide (x ≤ 65535)) = false := by
          rw [List.all_eq_false]
          refine ⟨_, hmem, ?_⟩
          simp only [Bool.and_eq_true, decide_eq_true_eq]; exact hc
        rw [this]; simp
      refine ⟨by omega, by omega, ?_⟩
      refine ifW_not (fun h3 => ?_) (fun h3 => ?_)
      · simp (disch := omega) only [go_sem, h3]
        refine ⟨by omega, by omega, ?_⟩
        refine ifW_dec (fun h4 => ?_) (fun h4 => ?_)
        · simp (disch := omega) only [go_sem, h4]
          rw [bad (by omega)]
          exact fin_valc (by simp (disch := omega) only [go_sem]) (by simp (disch := omega) only [go_sem]) isA_mk
        · simp (disch := omega) only [go_sem, h4]
          refine next_intro (i + 1) [] ⟨by omega, ?_⟩ (by show xs.length - (i + 1) < xs.length - i; omega) rfl (by simp (disch := omega) only [go_sem]; try omega) (by simp (disch := omega) only [go_sem])
          intro x hxx
          rw [List.take_add_one] at hxx
          rcases List.mem_append.1 hxx with h | h
          · exact hx x h
          · rw [List.getElem?_eq_getElem (by omega)] at h
            simp at h
            rw [List.getD_eq_getElem?_getD, List.getElem?_eq_getElem (by omega)] at h3 h4
            simp at h3 h4
            subst h
            omega
      · simp (disch := omega) only [go_sem, h3]
        rw [bad (by omega)]
        exact fin_valc (by simp (disch := omega) only [go_sem]) (by simp (disch := omega) only [go_sem]) isA_mk
    · have : i = xs.length := by omega
      subst this
      rw [List.take_length] at hx
      have hall : xs.all (fun x => decide (0 ≤ x) && decide (x ≤ 65535)) = true := by
        rw [List.all_eq_true]
        intro x h; have := hx x h; simp only [Bool.and_eq_true, decide_eq_true_eq]; exact this
      have e1 : decide (xs.length ≤ 100) = true := by simp; omega
      simp (disch := omega) only [go_sem, h2]
      refine ifW_not (fun h3 => ?_) (fun h3 => ?_)
      · have en : ((xs.length : Int) - 1).toNat = xs.length - 1 := by omega
        have hmem : xs.getD (xs.length - 1) 0 ∈ xs := by
          rw [List.getD_eq_getElem?_getD, List.getElem?_eq_getElem (by omega)]; exact List.getElem_mem _
        have hp := hx _ hmem
        simp (disch := omega) only [go_sem, h3, en]
        refine ⟨by omega, by omega, ?_⟩
        refine fin_valc (by simp (disch := omega) only [go_sem]) (by simp (disch := omega) only [go_sem]) ⟨?_, rfl, rfl⟩
        have e2 : decide (xs.length = 0) = false := by simp; intro h; subst h; simp at h3
        show AV.v (.bool _) = AV.v (.bool _)
        unfold natB
        rw [e1, hall, e2, Bool.false_or, Bool.true_and, Bool.true_and]
        congr 2
        rw [decide_eq_decide]
        omega
      · simp (disch := omega) only [go_sem, h3]
        refine fin_valc (by simp (disch := omega) only [go_sem]) (by simp (disch := omega) only [go_sem]) ⟨?_, rfl, rfl⟩
        have e2 : decide (xs.length = 0) = true := by simp; exact List.length_eq_zero_iff.1 (by omega)
        show AV.v (.bool _) = AV.v (.bool _)
        unfold natB
        rw [e1, hall, e2]
        simp

theorem con_wholeokS (s : Bool) (xs : List Int) (hl : xs.length ≤ 2 ^ 40) : Con Tryz.prog 54 true [.ag [.v (.bool s), .sl xs.length (ints xs)]] [] (isA (.v (.bool (wholeB s xs)))) := by
  refine Con.of_aw Tryz.func54 rfl Tryz.ntmps54 (by simp) (by simp) (by simp) (W.sound ?_)
  show @W Tryz.prog 18 ⟨_⟩ ⟨fun x σ => @retW _ _ _ ⟨_⟩ _ ⟨_⟩ x σ⟩ _ _
  simp (disch := omega) only [go_sem]
  refine call_closed (con_natokS xs hl) (by simp (disch := omega) only [go_sem]) ?_
  rintro r hs ⟨rfl, rfl, _⟩
  refine ⟨by simp [freeN], ?_⟩
  simp (disch := omega) only [go_sem]
  refine ifW_b (fun h1 => ?_) (fun h1 => ?_)
  · simp (disch := omega) only [go_sem, h1]
    cases s
    · simp (disch := omega) only [go_sem]
      refine fin_valc (by simp (disch := omega) only [go_sem]) (by simp (disch := omega) only [go_sem]) ⟨?_, rfl, rfl⟩
      simp [tupA, wholeB, h1]
    · simp (disch := omega) only [go_sem]
      refine fin_valc (by simp (disch := omega) only [go_sem]) (by simp (disch := omega) only [go_sem]) ⟨?_, rfl, rfl⟩
      show AV.v (.bool _) = AV.v (.bool _)
      unfold wholeB
      rw [h1, Bool.true_and, Bool.true_and, ← decide_not]
      congr 2
      rw [decide_eq_decide]
      omega
  · simp (disch := omega) only [go_sem, h1]
    refine fin_valc (by simp (disch := omega) only [go_sem]) (by simp (disch := omega) only [go_sem]) ⟨?_, rfl, rfl⟩
    simp [tupA, wholeB, h1]

theorem con_dyokS (s : Bool) (xs : List Int) (e : Int) (hl : xs.length ≤ 2 ^ 40) : Con Tryz.prog 67 true [.ag [.v (.bool s), .sl xs.length (ints xs), .v (.int .i64 e)]] [] (isA (.v (.bool (dyB s xs e)))) := by
  refine Con.of_aw Tryz.func67 rfl Tryz.ntmps67 (by simp) (by simp) (by simp) (W.sound ?_)
  show @W Tryz.prog 31 ⟨_⟩ ⟨fun x σ => @retW _ _ _ ⟨_⟩ _ ⟨_⟩ x σ⟩ _ _
  simp (disch := omega) only [go_sem]
  refine call_closed (con_wholeokS s xs hl) (by simp (disch := omega) only [go_sem]) ?_
  rintro r hs ⟨rfl, rfl, _⟩
  refine ⟨by simp [freeN], ?_⟩
  simp (disch := omega) only [go_sem]
  refine ifW_b (fun hw => ?_) (fun hw => ?_)
  · have h1 := hw
    simp only [wholeB, Bool.and_eq_true] at h1
    obtain ⟨hx, hll⟩ := natB_lim h1.1
    have hxs : xs = lim (vl xs).toNat := hx
    generalize hm : (vl xs).toNat = m at *
    subst hx
    simp (disch := omega) only [go_sem, hw]
    refine ifW_not (fun h2 => ?_) (fun h2 => ?_)
    · simp (disch := omega) only [go_sem, h2]
      refine ifW_dec (fun h3 => ?_) (fun h3 => ?_)
      · simp (disch := omega) only [go_sem, h3]
        refine fin_valc (by simp (disch := omega) only [go_sem]) (by simp (disch := omega) only [go_sem]) ⟨?_, rfl, rfl⟩
        have a2 : ¬ e ≤ 3000 := by omega
        simp [tupA, dyB, a2]
      · simp (disch := omega) only [go_sem, h3]
        refine ifW_dec (fun h4 => ?_) (fun h4 => ?_)
        · simp (disch := omega) only [go_sem, h4]
          have h0 : m = 0 := lim_eq_nil.1 (List.length_eq_zero_iff.1 (by omega))
          refine fin_valc (by simp (disch := omega) only [go_sem]) (by simp (disch := omega) only [go_sem]) ⟨?_, rfl, rfl⟩
          have a1 : -3000 ≤ e := by omega
          have a2 : e ≤ 3000 := by omega
          have a3 : (lim m).length = 0 := by omega
          show AV.v (.bool _) = AV.v (.bool _)
          unfold dyB
          rw [hw, hm, decide_eq_true a1, decide_eq_true a2, decide_eq_true a3, h0]
          simp
        · simp (disch := omega) only [go_sem, h4]
          refine call_closed (con_l2bit m 0 (by omega) (by omega) (by omega)) (by simp (disch := omega) only [go_sem]) ?_
          rintro r hs ⟨rfl, rfl, _⟩
          refine ⟨by simp [freeN], ?_⟩
          simp (disch := omega) only [go_sem]
          refine fin_valc (by simp (disch := omega) only [go_sem]) (by simp (disch := omega) only [go_sem]) ⟨?_, rfl, rfl⟩
          have a1 : -3000 ≤ e := by omega
          have a2 : e ≤ 3000 := by omega
          have a3 : ¬ (lim m).length = 0 := by omega
          show AV.v (.bool _) = AV.v (.bool _)
          unfold dyB
          rw [hw, hm, decide_eq_true a1, decide_eq_true a2, decide_eq_false a3]
          simp
          omega
    · simp (disch := omega) only [go_sem, h2]
      refine fin_valc (by simp (disch := omega) only [go_sem]) (by simp (disch := omega) only [go_sem]) ⟨?_, rfl, rfl⟩
      have a1 : ¬ -3000 ≤ e := by omega
      simp [tupA, dyB, a1]
  · simp (disch := omega) only [go_sem, hw]
    refine fin_valc (by simp (disch := omega) only [go_sem]) (by simp (disch := omega) only [go_sem]) ⟨?_, rfl, rfl⟩
    simp [tupA, dyB, hw]

end Go.Ab
namespace Go.Ab
open Go Go.Proofs
set_option linter.unusedVariables false
set_option linter.unusedSimpArgs false

/-- A number in its one form is a dyadic number just if it is short enough. -/
theorem dyB_canon (s : Bool) (m : Nat) (e : Int) : dyB (oS s m) (lim (oM m)) (oE m e) = dyFit m e := by
  unfold dyB wholeB dyFit natFit
  rw [vl_lim, Int.toNat_natCast]
  have hod := oM_odd m
  have hz := oS_z s m
  by_cases h : (lim (oM m)).length ≤ 100
  · rw [natB_of _ h, decide_eq_true h, Bool.true_and, Bool.true_and]
    by_cases h0 : oM m = 0
    · have hm : m = 0 := oM_eq_zero.1 h0
      rw [hz h0, h0, hm]
      simp [oE, lim_zero]
    · have h1 : oM m % 2 = 1 := hod.resolve_right h0
      have h2 : decide ((lim (oM m)).length = 0) = false := by
        have := lim_ne h0
        exact decide_eq_false (by omega)
      rw [h2, decide_eq_true h1]
      simp
  · rw [decide_eq_false h]
    have : natB (lim (oM m)) = false := by unfold natB; rw [decide_eq_false h, Bool.false_and]
    rw [this]; simp

theorem con_l4fits (s : Bool) (m : Nat) (e : Int) (hl : (lim (oM m)).length ≤ 2 ^ 40) : Con Tryz.prog 56 false [.ag [.v (.bool (oS s m)), .sl (lim (oM m)).length (ints (lim (oM m))), .v (.int .i64 (oE m e))]] [] (isA (if dyFit m e = true then .tu [.ag [.v (.bool (oS s m)), .sl (lim (oM m)).length (ints (lim (oM m))), .v (.int .i64 (oE m e))], .v (.bool true)] else .tu [.ag [.v (.bool (false)), .sl (lim (0)).length (ints (lim (0))), .v (.int .i64 (0))], .v (.bool false)])) := by
  refine Con.frzA ?_
  have ck := con_dyokS (oS s m) (lim (oM m)) (oE m e) hl
  rw [dyB_canon] at ck
  cases hd : dyFit m e
  · rw [hd] at ck
    rw [if_neg (by simp), lim_zero]
    refine Con.of_aw Tryz.func56 rfl Tryz.ntmps56 (by simp) (by simp) (by simp) (W.sound ?_)
    show @W Tryz.prog 9 ⟨_⟩ ⟨fun x σ => @retW _ _ _ ⟨_⟩ _ ⟨_⟩ x σ⟩ _ _
    simp (disch := omega) only [go_sem]
    refine call_closed (ck) (by simp (disch := omega) only [go_sem]) ?_
    rintro r hs ⟨rfl, rfl, _⟩
    refine ⟨by simp [freeN], ?_⟩
    simp (disch := omega) only [go_sem]
    refine fin_val (by simp (disch := omega) only [go_sem]) ?_
    show snap _ 6 _ = _
    simp (disch := omega) only [go_sem]
  · rw [hd] at ck
    rw [if_pos rfl]
    refine Con.of_aw Tryz.func56 rfl Tryz.ntmps56 (by simp) (by simp) (by simp) (W.sound ?_)
    show @W Tryz.prog 9 ⟨_⟩ ⟨fun x σ => @retW _ _ _ ⟨_⟩ _ ⟨_⟩ x σ⟩ _ _
    simp (disch := omega) only [go_sem]
    refine call_closed (ck) (by simp (disch := omega) only [go_sem]) ?_
    rintro r hs ⟨rfl, rfl, _⟩
    refine ⟨by simp [freeN], ?_⟩
    simp (disch := omega) only [go_sem]
    refine fin_val (by simp (disch := omega) only [go_sem]) ?_
    show snap _ 6 _ = _
    simp (disch := omega) only [go_sem]

def pmS (s1 : Bool) (m1 : Nat) (s2 : Bool) (m2 : Nat) : Bool := (s1 != s2) && decide (m1 * m2 ≠ 0)
end Go.Ab
namespace Go.Ab
open Go Go.Proofs
set_option linter.unusedVariables false
set_option linter.unusedSimpArgs false

theorem con_l3cmp (s1 : Bool) (m1 : Nat) (s2 : Bool) (m2 : Nat) (l1 : (lim m1).length ≤ 2 ^ 40) (l2 : (lim m2).length ≤ 2 ^ 40) (z1 : m1 = 0 → s1 = false) (z2 : m2 = 0 → s2 = false) :
    Con Tryz.prog 107 true [.ag [.v (.bool (s1)), .sl (lim (m1)).length (ints (lim (m1)))], .ag [.v (.bool (s2)), .sl (lim (m2)).length (ints (lim (m2)))]] [] (isA (.v (.int .i64 (cmpI (sv s1 m1) (sv s2 m2))))) := by
  rw [cmp_signs z1 z2]
  cases s1 <;> cases s2
  · refine Con.of_aw Tryz.func107 rfl Tryz.ntmps107 (by simp) (by simp) (by simp) (W.sound ?_)
    show @W Tryz.prog 24 ⟨_⟩ ⟨fun x σ => @retW _ _ _ ⟨_⟩ _ ⟨_⟩ x σ⟩ _ _
    simp (disch := omega) only [go_sem]
    refine call_closed (con_l2cmp m1 m2 l1 l2) (by simp (disch := omega) only [go_sem]) ?_
    rintro r hs ⟨rfl, rfl, _⟩
    refine ⟨by simp [freeN], ?_⟩
    simp (disch := omega) only [go_sem]
    exact fin_valc (by simp (disch := omega) only [go_sem]) (by simp (disch := omega) only [go_sem]) isA_mk
  · refine Con.of_aw Tryz.func107 rfl Tryz.ntmps107 (by simp) (by simp) (by simp) (W.sound ?_)
    show @W Tryz.prog 24 ⟨_⟩ ⟨fun x σ => @retW _ _ _ ⟨_⟩ _ ⟨_⟩ x σ⟩ _ _
    simp (disch := omega) only [go_sem]
    exact fin_valc (by simp (disch := omega) only [go_sem]) (by simp (disch := omega) only [go_sem]) isA_mk
  · refine Con.of_aw Tryz.func107 rfl Tryz.ntmps107 (by simp) (by simp) (by simp) (W.sound ?_)
    show @W Tryz.prog 24 ⟨_⟩ ⟨fun x σ => @retW _ _ _ ⟨_⟩ _ ⟨_⟩ x σ⟩ _ _
    simp (disch := omega) only [go_sem]
    exact fin_valc (by simp (disch := omega) only [go_sem]) (by simp (disch := omega) only [go_sem]) isA_mk
  · refine Con.of_aw Tryz.func107 rfl Tryz.ntmps107 (by simp) (by simp) (by simp) (W.sound ?_)
    show @W Tryz.prog 24 ⟨_⟩ ⟨fun x σ => @retW _ _ _ ⟨_⟩ _ ⟨_⟩ x σ⟩ _ _
    simp (disch := omega) only [go_sem]
    refine call_closed (con_l2cmp m2 m1 l2 l1) (by simp (disch := omega) only [go_sem]) ?_
    rintro r hs ⟨rfl, rfl, _⟩
    refine ⟨by simp [freeN], ?_⟩
    simp (disch := omega) only [go_sem]
    exact fin_valc (by simp (disch := omega) only [go_sem]) (by simp (disch := omega) only [go_sem]) isA_mk

theorem con_DyNegS (s : Bool) (m : Nat) (e : Int) (h : dyB s (lim m) e = true) : Con Tryz.prog 66 false [.ag [.v (.bool (s)), .sl (lim (m)).length (ints (lim (m))), .v (.int .i64 (e))]] [] (isA (.ag [.v (.bool ((!s) && decide (m ≠ 0))), .sl (lim (m)).length (ints (lim (m))), .v (.int .i64 (e))])) := by
  refine Con.frzA ?_
  obtain ⟨n1, q1, b1, c1, d1, _, f1⟩ := dyB_lim h
  obtain rfl := lim_inj q1
  have k1 := con_dyokS s (lim m) e (by omega)
  rw [h] at k1
  refine Con.of_aw Tryz.func66 rfl Tryz.ntmps66 (by simp) (by simp) (by simp) (W.sound ?_)
  show @W Tryz.prog 9 ⟨_⟩ ⟨fun x σ => @retW _ _ _ ⟨_⟩ _ ⟨_⟩ x σ⟩ _ _
  simp (disch := omega) only [go_sem]
  refine call_closed (k1) (by simp (disch := omega) only [go_sem]) ?_
  rintro r hs ⟨rfl, rfl, _⟩
  refine ⟨by simp [freeN], ?_⟩
  simp (disch := omega) only [go_sem]
  refine call_open (con_l4neg s m e (by omega)) (by simp (disch := omega) only [go_sem]) ?_
  rintro r hs ⟨rfl, rfl, _⟩
  refine ⟨by simp [freeN], ?_⟩
  simp (disch := omega) only [go_sem]
  refine fin_val (by simp (disch := omega) only [go_sem]) ?_
  show snap _ 6 _ = _
  simp (disch := omega) only [go_sem]

theorem con_WholeOfS (n : Int) (h : -9223372036854775808 ≤ n ∧ n < 9223372036854775808) : Con Tryz.prog 11 false [.v (.int .i64 n)] [] (isA (.ag [.v (.bool (decide (n < 0))), .sl (lim (n.natAbs)).length (ints (lim (n.natAbs)))])) := by
  refine Con.frzA ?_
  refine Con.of_aw Tryz.func11 rfl Tryz.ntmps11 (by simp) (by simp) (by simp) (W.sound ?_)
  show @W Tryz.prog 5 ⟨_⟩ ⟨fun x σ => @retW _ _ _ ⟨_⟩ _ ⟨_⟩ x σ⟩ _ _
  simp (disch := omega) only [go_sem]
  refine call_open (con_l3of n h) (by simp (disch := omega) only [go_sem]) ?_
  rintro r hs ⟨rfl, rfl, _⟩
  refine ⟨by simp [freeN], ?_⟩
  simp (disch := omega) only [go_sem]
  refine fin_val (by simp (disch := omega) only [go_sem]) ?_
  show snap _ 6 _ = _
  simp (disch := omega) only [go_sem]

theorem con_l4e (e : Int) : Con Tryz.prog 55 true [.v (.int .i64 e)] [] (isA (.v (.bool (decide (-12000 ≤ e) && decide (e ≤ 12000))))) := by
  refine Con.of_aw Tryz.func55 rfl Tryz.ntmps55 (by simp) (by simp) (by simp) (W.sound ?_)
  show @W Tryz.prog 9 ⟨_⟩ ⟨fun x σ => @retW _ _ _ ⟨_⟩ _ ⟨_⟩ x σ⟩ _ _
  simp (disch := omega) only [go_sem]
  repeat' first
    | simp (disch := omega) only [go_sem, *]
    | (with_reducible refine ifW_dec (fun _ => ?_) (fun _ => ?_))
    | (with_reducible refine ifW_not (fun _ => ?_) (fun _ => ?_))
    | (with_reducible refine ifW_nb (fun _ => ?_) (fun _ => ?_))
    | (with_reducible refine ifW_b (fun _ => ?_) (fun _ => ?_))
  all_goals exact fin_valc (by simp (disch := omega) only [go_sem]) (by simp (disch := omega) only [go_sem]) ⟨by simp_all [tupA] <;> omega, rfl, rfl⟩

theorem con_DyOfS (s : Bool) (m : Nat) (e : Int) (h : wholeB s (lim m) = true) (he : -12000 ≤ e ∧ e ≤ 12000) :
    Con Tryz.prog 14 false [.ag [.v (.bool (s)), .sl (lim (m)).length (ints (lim (m)))], .v (.int .i64 e)] [] (isA (if dyFit m e = true then .tu [.ag [.v (.bool (oS s m)), .sl (lim (oM m)).length (ints (lim (oM m))), .v (.int .i64 (oE m e))], .v (.bool true)] else .tu [.ag [.v (.bool (false)), .sl (lim (0)).length (ints (lim (0))), .v (.int .i64 (0))], .v (.bool false)])) := by
  refine Con.frzA ?_
  have h' := h
  simp only [wholeB, Bool.and_eq_true] at h'
  obtain ⟨_, hl⟩ := natB_lim h'.1
  have hb := bl_len (m := m)
  have hb2 := len_bl (Nat.le_trans (bl_mono (oM_le m)) hb)
  have k1 := con_wholeokS s (lim m) (by omega)
  rw [h] at k1
  have k2 := con_l4e e
  rw [decide_eq_true he.1, decide_eq_true he.2] at k2
  have cf := con_l4fits s m e (by omega)
  cases hd : dyFit m e
  · rw [hd, if_neg (by simp), lim_zero] at cf
    rw [if_neg (by simp), lim_zero]
    refine Con.of_aw Tryz.func14 rfl Tryz.ntmps14 (by simp) (by simp) (by simp) (W.sound ?_)
    show @W Tryz.prog 21 ⟨_⟩ ⟨fun x σ => @retW _ _ _ ⟨_⟩ _ ⟨_⟩ x σ⟩ _ _
    simp (disch := omega) only [go_sem]
    refine call_closed (k1) (by simp (disch := omega) only [go_sem]) ?_
    rintro r hs ⟨rfl, rfl, _⟩
    refine ⟨by simp [freeN], ?_⟩
    simp (disch := omega) only [go_sem]
    refine call_closed (k2) (by simp (disch := omega) only [go_sem]) ?_
    rintro r hs ⟨rfl, rfl, _⟩
    refine ⟨by simp [freeN], ?_⟩
    simp (disch := omega) only [go_sem]
    refine call_open (con_l4make s m e (by omega) (by omega)) (by simp (disch := omega) only [go_sem]) ?_
    rintro r hs ⟨rfl, rfl, _⟩
    refine ⟨by simp [freeN], ?_⟩
    simp (disch := omega) only [go_sem]
    refine call_open (cf) (by simp (disch := omega) only [go_sem]) ?_
    rintro r hs ⟨rfl, rfl, _⟩
    refine ⟨by simp [freeN], ?_⟩
    simp (disch := omega) only [go_sem]
    refine fin_val (by simp (disch := omega) only [go_sem]) ?_
    show snap _ 6 _ = _
    simp (disch := omega) only [go_sem]
  · rw [hd, if_pos rfl] at cf
    rw [if_pos rfl]
    refine Con.of_aw Tryz.func14 rfl Tryz.ntmps14 (by simp) (by simp) (by simp) (W.sound ?_)
    show @W Tryz.prog 21 ⟨_⟩ ⟨fun x σ => @retW _ _ _ ⟨_⟩ _ ⟨_⟩ x σ⟩ _ _
    simp (disch := omega) only [go_sem]
    refine call_closed (k1) (by simp (disch := omega) only [go_sem]) ?_
    rintro r hs ⟨rfl, rfl, _⟩
    refine ⟨by simp [freeN], ?_⟩
    simp (disch := omega) only [go_sem]
    refine call_closed (k2) (by simp (disch := omega) only [go_sem]) ?_
    rintro r hs ⟨rfl, rfl, _⟩
    refine ⟨by simp [freeN], ?_⟩
    simp (disch := omega) only [go_sem]
    refine call_open (con_l4make s m e (by omega) (by omega)) (by simp (disch := omega) only [go_sem]) ?_
    rintro r hs ⟨rfl, rfl, _⟩
    refine ⟨by simp [freeN], ?_⟩
    simp (disch := omega) only [go_sem]
    refine call_open (cf) (by simp (disch := omega) only [go_sem]) ?_
    rintro r hs ⟨rfl, rfl, _⟩
    refine ⟨by simp [freeN], ?_⟩
    simp (disch := omega) only [go_sem]
    refine fin_val (by simp (disch := omega) only [go_sem]) ?_
    show snap _ 6 _ = _
    simp (disch := omega) only [go_sem]

/-! ### Sameness -/
theorem con_sameNat (a b : Nat) (la : (lim a).length ≤ 2 ^ 40) (lb : (lim b).length ≤ 2 ^ 40) : Con Tryz.prog 47 true [.ag [.sl (lim (a)).length (ints (lim (a)))], .ag [.sl (lim (b)).length (ints (lim (b)))]] [] (isA (.v (.bool (decide (a = b))))) := by
  refine Con.of_aw Tryz.func47 rfl Tryz.ntmps47 (by simp) (by simp) (by simp) (W.sound ?_)
  show @W Tryz.prog 31 ⟨_⟩ ⟨fun x σ => @retW _ _ _ ⟨_⟩ _ ⟨_⟩ x σ⟩ _ _
  simp (disch := omega) only [go_sem]
  refine ifW_not (fun h1 => ?_) (fun h1 => ?_)
  · simp (disch := omega) only [go_sem, h1]
    rw [decide_eq_false (fun e => h1 (by rw [e]))]
    exact fin_valc (by simp (disch := omega) only [go_sem]) (by simp (disch := omega) only [go_sem]) isA_mk
  · have hl : (lim a).length = (lim b).length := by omega
    simp (disch := omega) only [go_sem, h1]
    refine loop_intro (fun i : Nat => [(2, .pt 40000000 0), (3, .pt 50000000 0), (5, .v (.int .i64 i))]) (fun _ => [(40000000, .own 0 [.sl (lim (a)).length (ints (lim (a)))]), (50000000, .own 0 [.sl (lim (b)).length (ints (lim (b)))])])
      (fun i => i ≤ (lim a).length ∧ (lim a).take i = (lim b).take i) (fun i => (lim a).length - i) 0 ⟨by omega, by simp⟩ (Le.lst [] _ _ rfl (by simp (disch := omega) only [go_sem]; try omega) (by simp (disch := omega) only [go_sem])) ?_
    rintro i ⟨hi, ht⟩
    simp (disch := omega) only [go_sem]
    refine ifW_dec (fun h2 => ?_) (fun h2 => ?_)
    · simp (disch := omega) only [go_sem, h2]
      refine draw_of rfl [⟨0, [], []⟩, ⟨1, [], []⟩, ⟨2, [1], []⟩, ⟨3, [], []⟩, ⟨4, [], []⟩, ⟨5, [1, 4], []⟩, ⟨6, [1, 4], []⟩, ⟨7, [1, 4, 6], []⟩, ⟨8, [1, 4], []⟩, ⟨9, [1, 4], []⟩, ⟨10, [], []⟩] (by kernel_rfl) ?_
      simp (disch := omega) only [go_sem]
      refine ⟨by omega, by omega, by omega, by omega, ?_⟩
      refine ifW_not (fun h3 => ?_) (fun h3 => ?_)
      · simp (disch := omega) only [go_sem, h3]
        rw [decide_eq_false (fun e => h3 (by rw [e]))]
        exact fin_valc (by simp (disch := omega) only [go_sem]) (by simp (disch := omega) only [go_sem]) isA_mk
      · simp (disch := omega) only [go_sem, h3]
        refine next_intro (i + 1) [] ⟨by omega, ?_⟩ (by show (lim a).length - (i + 1) < (lim a).length - i; omega) rfl (by simp (disch := omega) only [go_sem]; try omega) (by simp (disch := omega) only [go_sem])
        rw [take_succ' (l := lim a) (by omega), take_succ' (l := lim b) (by omega), ht, h3]
    · simp (disch := omega) only [go_sem, h2]
      have : i = (lim a).length := by omega
      subst this
      have ht2 : lim a = lim b := by
        have h4 := List.take_of_length_le (l := lim b) (i := (lim a).length) (by omega)
        rw [List.take_length, h4] at ht
        exact ht
      rw [decide_eq_true (lim_inj ht2)]
      exact fin_valc (by simp (disch := omega) only [go_sem]) (by simp (disch := omega) only [go_sem]) isA_mk

theorem con_sameWhole (s1 : Bool) (m1 : Nat) (s2 : Bool) (m2 : Nat) (l1 : (lim m1).length ≤ 2 ^ 40) (l2 : (lim m2).length ≤ 2 ^ 40) : Con Tryz.prog 10 true [.ag [.v (.bool (s1)), .sl (lim (m1)).length (ints (lim (m1)))], .ag [.v (.bool (s2)), .sl (lim (m2)).length (ints (lim (m2)))]] [] (isA (.v (.bool ((s1 == s2) && decide (m1 = m2))))) := by
  refine Con.of_aw Tryz.func10 rfl Tryz.ntmps10 (by simp) (by simp) (by simp) (W.sound ?_)
  show @W Tryz.prog 17 ⟨_⟩ ⟨fun x σ => @retW _ _ _ ⟨_⟩ _ ⟨_⟩ x σ⟩ _ _
  cases hs : (s1 == s2)
  · simp (disch := omega) only [go_sem, hs]
    exact fin_valc (by simp (disch := omega) only [go_sem]) (by simp (disch := omega) only [go_sem]) isA_mk
  · simp (disch := omega) only [go_sem, hs]
    refine call_closed (con_sameNat m1 m2 l1 l2) (by simp (disch := omega) only [go_sem]) ?_
    rintro r hs ⟨rfl, rfl, _⟩
    refine ⟨by simp [freeN], ?_⟩
    simp (disch := omega) only [go_sem]
    exact fin_valc (by simp (disch := omega) only [go_sem]) (by simp (disch := omega) only [go_sem]) isA_mk

theorem con_sameDy (s1 : Bool) (m1 : Nat) (e1 : Int) (s2 : Bool) (m2 : Nat) (e2 : Int) (l1 : (lim m1).length ≤ 2 ^ 40) (l2 : (lim m2).length ≤ 2 ^ 40) : Con Tryz.prog 15 true [.ag [.v (.bool (s1)), .sl (lim (m1)).length (ints (lim (m1))), .v (.int .i64 (e1))], .ag [.v (.bool (s2)), .sl (lim (m2)).length (ints (lim (m2))), .v (.int .i64 (e2))]] [] (isA (.v (.bool (decide (e1 = e2) && ((s1 == s2) && decide (m1 = m2)))))) := by
  cases he : decide (e1 = e2)
  · have he' : ¬ e1 = e2 := by simpa using he
    refine Con.of_aw Tryz.func15 rfl Tryz.ntmps15 (by simp) (by simp) (by simp) (W.sound ?_)
    show @W Tryz.prog 17 ⟨_⟩ ⟨fun x σ => @retW _ _ _ ⟨_⟩ _ ⟨_⟩ x σ⟩ _ _
    simp (disch := omega) only [go_sem, he']
    exact fin_valc (by simp (disch := omega) only [go_sem]) (by simp (disch := omega) only [go_sem]) isA_mk
  · refine Con.of_aw Tryz.func15 rfl Tryz.ntmps15 (by simp) (by simp) (by simp) (W.sound ?_)
    show @W Tryz.prog 17 ⟨_⟩ ⟨fun x σ => @retW _ _ _ ⟨_⟩ _ ⟨_⟩ x σ⟩ _ _
    simp (disch := omega) only [go_sem, he]
    refine call_closed (con_sameWhole s1 m1 s2 m2 l1 l2) (by simp (disch := omega) only [go_sem]) ?_
    rintro r hs ⟨rfl, rfl, _⟩
    refine ⟨by simp [freeN], ?_⟩
    simp (disch := omega) only [go_sem]
    exact fin_valc (by simp (disch := omega) only [go_sem]) (by simp (disch := omega) only [go_sem]) isA_mk
end Go.Ab
namespace Go.Ab
open Go Go.Proofs
set_option linter.unusedVariables false
set_option linter.unusedSimpArgs false

theorem dyFit_gen {n : Nat} {e : Int} (hn : bl n ≤ 1500) (he : -3000 ≤ e ∧ e ≤ 1400) : dyFit n e = true := by
  have q4 := bl_mono (oM_le n)
  have l1 := len_bl (m := oM n) (B := 1500) (by omega)
  have q5 : -3000 ≤ oE n e ∧ oE n e ≤ 3000 := by
    unfold oE
    by_cases h : n = 0
    · rw [if_pos h]; omega
    · rw [if_neg h]; have := tz_lt_bl h; omega
  unfold dyFit natFit
  simp only [Bool.and_eq_true, decide_eq_true_eq]
  omega

/-- Some dyadic number, and whether: never, if it was not so far. -/
def someD (ok : Bool) : AV → List Ob → List Ob → Prop := fun r hs bs => hs = [] ∧ bs = [] ∧ ∃ (S : Bool) (M : Nat) (E : Int) (b : Bool), dyB S (lim M) E = true ∧ (ok = false → b = false) ∧ r = .tu [.ag [.v (.bool (S)), .sl (lim (M)).length (ints (lim (M))), .v (.int .i64 (E))], .v (.bool b)]

end Go.Ab
namespace Go.Ab
set_option linter.unusedVariables false
set_option linter.unusedSimpArgs false

/-- A number's whole part, rounded. -/
def ivM (s : Bool) (m : Nat) (e mode : Int) : Nat := roM s m e 0 mode * 2 ^ (roE m e 0).toNat

theorem roE_nn {m : Nat} {e : Int} (h : m ≠ 0 ∨ 0 ≤ e) : 0 ≤ roE m e 0 := by unfold roE; split <;> omega

theorem oE_pow {x k : Nat} : oE (x * 2 ^ k) 0 = oE x k := by
  have hp : 2 ^ k ≠ 0 := Nat.pos_iff_ne_zero.1 (Nat.pow_pos (by omega))
  unfold oE
  by_cases h : x = 0
  · rw [if_pos h, if_pos (by rw [h]; simp)]
  · rw [if_neg h, if_neg (Nat.mul_ne_zero h hp), tz_mul_pow h]; omega

theorem iv_form {s : Bool} {m : Nat} {e mode : Int} (h : m ≠ 0 ∨ 0 ≤ e) : oM (ivM s m e mode) = oM (roM s m e 0 mode) ∧ oE (ivM s m e mode) 0 = oE (roM s m e 0 mode) (roE m e 0) := by
  have := roE_nn h
  unfold ivM
  refine ⟨oM_pow, ?_⟩
  rw [oE_pow, Int.toNat_of_nonneg this]

theorem iv_zero {s : Bool} {m : Nat} {e mode : Int} : ivM s m e mode = 0 ↔ roM s m e 0 mode = 0 := by
  have hp : 2 ^ (roE m e 0).toNat ≠ 0 := Nat.pos_iff_ne_zero.1 (Nat.pow_pos (by omega))
  unfold ivM
  rw [Nat.mul_eq_zero]
  exact ⟨fun h => h.resolve_right hp, .inl⟩

theorem ro_zero {s : Bool} {e low mode : Int} : roM s 0 e low mode = 0 := by unfold roM; rw [if_pos (.inr rfl)]

theorem iv_dy {s : Bool} {m : Nat} {e mode : Int} (h : m = 0 → e = 0) :
    oM (roM (oS s m) (oM m) (oE m e) 0 mode) = oM (ivM s m e mode) ∧ oE (roM (oS s m) (oM m) (oE m e) 0 mode) (roE (oM m) (oE m e) 0) = oE (ivM s m e mode) 0 := by
  obtain ⟨i1, i2⟩ := @iv_form s m e mode (by by_cases h0 : m = 0 <;> omega)
  rw [i1, i2]
  by_cases h0 : m = 0
  · rw [h0, h h0, oM_zero, ro_zero, ro_zero]
    exact ⟨rfl, rfl⟩
  · obtain ⟨g1, g2, _⟩ := @ro_norm s m e 0 mode h0
    have : oS s m = s := by unfold oS; rw [if_neg h0]
    rw [this]
    exact ⟨g1.symm, g2.symm⟩

theorem iv_sgn {s : Bool} {m : Nat} {e mode : Int} (h : m = 0 → e = 0) :
    oS (roS (oS s m) (oM m) (oE m e) 0 mode) (roM (oS s m) (oM m) (oE m e) 0 mode) = oS (roS s m e 0 mode && decide (ivM s m e mode ≠ 0)) (ivM s m e mode) := by
  obtain ⟨i1, i2⟩ := @iv_dy s m e mode h
  have hz : roM (oS s m) (oM m) (oE m e) 0 mode = 0 ↔ ivM s m e mode = 0 := by rw [← oM_eq_zero, i1, oM_eq_zero]
  by_cases h0 : ivM s m e mode = 0
  · have h1 := hz.2 h0
    unfold oS
    rw [if_pos h0]
    exact if_pos h1
  · have h1 : ¬ roM (oS s m) (oM m) (oE m e) 0 mode = 0 := fun e => h0 (hz.1 e)
    have h2 : ¬ roM s m e 0 mode = 0 := fun e => h0 (iv_zero.2 e)
    have hm : m ≠ 0 := fun e0 => h2 (by rw [e0]; exact ro_zero)
    have hs : oS s m = s := by unfold oS; rw [if_neg hm]
    rw [hs] at h1 ⊢
    have r1 : roS s (oM m) (oE m e) 0 mode = s := by
      unfold roS
      split
      · rfl
      · rename_i hc
        unfold roM at h1; rw [if_neg hc] at h1
        rw [decide_eq_true h1, Bool.and_true]
    have r2 : roS s m e 0 mode = s := by
      unfold roS
      split
      · rfl
      · rename_i hc
        unfold roM at h2; rw [if_neg hc] at h2
        rw [decide_eq_true h2, Bool.and_true]
    rw [r1, r2, decide_eq_true h0, Bool.and_true]
    unfold oS
    rw [if_neg h1, if_neg h0]

theorem nat_form {a b : Nat} (h1 : oM a = oM b) (h2 : oE a 0 = oE b 0) : a = b := by
  by_cases h : a = 0
  · have : oM b = 0 := by rw [← h1, h, oM_zero]
    rw [h, oM_eq_zero.1 this]
  · have hb : b ≠ 0 := fun e => h (oM_eq_zero.1 (by rw [h1, e, oM_zero]))
    unfold oE at h2
    rw [if_neg h, if_neg hb] at h2
    have e1 := @oM_mul a
    have e2 := @oM_mul b
    have : tz a = tz b := by omega
    rw [← e1, ← e2, h1, this]

/-- What is whole is not changed. -/
theorem iv_int {K : Nat} {s : Bool} {m : Nat} {e : Int} {s' : Bool} {N : Nat} (mode : Int) (he : -(K : Int) ≤ e) (h : dv K s m e = dv K s' N 0) : ivM s m e mode = N ∧ (N ≠ 0 → roS s m e 0 mode = s') := by
  by_cases h0 : m = 0
  · have hN : N = 0 := by rw [h0, dv_zero] at h; exact dv_eq_zero.1 h.symm
    rw [iv_zero.2 (by rw [h0]; exact ro_zero), hN]
    exact ⟨rfl, fun h => absurd rfl h⟩
  · obtain ⟨rfl, hM, hE, hN⟩ := dv_inj h0 he (by omega) h
    obtain ⟨i1, i2⟩ := @iv_form s m e mode (.inl h0)
    obtain ⟨g1, g2, _⟩ := @ro_norm s m e 0 mode h0
    obtain ⟨j1, j2, _⟩ := @ro_norm s N 0 0 mode hN
    have k1 : roM s N 0 0 mode = N := by unfold roM; rw [if_pos (.inl (by omega))]
    have k2 : roE N 0 0 = 0 := by unfold roE; rw [if_pos (.inl (by omega))]
    rw [← hM, ← hE, ← g1, ← i1, k1] at j1
    rw [← hM, ← hE, ← g2, ← i2, k1, k2] at j2
    have hiv := nat_form j1.symm j2.symm
    refine ⟨hiv, fun _ => ?_⟩
    have h2 : ¬ roM s m e 0 mode = 0 := fun e0 => hN (by rw [← hiv]; exact iv_zero.2 e0)
    unfold roS
    split
    · rfl
    · rename_i hc
      unfold roM at h2; rw [if_neg hc] at h2
      rw [decide_eq_true h2, Bool.and_true]

theorem iv_bl {s : Bool} {m : Nat} {e mode : Int} (h : m < 2 ^ 53) (he : e ≤ 971) : bl (ivM s m e mode) ≤ 1100 := by
  have hb : bl m ≤ 53 := bl_le.2 h
  have h1 := @ro_bl s m e 0 mode 53 hb
  have h2 := bl_up (roM s m e 0 mode) (roE m e 0).toNat
  have h3 : roE m e 0 ≤ 971 := by unfold roE; split <;> omega
  unfold ivM
  omega

/-- Rounding what needs none. -/
theorem ro_exact {K : Nat} {s : Bool} {m : Nat} {e low mode : Int} (he : -(K : Int) ≤ e) (h : roX m e low = true) : dv K s (roM s m e low mode) (roE m e low) = dv K s m e := by
  unfold roX at h
  unfold roM roE
  split
  · rfl
  · rename_i hc
    rw [if_neg hc] at h
    have h' : m % 2 ^ (low - e).toNat = 0 := by simpa using h
    have hq : rq s m (2 ^ (low - e).toNat) mode = m / 2 ^ (low - e).toNat := by unfold rq; rw [if_pos h']
    rw [hq]
    have hm : m / 2 ^ (low - e).toNat * 2 ^ (low - e).toNat = m := by
      have := Nat.div_add_mod' m (2 ^ (low - e).toNat); omega
    generalize m / 2 ^ (low - e).toNat = q at *
    unfold dv
    rw [← hm, show (low + (K : Int)).toNat = (low - e).toNat + (e + (K : Int)).toNat by omega, Int.pow_add, ← Int.mul_assoc]
    congr 1
    cases s <;> simp [sv, Int.neg_mul]

theorem fl_int {N : Nat} (s : Bool) (mode : Int) (hN : N ≤ 2 ^ 63) :
    flB (flV s N 0 mode false).k (flV s N 0 mode false).s (flV s N 0 mode false).m (flV s N 0 mode false).e = true ∧ ((flV s N 0 mode false).k = 0 ∨ (flV s N 0 mode false).k = 1) ∧ (N < 2 ^ 53 → flG s N 0 mode = 0) ∧
      (flG s N 0 mode = 0 → dv 1074 (xS (flV s N 0 mode false).k (flV s N 0 mode false).s) (flV s N 0 mode false).m.toNat (flV s N 0 mode false).e = dv 1074 s N 0) := by
  by_cases h0 : N = 0
  · subst h0
    unfold flV flG
    rw [if_pos rfl, if_pos rfl]
    exact ⟨flB_zero false, .inl rfl, fun _ => rfl, fun _ => by rw [dv_zero]; exact dv_zero⟩
  · have hb : bl N ≤ 64 := bl_le.2 (by omega)
    unfold flV flG
    rw [if_neg h0, if_neg h0]
    have hform := @ro_form s N 0 mode h0
    have hrb := @ro_bl s N 0 (flLow ((bl N : Int) + 0)) mode 64 hb
    have hlow : flLow ((bl N : Int) + 0) ≤ 11 ∧ -1074 ≤ flLow ((bl N : Int) + 0) ∧ (bl N ≤ 53 → flLow ((bl N : Int) + 0) ≤ 0) := by unfold flLow; split <;> omega
    have hre : roE N 0 (flLow ((bl N : Int) + 0)) ≤ 11 ∧ 0 ≤ roE N 0 (flLow ((bl N : Int) + 0)) := by unfold roE; split <;> omega
    have hx := @ro_exact 1074 s N 0 (flLow ((bl N : Int) + 0)) mode (by omega)
    have hx2 : bl N ≤ 53 → roX N 0 (flLow ((bl N : Int) + 0)) = true := fun h => by unfold roX; rw [if_pos (.inl (hlow.2.2 h))]
    generalize roM s N 0 (flLow ((bl N : Int) + 0)) mode = rm at *
    generalize roE N 0 (flLow ((bl N : Int) + 0)) = re at *
    generalize roX N 0 (flLow ((bl N : Int) + 0)) = rx at *
    have ht : (bl rm : Int) + re ≤ 1024 := by omega
    have nt : ¬ 1024 < (bl rm : Int) + re := by omega
    have hG : flFl ((bl N : Int) + 0) rx rm re = flFlags ((bl N : Int) + 0) rx := by unfold flFl; rw [if_neg (by omega)]
    rw [hG]
    have hF : flFlags ((bl N : Int) + 0) rx = 0 ↔ rx = true := by
      unfold flFlags
      cases rx
      · rw [if_neg (by simp)]; split <;> simp
      · simp
    by_cases hr : rm = 0
    · subst hr
      have e1 : flK s mode 0 re = 0 := by unfold flK; simp
      have e2 : flMm s mode 0 re = 0 := by unfold flMm; simp
      have e3 : flEe s mode 0 re = 0 := by unfold flEe; simp
      dsimp only
      rw [e1, e2, e3]
      refine ⟨flB_zero s, .inl rfl, fun h => hF.2 (hx2 (bl_le.2 (by omega))), fun h => ?_⟩
      rw [← hx (hF.1 h), dv_zero]
      exact dv_zero
    · have e1 : flK s mode rm re = 1 := by unfold flK; rw [if_neg hr, if_neg nt]
      have e2 : flMm s mode rm re = (flM rm re : Int) := by unfold flMm; rw [if_neg hr, if_neg nt]
      have e3 : flEe s mode rm re = flE rm re := by unfold flEe; rw [if_neg hr, if_neg nt]
      dsimp only
      rw [e1, e2, e3]
      obtain ⟨f1, f2⟩ := fl_form (s := s) hr ht (hform hr) (by omega)
      refine ⟨f1, .inr rfl, fun h => hF.2 (hx2 (bl_le.2 (by omega))), fun h => ?_⟩
      rw [Int.toNat_natCast, ← hx (hF.1 h), ← f2]
      unfold xS; simp
end Go.Ab
namespace Go.Ab
open Go Go.Proofs
set_option linter.unusedVariables false
set_option linter.unusedSimpArgs false

theorem con_areFloats1 (mode k1 : Int) (s1 : Bool) (m1 e1 : Int) :
    Con Tryz.prog 41 true [.v (.int .i64 mode), .sl 1 [.v (.int .i64 k1), .v (.bool s1), .v (.int .i64 m1), .v (.int .i64 e1)]] []
      (isA (.v (.bool (modeB mode && flB k1 s1 m1 e1)))) := by
  have := con_areFloats mode [⟨k1, s1, m1, e1⟩] (by simp)
  simp only [List.all_cons, List.all_nil, Bool.and_true] at this
  exact this

theorem con_isLow (n : Int) : Con Tryz.prog 52 true [.v (.int .i64 n)] [] (isA (.v (.bool (decide (-3000 ≤ n) && decide (n ≤ 3000))))) := by
  refine Con.of_aw Tryz.func52 rfl Tryz.ntmps52 (by simp) (by simp) (by simp) (W.sound ?_)
  show @W Tryz.prog 5 ⟨_⟩ ⟨fun x σ => @retW _ _ _ ⟨_⟩ _ ⟨_⟩ x σ⟩ _ _
  simp (disch := omega) only [go_sem]
  refine call_closed (con_withinI n (-3000) 3000) (by simp (disch := omega) only [go_sem]) ?_
  rintro r hs ⟨rfl, rfl, _⟩
  refine ⟨by simp [freeN], ?_⟩
  simp (disch := omega) only [go_sem]
  exact fin_valc (by simp (disch := omega) only [go_sem]) (by simp (disch := omega) only [go_sem]) isA_mk

theorem con_FlToInt (k : Int) (s : Bool) (m e mode : Int) : Con Tryz.prog 9 false [.ag [.v (.int .i64 (k)), .v (.bool (s)), .v (.int .i64 (m)), .v (.int .i64 (e))], .v (.int .i64 mode)] []
    (isA (if (modeB mode && flB k s m e && (decide (k = 0) || decide (k = 1))) = true then .tu [.ag [.v (.bool (roS (xS k s) m.toNat e 0 mode && decide (ivM (xS k s) m.toNat e mode ≠ 0))), .sl (lim (ivM (xS k s) m.toNat e mode)).length (ints (lim (ivM (xS k s) m.toNat e mode)))], .v (.bool true)] else .tu [.ag [.v (.bool (false)), .sl (lim (0)).length (ints (lim (0)))], .v (.bool false)])) := by
  refine Con.frzA ?_
  have ca := con_areFloats1 mode k s m e
  cases hv : (modeB mode && flB k s m e)
  · rw [hv] at ca
    rw [Bool.false_and, if_neg (by simp), lim_zero]
    refine Con.of_aw Tryz.func9 rfl Tryz.ntmps9 (by simp) (by simp) (by simp) (W.sound ?_)
    show @W Tryz.prog 36 ⟨_⟩ ⟨fun x σ => @retW _ _ _ ⟨_⟩ _ ⟨_⟩ x σ⟩ _ _
    simp (disch := omega) only [go_sem]
    refine call_closed (ca) (by simp (disch := omega) only [go_sem]) ?_
    rintro r hs ⟨rfl, rfl, _⟩
    refine ⟨by simp [freeN], ?_⟩
    simp (disch := omega) only [go_sem]
    refine fin_val (by simp (disch := omega) only [go_sem]) ?_
    show snap _ 6 _ = _
    simp (disch := omega) only [go_sem]
  · rw [hv] at ca
    cases hf : (decide (k = 0) || decide (k = 1))
    · rw [Bool.and_false, if_neg (by simp), lim_zero]
      refine Con.of_aw Tryz.func9 rfl Tryz.ntmps9 (by simp) (by simp) (by simp) (W.sound ?_)
      show @W Tryz.prog 36 ⟨_⟩ ⟨fun x σ => @retW _ _ _ ⟨_⟩ _ ⟨_⟩ x σ⟩ _ _
      simp (disch := omega) only [go_sem]
      refine call_closed (ca) (by simp (disch := omega) only [go_sem]) ?_
      rintro r hs ⟨rfl, rfl, _⟩
      refine ⟨by simp [freeN], ?_⟩
      simp (disch := omega) only [go_sem]
      refine call_closed (con_isFinite k s m e) (by simp (disch := omega) only [go_sem]) ?_
      rintro r hs ⟨rfl, rfl, _⟩
      refine ⟨by simp [freeN], ?_⟩
      simp (disch := omega) only [go_sem]
      simp (disch := omega) only [go_sem, hf]
      refine fin_val (by simp (disch := omega) only [go_sem]) ?_
      show snap _ 6 _ = _
      simp (disch := omega) only [go_sem]
    · rw [Bool.and_true, if_pos rfl]
      rw [Bool.and_eq_true] at hv
      obtain ⟨a1, a2, a3, a4, a5, a6⟩ := flB_rng hv.2
      obtain ⟨n, rfl⟩ := Int.eq_ofNat_of_zero_le a1.1
      rw [Int.toNat_natCast]
      have hb : bl n ≤ 53 := bl_le.2 (by omega)
      have ce : roE n e 0 = (((roE n e 0).toNat : Nat) : Int) := by
        refine (Int.toNat_of_nonneg (roE_nn ?_)).symm
        by_cases h1 : k = 1
        · have := a5 h1; omega
        · have := a4 h1; omega
      have hle : roE n e 0 ≤ 971 := by unfold roE; split <;> omega
      have hiv := @iv_bl (xS k s) n e mode (by omega) (by omega)
      have l1 := len_bl hiv
      have lr := len_bl (@ro_bl (xS k s) n e 0 mode 53 hb)
      have cr := con_rounded (xS k s) n e 0 mode (by omega) (by omega) (by omega)
      have cu := con_upN (roM (xS k s) n e 0 mode) (roE n e 0).toNat (by omega) (by omega)
      rw [← ce, show roM (xS k s) n e 0 mode * 2 ^ (roE n e 0).toNat = ivM (xS k s) n e mode from rfl] at cu
      have cfx := con_flexact k s n e (by omega)
      rw [show (s && decide (k = 1)) = xS k s from rfl] at cfx
      have cw := con_wholeOf (roS (xS k s) n e 0 mode) (ivM (xS k s) n e mode) (by omega)
      rw [if_pos (by unfold natFit; rw [decide_eq_true_eq]; omega)] at cw
      refine Con.of_aw Tryz.func9 rfl Tryz.ntmps9 (by simp) (by simp) (by simp) (W.sound ?_)
      show @W Tryz.prog 36 ⟨_⟩ ⟨fun x σ => @retW _ _ _ ⟨_⟩ _ ⟨_⟩ x σ⟩ _ _
      simp (disch := omega) only [go_sem]
      refine call_closed (ca) (by simp (disch := omega) only [go_sem]) ?_
      rintro r hs ⟨rfl, rfl, _⟩
      refine ⟨by simp [freeN], ?_⟩
      simp (disch := omega) only [go_sem]
      refine call_closed (con_isFinite k s (n : Int) e) (by simp (disch := omega) only [go_sem]) ?_
      rintro r hs ⟨rfl, rfl, _⟩
      refine ⟨by simp [freeN], ?_⟩
      simp (disch := omega) only [go_sem]
      simp (disch := omega) only [go_sem, hf]
      refine call_open (cfx) (by simp (disch := omega) only [go_sem]) ?_
      rintro r hs ⟨rfl, rfl, _⟩
      refine ⟨by simp [freeN], ?_⟩
      simp (disch := omega) only [go_sem]
      refine call_open (cr) (by simp (disch := omega) only [go_sem]) ?_
      rintro r hs ⟨rfl, rfl, _⟩
      refine ⟨by simp [freeN], ?_⟩
      simp (disch := omega) only [go_sem]
      refine draw_of rfl [⟨0, [], []⟩, ⟨1, [], []⟩, ⟨2, [1], []⟩, ⟨3, [1], []⟩, ⟨4, [1, 3], []⟩, ⟨5, [1, 3], []⟩, ⟨6, [1], []⟩, ⟨7, [], []⟩, ⟨8, [], []⟩, ⟨9, [], []⟩, ⟨10, [], []⟩, ⟨11, [], []⟩] (by kernel_rfl) ?_
      simp (disch := omega) only [go_sem]
      refine call_open (cu) (by simp (disch := omega) only [go_sem]) ?_
      rintro r hs ⟨rfl, rfl, _⟩
      refine ⟨by simp [freeN], ?_⟩
      simp (disch := omega) only [go_sem]
      refine call_open (cw) (by simp (disch := omega) only [go_sem]) ?_
      rintro r hs ⟨rfl, rfl, _⟩
      refine ⟨by simp [freeN], ?_⟩
      simp (disch := omega) only [go_sem]
      refine fin_val (by simp (disch := omega) only [go_sem]) ?_
      show snap _ 6 _ = _
      simp (disch := omega) only [go_sem]

theorem con_DyRound (s : Bool) (m : Nat) (e mode : Int) (h : dyB s (lim m) e = true) (hm : modeB mode = true) (hf : dyFit (roM s m e 0 mode) (roE m e 0) = true) : Con Tryz.prog 13 false [.ag [.v (.bool (s)), .sl (lim (m)).length (ints (lim (m))), .v (.int .i64 (e))], .v (.int .i64 0), .v (.int .i64 mode)] []
    (isA (.tu [.ag [.v (.bool (oS (roS s m e 0 mode) (roM s m e 0 mode))), .sl (lim (oM (roM s m e 0 mode))).length (ints (lim (oM (roM s m e 0 mode)))), .v (.int .i64 (oE (roM s m e 0 mode) (roE m e 0)))], .v (.bool (roX m e 0)), .v (.bool true)])) := by
  refine Con.frzA ?_
  obtain ⟨n, q, b1, c1, d1, _, f1⟩ := dyB_lim h
  obtain rfl := lim_inj q
  have k1 := con_dyok s (lim m) e (by omega)
  rw [h] at k1
  have km := con_isMode mode
  have hm' := hm
  unfold modeB at hm'
  rw [hm'] at km
  have cr := con_rounded s m e 0 mode (by omega) (by omega) (by omega)
  have cd := con_dyX (roS s m e 0 mode) (roM s m e 0 mode) (roE m e 0) (by have := @ro_bl s m e 0 mode 1600 c1; omega) (by unfold roE; split <;> omega)
  rw [hf, if_pos rfl] at cd
  refine Con.of_aw Tryz.func13 rfl Tryz.ntmps13 (by simp) (by simp) (by simp) (W.sound ?_)
  show @W Tryz.prog 46 ⟨_⟩ ⟨fun x σ => @retW _ _ _ ⟨_⟩ _ ⟨_⟩ x σ⟩ _ _
  simp (disch := omega) only [go_sem]
  refine call_closed (k1) (by simp (disch := omega) only [go_sem]) ?_
  rintro r hs ⟨rfl, rfl, _⟩
  refine ⟨by simp [freeN], ?_⟩
  simp (disch := omega) only [go_sem]
  refine call_closed (con_isLow 0) (by simp (disch := omega) only [go_sem]) ?_
  rintro r hs ⟨rfl, rfl, _⟩
  refine ⟨by simp [freeN], ?_⟩
  simp (disch := omega) only [go_sem]
  refine call_closed (km) (by simp (disch := omega) only [go_sem]) ?_
  rintro r hs ⟨rfl, rfl, _⟩
  refine ⟨by simp [freeN], ?_⟩
  simp (disch := omega) only [go_sem]
  refine call_open (con_dyexact s m e) (by simp (disch := omega) only [go_sem]) ?_
  rintro r hs ⟨rfl, rfl, _⟩
  refine ⟨by simp [freeN], ?_⟩
  simp (disch := omega) only [go_sem]
  refine call_open (cr) (by simp (disch := omega) only [go_sem]) ?_
  rintro r hs ⟨rfl, rfl, _⟩
  refine ⟨by simp [freeN], ?_⟩
  simp (disch := omega) only [go_sem]
  refine call_open (cd) (by simp (disch := omega) only [go_sem]) ?_
  rintro r hs ⟨rfl, rfl, _⟩
  refine ⟨by simp [freeN], ?_⟩
  simp (disch := omega) only [go_sem]
  cases hx : roX m e 0
  · simp (disch := omega) only [go_sem]
    refine fin_val (by simp (disch := omega) only [go_sem]) ?_
    show snap _ 6 _ = _
    simp (disch := omega) only [go_sem]
  · simp (disch := omega) only [go_sem]
    refine fin_val (by simp (disch := omega) only [go_sem]) ?_
    show snap _ 6 _ = _
    simp (disch := omega) only [go_sem]
end Go.Ab
namespace Go.Ab
open Go Go.Proofs
set_option linter.unusedVariables false
set_option linter.unusedSimpArgs false

/-- A cursor over the bytes of a draw. -/
def curO (l : List UInt8) (i h : Int) : Ob := .own 0 [.sl l.length (bytesA l), .v (.int .i64 i), .v (.int .i64 h)]
/-- What is drawn is as told; the cursor goes on. -/
def curR (l : List UInt8) (Q : AV → Prop) : AV → List Ob → List Ob → Prop := fun r hs bs => hs = [] ∧ Q r ∧ ∃ i h : Int, (0 ≤ i ∧ i ≤ l.length) ∧ bs = [.own 0 [.sl l.length (bytesA l), .v (.int .i64 i), .v (.int .i64 h)]]

section
variable (l : List UInt8) (hl : l.length ≤ 9223372036854775807) (i h : Int) (hi : 0 ≤ i ∧ i ≤ l.length)
include hl hi

theorem con_l1Byte : Con Tryz.prog 77 false [.pt 10000000 0] [.own 0 [.sl l.length (bytesA l), .v (.int .i64 i), .v (.int .i64 h)]] (curR l fun r => ∃ k : Int, (0 ≤ k ∧ k ≤ 255) ∧ r = .v (.int .i64 k)) := by
  refine Con.of_aw Tryz.func77 rfl Tryz.ntmps77 (by simp) (by simp) (by simp) (W.sound ?_)
  show @W Tryz.prog 58 ⟨_⟩ ⟨fun x σ => @retW _ _ _ ⟨_⟩ _ ⟨_⟩ x σ⟩ _ _
  simp (disch := omega) only [go_sem]
  generalize IntKind.i64.wrap (IntKind.i64.wrap (h * 6364136223846793005) + 1442695040888963407) = h1
  refine draw_of rfl [⟨0, [], []⟩, ⟨1, [], []⟩, ⟨2, [], []⟩, ⟨3, [], []⟩, ⟨4, [], []⟩, ⟨5, [3], []⟩, ⟨6, [3], []⟩, ⟨7, [3], []⟩, ⟨8, [3], []⟩, ⟨9, [3], []⟩, ⟨10, [], []⟩, ⟨11, [], []⟩, ⟨12, [], []⟩] (by kernel_rfl) ?_
  simp (disch := omega) only [go_sem]
  generalize xorI (h1.fdiv (2 ^ min 33 64)) (h1.fdiv (2 ^ min 45 64)) = y
  have hy : 0 ≤ y % 256 ∧ y % 256 < 256 := by omega
  generalize y % 256 = x at *
  refine draw_of rfl [⟨0, [], []⟩, ⟨1, [], []⟩, ⟨2, [], []⟩, ⟨3, [], []⟩, ⟨4, [3], []⟩, ⟨5, [3], []⟩, ⟨6, [3], []⟩, ⟨7, [3], []⟩, ⟨8, [3], []⟩, ⟨9, [], []⟩] (by kernel_rfl) ?_
  simp (disch := omega) only [go_sem]
  refine ifW_dec (fun c1 => ?_) (fun c1 => ?_)
  · simp (disch := omega) only [go_sem, c1]
    refine draw_of rfl [⟨0, [], []⟩, ⟨1, [], []⟩, ⟨2, [], []⟩, ⟨3, [], []⟩, ⟨4, [], []⟩, ⟨5, [4], []⟩, ⟨6, [4], []⟩, ⟨7, [4], []⟩, ⟨8, [4], []⟩, ⟨9, [], []⟩, ⟨10, [], []⟩, ⟨11, [], []⟩, ⟨12, [], []⟩, ⟨13, [], []⟩, ⟨14, [], []⟩] (by kernel_rfl) ?_
    simp (disch := omega) only [go_sem]
    refine ⟨by omega, by omega, ?_⟩
    generalize IntKind.i64.wrap (x + IntKind.i64.wrap ((l.getD i.toNat 0).toNat : Int)) = y2
    have hy2 : 0 ≤ y2 % 256 ∧ y2 % 256 < 256 := by omega
    refine fin_intro [] [] [.own 0 [.sl l.length (bytesA l), .v (.int .i64 (i + 1)), .v (.int .i64 (h1))]] [.v (.int .i64 (y2 % 256))] rfl (by simp (disch := omega) only [go_sem]) (by simp (disch := omega) only [go_sem]) (by simp) (by simp) ⟨rfl, ⟨_, by omega, rfl⟩, _, _, by omega, rfl⟩
  · simp (disch := omega) only [go_sem, c1]
    refine fin_intro [] [] [.own 0 [.sl l.length (bytesA l), .v (.int .i64 (i)), .v (.int .i64 (h1))]] [.v (.int .i64 x)] rfl (by simp (disch := omega) only [go_sem]) (by simp (disch := omega) only [go_sem]) (by simp) (by simp) ⟨rfl, ⟨_, by omega, rfl⟩, _, _, by omega, rfl⟩

theorem con_l1Below (n : Int) (hn : n ≤ 2 ^ 62) : Con Tryz.prog 34 false [.pt 10000000 0, .v (.int .i64 n)] [.own 0 [.sl l.length (bytesA l), .v (.int .i64 i), .v (.int .i64 h)]] (curR l fun r => ∃ k : Int, (0 ≤ k ∧ (0 < n → k < n)) ∧ r = .v (.int .i64 k)) := by
  refine Con.of_aw Tryz.func34 rfl Tryz.ntmps34 (by simp) (by simp) (by simp) (W.sound ?_)
  show @W Tryz.prog 37 ⟨_⟩ ⟨fun x σ => @retW _ _ _ ⟨_⟩ _ ⟨_⟩ x σ⟩ _ _
  simp (disch := omega) only [go_sem]
  refine ifW_dec (fun c1 => ?_) (fun c1 => ?_)
  · simp (disch := omega) only [go_sem, c1]
    refine fin_intro [] [] [.own 0 [.sl l.length (bytesA l), .v (.int .i64 (i)), .v (.int .i64 (h))]] [.v (.int .i64 0)] rfl (by simp (disch := omega) only [go_sem]) (by simp (disch := omega) only [go_sem]) (by simp) (by simp) ⟨rfl, ⟨_, ⟨by omega, fun h => by omega⟩, rfl⟩, _, _, by omega, rfl⟩
  · simp (disch := omega) only [go_sem, c1]
    refine ifW_dec (fun c2 => ?_) (fun c2 => ?_)
    · simp (disch := omega) only [go_sem, c2]
      refine call_lent false [10000000] (con_l1Byte l hl i h hi) (by simp (disch := omega) only [go_sem]) (by simp (disch := omega) only [go_sem]) rfl (lend_cons (z := 0) (cs := [.sl l.length (bytesA l), .v (.int .i64 (i)), .v (.int .i64 (h))]) (by simp (disch := omega) only [go_sem]) (by simp (disch := omega) only [go_sem])) (by intro n hn; exact ⟨_, List.mem_cons_self .., by rw [List.mem_singleton.1 hn]; rfl⟩) ?_
      rintro r hs bs ⟨rfl, ⟨k1, hk1, rfl⟩, i1, h1, hi1, rfl⟩ -
      refine ⟨by simp [freeN], ?_⟩
      simp (disch := omega) only [go_sem]
      refine ⟨by omega, ?_⟩
      have hm := Int.emod_nonneg k1 (show n ≠ 0 by omega)
      have hm2 := Int.emod_lt_of_pos k1 (show 0 < n by omega)
      refine fin_intro [] [] [.own 0 [.sl l.length (bytesA l), .v (.int .i64 (i1)), .v (.int .i64 (h1))]] [.v (.int .i64 (k1 % n))] rfl (by simp (disch := omega) only [go_sem]) (by simp (disch := omega) only [go_sem]) (by simp) (by simp) ⟨rfl, ⟨_, ⟨hm, fun _ => hm2⟩, rfl⟩, _, _, by omega, rfl⟩
    · simp (disch := omega) only [go_sem, c2]
      refine call_lent false [10000000] (con_l1Byte l hl i h hi) (by simp (disch := omega) only [go_sem]) (by simp (disch := omega) only [go_sem]) rfl (lend_cons (z := 0) (cs := [.sl l.length (bytesA l), .v (.int .i64 (i)), .v (.int .i64 (h))]) (by simp (disch := omega) only [go_sem]) (by simp (disch := omega) only [go_sem])) (by intro n hn; exact ⟨_, List.mem_cons_self .., by rw [List.mem_singleton.1 hn]; rfl⟩) ?_
      rintro r hs bs ⟨rfl, ⟨k1, hk1, rfl⟩, i1, h1, hi1, rfl⟩ -
      refine ⟨by simp [freeN], ?_⟩
      simp (disch := omega) only [go_sem]
      refine call_lent false [10000000] (con_l1Byte l hl i1 h1 hi1) (by simp (disch := omega) only [go_sem]) (by simp (disch := omega) only [go_sem]) rfl (lend_cons (z := 0) (cs := [.sl l.length (bytesA l), .v (.int .i64 (i1)), .v (.int .i64 (h1))]) (by simp (disch := omega) only [go_sem]) (by simp (disch := omega) only [go_sem])) (by intro n hn; exact ⟨_, List.mem_cons_self .., by rw [List.mem_singleton.1 hn]; rfl⟩) ?_
      rintro r hs bs ⟨rfl, ⟨k2, hk2, rfl⟩, i2, h2, hi2, rfl⟩ -
      refine ⟨by simp [freeN], ?_⟩
      simp (disch := omega) only [go_sem]
      refine call_lent false [10000000] (con_l1Byte l hl i2 h2 hi2) (by simp (disch := omega) only [go_sem]) (by simp (disch := omega) only [go_sem]) rfl (lend_cons (z := 0) (cs := [.sl l.length (bytesA l), .v (.int .i64 (i2)), .v (.int .i64 (h2))]) (by simp (disch := omega) only [go_sem]) (by simp (disch := omega) only [go_sem])) (by intro n hn; exact ⟨_, List.mem_cons_self .., by rw [List.mem_singleton.1 hn]; rfl⟩) ?_
      rintro r hs bs ⟨rfl, ⟨k3, hk3, rfl⟩, i3, h3, hi3, rfl⟩ -
      refine ⟨by simp [freeN], ?_⟩
      simp (disch := omega) only [go_sem]
      refine call_lent false [10000000] (con_l1Byte l hl i3 h3 hi3) (by simp (disch := omega) only [go_sem]) (by simp (disch := omega) only [go_sem]) rfl (lend_cons (z := 0) (cs := [.sl l.length (bytesA l), .v (.int .i64 (i3)), .v (.int .i64 (h3))]) (by simp (disch := omega) only [go_sem]) (by simp (disch := omega) only [go_sem])) (by intro n hn; exact ⟨_, List.mem_cons_self .., by rw [List.mem_singleton.1 hn]; rfl⟩) ?_
      rintro r hs bs ⟨rfl, ⟨k4, hk4, rfl⟩, i4, h4, hi4, rfl⟩ -
      refine ⟨by simp [freeN], ?_⟩
      simp (disch := omega) only [go_sem]
      refine ⟨by omega, ?_⟩
      have hm := Int.emod_nonneg (k1 * 16777216 + k2 * 65536 + k3 * 256 + k4) (show n ≠ 0 by omega)
      have hm2 := Int.emod_lt_of_pos (k1 * 16777216 + k2 * 65536 + k3 * 256 + k4) (show 0 < n by omega)
      refine fin_intro [] [] [.own 0 [.sl l.length (bytesA l), .v (.int .i64 (i4)), .v (.int .i64 (h4))]] [.v (.int .i64 ((k1 * 16777216 + k2 * 65536 + k3 * 256 + k4) % n))] rfl (by simp (disch := omega) only [go_sem]) (by simp (disch := omega) only [go_sem]) (by simp) (by simp) ⟨rfl, ⟨_, ⟨hm, fun _ => hm2⟩, rfl⟩, _, _, by omega, rfl⟩

theorem con_l1Once (n : Int) (hn : n ≤ 2 ^ 62) : Con Tryz.prog 70 false [.pt 10000000 0, .v (.int .i64 n)] [.own 0 [.sl l.length (bytesA l), .v (.int .i64 i), .v (.int .i64 h)]] (curR l fun r => ∃ b : Bool, r = .v (.bool b)) := by
  refine Con.of_aw Tryz.func70 rfl Tryz.ntmps70 (by simp) (by simp) (by simp) (W.sound ?_)
  show @W Tryz.prog 9 ⟨_⟩ ⟨fun x σ => @retW _ _ _ ⟨_⟩ _ ⟨_⟩ x σ⟩ _ _
  simp (disch := omega) only [go_sem]
  refine call_lent false [10000000] (con_l1Below l hl i h hi n hn) (by simp (disch := omega) only [go_sem]) (by simp (disch := omega) only [go_sem]) rfl (lend_cons (z := 0) (cs := [.sl l.length (bytesA l), .v (.int .i64 (i)), .v (.int .i64 (h))]) (by simp (disch := omega) only [go_sem]) (by simp (disch := omega) only [go_sem])) (by intro n hn; exact ⟨_, List.mem_cons_self .., by rw [List.mem_singleton.1 hn]; rfl⟩) ?_
  rintro r hs bs ⟨rfl, ⟨k1, hk1, rfl⟩, i1, h1, hi1, rfl⟩ -
  refine ⟨by simp [freeN], ?_⟩
  simp (disch := omega) only [go_sem]
  refine fin_intro [] [] [.own 0 [.sl l.length (bytesA l), .v (.int .i64 (i1)), .v (.int .i64 (h1))]] [.v (.bool (decide (k1 = 0)))] rfl (by simp (disch := omega) only [go_sem]) (by simp (disch := omega) only [go_sem]) (by simp) (by simp) ⟨rfl, ⟨_, rfl⟩, _, _, by omega, rfl⟩

/-- As above; the list stays. -/
def curL (l : List UInt8) (xs : List Int) (Q : AV → Prop) : AV → List Ob → List Ob → Prop := fun r hs bs => hs = [] ∧ Q r ∧ ∃ i h : Int, (0 ≤ i ∧ i ≤ l.length) ∧ bs = [.own 0 [.sl l.length (bytesA l), .v (.int .i64 i), .v (.int .i64 h)], .own 1 (ints xs)]

theorem con_l1PickInt (xs : List Int) (h0 : 0 < xs.length) (h1 : xs.length ≤ 2 ^ 40) : Con Tryz.prog 33 false [.pt 10000000 0, .rf 10000001 0 xs.length] [.own 0 [.sl l.length (bytesA l), .v (.int .i64 i), .v (.int .i64 h)], .own 1 (ints xs)] (curL l xs fun r => ∃ x ∈ xs, r = .v (.int .i64 x)) := by
  refine Con.of_aw Tryz.func33 rfl Tryz.ntmps33 (by simp) (by simp) (by simp) (W.sound ?_)
  show @W Tryz.prog 12 ⟨_⟩ ⟨fun x σ => @retW _ _ _ ⟨_⟩ _ ⟨_⟩ x σ⟩ _ _
  simp (disch := omega) only [go_sem]
  refine call_lent false [10000000] (con_l1Below l hl i h hi xs.length (by omega)) (by simp (disch := omega) only [go_sem]) (by simp (disch := omega) only [go_sem]) rfl (lend_cons (z := 0) (cs := [.sl l.length (bytesA l), .v (.int .i64 (i)), .v (.int .i64 (h))]) (by simp (disch := omega) only [go_sem]) (by simp (disch := omega) only [go_sem])) (by intro n hn; exact ⟨_, List.mem_cons_self .., by rw [List.mem_singleton.1 hn]; rfl⟩) ?_
  rintro r hs bs ⟨rfl, ⟨k1, hk1, rfl⟩, i1, h1, hi1, rfl⟩ -
  refine ⟨by simp [freeN], ?_⟩
  simp (disch := omega) only [go_sem]
  obtain ⟨n1, rfl⟩ := Int.eq_ofNat_of_zero_le hk1.1
  have hlt : n1 < xs.length := by have := hk1.2 (by omega); omega
  simp (disch := omega) only [go_sem]
  refine ⟨by omega, by omega, ?_⟩
  have hm : xs.getD n1 0 ∈ xs := by rw [List.getD_eq_getElem?_getD, List.getElem?_eq_getElem hlt]; exact List.getElem_mem _
  refine fin_intro [] [] [.own 0 [.sl l.length (bytesA l), .v (.int .i64 i1), .v (.int .i64 h1)], .own 1 (ints xs)] [.v (.int .i64 (xs.getD n1 0))] rfl (by simp (disch := omega) only [go_sem]) (by simp (disch := omega) only [go_sem]) (by simp) (by simp) ⟨rfl, ⟨_, hm, rfl⟩, _, _, by omega, rfl⟩
end
end Go.Ab
namespace Go.Ab
open Go Go.Proofs
set_option linter.unusedVariables false
set_option linter.unusedSimpArgs false

end Go.Ab
namespace Go.Ab
open Go Go.Proofs
set_option linter.unusedVariables false
set_option linter.unusedSimpArgs false

end Go.Ab
namespace Go.Ab
open Go Go.Proofs
set_option linter.unusedVariables false
set_option linter.unusedSimpArgs false

def l5dM (k m : Int) : Nat := if k = 1 then oM m.toNat else 0
def l5dE (k m e : Int) : Int := if k = 1 then oE m.toNat e else 0
def l5dS (k : Int) (s : Bool) (m : Int) : Bool := if k = 1 then oS (s && decide (m.toNat ≠ 0)) m.toNat else false

end Go.Ab
namespace Go.Ab
open Go Go.Proofs
set_option linter.unusedVariables false
set_option linter.unusedSimpArgs false

/-- Some float. -/
def someF : AV → List Ob → List Ob → Prop := fun r hs bs => hs = [] ∧ bs = [] ∧ ∃ x : FlV, r = .ag x.cs

section
variable (l : List UInt8) (hl : l.length ≤ 9223372036854775807) (i h : Int) (hi : 0 ≤ i ∧ i ≤ l.length)
include hl hi

theorem con_l4drawMode : Con Tryz.prog 35 false [.pt 10000000 0] [.own 0 [.sl l.length (bytesA l), .v (.int .i64 i), .v (.int .i64 h)]] (curR l fun r => ∃ k : Int, r = .v (.int .i64 k)) := by
  refine Con.of_aw Tryz.func35 rfl Tryz.ntmps35 (by simp) (by simp) (by simp) (W.sound ?_)
  show @W Tryz.prog 10 ⟨_⟩ ⟨fun x σ => @retW _ _ _ ⟨_⟩ _ ⟨_⟩ x σ⟩ _ _
  simp (disch := omega) only [go_sem]
  refine call_lent false [10000000] (con_l1Once l hl i h hi 15 (by omega)) (by simp (disch := omega) only [go_sem]) (by simp (disch := omega) only [go_sem]) rfl (lend_cons (z := 0) (cs := [.sl l.length (bytesA l), .v (.int .i64 (i)), .v (.int .i64 (h))]) (by simp (disch := omega) only [go_sem]) (by simp (disch := omega) only [go_sem])) (by intro n hn; exact ⟨_, List.mem_cons_self .., by rw [List.mem_singleton.1 hn]; rfl⟩) ?_
  rintro r hs bs ⟨rfl, ⟨b, rfl⟩, i1, h1, hi1, rfl⟩ -
  refine ⟨by simp [freeN], ?_⟩
  simp (disch := omega) only [go_sem]
  cases b
  · simp (disch := omega) only [go_sem]
    refine call_lent false [10000000] (con_l1Below l hl i1 h1 hi1 5 (by omega)) (by simp (disch := omega) only [go_sem]) (by simp (disch := omega) only [go_sem]) rfl (lend_cons (z := 0) (cs := [.sl l.length (bytesA l), .v (.int .i64 (i1)), .v (.int .i64 (h1))]) (by simp (disch := omega) only [go_sem]) (by simp (disch := omega) only [go_sem])) (by intro n hn; exact ⟨_, List.mem_cons_self .., by rw [List.mem_singleton.1 hn]; rfl⟩) ?_
    rintro r hs bs ⟨rfl, ⟨k1, hk1, rfl⟩, i2, h2, hi2, rfl⟩ -
    refine ⟨by simp [freeN], ?_⟩
    simp (disch := omega) only [go_sem]
    refine fin_intro [] [] [.own 0 [.sl l.length (bytesA l), .v (.int .i64 (i2)), .v (.int .i64 (h2))]] [.v (.int .i64 k1)] rfl (by simp (disch := omega) only [go_sem]) (by simp (disch := omega) only [go_sem]) (by simp) (by simp) ⟨rfl, ⟨_, rfl⟩, _, _, by omega, rfl⟩
  · simp (disch := omega) only [go_sem]
    have hL2 : [AV.v (Value.int IntKind.i64 (-1)), AV.v (Value.int IntKind.i64 (5))] = ints ([-1, 5] : List Int) := rfl
    have cc2 := con_l1PickInt l hl i1 h1 hi1 [-1, 5] (by simp) (by simp)
    generalize hG2 : ([-1, 5] : List Int) = xs2 at hL2 cc2
    have hN2 : xs2.length = 2 := by rw [← hG2]; rfl
    rw [hL2]
    rw [hN2] at cc2
    refine call_lent false [10000000, 80000000] cc2 (by simp (disch := omega) only [go_sem]) (by simp (disch := omega) only [go_sem]) rfl (lend_two (z := 0) (cs := [.sl l.length (bytesA l), .v (.int .i64 (i1)), .v (.int .i64 (h1))]) (z' := 1) (cs' := ints xs2) (by simp (disch := omega) only [go_sem]) (by simp (disch := omega) only [go_sem]) (by simp (disch := omega) only [go_sem]) (by simp (disch := omega) only [go_sem])) (by intro n hn; simp only [List.mem_cons, List.not_mem_nil, or_false] at hn; rcases hn with rfl | rfl <;> simp [AV.top]) ?_
    rintro r hs bs ⟨rfl, ⟨k1, hk1, rfl⟩, i2, h2, hi2, rfl⟩ -
    clear cc2 hL2 hk1 hG2 hN2
    refine ⟨by simp [freeN], ?_⟩
    simp (disch := omega) only [go_sem]
    refine fin_intro [] [] [.own 0 [.sl l.length (bytesA l), .v (.int .i64 (i2)), .v (.int .i64 (h2))]] [.v (.int .i64 k1)] rfl (by simp (disch := omega) only [go_sem]) (by simp (disch := omega) only [go_sem]) (by simp) (by simp) ⟨rfl, ⟨_, rfl⟩, _, _, by omega, rfl⟩
end
end Go.Ab
namespace Go.Ab
open Go Go.Proofs
set_option linter.unusedVariables false
set_option linter.unusedSimpArgs false

section
variable (l : List UInt8) (hl : l.length ≤ 9223372036854775807) (i h : Int) (hi : 0 ≤ i ∧ i ≤ l.length)
include hl hi

set_option maxRecDepth 100000 in
theorem con_l5draw : Con Tryz.prog 84 false [.pt 10000000 0] [.own 0 [.sl l.length (bytesA l), .v (.int .i64 i), .v (.int .i64 h)]] (curR l fun r => ∃ x : FlV, r = .ag x.cs) := by
  refine Con.of_aw Tryz.func84 rfl Tryz.ntmps84 (by simp) (by simp) (by simp) (W.sound ?_)
  show @W Tryz.prog 75 ⟨_⟩ ⟨fun x σ => @retW _ _ _ ⟨_⟩ _ ⟨_⟩ x σ⟩ _ _
  simp (disch := omega) only [go_sem]
  refine call_lent false [10000000] (con_l1Once l hl i h hi 2 (by omega)) (by simp (disch := omega) only [go_sem]) (by simp (disch := omega) only [go_sem]) rfl (lend_cons (z := 0) (cs := [.sl l.length (bytesA l), .v (.int .i64 (i)), .v (.int .i64 (h))]) (by simp (disch := omega) only [go_sem]) (by simp (disch := omega) only [go_sem])) (by intro n hn; exact ⟨_, List.mem_cons_self .., by rw [List.mem_singleton.1 hn]; rfl⟩) ?_
  rintro r hs bs ⟨rfl, ⟨b, rfl⟩, i1, h1, hi1, rfl⟩ -
  refine ⟨by simp [freeN], ?_⟩
  simp (disch := omega) only [go_sem]
  refine call_lent false [10000000] (con_l1Below l hl i1 h1 hi1 9 (by omega)) (by simp (disch := omega) only [go_sem]) (by simp (disch := omega) only [go_sem]) rfl (lend_cons (z := 0) (cs := [.sl l.length (bytesA l), .v (.int .i64 (i1)), .v (.int .i64 (h1))]) (by simp (disch := omega) only [go_sem]) (by simp (disch := omega) only [go_sem])) (by intro n hn; exact ⟨_, List.mem_cons_self .., by rw [List.mem_singleton.1 hn]; rfl⟩) ?_
  rintro r hs bs ⟨rfl, ⟨k, hk, rfl⟩, i2, h2, hi2, rfl⟩ -
  refine ⟨by simp [freeN], ?_⟩
  simp (disch := omega) only [go_sem]
  by_cases c0 : k = 0
  · simp (disch := omega) only [go_sem, c0]
    have hL3 : [AV.v (Value.int IntKind.i64 (0)), AV.v (Value.int IntKind.i64 (2))] = ints ([0, 2] : List Int) := rfl
    have cc3 := con_l1PickInt l hl i2 h2 hi2 [0, 2] (by simp) (by simp)
    generalize hG3 : ([0, 2] : List Int) = xs3 at hL3 cc3
    have hN3 : xs3.length = 2 := by rw [← hG3]; rfl
    rw [hL3]
    rw [hN3] at cc3
    refine call_lent false [10000000, 160000000] cc3 (by simp (disch := omega) only [go_sem]) (by simp (disch := omega) only [go_sem]) rfl (lend_two (z := 0) (cs := [.sl l.length (bytesA l), .v (.int .i64 (i2)), .v (.int .i64 (h2))]) (z' := 1) (cs' := ints xs3) (by simp (disch := omega) only [go_sem]) (by simp (disch := omega) only [go_sem]) (by simp (disch := omega) only [go_sem]) (by simp (disch := omega) only [go_sem])) (by intro n hn; simp only [List.mem_cons, List.not_mem_nil, or_false] at hn; rcases hn with rfl | rfl <;> simp [AV.top]) ?_
    rintro r hs bs ⟨rfl, ⟨x, hx, rfl⟩, i3, h3, hi3, rfl⟩ -
    clear cc3 hL3 hx hG3 hN3
    refine ⟨by simp [freeN], ?_⟩
    simp (disch := omega) only [go_sem]
    refine fin_intro [] [] [.own 0 [.sl l.length (bytesA l), .v (.int .i64 (i3)), .v (.int .i64 (h3))]] [.ag [.v (.int .i64 (x)), .v (.bool (b)), .v (.int .i64 (0)), .v (.int .i64 (0))]] rfl (by simp (disch := omega) only [go_sem]) (by simp (disch := omega) only [go_sem]) (by simp) (by simp) ⟨rfl, ⟨⟨_, _, _, _⟩, rfl⟩, _, _, by omega, rfl⟩
  by_cases c1 : k = 1
  · simp (disch := omega) only [go_sem, c0, c1]
    refine call_closed (con_l5nan) (by simp (disch := omega) only [go_sem]) ?_
    rintro r hs ⟨rfl, rfl, _⟩
    refine ⟨by simp [freeN], ?_⟩
    simp (disch := omega) only [go_sem]
    refine fin_intro [] [] [.own 0 [.sl l.length (bytesA l), .v (.int .i64 (i2)), .v (.int .i64 (h2))]] [.ag [.v (.int .i64 (3)), .v (.bool (false)), .v (.int .i64 (0)), .v (.int .i64 (0))]] rfl (by simp (disch := omega) only [go_sem]) (by simp (disch := omega) only [go_sem]) (by simp) (by simp) ⟨rfl, ⟨⟨_, _, _, _⟩, rfl⟩, _, _, by omega, rfl⟩
  by_cases c2 : k = 2
  · simp (disch := omega) only [go_sem, c0, c1, c2]
    have hL3 : [AV.v (Value.int IntKind.i64 (1)), AV.v (Value.int IntKind.i64 (2)), AV.v (Value.int IntKind.i64 (4503599627370495)), AV.v (Value.int IntKind.i64 (4503599627370496)), AV.v (Value.int IntKind.i64 (4503599627370497)), AV.v (Value.int IntKind.i64 (12345))] = ints ([1, 2, 4503599627370495, 4503599627370496, 4503599627370497, 12345] : List Int) := rfl
    have cc3 := con_l1PickInt l hl i2 h2 hi2 [1, 2, 4503599627370495, 4503599627370496, 4503599627370497, 12345] (by simp) (by simp)
    generalize hG3 : ([1, 2, 4503599627370495, 4503599627370496, 4503599627370497, 12345] : List Int) = xs3 at hL3 cc3
    have hN3 : xs3.length = 6 := by rw [← hG3]; rfl
    rw [hL3]
    rw [hN3] at cc3
    refine call_lent false [10000000, 270000000] cc3 (by simp (disch := omega) only [go_sem]) (by simp (disch := omega) only [go_sem]) rfl (lend_two (z := 0) (cs := [.sl l.length (bytesA l), .v (.int .i64 (i2)), .v (.int .i64 (h2))]) (z' := 1) (cs' := ints xs3) (by simp (disch := omega) only [go_sem]) (by simp (disch := omega) only [go_sem]) (by simp (disch := omega) only [go_sem]) (by simp (disch := omega) only [go_sem])) (by intro n hn; simp only [List.mem_cons, List.not_mem_nil, or_false] at hn; rcases hn with rfl | rfl <;> simp [AV.top]) ?_
    rintro r hs bs ⟨rfl, ⟨x, hx, rfl⟩, i3, h3, hi3, rfl⟩ -
    clear cc3 hL3 hx hG3 hN3
    refine ⟨by simp [freeN], ?_⟩
    simp (disch := omega) only [go_sem]
    refine fin_intro [] [] [.own 0 [.sl l.length (bytesA l), .v (.int .i64 (i3)), .v (.int .i64 (h3))]] [.ag [.v (.int .i64 (1)), .v (.bool (b)), .v (.int .i64 (x)), .v (.int .i64 (-1074))]] rfl (by simp (disch := omega) only [go_sem]) (by simp (disch := omega) only [go_sem]) (by simp) (by simp) ⟨rfl, ⟨⟨_, _, _, _⟩, rfl⟩, _, _, by omega, rfl⟩
  by_cases c3 : k = 3
  · simp (disch := omega) only [go_sem, c0, c1, c2, c3]
    have hL3 : [AV.v (Value.int IntKind.i64 (4503599627370496)), AV.v (Value.int IntKind.i64 (9007199254740991)), AV.v (Value.int IntKind.i64 (9007199254740990))] = ints ([4503599627370496, 9007199254740991, 9007199254740990] : List Int) := rfl
    have cc3 := con_l1PickInt l hl i2 h2 hi2 [4503599627370496, 9007199254740991, 9007199254740990] (by simp) (by simp)
    generalize hG3 : ([4503599627370496, 9007199254740991, 9007199254740990] : List Int) = xs3 at hL3 cc3
    have hN3 : xs3.length = 3 := by rw [← hG3]; rfl
    rw [hL3]
    rw [hN3] at cc3
    refine call_lent false [10000000, 340000000] cc3 (by simp (disch := omega) only [go_sem]) (by simp (disch := omega) only [go_sem]) rfl (lend_two (z := 0) (cs := [.sl l.length (bytesA l), .v (.int .i64 (i2)), .v (.int .i64 (h2))]) (z' := 1) (cs' := ints xs3) (by simp (disch := omega) only [go_sem]) (by simp (disch := omega) only [go_sem]) (by simp (disch := omega) only [go_sem]) (by simp (disch := omega) only [go_sem])) (by intro n hn; simp only [List.mem_cons, List.not_mem_nil, or_false] at hn; rcases hn with rfl | rfl <;> simp [AV.top]) ?_
    rintro r hs bs ⟨rfl, ⟨x, hx, rfl⟩, i3, h3, hi3, rfl⟩ -
    clear cc3 hL3 hx hG3 hN3
    refine ⟨by simp [freeN], ?_⟩
    simp (disch := omega) only [go_sem]
    have hL4 : [AV.v (Value.int IntKind.i64 (971)), AV.v (Value.int IntKind.i64 (970)), AV.v (Value.int IntKind.i64 (0)), AV.v (Value.int IntKind.i64 (-52)), AV.v (Value.int IntKind.i64 (-1000))] = ints ([971, 970, 0, -52, -1000] : List Int) := rfl
    have cc4 := con_l1PickInt l hl i3 h3 hi3 [971, 970, 0, -52, -1000] (by simp) (by simp)
    generalize hG4 : ([971, 970, 0, -52, -1000] : List Int) = xs4 at hL4 cc4
    have hN4 : xs4.length = 5 := by rw [← hG4]; rfl
    rw [hL4]
    rw [hN4] at cc4
    refine call_lent false [10000000, 370000000] cc4 (by simp (disch := omega) only [go_sem]) (by simp (disch := omega) only [go_sem]) rfl (lend_two (z := 0) (cs := [.sl l.length (bytesA l), .v (.int .i64 (i3)), .v (.int .i64 (h3))]) (z' := 1) (cs' := ints xs4) (by simp (disch := omega) only [go_sem]) (by simp (disch := omega) only [go_sem]) (by simp (disch := omega) only [go_sem]) (by simp (disch := omega) only [go_sem])) (by intro n hn; simp only [List.mem_cons, List.not_mem_nil, or_false] at hn; rcases hn with rfl | rfl <;> simp [AV.top]) ?_
    rintro r hs bs ⟨rfl, ⟨y, hy, rfl⟩, i4, h4, hi4, rfl⟩ -
    clear cc4 hL4 hy hG4 hN4
    refine ⟨by simp [freeN], ?_⟩
    simp (disch := omega) only [go_sem]
    refine fin_intro [] [] [.own 0 [.sl l.length (bytesA l), .v (.int .i64 (i4)), .v (.int .i64 (h4))]] [.ag [.v (.int .i64 (1)), .v (.bool (b)), .v (.int .i64 (x)), .v (.int .i64 (y))]] rfl (by simp (disch := omega) only [go_sem]) (by simp (disch := omega) only [go_sem]) (by simp) (by simp) ⟨rfl, ⟨⟨_, _, _, _⟩, rfl⟩, _, _, by omega, rfl⟩
  by_cases c4 : k = 4
  · simp (disch := omega) only [go_sem, c0, c1, c2, c3, c4]
    refine call_lent false [10000000] (con_l1Below l hl i2 h2 hi2 40 (by omega)) (by simp (disch := omega) only [go_sem]) (by simp (disch := omega) only [go_sem]) rfl (lend_cons (z := 0) (cs := [.sl l.length (bytesA l), .v (.int .i64 (i2)), .v (.int .i64 (h2))]) (by simp (disch := omega) only [go_sem]) (by simp (disch := omega) only [go_sem])) (by intro n hn; exact ⟨_, List.mem_cons_self .., by rw [List.mem_singleton.1 hn]; rfl⟩) ?_
    rintro r hs bs ⟨rfl, ⟨x, hx, rfl⟩, i3, h3, hi3, rfl⟩ -
    refine ⟨by simp [freeN], ?_⟩
    simp (disch := omega) only [go_sem]
    have hx2 := hx.2 (by omega)
    refine call_open (con_l3of (x - 20) (by omega)) (by simp (disch := omega) only [go_sem]) ?_
    rintro r hs ⟨rfl, rfl, _⟩
    refine ⟨by simp [freeN], ?_⟩
    simp (disch := omega) only [go_sem]
    refine call_lent false [10000000] (con_l1Below l hl i3 h3 hi3 5 (by omega)) (by simp (disch := omega) only [go_sem]) (by simp (disch := omega) only [go_sem]) rfl (lend_cons (z := 0) (cs := [.sl l.length (bytesA l), .v (.int .i64 (i3)), .v (.int .i64 (h3))]) (by simp (disch := omega) only [go_sem]) (by simp (disch := omega) only [go_sem])) (by intro n hn; exact ⟨_, List.mem_cons_self .., by rw [List.mem_singleton.1 hn]; rfl⟩) ?_
    rintro r hs bs ⟨rfl, ⟨y, hy, rfl⟩, i4, h4, hi4, rfl⟩ -
    refine ⟨by simp [freeN], ?_⟩
    simp (disch := omega) only [go_sem]
    have hy2 := hy.2 (by omega)
    have hb : bl (x - 20).natAbs ≤ 6 := bl_le.2 (by omega)
    refine call_open (con_l4make (decide (x - 20 < 0)) (x - 20).natAbs (y - 2) (by omega) (by omega)) (by simp (disch := omega) only [go_sem]) ?_
    rintro r hs ⟨rfl, rfl, _⟩
    refine ⟨by simp [freeN], ?_⟩
    simp (disch := omega) only [go_sem]
    have q4 := bl_mono (oM_le (x - 20).natAbs)
    have q5 := oE_rng (m := (x - 20).natAbs) (e := y - 2) (lo := -2) (hi := 3) (Nat.le_refl _) (by omega) (by omega) (by omega)
    refine call_closed (con_l5round (oS (decide (x - 20 < 0)) (x - 20).natAbs) (oM (x - 20).natAbs) (oE (x - 20).natAbs (y - 2)) 0 false (oM_odd _) (oS_z _ _) (by omega) (by omega) (by omega)) (by simp (disch := omega) only [go_sem]) ?_
    rintro r hs ⟨rfl, rfl, _⟩
    refine ⟨by simp [freeN], ?_⟩
    simp (disch := omega) only [go_sem]
    generalize flV (oS (decide (x - 20 < 0)) (x - 20).natAbs) (oM (x - 20).natAbs) (oE (x - 20).natAbs (y - 2)) 0 false = V
    refine fin_intro [] [] [.own 0 [.sl l.length (bytesA l), .v (.int .i64 (i4)), .v (.int .i64 (h4))]] [.ag [.v (.int .i64 (V.k)), .v (.bool (V.s)), .v (.int .i64 (V.m)), .v (.int .i64 (V.e))]] rfl (by simp (disch := omega) only [go_sem]) (by simp (disch := omega) only [go_sem]) (by simp) (by simp) ⟨rfl, ⟨V, rfl⟩, _, _, by omega, rfl⟩
  simp (disch := omega) only [go_sem, c0, c1, c2, c3, c4]
  refine call_lent false [10000000] (con_l1Below l hl i2 h2 hi2 1073741824 (by omega)) (by simp (disch := omega) only [go_sem]) (by simp (disch := omega) only [go_sem]) rfl (lend_cons (z := 0) (cs := [.sl l.length (bytesA l), .v (.int .i64 (i2)), .v (.int .i64 (h2))]) (by simp (disch := omega) only [go_sem]) (by simp (disch := omega) only [go_sem])) (by intro n hn; exact ⟨_, List.mem_cons_self .., by rw [List.mem_singleton.1 hn]; rfl⟩) ?_
  rintro r hs bs ⟨rfl, ⟨x, hx, rfl⟩, i3, h3, hi3, rfl⟩ -
  refine ⟨by simp [freeN], ?_⟩
  simp (disch := omega) only [go_sem]
  have hx2 := hx.2 (by omega)
  refine call_lent false [10000000] (con_l1Below l hl i3 h3 hi3 999 (by omega)) (by simp (disch := omega) only [go_sem]) (by simp (disch := omega) only [go_sem]) rfl (lend_cons (z := 0) (cs := [.sl l.length (bytesA l), .v (.int .i64 (i3)), .v (.int .i64 (h3))]) (by simp (disch := omega) only [go_sem]) (by simp (disch := omega) only [go_sem])) (by intro n hn; exact ⟨_, List.mem_cons_self .., by rw [List.mem_singleton.1 hn]; rfl⟩) ?_
  rintro r hs bs ⟨rfl, ⟨y, hy, rfl⟩, i4, h4, hi4, rfl⟩ -
  refine ⟨by simp [freeN], ?_⟩
  simp (disch := omega) only [go_sem]
  have hy2 := hy.2 (by omega)
  refine call_lent false [10000000] (con_l1Once l hl i4 h4 hi4 3 (by omega)) (by simp (disch := omega) only [go_sem]) (by simp (disch := omega) only [go_sem]) rfl (lend_cons (z := 0) (cs := [.sl l.length (bytesA l), .v (.int .i64 (i4)), .v (.int .i64 (h4))]) (by simp (disch := omega) only [go_sem]) (by simp (disch := omega) only [go_sem])) (by intro n hn; exact ⟨_, List.mem_cons_self .., by rw [List.mem_singleton.1 hn]; rfl⟩) ?_
  rintro r hs bs ⟨rfl, ⟨b2, rfl⟩, i5, h5, hi5, rfl⟩ -
  refine ⟨by simp [freeN], ?_⟩
  simp (disch := omega) only [go_sem]
  cases b2
  · simp (disch := omega) only [go_sem]
    refine call_lent false [10000000] (con_l1Below l hl i5 h5 hi5 40 (by omega)) (by simp (disch := omega) only [go_sem]) (by simp (disch := omega) only [go_sem]) rfl (lend_cons (z := 0) (cs := [.sl l.length (bytesA l), .v (.int .i64 (i5)), .v (.int .i64 (h5))]) (by simp (disch := omega) only [go_sem]) (by simp (disch := omega) only [go_sem])) (by intro n hn; exact ⟨_, List.mem_cons_self .., by rw [List.mem_singleton.1 hn]; rfl⟩) ?_
    rintro r hs bs ⟨rfl, ⟨z, hz, rfl⟩, i6, h6, hi6, rfl⟩ -
    refine ⟨by simp [freeN], ?_⟩
    simp (disch := omega) only [go_sem]
    have hz2 := hz.2 (by omega)
    have hL7 : [AV.v (Value.int IntKind.i64 (-52)), AV.v (Value.int IntKind.i64 (-50)), AV.v (Value.int IntKind.i64 (-55)), AV.v (Value.int IntKind.i64 (-53)), AV.v (Value.int IntKind.i64 (-60)), AV.v (Value.int IntKind.i64 (0)), AV.v (Value.int IntKind.i64 (10)), AV.v (Value.int IntKind.i64 (-600)), AV.v (Value.int IntKind.i64 (500)), AV.v (Value.int IntKind.i64 (-1000)), AV.v (Value.int IntKind.i64 (900)), AV.v (Value.int IntKind.i64 (z - 70))] = ints ([-52, -50, -55, -53, -60, 0, 10, -600, 500, -1000, 900, z - 70] : List Int) := rfl
    have cc7 := con_l1PickInt l hl i6 h6 hi6 [-52, -50, -55, -53, -60, 0, 10, -600, 500, -1000, 900, z - 70] (by simp) (by simp)
    generalize hG7 : ([-52, -50, -55, -53, -60, 0, 10, -600, 500, -1000, 900, z - 70] : List Int) = xs7 at hL7 cc7
    have hN7 : xs7.length = 12 := by rw [← hG7]; rfl
    rw [hL7]
    rw [hN7] at cc7
    refine call_lent false [10000000, 740000000] cc7 (by simp (disch := omega) only [go_sem]) (by simp (disch := omega) only [go_sem]) rfl (lend_two (z := 0) (cs := [.sl l.length (bytesA l), .v (.int .i64 (i6)), .v (.int .i64 (h6))]) (z' := 1) (cs' := ints xs7) (by simp (disch := omega) only [go_sem]) (by simp (disch := omega) only [go_sem]) (by simp (disch := omega) only [go_sem]) (by simp (disch := omega) only [go_sem])) (by intro n hn; simp only [List.mem_cons, List.not_mem_nil, or_false] at hn; rcases hn with rfl | rfl <;> simp [AV.top]) ?_
    rintro r hs bs ⟨rfl, ⟨u, hu, rfl⟩, i7, h7, hi7, rfl⟩ -
    clear cc7 hL7 hu hG7 hN7
    refine ⟨by simp [freeN], ?_⟩
    simp (disch := omega) only [go_sem]
    refine fin_intro [] [] [.own 0 [.sl l.length (bytesA l), .v (.int .i64 (i7)), .v (.int .i64 (h7))]] [.ag [.v (.int .i64 (1)), .v (.bool (b)), .v (.int .i64 (4503599627370496 + x * 4000000 + y)), .v (.int .i64 (u))]] rfl (by simp (disch := omega) only [go_sem]) (by simp (disch := omega) only [go_sem]) (by simp) (by simp) ⟨rfl, ⟨⟨_, _, _, _⟩, rfl⟩, _, _, by omega, rfl⟩
  · simp (disch := omega) only [go_sem]
    have hL8 : [AV.v (Value.int IntKind.i64 (1)), AV.v (Value.int IntKind.i64 (3)), AV.v (Value.int IntKind.i64 (2251799813685248)), AV.v (Value.int IntKind.i64 (1073741824))] = ints ([1, 3, 2251799813685248, 1073741824] : List Int) := rfl
    have cc8 := con_l1PickInt l hl i5 h5 hi5 [1, 3, 2251799813685248, 1073741824] (by simp) (by simp)
    generalize hG8 : ([1, 3, 2251799813685248, 1073741824] : List Int) = xs8 at hL8 cc8
    have hN8 : xs8.length = 4 := by rw [← hG8]; rfl
    rw [hL8]
    rw [hN8] at cc8
    refine call_lent false [10000000, 650000000] cc8 (by simp (disch := omega) only [go_sem]) (by simp (disch := omega) only [go_sem]) rfl (lend_two (z := 0) (cs := [.sl l.length (bytesA l), .v (.int .i64 (i5)), .v (.int .i64 (h5))]) (z' := 1) (cs' := ints xs8) (by simp (disch := omega) only [go_sem]) (by simp (disch := omega) only [go_sem]) (by simp (disch := omega) only [go_sem]) (by simp (disch := omega) only [go_sem])) (by intro n hn; simp only [List.mem_cons, List.not_mem_nil, or_false] at hn; rcases hn with rfl | rfl <;> simp [AV.top]) ?_
    rintro r hs bs ⟨rfl, ⟨v, hv, rfl⟩, i8, h8, hi8, rfl⟩ -
    have hv_b : 0 ≤ v ∧ v ≤ 2251799813685248 := by
      rw [← hG8] at hv
      simp only [List.mem_cons, List.not_mem_nil, or_false] at hv
      omega
    clear cc8 hL8 hv hG8 hN8
    refine ⟨by simp [freeN], ?_⟩
    simp (disch := omega) only [go_sem]
    refine call_lent false [10000000] (con_l1Below l hl i8 h8 hi8 40 (by omega)) (by simp (disch := omega) only [go_sem]) (by simp (disch := omega) only [go_sem]) rfl (lend_cons (z := 0) (cs := [.sl l.length (bytesA l), .v (.int .i64 (i8)), .v (.int .i64 (h8))]) (by simp (disch := omega) only [go_sem]) (by simp (disch := omega) only [go_sem])) (by intro n hn; exact ⟨_, List.mem_cons_self .., by rw [List.mem_singleton.1 hn]; rfl⟩) ?_
    rintro r hs bs ⟨rfl, ⟨z, hz, rfl⟩, i6, h6, hi6, rfl⟩ -
    refine ⟨by simp [freeN], ?_⟩
    simp (disch := omega) only [go_sem]
    have hz2 := hz.2 (by omega)
    have hL7 : [AV.v (Value.int IntKind.i64 (-52)), AV.v (Value.int IntKind.i64 (-50)), AV.v (Value.int IntKind.i64 (-55)), AV.v (Value.int IntKind.i64 (-53)), AV.v (Value.int IntKind.i64 (-60)), AV.v (Value.int IntKind.i64 (0)), AV.v (Value.int IntKind.i64 (10)), AV.v (Value.int IntKind.i64 (-600)), AV.v (Value.int IntKind.i64 (500)), AV.v (Value.int IntKind.i64 (-1000)), AV.v (Value.int IntKind.i64 (900)), AV.v (Value.int IntKind.i64 (z - 70))] = ints ([-52, -50, -55, -53, -60, 0, 10, -600, 500, -1000, 900, z - 70] : List Int) := rfl
    have cc7 := con_l1PickInt l hl i6 h6 hi6 [-52, -50, -55, -53, -60, 0, 10, -600, 500, -1000, 900, z - 70] (by simp) (by simp)
    generalize hG7 : ([-52, -50, -55, -53, -60, 0, 10, -600, 500, -1000, 900, z - 70] : List Int) = xs7 at hL7 cc7
    have hN7 : xs7.length = 12 := by rw [← hG7]; rfl
    rw [hL7]
    rw [hN7] at cc7
    refine call_lent false [10000000, 740000000] cc7 (by simp (disch := omega) only [go_sem]) (by simp (disch := omega) only [go_sem]) rfl (lend_two (z := 0) (cs := [.sl l.length (bytesA l), .v (.int .i64 (i6)), .v (.int .i64 (h6))]) (z' := 1) (cs' := ints xs7) (by simp (disch := omega) only [go_sem]) (by simp (disch := omega) only [go_sem]) (by simp (disch := omega) only [go_sem]) (by simp (disch := omega) only [go_sem])) (by intro n hn; simp only [List.mem_cons, List.not_mem_nil, or_false] at hn; rcases hn with rfl | rfl <;> simp [AV.top]) ?_
    rintro r hs bs ⟨rfl, ⟨u, hu, rfl⟩, i7, h7, hi7, rfl⟩ -
    clear cc7 hL7 hu hG7 hN7
    refine ⟨by simp [freeN], ?_⟩
    simp (disch := omega) only [go_sem]
    refine fin_intro [] [] [.own 0 [.sl l.length (bytesA l), .v (.int .i64 (i7)), .v (.int .i64 (h7))]] [.ag [.v (.int .i64 (1)), .v (.bool (b)), .v (.int .i64 (4503599627370496 + v)), .v (.int .i64 (u))]] rfl (by simp (disch := omega) only [go_sem]) (by simp (disch := omega) only [go_sem]) (by simp) (by simp) ⟨rfl, ⟨⟨_, _, _, _⟩, rfl⟩, _, _, by omega, rfl⟩

theorem con_l5bent : Con Tryz.prog 40 false [.pt 10000000 0] [.own 0 [.sl l.length (bytesA l), .v (.int .i64 i), .v (.int .i64 h)]] (curR l fun r => ∃ x : FlV, r = .ag x.cs) := by
  refine Con.of_aw Tryz.func40 rfl Tryz.ntmps40 (by simp) (by simp) (by simp) (W.sound ?_)
  show @W Tryz.prog 33 ⟨_⟩ ⟨fun x σ => @retW _ _ _ ⟨_⟩ _ ⟨_⟩ x σ⟩ _ _
  simp (disch := omega) only [go_sem]
  refine call_lent false [10000000] (con_l5draw l hl i h hi) (by simp (disch := omega) only [go_sem]) (by simp (disch := omega) only [go_sem]) rfl (lend_cons (z := 0) (cs := [.sl l.length (bytesA l), .v (.int .i64 (i)), .v (.int .i64 (h))]) (by simp (disch := omega) only [go_sem]) (by simp (disch := omega) only [go_sem])) (by intro n hn; exact ⟨_, List.mem_cons_self .., by rw [List.mem_singleton.1 hn]; rfl⟩) ?_
  rintro r hs bs ⟨rfl, ⟨V, rfl⟩, i1, h1, hi1, rfl⟩ -
  refine ⟨by simp [freeN], ?_⟩
  simp (disch := omega) only [go_sem]
  unfold FlV.cs
  simp (disch := omega) only [go_sem]
  refine call_lent false [10000000] (con_l1Once l hl i1 h1 hi1 12 (by omega)) (by simp (disch := omega) only [go_sem]) (by simp (disch := omega) only [go_sem]) rfl (lend_cons (z := 0) (cs := [.sl l.length (bytesA l), .v (.int .i64 (i1)), .v (.int .i64 (h1))]) (by simp (disch := omega) only [go_sem]) (by simp (disch := omega) only [go_sem])) (by intro n hn; exact ⟨_, List.mem_cons_self .., by rw [List.mem_singleton.1 hn]; rfl⟩) ?_
  rintro r hs bs ⟨rfl, ⟨b, rfl⟩, i2, h2, hi2, rfl⟩ -
  refine ⟨by simp [freeN], ?_⟩
  simp (disch := omega) only [go_sem]
  cases b
  · simp (disch := omega) only [go_sem]
    refine fin_intro [] [] [.own 0 [.sl l.length (bytesA l), .v (.int .i64 (i2)), .v (.int .i64 (h2))]] [.ag [.v (.int .i64 (V.k)), .v (.bool (V.s)), .v (.int .i64 (V.m)), .v (.int .i64 (V.e))]] rfl (by simp (disch := omega) only [go_sem]) (by simp (disch := omega) only [go_sem]) (by simp) (by simp) ⟨rfl, ⟨V, rfl⟩, _, _, by omega, rfl⟩
  · simp (disch := omega) only [go_sem]
    refine call_lent false [10000000] (con_l1Below l hl i2 h2 hi2 4 (by omega)) (by simp (disch := omega) only [go_sem]) (by simp (disch := omega) only [go_sem]) rfl (lend_cons (z := 0) (cs := [.sl l.length (bytesA l), .v (.int .i64 (i2)), .v (.int .i64 (h2))]) (by simp (disch := omega) only [go_sem]) (by simp (disch := omega) only [go_sem])) (by intro n hn; exact ⟨_, List.mem_cons_self .., by rw [List.mem_singleton.1 hn]; rfl⟩) ?_
    rintro r hs bs ⟨rfl, ⟨k, hk, rfl⟩, i3, h3, hi3, rfl⟩ -
    refine ⟨by simp [freeN], ?_⟩
    simp (disch := omega) only [go_sem]
    by_cases c0 : k = 0
    · simp (disch := omega) only [go_sem, c0]
      refine call_lent false [10000000] (con_l1Below l hl i3 h3 hi3 6 (by omega)) (by simp (disch := omega) only [go_sem]) (by simp (disch := omega) only [go_sem]) rfl (lend_cons (z := 0) (cs := [.sl l.length (bytesA l), .v (.int .i64 (i3)), .v (.int .i64 (h3))]) (by simp (disch := omega) only [go_sem]) (by simp (disch := omega) only [go_sem])) (by intro n hn; exact ⟨_, List.mem_cons_self .., by rw [List.mem_singleton.1 hn]; rfl⟩) ?_
      rintro r hs bs ⟨rfl, ⟨x, hx, rfl⟩, i4, h4, hi4, rfl⟩ -
      refine ⟨by simp [freeN], ?_⟩
      simp (disch := omega) only [go_sem]
      have hx2 := hx.2 (by omega)
      refine fin_intro [] [] [.own 0 [.sl l.length (bytesA l), .v (.int .i64 (i4)), .v (.int .i64 (h4))]] [.ag [.v (.int .i64 (x - 1)), .v (.bool (V.s)), .v (.int .i64 (V.m)), .v (.int .i64 (V.e))]] rfl (by simp (disch := omega) only [go_sem]) (by simp (disch := omega) only [go_sem]) (by simp) (by simp) ⟨rfl, ⟨⟨x - 1, V.s, V.m, V.e⟩, rfl⟩, _, _, by omega, rfl⟩
    by_cases c1 : k = 1
    · simp (disch := omega) only [go_sem, c0, c1]
      have hL4 : [AV.v (Value.int IntKind.i64 (0)), AV.v (Value.int IntKind.i64 (-1)), AV.v (Value.int IntKind.i64 (1)), AV.v (Value.int IntKind.i64 (9007199254740992))] = ints ([0, -1, 1, 9007199254740992] : List Int) := rfl
      have cc4 := con_l1PickInt l hl i3 h3 hi3 [0, -1, 1, 9007199254740992] (by simp) (by simp)
      generalize hG4 : ([0, -1, 1, 9007199254740992] : List Int) = xs4 at hL4 cc4
      have hN4 : xs4.length = 4 := by rw [← hG4]; rfl
      rw [hL4]
      rw [hN4] at cc4
      refine call_lent false [10000000, 250000000] cc4 (by simp (disch := omega) only [go_sem]) (by simp (disch := omega) only [go_sem]) rfl (lend_two (z := 0) (cs := [.sl l.length (bytesA l), .v (.int .i64 (i3)), .v (.int .i64 (h3))]) (z' := 1) (cs' := ints xs4) (by simp (disch := omega) only [go_sem]) (by simp (disch := omega) only [go_sem]) (by simp (disch := omega) only [go_sem]) (by simp (disch := omega) only [go_sem])) (by intro n hn; simp only [List.mem_cons, List.not_mem_nil, or_false] at hn; rcases hn with rfl | rfl <;> simp [AV.top]) ?_
      rintro r hs bs ⟨rfl, ⟨x, hx, rfl⟩, i4, h4, hi4, rfl⟩ -
      clear cc4 hL4 hx hG4 hN4
      refine ⟨by simp [freeN], ?_⟩
      simp (disch := omega) only [go_sem]
      refine fin_intro [] [] [.own 0 [.sl l.length (bytesA l), .v (.int .i64 (i4)), .v (.int .i64 (h4))]] [.ag [.v (.int .i64 (V.k)), .v (.bool (V.s)), .v (.int .i64 (x)), .v (.int .i64 (V.e))]] rfl (by simp (disch := omega) only [go_sem]) (by simp (disch := omega) only [go_sem]) (by simp) (by simp) ⟨rfl, ⟨⟨V.k, V.s, x, V.e⟩, rfl⟩, _, _, by omega, rfl⟩
    by_cases c2 : k = 2
    · simp (disch := omega) only [go_sem, c0, c1, c2]
      have hL4 : [AV.v (Value.int IntKind.i64 (-1075)), AV.v (Value.int IntKind.i64 (972)), AV.v (Value.int IntKind.i64 (0))] = ints ([-1075, 972, 0] : List Int) := rfl
      have cc4 := con_l1PickInt l hl i3 h3 hi3 [-1075, 972, 0] (by simp) (by simp)
      generalize hG4 : ([-1075, 972, 0] : List Int) = xs4 at hL4 cc4
      have hN4 : xs4.length = 3 := by rw [← hG4]; rfl
      rw [hL4]
      rw [hN4] at cc4
      refine call_lent false [10000000, 310000000] cc4 (by simp (disch := omega) only [go_sem]) (by simp (disch := omega) only [go_sem]) rfl (lend_two (z := 0) (cs := [.sl l.length (bytesA l), .v (.int .i64 (i3)), .v (.int .i64 (h3))]) (z' := 1) (cs' := ints xs4) (by simp (disch := omega) only [go_sem]) (by simp (disch := omega) only [go_sem]) (by simp (disch := omega) only [go_sem]) (by simp (disch := omega) only [go_sem])) (by intro n hn; simp only [List.mem_cons, List.not_mem_nil, or_false] at hn; rcases hn with rfl | rfl <;> simp [AV.top]) ?_
      rintro r hs bs ⟨rfl, ⟨x, hx, rfl⟩, i4, h4, hi4, rfl⟩ -
      clear cc4 hL4 hx hG4 hN4
      refine ⟨by simp [freeN], ?_⟩
      simp (disch := omega) only [go_sem]
      refine fin_intro [] [] [.own 0 [.sl l.length (bytesA l), .v (.int .i64 (i4)), .v (.int .i64 (h4))]] [.ag [.v (.int .i64 (V.k)), .v (.bool (V.s)), .v (.int .i64 (V.m)), .v (.int .i64 (x))]] rfl (by simp (disch := omega) only [go_sem]) (by simp (disch := omega) only [go_sem]) (by simp) (by simp) ⟨rfl, ⟨⟨V.k, V.s, V.m, x⟩, rfl⟩, _, _, by omega, rfl⟩
    · simp (disch := omega) only [go_sem, c0, c1, c2]
      refine fin_intro [] [] [.own 0 [.sl l.length (bytesA l), .v (.int .i64 (i3)), .v (.int .i64 (h3))]] [.ag [.v (.int .i64 (V.k)), .v (.bool (!V.s)), .v (.int .i64 (V.m)), .v (.int .i64 (V.e))]] rfl (by simp (disch := omega) only [go_sem]) (by simp (disch := omega) only [go_sem]) (by simp) (by simp) ⟨rfl, ⟨⟨V.k, !V.s, V.m, V.e⟩, rfl⟩, _, _, by omega, rfl⟩
end
end Go.Ab
namespace Go.Ab
open Go
set_option linter.unusedVariables false
set_option linter.unusedSimpArgs false

end Go.Ab
namespace Go.Ab
open Go Go.Proofs
set_option linter.unusedVariables false
set_option linter.unusedSimpArgs false

end Go.Ab
namespace Go.Ab
open Go Go.Proofs
set_option linter.unusedVariables false
set_option linter.unusedSimpArgs false

end Go.Ab
namespace Go.Ab
open Go Go.Proofs
set_option linter.unusedVariables false
set_option linter.unusedSimpArgs false

section
variable (l : List UInt8) (hl : l.length ≤ 9223372036854775807) (i h : Int) (hi : 0 ≤ i ∧ i ≤ l.length)
include hl hi

end

theorem con_l1New (l : List UInt8) (hl : l.length ≤ 9223372036854775807) : Con Tryz.prog 32 false [.sl l.length (bytesA l)] [] (fun r hs bs => r = .pt 0 0 ∧ bs = [] ∧ ∃ h : Int, hs = [.own 0 [.sl l.length (bytesA l), .v (.int .i64 0), .v (.int .i64 h)]]) := by
  refine Con.of_aw Tryz.func32 rfl Tryz.ntmps32 (by simp) (by simp) (by simp) (W.sound ?_)
  show @W Tryz.prog 32 ⟨_⟩ ⟨fun x σ => @retW _ _ _ ⟨_⟩ _ ⟨_⟩ x σ⟩ _ _
  simp (disch := omega) only [go_sem]
  refine loop_intro (fun x : Nat × Int => [(0, .sl l.length (bytesA l)), (3, .v (.int .i64 x.2)), (4, .v (.int .i64 x.1))]) (fun _ => []) (fun x => x.1 ≤ l.length) (fun x => l.length - x.1) (0, IntKind.i64.wrap (38282 + l.length)) (by simp)
    (Le.lst [] _ _ rfl (by simp (disch := omega) only [go_sem]) (by simp (disch := omega) only [go_sem])) ?_
  rintro ⟨i, h⟩ hi
  dsimp only at hi ⊢
  have hfin : ∀ l' : List AV, l' = [.pt 0 0] → (fun r hs bs => r = .pt 0 0 ∧ bs = [] ∧ ∃ h : Int, hs = [.own 0 [.sl l.length (bytesA l), .v (.int .i64 0), .v (.int .i64 h)]] : AV → List Ob → List Ob → Prop) (tupA l') [.own 0 [.sl l.length (bytesA l), .v (.int .i64 0), .v (.int .i64 h)]] [] := fun l' e => by subst e; exact ⟨rfl, rfl, h, rfl⟩
  by_cases h1 : (i : Int) < l.length
  · by_cases h2 : (i : Int) < 4000
    · simp (disch := omega) only [go_sem, h1, h2]
      generalize IntKind.i64.wrap (IntKind.i64.wrap (IntKind.i64.wrap (h * 131) + IntKind.i64.wrap ((l.getD i 0).toNat : Int)) + 7) % 1073741824 = h'
      exact ⟨⟨by omega, by omega⟩, by omega, next_intro (i + 1, h') [] (by show i + 1 ≤ _; omega) (by show l.length - (i + 1) < l.length - i; omega) rfl (by simp (disch := omega) only [go_sem]; try omega) (by simp (disch := omega) only [go_sem])⟩
    · simp (disch := omega) only [go_sem, h1, h2]
      refine fin_intro [(0, 330000000)] [.own 0 [.sl l.length (bytesA l), .v (.int .i64 0), .v (.int .i64 h)]] [] [.pt 0 0] rfl (by simp (disch := omega) only [go_sem]) (by simp (disch := omega) only [go_sem]) (by simp) (by simp) (hfin _ rfl)
  · simp (disch := omega) only [go_sem, h1]
    refine fin_intro [(0, 330000000)] [.own 0 [.sl l.length (bytesA l), .v (.int .i64 0), .v (.int .i64 h)]] [] [.pt 0 0] rfl (by simp (disch := omega) only [go_sem]) (by simp (disch := omega) only [go_sem]) (by simp) (by simp) (hfin _ rfl)

end Go.Ab
namespace Go.Ab
open Go Go.Proofs
set_option linter.unusedVariables false
set_option linter.unusedSimpArgs false

end Go.Ab
namespace Go.Ab
open Go Go.Proofs
set_option linter.unusedVariables false
set_option linter.unusedSimpArgs false

end Go.Ab
namespace Go.Ab
open Go Go.Proofs
set_option linter.unusedVariables false
set_option linter.unusedSimpArgs false

end Go.Ab
namespace Go.Ab
open Go Go.Proofs
set_option linter.unusedVariables false
set_option linter.unusedSimpArgs false

theorem con_DrawFlOfInt (l : List UInt8) (hl : l.length ≤ 9223372036854775807) : Con Tryz.prog 6 false [.sl l.length (bytesA l)] [] (fun r hs bs => hs = [] ∧ bs = [] ∧ ∃ n m : Int, (-9223372036854775808 ≤ n ∧ n < 9223372036854775808) ∧ r = .tu [.v (.int .i64 n), .v (.int .i64 m)]) := by
  refine Con.of_aw Tryz.func6 rfl Tryz.ntmps6 (by simp) (by simp) (by simp) (W.sound ?_)
  show @W Tryz.prog 14 ⟨_⟩ ⟨fun x σ => @retW _ _ _ ⟨_⟩ _ ⟨_⟩ x σ⟩ _ _
  simp (disch := omega) only [go_sem]
  refine call_open (con_l1New l hl) (by simp (disch := omega) only [go_sem]) ?_
  rintro r hs ⟨rfl, -, ⟨h, rfl⟩⟩
  refine ⟨by simp (disch := omega) only [go_sem], ?_⟩
  simp (disch := omega) only [go_sem]
  refine call_lent false [80000000] (con_l1Below l hl 0 h (by omega) 1073741824 (by omega)) (by simp (disch := omega) only [go_sem]) (by simp (disch := omega) only [go_sem]) rfl (lend_cons (z := 0) (cs := [.sl l.length (bytesA l), .v (.int .i64 (0)), .v (.int .i64 (h))]) (by simp (disch := omega) only [go_sem]) (by simp (disch := omega) only [go_sem])) (by intro n hn; exact ⟨_, List.mem_cons_self .., by rw [List.mem_singleton.1 hn]; rfl⟩) ?_
  rintro r hs bs ⟨rfl, ⟨z, hz, rfl⟩, i1, h1, hi1, rfl⟩ -
  refine ⟨by simp [freeN], ?_⟩
  simp (disch := omega) only [go_sem]
  have hz2 := hz.2 (by omega)
  have hL2 : [AV.v (Value.int IntKind.i64 (0)), AV.v (Value.int IntKind.i64 (1)), AV.v (Value.int IntKind.i64 (-1)), AV.v (Value.int IntKind.i64 (9007199254740993)), AV.v (Value.int IntKind.i64 (18014398509481986)), AV.v (Value.int IntKind.i64 (-9007199254740995)), AV.v (Value.int IntKind.i64 (9223372036854775807)), AV.v (Value.int IntKind.i64 (-9223372036854775808)), AV.v (Value.int IntKind.i64 (z))] = ints ([0, 1, -1, 9007199254740993, 18014398509481986, -9007199254740995, 9223372036854775807, -9223372036854775808, z] : List Int) := rfl
  have cc2 := con_l1PickInt l hl i1 h1 hi1 [0, 1, -1, 9007199254740993, 18014398509481986, -9007199254740995, 9223372036854775807, -9223372036854775808, z] (by simp) (by simp)
  generalize hG2 : ([0, 1, -1, 9007199254740993, 18014398509481986, -9007199254740995, 9223372036854775807, -9223372036854775808, z] : List Int) = xs2 at hL2 cc2
  have hN2 : xs2.length = 9 := by rw [← hG2]; rfl
  rw [hL2]
  rw [hN2] at cc2
  refine call_lent false [80000000, 120000000] cc2 (by simp (disch := omega) only [go_sem]) (by simp (disch := omega) only [go_sem]) rfl (lend_two (z := 0) (cs := [.sl l.length (bytesA l), .v (.int .i64 (i1)), .v (.int .i64 (h1))]) (z' := 1) (cs' := ints xs2) (by simp (disch := omega) only [go_sem]) (by simp (disch := omega) only [go_sem]) (by simp (disch := omega) only [go_sem]) (by simp (disch := omega) only [go_sem])) (by intro n hn; simp only [List.mem_cons, List.not_mem_nil, or_false] at hn; rcases hn with rfl | rfl <;> simp [AV.top]) ?_
  rintro r hs bs ⟨rfl, ⟨n, hn, rfl⟩, i2, h2, hi2, rfl⟩ -
  have hn_b : -9223372036854775808 ≤ n ∧ n ≤ 9223372036854775807 := by
    rw [← hG2] at hn
    simp only [List.mem_cons, List.not_mem_nil, or_false] at hn
    omega
  clear cc2 hL2 hn hG2 hN2
  refine ⟨by simp [freeN], ?_⟩
  simp (disch := omega) only [go_sem]
  refine call_lent false [80000000] (con_l4drawMode l hl i2 h2 hi2) (by simp (disch := omega) only [go_sem]) (by simp (disch := omega) only [go_sem]) rfl (lend_cons (z := 0) (cs := [.sl l.length (bytesA l), .v (.int .i64 (i2)), .v (.int .i64 (h2))]) (by simp (disch := omega) only [go_sem]) (by simp (disch := omega) only [go_sem])) (by intro n hn; exact ⟨_, List.mem_cons_self .., by rw [List.mem_singleton.1 hn]; rfl⟩) ?_
  rintro r hs bs ⟨rfl, ⟨m, rfl⟩, i3, h3, hi3, rfl⟩ -
  refine ⟨by simp [freeN], ?_⟩
  simp (disch := omega) only [go_sem]
  exact fin_val (by simp (disch := omega) only [go_sem]) ⟨rfl, rfl, n, m, by omega, rfl⟩

theorem con_DrawFlToInt (l : List UInt8) (hl : l.length ≤ 9223372036854775807) : Con Tryz.prog 8 false [.sl l.length (bytesA l)] [] (fun r hs bs => hs = [] ∧ bs = [] ∧ ∃ (x : FlV) (m : Int), r = .tu [.ag x.cs, .v (.int .i64 m)]) := by
  refine Con.of_aw Tryz.func8 rfl Tryz.ntmps8 (by simp) (by simp) (by simp) (W.sound ?_)
  show @W Tryz.prog 11 ⟨_⟩ ⟨fun x σ => @retW _ _ _ ⟨_⟩ _ ⟨_⟩ x σ⟩ _ _
  simp (disch := omega) only [go_sem]
  refine call_open (con_l1New l hl) (by simp (disch := omega) only [go_sem]) ?_
  rintro r hs ⟨rfl, -, ⟨h, rfl⟩⟩
  refine ⟨by simp (disch := omega) only [go_sem], ?_⟩
  simp (disch := omega) only [go_sem]
  refine call_lent false [80000000] (con_l5bent l hl 0 h (by omega)) (by simp (disch := omega) only [go_sem]) (by simp (disch := omega) only [go_sem]) rfl (lend_cons (z := 0) (cs := [.sl l.length (bytesA l), .v (.int .i64 (0)), .v (.int .i64 (h))]) (by simp (disch := omega) only [go_sem]) (by simp (disch := omega) only [go_sem])) (by intro n hn; exact ⟨_, List.mem_cons_self .., by rw [List.mem_singleton.1 hn]; rfl⟩) ?_
  rintro r hs bs ⟨rfl, ⟨V, rfl⟩, i1, h1, hi1, rfl⟩ -
  refine ⟨by simp [freeN], ?_⟩
  simp (disch := omega) only [go_sem]
  unfold FlV.cs
  refine call_lent false [80000000] (con_l4drawMode l hl i1 h1 hi1) (by simp (disch := omega) only [go_sem]) (by simp (disch := omega) only [go_sem]) rfl (lend_cons (z := 0) (cs := [.sl l.length (bytesA l), .v (.int .i64 (i1)), .v (.int .i64 (h1))]) (by simp (disch := omega) only [go_sem]) (by simp (disch := omega) only [go_sem])) (by intro n hn; exact ⟨_, List.mem_cons_self .., by rw [List.mem_singleton.1 hn]; rfl⟩) ?_
  rintro r hs bs ⟨rfl, ⟨m, rfl⟩, i2, h2, hi2, rfl⟩ -
  refine ⟨by simp [freeN], ?_⟩
  simp (disch := omega) only [go_sem]
  exact fin_val (by simp (disch := omega) only [go_sem]) ⟨rfl, rfl, V, m, rfl⟩
end Go.Ab
