/- DecFloat of the program answers as DecFloat of the reference does, for all arguments: a decimal number in its memory and a rounding mode. -/
import Derived.Test.YtjkhfpjccemboaaDoorFnExactDecFloatLib5
import Derived.Lib.SmallJoins
namespace Go.Proofs.YtjkhfpjccemboaaDoor.decFloat
open Go.Joins Go.ChangeShapes Go.WideShapes Go.ChangeAt Go.RowKit Go.Ab
set_option linter.unusedVariables false

theorem cells_dec : Tryd.prog.cellsOf 26 = 3 := by kernel_rfl
theorem cells_nat : Tryd.prog.cellsOf 24 = 1 := by kernel_rfl
theorem cells_ints : Tryd.prog.cellsOf 22 = 1 := by kernel_rfl
theorem cells_int : Tryd.prog.cellsOf 3 = 1 := by kernel_rfl
theorem cells_bool : Tryd.prog.cellsOf 4 = 1 := by kernel_rfl

set_option maxRecDepth 100000 in
theorem open_dec {H : Type} {enc : TypeId × Value → H} {W : World} {base : Nat} {v : Value} {d : DataW H} {p : List MemPlace} (hv : Value.okWide Tryd.prog W .any base 26 v)
    (h : DataW.Trod enc Tryd.prog W 0 (fun _ => true) true 26 v d p) :
    ∃ s x e xs, v = .agg #[.bool s, x, .int .i64 e] ∧ xs.length ≤ maxLen ∧ FRep (fun b => b < W.heap.size) W x (.sl xs.length (ints xs)) := by
  obtain ⟨cs, rfl, hsz⟩ := okWide_struct Tryd.underlying26 hv
  obtain ⟨c0, c1, c2, rfl⟩ := array3 (hsz.trans cells_dec)
  obtain ⟨fuel, hf⟩ := h
  obtain ⟨ys, n, _, _, _, hyl, hg⟩ := DataW.trod_struct Tryd.underlying26 hf
  have g0 : DataW.trod enc Tryd.prog W 0 (fun _ => true) true n 4 [c0] = ys[0]? := by simpa [Value.cells, cells_bool] using hg 0 _ rfl
  have g1 : DataW.trod enc Tryd.prog W 0 (fun _ => true) true n 24 [c1] = ys[1]? := by simpa [Value.cells, cells_nat] using hg 1 _ rfl
  have g2 : DataW.trod enc Tryd.prog W 0 (fun _ => true) true n 3 [c2] = ys[2]? := by simpa [Value.cells, cells_int] using hg 2 _ rfl
  obtain ⟨y0, y1, y2, rfl⟩ : ∃ y0 y1 y2, ys = [y0, y1, y2] := by
    match ys, hyl with
    | [a, b, c], _ => exact ⟨a, b, c, rfl⟩
  obtain ⟨s, e0, _⟩ := DataW.trod_bool Tryd.underlying4 (g0.trans rfl)
  obtain ⟨e, e2, _, _⟩ := DataW.trod_int Tryd.underlying3 (g2.trans rfl)
  obtain ⟨us, n3, _, _, _, hul, hg3⟩ := DataW.trod_struct Tryd.underlying24 (g1.trans rfl)
  have l0 : DataW.trod enc Tryd.prog W 0 (fun _ => true) true n3 22 [c1] = us[0]? := by simpa [cells_ints] using hg3 0 _ rfl
  obtain ⟨u0, rfl⟩ : ∃ u0, us = [u0] := by
    match us, hul with
    | [a], _ => exact ⟨a, rfl⟩
  obtain ⟨x, xs, e1, hm, hr⟩ := open_is Tryd.underlying22 Tryd.underlying3 cells_int (l0.trans rfl)
  cases e0; cases e1; cases e2
  exact ⟨_, _, _, xs, rfl, hm, hr⟩

set_option maxRecDepth 100000 in
theorem lifted (os : Os) (started : os.Started) (H : Type) (enc : TypeId × Value → H) :
    ReturnsInHanded {} Tryd.checked os 3 .any (fun w args => (Rows.fnExactDecFloatSpec.pre enc Tryd.prog Tryd.f3 [] false w args ∧ laidMetH Tryd.prog laidList w) ∧ sizedMet enc Tryd.prog Tryd.f3 (OpenSpec.ofChange Rows.fnExactDecFloatSpec) false w args)
      (Rows.fnExactDecFloatSpec.post enc Tryd.prog Tryd.f3 false true false false) := by
  refine returnsInHanded_of_change_and (C := Tryd.checked) (X := fun w _ => laidMetH Tryd.prog laidList w) (fun _ _ _ hh h => h.of_heap hh) own started (by kernel_rfl) Tryd.func3
    (ChangeSpec.witness_at (enc := enc) (C := Tryd.checked) (os := os) (X := fun w _ => laidMetH Tryd.prog laidList w) false (laidWorld os) #[.agg #[.bool false, .slice none 0 0, .int .i64 0], .int .i64 0] 8 rfl (by kernel_rfl) (by kernel_rfl) (by kernel_rfl) (by kernel_rfl) (by kernel_rfl) (laidWorld_met os _)) ?_
  intro W base args ds gs before hval0 hW _ _ hL _
  have hval : ∀ (j : Nat) t v, Tryd.f3.params[j]? = some t → args[j]? = some v → Value.okWide Tryd.prog W .any base t v := hval0
  have hW' := hW
  obtain ⟨p, q, hA0, hV0, rfl, hfz, hnd⟩ := hW
  have hA : DataW.TrodAll enc Tryd.prog W 0 (fun _ => true) true Tryd.f3.params.toList args.toList ds p := hA0
  have hV : DataW.TrodVars enc Tryd.prog W (fun _ => true) [] gs q := hV0
  rw [Tryd.params3] at hA hval
  obtain ⟨v0, v1, d0, d1, p0, p1, rfl, rfl, rfl, h0, h1⟩ := trodAll_two hA
  obtain ⟨m, rfl, rfl, rfl, hwm⟩ := open_int Tryd.underlying3 (hval 1 3 v1 rfl rfl) h1
  have hg := tabs_gd hL
  obtain ⟨rfl, rfl⟩ : gs = [] ∧ q = [] := by
    cases gs with
    | nil => exact ⟨rfl, hV⟩
    | cons g r => exact absurd hV (by intro h; cases h)
  have hlt : ∀ x ∈ p0, x.block < W.heap.size := fun x hx => by simpa using hW'.lt x (by simpa using hx)
  obtain ⟨s, x, e, xs, rfl, hm, hr⟩ := open_dec (hval 0 26 v0 rfl rfl) h0
  have ef : Rows.fnExactDecFloatSpec.fn H ([d0, .lit (.int .i64 m)] ++ []) = { results := [.lit (.bool true)], args := [d0, .lit (.int .i64 m)] } := by simp [Rows.fnExactDecFloatSpec]
  refine ((law_DecFloat s xs e m (by unfold maxLen at hm; omega)).enter (fun b => b < W.heap.size) W _ (fun _ h => h) (repA_two (.fr _ _ (frep_three (.v _) hr (.v _))) (rep_v _)) (by simp [AllL, AV.All]) hg).mono fun e W' ⟨he, hw⟩ => ?_
  subst he
  refine ⟨_, rfl, _, _, _, [], p0 ++ [], [], hW', ?_, ?_, ?_, hw.kept _, fun h => by cases h⟩
  · rw [ef]; exact trodAll_mk1 (shut_bool Tryd.underlying4 true)
  · rw [ef]
    exact trodAll_mk2 (hw.trod laidOut (by kernel_rfl) (of_decide_eq_true (by kernel_rfl)) h0 (fun x hx => hlt x hx)) (shut_int Tryd.underlying3 hwm)
  · rw [ef]; rfl

theorem row_holds : Rows.FnExactDecFloatSaid :=
  OpenClaim.holds_of_wide 3 Tryd.f3 rfl rfl rfl rfl rfl rfl rfl ⟨rfl, rfl, rfl, rfl, rfl⟩ rfl rfl rfl rfl rfl (by kernel_rfl) Tryd.func3 (by kernel_rfl)
    (of_decide_eq_true (by kernel_rfl)) (by unfold Func.isWrapper; first | (rw [if_pos (by decide +kernel)]; kernel_rfl) | (rw [if_neg (by decide +kernel)]; exact ⟨rfl, rfl⟩))
    (fun os started H enc _ => lifted os started H enc)

theorem proved : Rows.FnExactDecFloatCardSaid :=
  Claim7.holds_tied_plain_at .later [] [.data, .data] true (true, "d48b5c990e23bb54dc01a35e9fd087c983081abb6aa55891d94041f33afdfecd") false
    row_holds (fun _ h => by cases h) (by kernel_rfl) (fun _ h => by cases h) fnExactDecFloat_row_tie rfl ⟨rfl, rfl⟩ (by kernel_rfl) rfl
    (fun f fn hf hfn => by
      obtain rfl : f = 3 := Option.some.inj ((show Tryd.prog.funcNamed "loop.example/g00382/laws.FnExactDecFloat" = some 3 by kernel_rfl).symm.trans hf) |>.symm
      obtain rfl : fn = Tryd.f3 := (Option.some.inj (Tryd.func3.symm.trans hfn)).symm
      exact ⟨by kernel_rfl, fun j t ht => by
        rw [Tryd.params3] at ht
        have h3 : t = 26 ∨ t = 3 := by
          rcases j with _ | _ | j
          · exact .inl (by simpa using ht.symm)
          · exact .inr (by simpa using ht.symm)
          · simp at ht
        rcases h3 with rfl | rfl
        · exact (show Tryd.prog.wantsStandIn 26 = false by kernel_rfl)
        · exact (show Tryd.prog.wantsStandIn 3 = false by kernel_rfl)⟩)
    (by kernel_rfl)
#print axioms proved
end Go.Proofs.YtjkhfpjccemboaaDoor.decFloat
