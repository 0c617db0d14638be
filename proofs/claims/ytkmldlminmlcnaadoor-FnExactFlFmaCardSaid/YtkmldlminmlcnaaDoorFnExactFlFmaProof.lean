/- The program's FlFma returns what the reference's returns, for all arguments; with the library's tables laid as its text lays them. -/
import Derived.Test.YtkmldlminmlcnaaDoorFnExactFlFmaLib5
import Derived.Lib.SmallJoins
namespace Go.Proofs.YtkmldlminmlcnaaDoor.flFma
open Go.Joins Go.ChangeShapes Go.WideShapes Go.ChangeAt Go.RowKit Go.Ab
set_option linter.unusedVariables false

set_option maxRecDepth 100000 in
theorem open_fl {H : Type} {enc : TypeId × Value → H} {W : World} {base : Nat} {v : Value} {d : DataW H} {p : List MemPlace} (hv : Value.okWide Tryd.prog W .any base 23 v)
    (h : DataW.Trod enc Tryd.prog W 0 (fun _ => true) true 23 v d p) : ∃ k s m e, v = .agg #[.int .i64 k, .bool s, .int .i64 m, .int .i64 e] := by
  obtain ⟨a0, a1, a2, a3, y0, y1, y2, y3, n, rfl, _, _, t0, t1, t2, t3⟩ := open_agg4 Tryd.underlying23 (by kernel_rfl) (by kernel_rfl) hv h
  obtain ⟨k, e0, _, _⟩ := DataW.trod_int Tryd.underlying3 t0
  obtain ⟨s, e1, _⟩ := DataW.trod_bool Tryd.underlying4 t1
  obtain ⟨m, e2, _, _⟩ := DataW.trod_int Tryd.underlying3 t2
  obtain ⟨e, e3, _, _⟩ := DataW.trod_int Tryd.underlying3 t3
  cases e0; cases e1; cases e2; cases e3
  exact ⟨k, s, m, e, rfl⟩

set_option maxRecDepth 100000 in
theorem lifted (os : Os) (started : os.Started) (H : Type) (enc : TypeId × Value → H) :
    ReturnsInHanded {} Tryd.checked os 5 .any (fun w args => (Rows.fnExactFlFmaSpec.pre enc Tryd.prog Tryd.f5 [] false w args ∧ laidMetH Tryd.prog laidList w) ∧ sizedMet enc Tryd.prog Tryd.f5 (OpenSpec.ofChange Rows.fnExactFlFmaSpec) false w args)
      (Rows.fnExactFlFmaSpec.post enc Tryd.prog Tryd.f5 false true false false) := by
  refine returnsInHanded_of_change_and (C := Tryd.checked) (X := fun w _ => laidMetH Tryd.prog laidList w) (fun _ _ _ hh h => h.of_heap hh) own started (by kernel_rfl) Tryd.func5
    (ChangeSpec.witness_at (enc := enc) (C := Tryd.checked) (os := os) (X := fun w _ => laidMetH Tryd.prog laidList w) false (laidWorld os) #[.agg #[.int .i64 0, .bool false, .int .i64 0, .int .i64 0], .agg #[.int .i64 0, .bool false, .int .i64 0, .int .i64 0], .agg #[.int .i64 0, .bool false, .int .i64 0, .int .i64 0], .int .i64 0] 8 rfl (by kernel_rfl) (by kernel_rfl) (by kernel_rfl) (by kernel_rfl) (by kernel_rfl) (laidWorld_met os _)) ?_
  intro W base args ds gs before hval0 hW _ _ hL _
  have hval : ∀ (j : Nat) t v, Tryd.f5.params[j]? = some t → args[j]? = some v → Value.okWide Tryd.prog W .any base t v := hval0
  have hW' := hW
  obtain ⟨p, q, hA0, hV0, rfl, hfz, hnd⟩ := hW
  have hA : DataW.TrodAll enc Tryd.prog W 0 (fun _ => true) true Tryd.f5.params.toList args.toList ds p := hA0
  have hV : DataW.TrodVars enc Tryd.prog W (fun _ => true) [] gs q := hV0
  rw [Tryd.params5] at hA hval
  obtain ⟨v0, v1, v2, v3, d0, d1, d2, d3, p0, p1, p2, p3, rfl, rfl, rfl, h0, h1, h2, h3⟩ := trodAll_four hA
  obtain ⟨m, rfl, rfl, rfl, hwm⟩ := open_int Tryd.underlying3 (hval 3 3 v3 rfl rfl) h3
  have hg := tabs_gd hL
  obtain ⟨rfl, rfl⟩ : gs = [] ∧ q = [] := by
    cases gs with
    | nil => exact ⟨rfl, hV⟩
    | cons g r => exact absurd hV (by intro h; cases h)
  have hlt : ∀ x ∈ p0 ++ (p1 ++ p2), x.block < W.heap.size := fun x hx => by simpa using hW'.lt x (by simpa using hx)
  obtain ⟨k1, s1, m1, e1, rfl⟩ := open_fl (hval 0 23 v0 rfl rfl) h0
  obtain ⟨k2, s2, m2, e2, rfl⟩ := open_fl (hval 1 23 v1 rfl rfl) h1
  obtain ⟨k3, s3, m3, e3, rfl⟩ := open_fl (hval 2 23 v2 rfl rfl) h2
  have ef : Rows.fnExactFlFmaSpec.fn H ([d0, d1, d2, .lit (.int .i64 m)] ++ []) = { results := [.lit (.bool true)], args := [d0, d1, d2, .lit (.int .i64 m)] } := by simp [Rows.fnExactFlFmaSpec]
  refine ((law_FlFma k1 s1 m1 e1 k2 s2 m2 e2 k3 s3 m3 e3 m).enter (fun _ => False) W _ (fun _ h => h.elim) (repA_four (.fr _ _ (frep_four _ _ _ _)) (.fr _ _ (frep_four _ _ _ _)) (.fr _ _ (frep_four _ _ _ _)) (rep_v _)) (by simp [AllL, AV.All]) hg).mono fun e W' ⟨he, hw⟩ => ?_
  subst he
  refine ⟨_, rfl, _, _, _, [], p0 ++ (p1 ++ (p2 ++ [])), [], hW', ?_, ?_, ?_, hw.kept _, fun h => by cases h⟩
  · rw [ef]; exact trodAll_mk1 (shut_bool Tryd.underlying4 true)
  · rw [ef]
    exact trodAll_mk4 (hw.trod laidOut (by kernel_rfl) (of_decide_eq_true (by kernel_rfl)) h0 (fun x hx => hlt x (by simp [hx]))) (hw.trod laidOut (by kernel_rfl) (of_decide_eq_true (by kernel_rfl)) h1 (fun x hx => hlt x (by simp [hx]))) (hw.trod laidOut (by kernel_rfl) (of_decide_eq_true (by kernel_rfl)) h2 (fun x hx => hlt x (by simp [hx]))) (shut_int Tryd.underlying3 hwm)
  · rw [ef]; rfl

theorem row_holds : Rows.FnExactFlFmaSaid :=
  OpenClaim.holds_of_wide 5 Tryd.f5 rfl rfl rfl rfl rfl rfl rfl ⟨rfl, rfl, rfl, rfl, rfl⟩ rfl rfl rfl rfl rfl (by kernel_rfl) Tryd.func5 (by kernel_rfl)
    (of_decide_eq_true (by kernel_rfl)) (by unfold Func.isWrapper; first | (rw [if_pos (by decide +kernel)]; kernel_rfl) | (rw [if_neg (by decide +kernel)]; exact ⟨rfl, rfl⟩))
    (fun os started H enc _ => lifted os started H enc)

theorem proved : Rows.FnExactFlFmaCardSaid :=
  Claim7.holds_tied_plain_at .later [] [.data, .data] true (true, "bbbdab48c8cb9cb1d3abd00e17ded8b9bf4ca9c37180c250777b8102d06a99be") false
    row_holds (fun _ h => by cases h) (by kernel_rfl) (fun _ h => by cases h) fnExactFlFma_row_tie rfl ⟨rfl, rfl⟩ (by kernel_rfl) rfl
    (fun f fn hf hfn => by
      obtain rfl : f = 5 := Option.some.inj ((show Tryd.prog.funcNamed "loop.example/g00382/laws.FnExactFlFma" = some 5 by kernel_rfl).symm.trans hf) |>.symm
      obtain rfl : fn = Tryd.f5 := (Option.some.inj (Tryd.func5.symm.trans hfn)).symm
      exact ⟨by kernel_rfl, fun j t ht => by
        rw [Tryd.params5] at ht
        have h3 : t = 23 ∨ t = 3 := by
          rcases j with _ | _ | _ | _ | j
          · exact .inl (by simpa using ht.symm)
          · exact .inl (by simpa using ht.symm)
          · exact .inl (by simpa using ht.symm)
          · exact .inr (by simpa using ht.symm)
          · simp at ht
        rcases h3 with rfl | rfl
        · exact (show Tryd.prog.wantsStandIn 23 = false by kernel_rfl)
        · exact (show Tryd.prog.wantsStandIn 3 = false by kernel_rfl)⟩)
    (by kernel_rfl)
#print axioms proved
end Go.Proofs.YtkmldlminmlcnaaDoor.flFma
