/- What the proof of this claim stands on: the walks of the functions and the plain laws, part 3. -/
import Derived.Test.YtjkhfpjccemboaaDoorFnExactDecFloatLib2
import Derived.Orders
import Derived.Test.YtjkhfpjccemboaaDoorProg
import Derived.KernelRfl
namespace Go.Ab
open Go
set_option linter.unusedVariables false

/-- One guarded operation. -/
def stW (P : Program) (l0 : List Oper) (o : Oper) (K : KV) (e : Nat → AV) (h : Nat → Ob) : Prop := match o.guard with
  | none => @Op1 P ⟨o.dst⟩ ⟨o.op⟩ ⟨K⟩ e h
  | some (j, want) => @grdW ⟨l0⟩ j want e ⟨fun c => @ifW c ⟨@Op1 P ⟨o.dst⟩ ⟨o.op⟩ ⟨K⟩ e h⟩ ⟨K (.v (.tuple ⟨[]⟩)) h⟩⟩

structure Item where
  i : Nat
  ws : List Nat
  wa : List Nat

def tmpsOf : List Operand → List Nat
  | [] => []
  | .tmp t :: r => t :: tmpsOf r
  | _ :: r => tmpsOf r

def readsO (l0 : List Oper) (o : Oper) : List Nat := tmpsOf (opnds o.op) ++ match o.guard with
  | none => []
  | some (j, _) => ((l0[j]?).bind (·.dst)).toList

def fpOk (F : Nat → List Nat) (h hp : Nat → Ob) : List Nat → Prop
  | [] => True
  | j :: r => (∀ m ∈ F j, hp m = h m) ∧ fpOk F h hp r

def nomOk (o : Op) (l : List AV) (wa : List Nat) : Prop := (∀ c ∈ wa, noTop c l) ∧ (wa ≠ [] → noNm o l)

/-- The operations in the order that is chosen for the proof. -/
def ChD (P : Program) (N : Nat) (l0 : List Oper) (Q : St → Prop) : List Item → (Nat → List Nat) → (Nat → AV) → (Nat → Ob) → Prop
  | [], F, e, h => Q ⟨e, h⟩
  | it :: c, F, e, h => match l0[it.i]? with
    | none => False
    | some o => dOk N o.dst ∧ nomOk o.op (evL e (opnds o.op)) it.wa ∧ stW P l0 o (fun v hp => fpOk F h hp it.ws ∧ ChD P N l0 Q c (upd F it.i (fps o.op e)) (putE e o.dst v) hp) e h

/-! ### The check -/
def edgeM (o : Oper) (acc : List Nat) : Nat := o.after.toList.foldl (fun s e => bif Region.binds .any e then s ||| 2 ^ e.on ||| acc.getD e.on 0 else s) 0
def mskGo : List Oper → List Nat → List Nat
  | [], acc => acc
  | o :: r, acc => mskGo r (acc ++ [edgeM o acc])

def memN (l : List Nat) (n : Nat) : Bool := l.any (Nat.beq n)
def disjN (d : Option Nat) (l : List Nat) : Bool := match d with
  | none => true
  | some d => !memN l d

/-- x stands before y in the chosen order, and nothing orders them: x may wait. -/
def swB (l0 : List Oper) (x y : Item) : Bool := match l0[x.i]?, l0[y.i]? with
  | some ox, some oy => movB ox.op && disjN ox.dst (readsO l0 oy) && disjN oy.dst (readsO l0 ox) &&
      (match ox.dst with | some d => disjN oy.dst [d] | none => true) &&
      ((fpOp ox.op).isEmpty || memN y.ws x.i) && (!allocB ox.op || (memN y.wa (cOf ox.dst) && !Nat.beq (ox.dst.getD 0) (oy.dst.getD 0)))
  | _, _ => false

def prB (l0 : List Oper) (M : List Nat) (x y : Item) : Bool :=
  !Nat.beq x.i y.i && !memN x.ws y.i && (Nat.testBit (M.getD y.i 0) x.i || swB l0 x y) &&
  (match l0[x.i]? with
  | some ox => ox.after.toList.all fun e => !Region.binds .any e || !Nat.beq e.on y.i
  | none => false)

def pwB (r : Item → Item → Bool) : List Item → Bool
  | [] => true
  | a :: l => l.all (r a) && pwB r l

def okD (l0 : List Oper) (c : List Item) : Bool :=
  pwB (prB l0 (mskGo l0 [])) c && Nat.beq c.length l0.length && c.all (fun it => Nat.blt it.i l0.length && !memN it.ws it.i) &&
  ((List.range l0.length).all fun i => memN (c.map (·.i)) i) &&
  (List.range l0.length).all (fun i => match l0[i]? with
    | some o => o.after.toList.all fun e => !Region.binds .any e || Nat.blt e.on i
    | none => false)

section
variable {P : Program} {N : Nat} {l0 : List Oper} {Q : St → Prop}

theorem evW_agree {e e' : Nat → AV} : ∀ {l : List Operand}, (∀ t ∈ tmpsOf l, e' t = e t) → ∀ x ∈ l, evW e' x = evW e x
  | [], _, x, hx => by cases hx
  | y :: r, h, x, hx => by
    have h2 : ∀ t ∈ tmpsOf r, e' t = e t := fun t ht => h t (by cases y <;> simp [tmpsOf, ht])
    rcases List.mem_cons.1 hx with rfl | hx
    · cases x with
      | tmp t => exact h t (by simp [tmpsOf])
      | _ => rfl
    · exact evW_agree h2 x hx

theorem evL_agree {e e' : Nat → AV} {l : List Operand} (h : ∀ t ∈ tmpsOf l, e' t = e t) : evL e' l = evL e l := by
  rw [evL_map, evL_map]; exact List.map_congr_left (evW_agree h)

theorem fps_agree {e e' : Nat → AV} {op : Op} (h : ∀ t ∈ tmpsOf (opnds op), e' t = e t) : fps op e' = fps op e := by
  have hsub : ∀ x ∈ fpOp op, x ∈ opnds op := by
    intro x hx
    cases op <;> simp [fpOp] at hx <;> subst hx <;> simp [opnds]
  unfold fps
  rw [evL_map, evL_map]
  congr 1
  exact List.map_congr_left fun x hx => evW_agree h x (hsub x hx)

theorem stW_mono {o : Oper} {K K' : KV} {e : Nat → AV} {h : Nat → Ob} (hs : stW P l0 o K e h) (hk : ∀ v hp, K v hp → K' v hp) : stW P l0 o K' e h := by
  unfold stW at *
  split at hs
  · exact Op1_mono hs hk
  · unfold grdW at *
    dsimp only at hs ⊢
    split at hs
    · unfold boolW at *
      split at hs
      · exact ⟨fun g => Op1_mono (hs.1 g) hk, fun g => hk _ _ (hs.2 g)⟩
      · exact ⟨fun g => Op1_mono (hs.1 g) hk, fun g => hk _ _ (hs.2 g)⟩
      · exact hs.elim
    · exact hs.elim

theorem stW_env {o : Oper} {K : KV} {e e' : Nat → AV} {h : Nat → Ob} (he : ∀ t ∈ readsO l0 o, e' t = e t) (hs : stW P l0 o K e h) : stW P l0 o K e' h := by
  have he1 : ∀ t ∈ tmpsOf (opnds o.op), e' t = e t := fun t ht => he t (by unfold readsO; exact List.mem_append.2 (.inl ht))
  have hop : ∀ {K : KV}, @Op1 P ⟨o.dst⟩ ⟨o.op⟩ ⟨K⟩ e h → @Op1 P ⟨o.dst⟩ ⟨o.op⟩ ⟨K⟩ e' h := fun hs => Op1_env (evW_agree he1) hs
  unfold stW at *
  split at hs
  · exact hop hs
  · rename_i j want hg
    unfold grdW at *
    dsimp only at hs ⊢
    split at hs
    · rename_i d hd
      have : e' d = e d := he d (by unfold readsO; rw [hg]; exact List.mem_append.2 (.inr (by show d ∈ ((l0[j]?).bind (·.dst)).toList; rw [hd]; simp)))
      unfold boolW at *
      rw [this]
      split at hs
      · exact ⟨fun g => hop (hs.1 g), hs.2⟩
      · exact ⟨fun g => hop (hs.1 g), hs.2⟩
      · exact hs.elim
    · exact hs.elim

theorem stW_frame {o : Oper} {K K' : KV} {e : Nat → AV} {h : Nat → Ob} {c : Nat} {ob : Ob} (hf : h c = .free) (hck : ∀ i, i < 10000000 → c ≠ cOf o.dst + i) (hA : noTop c (evL e (opnds o.op))) (hN : noNm o.op (evL e (opnds o.op)))
    (hs : stW P l0 o K e (upd h c ob)) (hk : ∀ v hp, hp c = .free → K v (upd hp c ob) → K' v hp) : stW P l0 o K' e h := by
  unfold stW at *
  split at hs
  · exact Op1_frame hf hck hA hN hs hk
  · unfold grdW at *
    dsimp only at hs ⊢
    split at hs
    · unfold boolW at *
      split at hs
      · exact ⟨fun g => Op1_frame hf hck hA hN (hs.1 g) hk, fun g => hk _ _ hf (hs.2 g)⟩
      · exact ⟨fun g => Op1_frame hf hck hA hN (hs.1 g) hk, fun g => hk _ _ hf (hs.2 g)⟩
      · exact hs.elim
    · exact hs.elim

theorem stW_mov {o : Oper} {K : KV} {e : Nat → AV} {h : Nat → Ob} (hm : movB o.op = true) (hs : stW P l0 o K e h) :
    ∃ u eff, K u (apE eff (cOf o.dst) h) ∧ (eff ≠ none → allocB o.op = true ∧ h (cOf o.dst) = .free ∧ ∃ z cs, eff = some (.own z cs)) ∧ ∀ e' h' K', (∀ t ∈ readsO l0 o, e' t = e t) → (∀ m ∈ fps o.op e, h' m = h m) →
      (eff ≠ none → h' (cOf o.dst) = .free) → K' u (apE eff (cOf o.dst) h') → stW P l0 o K' e' h' := by
  have hs0 := hs
  unfold stW at hs
  split at hs
  · rename_i hg
    obtain ⟨u, eff, h1, h2, h3⟩ := Op1_mov hm hs
    refine ⟨u, eff, h1, h2, fun e' h' K' he hf hfr hk => ?_⟩
    unfold stW
    rw [hg]
    exact h3 e' h' K' (evW_agree fun t ht => he t (by unfold readsO; exact List.mem_append.2 (.inl ht))) hf hfr hk
  · rename_i j want hg
    unfold grdW at hs
    dsimp only at hs
    split at hs
    · rename_i d hd
      unfold boolW at hs
      split at hs
      · rename_i b hb
        cases hbw : b == want with
        | true =>
          obtain ⟨u, eff, h1, h2, h3⟩ := Op1_mov hm (hs.1 hbw)
          refine ⟨u, eff, h1, h2, fun e' h' K' he hf hfr hk => ?_⟩
          unfold stW
          rw [hg]
          unfold grdW
          dsimp only
          rw [hd]
          dsimp only
          rw [he d (by unfold readsO; rw [hg]; exact List.mem_append.2 (.inr (by show d ∈ ((l0[j]?).bind (·.dst)).toList; rw [hd]; simp))), hb]
          show @ifW (b == want) ⟨_⟩ ⟨_⟩
          rw [hbw, if_t]
          exact h3 e' h' K' (evW_agree fun t ht => he t (by unfold readsO; exact List.mem_append.2 (.inl ht))) hf hfr hk
        | false =>
          refine ⟨(.v (.tuple ⟨[]⟩)), none, hs.2 hbw, fun g => absurd rfl g, fun e' h' K' he hf hfr hk => ?_⟩
          unfold stW
          rw [hg]
          unfold grdW
          dsimp only
          rw [hd]
          dsimp only
          rw [he d (by unfold readsO; rw [hg]; exact List.mem_append.2 (.inr (by show d ∈ ((l0[j]?).bind (·.dst)).toList; rw [hd]; simp))), hb]
          show @ifW (b == want) ⟨_⟩ ⟨_⟩
          rw [hbw, if_f]
          exact hk
      · rename_i hb
        refine ⟨(.v (.tuple ⟨[]⟩)), none, hs.2 rfl, fun g => absurd rfl g, fun e' h' K' he hf hfr hk => ?_⟩
        unfold stW
        rw [hg]
        unfold grdW
        dsimp only
        rw [hd]
        dsimp only
        rw [he d (by unfold readsO; rw [hg]; exact List.mem_append.2 (.inr (by show d ∈ ((l0[j]?).bind (·.dst)).toList; rw [hd]; simp))), hb]
        show @ifW false ⟨_⟩ ⟨_⟩
        rw [if_f]
        exact hk
      · exact hs.elim
    · exact hs.elim

theorem fpOk_iff {F : Nat → List Nat} {h hp : Nat → Ob} {ws : List Nat} : fpOk F h hp ws ↔ ∀ j ∈ ws, ∀ m ∈ F j, hp m = h m := by
  induction ws with
  | nil => simp [fpOk]
  | cons j r ih => simp [fpOk, ih]

theorem memN_iff {l : List Nat} {n : Nat} : memN l n = true ↔ n ∈ l := by
  unfold memN
  rw [List.any_eq_true]
  exact ⟨fun ⟨x, hx, e⟩ => by rw [Nat.eq_of_beq_eq_true e]; exact hx, fun h => ⟨n, h, Nat.beq_refl n⟩⟩

theorem putE_agree {e : Nat → AV} {d : Option Nat} {v : AV} {l : List Nat} (h : disjN d l = true) : ∀ t ∈ l, putE e d v t = e t := by
  intro t ht
  cases d with
  | none => rfl
  | some d =>
    refine upd_ne fun e => ?_
    subst e
    simp only [disjN, Bool.not_eq_true'] at h
    rw [memN_iff.2 ht] at h; cases h

theorem putE_comm {e : Nat → AV} {d d' : Option Nat} {v v' : AV} (h : (match d with | some d => disjN d' [d] | none => true) = true) : putE (putE e d v) d' v' = putE (putE e d' v') d v := by
  cases d with
  | none => rfl
  | some d =>
    cases d' with
    | none => rfl
    | some d' =>
      have hne : d' ≠ d := fun e => by
        subst e
        simp [disjN, memN, Nat.beq_refl] at h
      funext t
      simp only [putE, upd]
      by_cases h1 : t = d' <;> by_cases h2 : t = d <;> simp [h1, h2] <;> (intro e; exact absurd (by omega) hne) <;> simp_all

theorem spaced {a b : Option Nat} (h : Nat.beq (a.getD 0) (b.getD 0) = false) : ∀ i, i < 10000000 → cOf a ≠ cOf b + i := by
  intro i hi e
  have : a.getD 0 ≠ b.getD 0 := fun e => by rw [e, Nat.beq_refl] at h; cases h
  unfold cOf at e
  omega

/-- Any operation that nothing keeps may come first. -/
theorem ext_y {y : Item} {oy : Oper} {suf : List Item} (hoy : l0[y.i]? = some oy) : ∀ {pre : List Item} {F : Nat → List Nat} {e : Nat → AV} {h : Nat → Ob}, (∀ x ∈ pre, swB l0 x y = true ∧ x.i ≠ y.i ∧ memN x.ws y.i = false ∧ F x.i = []) → (pre.map (·.i)).Nodup →
    ChD P N l0 Q (pre ++ y :: suf) F e h → dOk N oy.dst ∧ nomOk oy.op (evL e (opnds oy.op)) y.wa ∧
      stW P l0 oy (fun v hp => fpOk F h hp y.ws ∧ ChD P N l0 Q (pre ++ suf) (upd F y.i (fps oy.op e)) (putE e oy.dst v) hp) e h
  | [], F, e, h, _, _, hc => by
    simp only [List.nil_append, ChD, hoy] at hc
    exact hc
  | x :: pre, F, e, h, hsw, hnd, hc => by
    obtain ⟨hxy, hne, hws, hFx⟩ := hsw x (by simp)
    have hnd := List.nodup_cons.1 hnd
    unfold swB at hxy
    cases hox : l0[x.i]? with
    | none => rw [hox] at hxy; cases hxy
    | some ox =>
      rw [hox, hoy] at hxy
      simp only [Bool.and_eq_true, Bool.or_eq_true, Bool.not_eq_true'] at hxy
      obtain ⟨⟨⟨⟨⟨s1, s2⟩, s3⟩, s4⟩, s5⟩, s6⟩ := hxy
      simp only [List.cons_append, ChD, hox] at hc
      obtain ⟨hd, hnx, hst⟩ := hc
      obtain ⟨u, eff, ⟨hfx, hK⟩, heff, hstab⟩ := stW_mov s1 hst
      obtain ⟨hdy, hny, hsy⟩ := ext_y hoy (fun z hz => let ⟨g1, g2, g3, g4⟩ := hsw z (by simp [hz]); ⟨g1, g2, g3, by rw [upd_ne (fun e => hnd.1 (by show x.i ∈ _; rw [← e]; exact List.mem_map_of_mem (f := (·.i)) hz))]; exact g4⟩) hnd.2 hK
      have hag : ∀ t ∈ readsO l0 oy, putE e ox.dst u t = e t := putE_agree s2
      have hag1 : ∀ t ∈ tmpsOf (opnds oy.op), putE e ox.dst u t = e t := fun t ht => hag t (by unfold readsO; exact List.mem_append.2 (.inl ht))
      have hag' : ∀ v, ∀ t ∈ readsO l0 ox, putE e oy.dst v t = e t := fun v => putE_agree s3
      have hag1' : ∀ v, ∀ t ∈ tmpsOf (opnds ox.op), putE e oy.dst v t = e t := fun v t ht => hag' v t (by unfold readsO; exact List.mem_append.2 (.inl ht))
      rw [evL_agree hag1] at hny
      rw [fps_agree hag1] at hsy
      refine ⟨hdy, hny, ?_⟩
      have hsy2 := stW_env (e' := e) (fun t ht => (hag t ht).symm) hsy
      -- what comes behind y
      have fin : ∀ v hp, (eff ≠ none → hp (cOf ox.dst) = .free) → (∀ m ∈ fps ox.op e, hp m = h m) → fpOk F h hp y.ws →
          ChD P N l0 Q (pre ++ suf) (upd (upd F x.i (fps ox.op e)) y.i (fps oy.op e)) (putE (putE e ox.dst u) oy.dst v) (apE eff (cOf ox.dst) hp) →
          fpOk F h hp y.ws ∧ ChD P N l0 Q ((x :: pre) ++ suf) (upd F y.i (fps oy.op e)) (putE e oy.dst v) hp := by
        intro v hp hfr hfp hfy hch
        refine ⟨hfy, ?_⟩
        simp only [List.cons_append, ChD, hox]
        refine ⟨hd, by rw [evL_agree (hag1' v)]; exact hnx, hstab _ _ _ (hag' v) hfp hfr ⟨?_, ?_⟩⟩
        · rw [fpOk_iff] at hfx ⊢
          intro j hj m hm
          have hjy : j ≠ y.i := fun e => by subst e; rw [memN_iff.2 hj] at hws; cases hws
          rw [upd_ne hjy] at hm
          have := hfx j hj m hm
          cases heq : eff with
          | none => rfl
          | some ob =>
            rw [heq] at this
            obtain ⟨_, g1, z, cs, g2⟩ := heff (by rw [heq]; simp)
            have hmc : m ≠ cOf ox.dst := fun e => by
              rw [heq] at g2; cases g2
              rw [e] at this
              simp only [apE, upd_same] at this
              rw [g1] at this; cases this
            simp only [apE]
            exact upd_ne hmc
        · rw [fps_agree (hag1' v)]
          have e1 : upd (upd F y.i (fps oy.op e)) x.i (fps ox.op e) = upd (upd F x.i (fps ox.op e)) y.i (fps oy.op e) := by
            funext k
            simp only [upd]
            by_cases h1 : k = x.i <;> by_cases h2 : k = y.i <;> simp [h1, h2] <;> (intro e; exact absurd (by omega) hne) <;> simp_all
          rw [e1, ← putE_comm s4]
          exact hch
      have hfpx : ∀ {h2 hp : Nat → Ob}, fpOk (upd F x.i (fps ox.op e)) h2 hp y.ws → (∀ m ∈ fps ox.op e, hp m = h2 m) ∧ fpOk F h2 hp y.ws := by
        intro h2 hp hh
        rw [fpOk_iff] at hh
        refine ⟨fun m hm => ?_, fpOk_iff.2 fun j hj m hm => ?_⟩
        · rcases s5 with s5 | s5
          · have : fps ox.op e = [] := by unfold fps; rw [List.isEmpty_iff.1 s5]; rfl
            rw [this] at hm; cases hm
          · exact hh _ (memN_iff.1 s5) m (by rw [upd_same]; exact hm)
        · by_cases hjx : j = x.i
          · subst hjx; rw [hFx] at hm; cases hm
          · exact hh j hj m (by rw [upd_ne hjx]; exact hm)
      cases heq : eff with
      | none =>
        rw [heq] at hsy2
        refine stW_mono hsy2 fun v hp ⟨h1, h2⟩ => ?_
        have := hfpx h1
        refine fin v hp (fun g => absurd heq g) this.1 this.2 ?_
        rw [heq]; exact h2
      | some ob =>
        obtain ⟨ha, hfree, z, cs, hob⟩ := heff (by rw [heq]; simp)
        rw [heq] at hsy2
        rw [ha] at s6
        simp only [Bool.true_eq_false, false_or] at s6
        have hcm : cOf ox.dst ∈ y.wa := memN_iff.1 s6.1
        refine stW_frame hfree (spaced s6.2) (hny.1 _ hcm) (hny.2 fun e => by rw [e] at hcm; cases hcm) hsy2 fun v hp hpc ⟨h1, h2⟩ => ?_
        have hx := hfpx h1
        have hdn : ∀ m, upd hp (cOf ox.dst) ob m = upd h (cOf ox.dst) ob m → hp m = h m := fun m hm => by
          by_cases hmc : m = cOf ox.dst
          · subst hmc; rw [hpc, hfree]
          · rwa [upd_ne hmc, upd_ne hmc] at hm
        refine fin v hp (fun _ => hpc) (fun m hm => hdn m (hx.1 m hm)) (fpOk_iff.2 fun j hj m hm => hdn m (fpOk_iff.1 hx.2 j hj m hm)) ?_
        rw [heq]; exact h2

end
end Go.Ab
namespace Go.Ab
open Go
set_option linter.unusedVariables false

section
variable {P : Program} {N : Nat}

theorem edgeM_bit {o : Oper} {acc : List Nat} {x : Nat} (h : Nat.testBit (edgeM o acc) x = true) : ∃ e ∈ o.after, Region.binds .any e = true ∧ (e.on = x ∨ Nat.testBit (acc.getD e.on 0) x = true) := by
  unfold edgeM at h
  have key : ∀ (l : List Edge) (s : Nat), Nat.testBit (l.foldl (fun s e => bif Region.binds .any e then s ||| 2 ^ e.on ||| acc.getD e.on 0 else s) s) x = true →
      Nat.testBit s x = true ∨ ∃ e ∈ l, Region.binds .any e = true ∧ (e.on = x ∨ Nat.testBit (acc.getD e.on 0) x = true) := by
    intro l
    induction l with
    | nil => intro s h; exact .inl h
    | cons a l ih =>
      intro s h
      rcases ih _ h with h | ⟨e, he, h1, h2⟩
      · dsimp only at h
        cases hb : Region.binds .any a with
        | false => rw [hb, cond_false] at h; exact .inl h
        | true =>
          rw [hb, cond_true, Nat.testBit_or, Nat.testBit_or] at h
          simp only [Bool.or_eq_true] at h
          rcases h with (h | h) | h
          · exact .inl h
          · refine .inr ⟨a, by simp, hb, .inl ?_⟩
            rw [Nat.testBit_two_pow] at h
            exact of_decide_eq_true h
          · exact .inr ⟨a, by simp, hb, .inr h⟩
      · exact .inr ⟨e, by simp [he], h1, h2⟩
  rcases key _ _ h with h | ⟨e, he, h1, h2⟩
  · simp at h
  · exact ⟨e, by simpa using he, h1, h2⟩

theorem mskGo_get : ∀ (l : List Oper) (acc : List Nat), (∀ i, i < acc.length → (mskGo l acc).getD i 0 = acc.getD i 0) ∧ (mskGo l acc).length = acc.length + l.length ∧
    ∀ k (hk : k < l.length), ∃ acc' : List Nat, (∀ i x, Nat.testBit (acc'.getD i 0) x = true → Nat.testBit ((mskGo l acc).getD i 0) x = true) ∧ (mskGo l acc).getD (acc.length + k) 0 = edgeM l[k] acc'
  | [], acc => ⟨fun _ _ => rfl, by simp [mskGo], fun k hk => by simp at hk⟩
  | o :: r, acc => by
    obtain ⟨h1, h2, h3⟩ := mskGo_get r (acc ++ [edgeM o acc])
    have h1' : ∀ i, i < acc.length → (mskGo (o :: r) acc).getD i 0 = acc.getD i 0 := fun i hi => by
      simp only [mskGo]
      rw [h1 i (by simp; omega), List.getD_eq_getElem?_getD, List.getElem?_append_left hi, ← List.getD_eq_getElem?_getD]
    refine ⟨h1', by simp only [mskGo]; rw [h2]; simp; omega, fun k hk => ?_⟩
    cases k with
    | zero =>
      refine ⟨acc, fun i x hx => ?_, ?_⟩
      · rcases Nat.lt_or_ge i acc.length with hi | hi
        · rw [h1' i hi]; exact hx
        · rw [List.getD_eq_getElem?_getD, List.getElem?_eq_none hi] at hx; simp at hx
      · simp only [mskGo, Nat.add_zero, List.getElem_cons_zero]
        rw [h1 _ (by simp), List.getD_eq_getElem?_getD, List.getElem?_append_right (by omega)]; simp
    | succ k =>
      obtain ⟨acc', g1, g2⟩ := h3 k (by simpa using hk)
      refine ⟨acc', g1, ?_⟩
      simp only [mskGo, List.getElem_cons_succ]
      rw [← g2]; congr 1; simp; omega

theorem msk_bit {l0 : List Oper} {i x : Nat} {o : Oper} (ho : l0[i]? = some o) (h : Nat.testBit ((mskGo l0 []).getD i 0) x = true) :
    ∃ e ∈ o.after, Region.binds .any e = true ∧ (e.on = x ∨ Nat.testBit ((mskGo l0 []).getD e.on 0) x = true) := by
  obtain ⟨hi, rfl⟩ := List.getElem?_eq_some_iff.1 ho
  obtain ⟨acc', g1, g2⟩ := (mskGo_get l0 []).2.2 i hi
  simp only [List.length_nil, Nat.zero_add] at g2
  rw [g2] at h
  obtain ⟨e, he, h1, h2⟩ := edgeM_bit h
  exact ⟨e, he, h1, h2.imp id (g1 _ _)⟩

theorem pw_of {r : Item → Item → Bool} : ∀ {l : List Item}, pwB r l = true → l.Pairwise (fun a b => r a b = true)
  | [], _ => List.Pairwise.nil
  | a :: l, h => by
    simp only [pwB, Bool.and_eq_true, List.all_eq_true] at h
    exact List.Pairwise.cons h.1 (pw_of h.2)

theorem stW_snd {L : Nat → Option Blk → Prop} {w0 : World} {R0 : Nat → Prop} {ops : Array Oper} {o : Oper} {i : Nat} (ho : ops[i]? = some o) {K : KV} {e : Nat → AV} {h : Nat → Ob} {a : Act} {w : World} {next : Act → World → Prop} {Q' : Exit → Act → World → Prop}
    (hi : In L w0 R0 N ⟨e, h⟩ a w) (hd : dOk N o.dst) (hs : stW P ops.toList o K e h) (hn : ∀ v hp a' w', In L w0 R0 N ⟨putE e o.dst v, hp⟩ a' w' → K v hp → next a' w') : wpOp P ops Q' i next a w := by
  unfold wpOp
  rw [ho]
  dsimp only
  obtain ⟨d, op, ty, pos, af, g⟩ := o
  have run : @Op1 P ⟨d⟩ ⟨op⟩ ⟨K⟩ e h → Oper.wp P ⟨d, op, ty, pos, af, g⟩ a w next Q' := fun hs => by
    obtain ⟨R, ι, hR, hinv⟩ := hi.inv
    refine op_snd hinv (Op1.sound hs ty pos af g) fun x w' R' ι' av hp' hR' hK hx hm hi' => ?_
    exact hn _ _ _ _ (hi.put (o := ⟨d, op, ty, pos, af, g⟩) hd hR hR' hx hm hi') hK
  have skip : K (.v (.tuple ⟨[]⟩)) h → next (a.put d undef) w := fun hs => by
    obtain ⟨R, ι, hR, hinv⟩ := hi.inv
    exact hn _ _ _ _ (hi.put (o := ⟨d, op, ty, pos, af, g⟩) hd hR (fun _ h => .inl h) (.fr _ _ (.v _)) (by simp [AV.All]) hinv) hs
  unfold stW at hs
  cases g with
  | none =>
    rw [if_pos (by simp [Region.wanted])]
    exact .inl (run hs)
  | some p =>
    obtain ⟨j, want⟩ := p
    dsimp only at hs
    unfold grdW at hs
    dsimp only at hs
    split at hs
    · rename_i d' hd'
      have key : ∀ v c, e d' = .v v → (match v with | .bool b => some b | _ => none) = c → yielded ops a.tmps j = c := by
        intro v c hv hc
        obtain ⟨R, ι, hR, hinv⟩ := hi.inv
        have := hinv.env d'
        change Rep _ _ _ _ (e d') at this
        rw [hv] at this
        have := this.v_inv
        unfold yielded
        rw [Array.getElem?_toList] at hd'
        rw [hd']
        rw [Array.getD_eq_getD_getElem?] at this
        cases ee : a.tmps[d']? with
        | none =>
          rw [ee] at this
          subst hc
          have : v = undef := this.symm
          subst this; simp [ee, undef]
        | some y => rw [ee] at this; simp at this; subst this; subst hc; simp only [Option.bind_some, ee]; cases y <;> rfl
      unfold boolW at hs
      split at hs
      · rename_i b hb
        have hy := key _ _ hb rfl
        have hw : Region.wanted ⟨d, op, ty, pos, af, some (j, want)⟩ (yielded ops a.tmps) = (b == want) := by
          simp only [Region.wanted, hy]
          cases b <;> cases want <;> rfl
        rw [hw]
        cases hbw : b == want with
        | true => rw [if_pos rfl]; exact .inl (run (hs.1 hbw))
        | false => rw [if_neg (by simp)]; exact skip (hs.2 hbw)
      · rename_i hb
        have hy := key _ _ hb rfl
        have hw : Region.wanted ⟨d, op, ty, pos, af, some (j, want)⟩ (yielded ops a.tmps) = false := by
          simp only [Region.wanted, hy]
          cases want <;> rfl
        rw [hw, if_neg (by simp)]
        exact skip (hs.2 rfl)
      · exact hs.elim
    · exact hs.elim

/-- What holds of the operations that are still to come. -/
structure Rest (ops : Array Oper) (c : List Item) (listed : Array Bool) : Prop where
  pw : c.Pairwise (fun a b => prB ops.toList (mskGo ops.toList []) a b = true)
  lt : ∀ x ∈ c, x.i < ops.size
  mem : ∀ i, i < ops.size → (listed.getD i true = false ↔ ∃ x ∈ c, x.i = i)
  sz : listed.size = ops.size
  back : ∀ i o, ops[i]? = some o → ∀ e ∈ o.after, Region.binds .any e = true → e.on < i
  closed : ∀ i o, ops[i]? = some o → listed.getD i true = true → ∀ e ∈ o.after, Region.binds .any e = true → listed.getD e.on true = true

theorem Rest.before {ops : Array Oper} {c : List Item} {listed : Array Bool} (h : Rest ops c listed) (x : Nat) : ∀ (n i : Nat) (o : Oper), i < n → ops[i]? = some o →
    (∀ e ∈ o.after, Region.binds .any e = true → listed.getD e.on true = true) → Nat.testBit ((mskGo ops.toList []).getD i 0) x = true → listed.getD x true = true
  | 0, i, o, hn, _, _, _ => by omega
  | n + 1, i, o, hn, ho, hr, hb => by
    obtain ⟨e, he, h1, h2⟩ := msk_bit (by rw [Array.getElem?_toList]; exact ho) hb
    rcases h2 with h2 | h2
    · rw [← h2]; exact hr e he h1
    · have hlt := h.back i o ho e he h1
      cases ho2 : ops[e.on]? with
      | none =>
        have := (Array.getElem?_eq_some_iff.1 ho).1
        rw [Array.getElem?_eq_none_iff] at ho2; omega
      | some o2 => exact Rest.before h x n e.on o2 (by omega) ho2 (h.closed e.on o2 ho2 (hr e he h1)) h2

theorem chD_any {L : Nat → Option Blk → Prop} {w0 : World} {R0 : Nat → Prop} {ops : Array Oper} {K : St → Prop} {Q' : Exit → Act → World → Prop} (hQ : ∀ σ a w, In L w0 R0 N σ a w → K σ → Q' .normal a w) :
    ∀ (n : Nat) (c : List Item) (listed : Array Bool) (F : Nat → List Nat) {e h a w}, c.length = n → Rest ops c listed → (∀ x ∈ c, F x.i = []) → In L w0 R0 N ⟨e, h⟩ a w → ChD P N ops.toList K c F e h →
      wpAny P .any ops Q' n listed a w
  | 0, c, listed, F, e, h, a, w, hn, hr, hF, hi, hc => by
    have : c = [] := List.length_eq_zero_iff.1 hn
    subst this
    refine ⟨?_, hQ _ _ _ hi hc⟩
    unfold Region.ready
    rw [List.filter_eq_nil_iff]
    intro i hi'
    have hlt := List.mem_range.1 hi'
    have : listed.getD i true = true := by
      cases hl : listed.getD i true with
      | true => rfl
      | false => obtain ⟨x, hx, _⟩ := (hr.mem i hlt).1 hl; cases hx
    simp [this]
  | n + 1, c, listed, F, e, h, a, w, hn, hr, hF, hi, hc => by
    refine ⟨fun hnil => ?_, fun i hrd => ?_⟩
    · -- the first one is ready
      exfalso
      cases c with
      | nil => simp at hn
      | cons x c =>
        have hxlt := hr.lt x (by simp)
        obtain ⟨ox, hox⟩ : ∃ ox, ops[x.i]? = some ox := ⟨ops[x.i], Array.getElem?_eq_getElem hxlt⟩
        have hxl : listed.getD x.i true = false := (hr.mem _ hxlt).2 ⟨x, by simp, rfl⟩
        have hmem : x.i ∈ Region.ready .any ops listed := by
          unfold Region.ready
          rw [List.mem_filter]
          refine ⟨List.mem_range.2 hxlt, ?_⟩
          simp only [hxl, hox, Bool.not_false, Bool.true_and, Option.map_some, Option.getD_some, Array.all_eq_true']
          intro e' he'
          cases hb : Region.binds .any e' with
          | false => rfl
          | true =>
            simp only [Bool.not_true, Bool.false_or]
            have hlt := hr.back _ _ hox e' he' hb
            have hlt2 : e'.on < listed.size := by rw [hr.sz]; omega
            have key : listed.getD e'.on true = true := by
              cases hl : listed.getD e'.on true with
              | true => rfl
              | false =>
                obtain ⟨z, hz, hzi⟩ := (hr.mem _ (by omega)).1 hl
                rcases List.mem_cons.1 hz with rfl | hz
                · omega
                · have := List.rel_of_pairwise_cons hr.pw hz
                  unfold prB at this
                  rw [Array.getElem?_toList, hox] at this
                  simp only [Bool.and_eq_true, List.all_eq_true] at this
                  have := this.2 e' (by simpa using he')
                  rw [hb, hzi, Nat.beq_refl] at this
                  simp at this
            rw [Array.getD_eq_getD_getElem?, Array.getElem?_eq_getElem hlt2] at key ⊢
            exact key
        rw [hnil] at hmem; cases hmem
    · unfold Region.ready at hrd
      rw [List.mem_filter] at hrd
      obtain ⟨hlt, hrd⟩ := hrd
      have hlt := List.mem_range.1 hlt
      obtain ⟨oy, hoy⟩ : ∃ oy, ops[i]? = some oy := ⟨ops[i], Array.getElem?_eq_getElem hlt⟩
      simp only [hoy, Option.map_some, Option.getD_some, Bool.and_eq_true, Bool.not_eq_true', Array.all_eq_true', Bool.or_eq_true] at hrd
      obtain ⟨hun, hed⟩ := hrd
      have hed2 : ∀ e ∈ oy.after, Region.binds .any e = true → listed.getD e.on true = true := fun e' he' hb => by
        have h1 := hed e' he'
        rw [hb] at h1
        simp only [Bool.true_eq_false, false_or] at h1
        have hlt := hr.back _ _ hoy e' he' hb
        have hlt2 : e'.on < listed.size := by rw [hr.sz]; omega
        rw [Array.getD_eq_getD_getElem?, Array.getElem?_eq_getElem hlt2] at h1 ⊢
        exact h1
      obtain ⟨y, hy, rfl⟩ := (hr.mem i hlt).1 hun
      obtain ⟨pre, suf, rfl⟩ := List.append_of_mem hy
      have hpw := hr.pw
      rw [List.pairwise_append] at hpw
      obtain ⟨hp1, hp2, hp3⟩ := hpw
      have hdist : ∀ {a b : Item}, prB ops.toList (mskGo ops.toList []) a b = true → a.i ≠ b.i := fun hab e => by
        unfold prB at hab
        rw [e, Nat.beq_refl] at hab
        simp at hab
      have hnd : ((pre ++ y :: suf).map (·.i)).Nodup := by
        rw [List.nodup_iff_pairwise_ne, List.pairwise_map]
        exact hr.pw.imp hdist
      have hsw : ∀ x ∈ pre, swB ops.toList x y = true ∧ x.i ≠ y.i ∧ memN x.ws y.i = false ∧ F x.i = [] := by
        intro x hx
        have hpr := hp3 x hx y (by simp)
        have hd := hdist hpr
        unfold prB at hpr
        simp only [Bool.and_eq_true, Bool.or_eq_true, Bool.not_eq_true'] at hpr
        obtain ⟨⟨⟨_, h2⟩, h3⟩, _⟩ := hpr
        refine ⟨?_, hd, h2, hF x (by simp [hx])⟩
        rcases h3 with h3 | h3
        · exfalso
          have := hr.before x.i (y.i + 1) y.i oy (by omega) hoy hed2 h3
          rw [(hr.mem x.i (hr.lt x (by simp [hx]))).2 ⟨x, by simp [hx], rfl⟩] at this
          cases this
        · exact h3
      have hndp : (pre.map (·.i)).Nodup := by
        rw [List.map_append, List.nodup_append] at hnd
        exact hnd.1
      obtain ⟨hdk, hnm, hst⟩ := ext_y (by rw [Array.getElem?_toList]; exact hoy) hsw hndp hc
      refine stW_snd hoy hi hdk hst fun v hp a' w' hi' ⟨_, hch⟩ => ?_
      refine chD_any hQ n (pre ++ suf) _ _ (by simp at hn ⊢; omega) ?_ ?_ hi' hch
      · have hsub : (pre ++ suf).Sublist (pre ++ y :: suf) := List.Sublist.append (List.Sublist.refl _) (List.sublist_cons_self _ _)
        have hset : ∀ j, j < ops.size → (listed.setIfInBounds y.i true).getD j true = if j = y.i then true else listed.getD j true := fun j hj => by
          by_cases e : j = y.i
          · subst e; rw [if_pos rfl, Array.getD_eq_getD_getElem?, Array.getElem?_setIfInBounds_self_of_lt (by rw [hr.sz]; exact hj)]; rfl
          · rw [if_neg e, Array.getD_eq_getD_getElem?, Array.getElem?_setIfInBounds_ne (fun h => e h.symm), ← Array.getD_eq_getD_getElem?]
        refine ⟨hr.pw.sublist hsub, fun x hx => hr.lt x (hsub.subset hx), fun j hj => ?_, by simp [hr.sz], hr.back, fun j o hj hl e' he' hb => ?_⟩
        · rw [hset j hj]
          by_cases ej : j = y.i
          · subst ej
            rw [if_pos rfl]
            refine Iff.intro (fun h => nomatch h) (fun ⟨x, hx, hxi⟩ => ?_)
            exfalso
            rw [List.map_append, List.map_cons, List.nodup_append] at hnd
            obtain ⟨_, g2, g3⟩ := hnd
            have g2 := List.nodup_cons.1 g2
            rcases List.mem_append.1 hx with hx | hx
            · exact g3 _ (List.mem_map_of_mem (f := (·.i)) hx) _ (by simp) hxi
            · exact g2.1 (by show y.i ∈ _; rw [← hxi]; exact List.mem_map_of_mem (f := (·.i)) hx)
          · rw [if_neg ej, hr.mem j hj]
            refine ⟨fun ⟨x, hx, hxi⟩ => ⟨x, ?_, hxi⟩, fun ⟨x, hx, hxi⟩ => ⟨x, hsub.subset hx, hxi⟩⟩
            rcases List.mem_append.1 hx with hx | hx
            · exact List.mem_append.2 (.inl hx)
            · rcases List.mem_cons.1 hx with rfl | hx
              · exact absurd hxi.symm ej
              · exact List.mem_append.2 (.inr hx)
        · have hjlt := (Array.getElem?_eq_some_iff.1 hj).1
          have hlt := hr.back j o hj e' he' hb
          rw [hset j hjlt] at hl
          rw [hset e'.on (by omega)]
          by_cases ee : e'.on = y.i
          · rw [if_pos ee]
          · rw [if_neg ee]
            by_cases ej : j = y.i
            · subst ej
              rw [hoy] at hj; cases hj
              exact hed2 e' he' hb
            · rw [if_neg ej] at hl
              exact hr.closed j o hj hl e' he' hb
      · intro x hx
        have hxy : x.i ≠ y.i := fun e => by
          rw [List.map_append, List.map_cons, List.nodup_append] at hnd
          obtain ⟨_, g2, g3⟩ := hnd
          have g2 := List.nodup_cons.1 g2
          rcases List.mem_append.1 hx with hx | hx
          · exact g3 _ (List.mem_map_of_mem (f := (·.i)) hx) _ (by simp) e
          · exact g2.1 (by show y.i ∈ _; rw [← e]; exact List.mem_map_of_mem (f := (·.i)) hx)
        rw [upd_ne hxy]
        refine hF x ?_
        rcases List.mem_append.1 hx with hx | hx
        · exact List.mem_append.2 (.inl hx)
        · exact List.mem_append.2 (.inr (by simp [hx]))

/-- A region whose order is drawn: in the order that the list c tells. -/
theorem draw_intro {l : List Oper} {Q : St → Prop} {e : Nat → AV} {h : Nat → Ob} (hm : P.follows .mixedOrders = true) (c : List Item) (hok : okD l c = true) (hc : ChD P N l Q c (fun _ => []) e h) : @drawW P N ⟨l⟩ ⟨Q⟩ ⟨e, h⟩ := by
  intro id L w0 R0 a w hi
  refine wp_region_any hm ?_
  simp only [okD, Bool.and_eq_true, List.all_eq_true, Bool.not_eq_true', List.mem_range] at hok
  obtain ⟨⟨⟨⟨h1, h2⟩, h3⟩, h4⟩, h5⟩ := hok
  have hlen : c.length = l.length := Nat.eq_of_beq_eq_true h2
  have hi' : In L w0 R0 N ⟨e, h⟩ a { w with drawn := w.drawn + 1 } := by
    obtain ⟨R, ι, hR, hinv⟩ := hi.inv
    exact ⟨hi.df, hi.sz, R, ι, hR, hinv.drew⟩
  have hblt : ∀ {a b : Nat}, Nat.blt a b = true → a < b := fun h => by simp [Nat.blt] at h; omega
  refine chD_any (ops := ⟨l⟩) (K := Q) (fun σ a w hi hq => ⟨σ, hi, rfl, hq⟩) _ c _ (fun _ => []) (by simpa using hlen) ⟨pw_of h1, fun x hx => by simpa using hblt (h3 x hx).1, fun i hi => ?_, by simp, fun i o ho e' he' hb => ?_, fun i o ho hl => ?_⟩ (fun _ _ => rfl) hi' hc
  · have hi2 : i < l.length := by simpa using hi
    refine ⟨fun _ => ?_, fun _ => ?_⟩
    · have := memN_iff.1 (h4 i hi2)
      obtain ⟨x, hx, e'⟩ := List.mem_map.1 this
      exact ⟨x, hx, e'⟩
    · rw [Array.getD_eq_getD_getElem?]
      have hi3 : i < (Array.mk l).size := hi
      show ((Array.replicate (Array.mk l).size false)[i]?).getD true = false
      rw [Array.getElem?_replicate, if_pos hi3]; rfl
  · have hi2 : i < l.length := by have := (Array.getElem?_eq_some_iff.1 ho).1; simpa using this
    have := h5 i hi2
    rw [show l[i]? = some o by simpa using ho] at this
    have this := List.all_eq_true.1 this e' (by simpa using he')
    rw [hb] at this
    exact hblt (by simpa using this)
  · have hi2 := (Array.getElem?_eq_some_iff.1 ho).1
    have hl2 : ((Array.replicate (Array.mk l).size false)[i]?).getD true = true := by rw [← Array.getD_eq_getD_getElem?]; exact hl
    rw [Array.getElem?_replicate, if_pos hi2] at hl2; cases hl2

end
end Go.Ab
namespace Go.Ab
open Go
set_option linter.unusedVariables false

def nnW [op : Bx Op] (l : List AV) : Prop := noNm op.v l
def nomW [op : Bx Op] (l : List AV) (wa : List Nat) : Prop := nomOk op.v l wa
def fpW [op : Bx Op] (e : Nat → AV) : List Nat := fps op.v e
def opsW [op : Bx Op] (e : Nat → AV) : List AV := evL e (opnds op.v)
def allK : List Nat → (Nat → Prop) → Prop
  | [], _ => True
  | k :: r, p => p k ∧ allK r p
def sameW (h hp : Nat → Ob) : List Nat → Prop
  | [] => True
  | m :: r => hp m = h m ∧ sameW h hp r

def DrC (P : Program) (N : Nat) [l0 : Bx (List Oper)] [c : Bx (List Item)] [Q : Bx (St → Prop)] (F : Nat → List Nat) (e : Nat → AV) (h : Nat → Ob) : Prop := ChD P N l0.v Q.v c.v F e h
def nthW [l : Bx (List Oper)] (i : Nat) [K : Bx (Oper → Prop)] : Prop := match l.v[i]? with
  | none => False
  | some o => K.v o
def stpW (P : Program) [l0 : Bx (List Oper)] [o : Bx Oper] [K : Bx KV] (e : Nat → AV) (h : Nat → Ob) : Prop := stW P l0.v o.v K.v e h

section
variable {P : Program} {N : Nat} {e : Nat → AV} {h hp : Nat → Ob} {l : List AV} {l0 : List Oper} {F : Nat → List Nat} {Q : St → Prop}

theorem noTop_nil {c : Nat} : noTop c [] = True := _root_.id rfl
theorem noTop_v {c : Nat} {x : Value} {r : List AV} : noTop c (.v x :: r) = noTop c r := by simp [noTop, AV.top]
theorem noTop_un {c : Nat} {r : List AV} : noTop c (.un :: r) = noTop c r := by simp [noTop, AV.top]
theorem noTop_sl {c n : Nat} {cs r : List AV} : noTop c (.sl n cs :: r) = noTop c r := by simp [noTop, AV.top]
theorem noTop_fp {c o : Nat} {cs r : List AV} : noTop c (.fp cs o :: r) = noTop c r := by simp [noTop, AV.top]
theorem noTop_ag {c : Nat} {cs r : List AV} : noTop c (.ag cs :: r) = noTop c r := by simp [noTop, AV.top]
theorem noTop_tu {c : Nat} {cs r : List AV} : noTop c (.tu cs :: r) = noTop c r := by simp [noTop, AV.top]
theorem noTop_fn {c f : Nat} {cs r : List AV} : noTop c (.fn f cs :: r) = noTop c r := by simp [noTop, AV.top]
theorem noTop_rf {c m o n : Nat} {r : List AV} : noTop c (.rf m o n :: r) = (m ≠ c ∧ noTop c r) := by simp [noTop, AV.top]
theorem noTop_pt {c m o : Nat} {r : List AV} : noTop c (.pt m o :: r) = (m ≠ c ∧ noTop c r) := by simp [noTop, AV.top]
theorem allK_nil {p : Nat → Prop} : allK [] p = True := _root_.id rfl
theorem allK_cons {k : Nat} {r : List Nat} {p : Nat → Prop} : allK (k :: r) p = (p k ∧ allK r p) := _root_.id rfl
theorem sameW_nil : sameW h hp [] = True := _root_.id rfl
theorem sameW_cons {m : Nat} {r : List Nat} : sameW h hp (m :: r) = (hp m = h m ∧ sameW h hp r) := _root_.id rfl
theorem sameW_iff {l : List Nat} : sameW h hp l ↔ ∀ m ∈ l, hp m = h m := by
  induction l with
  | nil => simp [sameW]
  | cons m r ih => simp [sameW, ih]
theorem allK_iff {l : List Nat} {p : Nat → Prop} : allK l p ↔ ∀ m ∈ l, p m := by
  induction l with
  | nil => simp [allK]
  | cons m r ih => simp [allK, ih]
theorem fpOk_nil : fpOk F h hp [] = True := _root_.id rfl
theorem fpOk_cons {j : Nat} {r : List Nat} : fpOk F h hp (j :: r) = (sameW h hp (F j) ∧ fpOk F h hp r) := by
  simp only [fpOk, eq_iff_iff, sameW_iff]
theorem nom_nil {op : Op} : @nomW ⟨op⟩ l [] = True := by simp [nomW, nomOk]
theorem nom_cons {op : Op} {c : Nat} {r : List Nat} : @nomW ⟨op⟩ l (c :: r) = (allK (c :: r) (fun c => noTop c l) ∧ @nnW ⟨op⟩ l) := by
  simp only [nomW, nomOk, nnW, eq_iff_iff, allK_iff]
  exact ⟨fun h => ⟨h.1, h.2 (by simp)⟩, fun h => ⟨h.1, fun _ => h.2⟩⟩
theorem topsL_nil : topsL [] = [] := _root_.id rfl
theorem topsL_rf {m o n : Nat} {r : List AV} : topsL (.rf m o n :: r) = m :: topsL r := _root_.id rfl
theorem topsL_pt {m o : Nat} {r : List AV} : topsL (.pt m o :: r) = m :: topsL r := _root_.id rfl
theorem topsL_v {x : Value} {r : List AV} : topsL (.v x :: r) = topsL r := _root_.id rfl
theorem topsL_sl {n : Nat} {cs r : List AV} : topsL (.sl n cs :: r) = topsL r := _root_.id rfl
theorem topsL_fp {o : Nat} {cs r : List AV} : topsL (.fp cs o :: r) = topsL r := _root_.id rfl
theorem topsL_ag {cs r : List AV} : topsL (.ag cs :: r) = topsL r := _root_.id rfl
theorem topsL_un {r : List AV} : topsL (.un :: r) = topsL r := _root_.id rfl
theorem nth_zero {o : Oper} {r : List Oper} {K : Oper → Prop} : @nthW ⟨o :: r⟩ 0 ⟨K⟩ = K o := _root_.id rfl
theorem nth_succ {o : Oper} {r : List Oper} {n : Nat} {K : Oper → Prop} : @nthW ⟨o :: r⟩ (n + 1) ⟨K⟩ = @nthW ⟨r⟩ n ⟨K⟩ := _root_.id rfl
theorem DrC_nil : @DrC P N ⟨l0⟩ ⟨[]⟩ ⟨Q⟩ F e h = Q ⟨e, h⟩ := _root_.id rfl
theorem DrC_cons {i : Nat} {ws wa : List Nat} {c : List Item} : @DrC P N ⟨l0⟩ ⟨⟨i, ws, wa⟩ :: c⟩ ⟨Q⟩ F e h = @nthW ⟨l0⟩ i ⟨fun o => dOk N o.dst ∧ @nomW ⟨o.op⟩ (@opsW ⟨o.op⟩ e) wa ∧ @stpW P ⟨l0⟩ ⟨o⟩ ⟨fun v hp => fpOk F h hp ws ∧ @DrC P N ⟨l0⟩ ⟨c⟩ ⟨Q⟩ (upd F i (@fpW ⟨o.op⟩ e)) (putE e o.dst v) hp⟩ e h⟩ := by
  show ChD P N l0 Q (⟨i, ws, wa⟩ :: c) F e h = _
  simp only [ChD, nthW]
  cases l0[i]? <;> rfl
theorem dOk_some {d : Nat} : dOk N (some d) = (d < N) := _root_.id rfl
theorem dOk_none : dOk N none = True := _root_.id rfl
theorem putE_some {d : Nat} {v : AV} : putE e (some d) v = upd e d v := _root_.id rfl
theorem putE_none {v : AV} : putE e none v = e := _root_.id rfl
theorem stp_none {d : Option Nat} {op : Op} {ty : Nat} {pos : String} {af : Array Edge} {K : KV} : @stpW P ⟨l0⟩ ⟨⟨d, op, ty, pos, af, none⟩⟩ ⟨K⟩ e h = @Op1 P ⟨d⟩ ⟨op⟩ ⟨K⟩ e h := _root_.id rfl
theorem stp_some {d : Option Nat} {op : Op} {ty : Nat} {pos : String} {af : Array Edge} {j : Nat} {w : Bool} {K : KV} : @stpW P ⟨l0⟩ ⟨⟨d, op, ty, pos, af, some (j, w)⟩⟩ ⟨K⟩ e h = @grdW ⟨l0⟩ j w e ⟨fun c => @ifW c ⟨@Op1 P ⟨d⟩ ⟨op⟩ ⟨K⟩ e h⟩ ⟨K (.v (.tuple ⟨[]⟩)) h⟩⟩ := _root_.id rfl
theorem draw_of {l : List Oper} {Q : St → Prop} (hm : P.follows .mixedOrders = true) (c : List Item) (hok : okD l c = true) (hc : @DrC P N ⟨l⟩ ⟨c⟩ ⟨Q⟩ (fun _ => []) e h) : @drawW P N ⟨l⟩ ⟨Q⟩ ⟨e, h⟩ := draw_intro hm c hok hc
theorem nn_move {x : Operand} : @nnW ⟨.move x⟩ l = True := _root_.id rfl
theorem fpo_move {x : Operand} : @fpW ⟨.move x⟩ e = [] := _root_.id rfl
theorem nn_assign {x : Operand} : @nnW ⟨.assign x⟩ l = True := _root_.id rfl
theorem fpo_assign {x : Operand} : @fpW ⟨.assign x⟩ e = [] := _root_.id rfl
theorem nn_pick {c a b : Operand} : @nnW ⟨.pick c a b⟩ l = True := _root_.id rfl
theorem fpo_pick {c a b : Operand} : @fpW ⟨.pick c a b⟩ e = [] := _root_.id rfl
theorem nn_binOp {o : BinOp} {t u : Nat} {x y : Operand} : @nnW ⟨.binOp o t x y u⟩ l = True := _root_.id rfl
theorem fpo_binOp {o : BinOp} {t u : Nat} {x y : Operand} : @fpW ⟨.binOp o t x y u⟩ e = [] := _root_.id rfl
theorem nn_unOp {o : UnOp} {t : Nat} {x : Operand} : @nnW ⟨.unOp o t x⟩ l = True := _root_.id rfl
theorem fpo_unOp {o : UnOp} {t : Nat} {x : Operand} : @fpW ⟨.unOp o t x⟩ e = [] := _root_.id rfl
theorem nn_alloc {t : Nat} : @nnW ⟨.alloc t⟩ l = True := _root_.id rfl
theorem fpo_alloc {t : Nat} : @fpW ⟨.alloc t⟩ e = [] := _root_.id rfl
theorem nn_box {t : Nat} {x : Operand} : @nnW ⟨.box t x⟩ l = True := _root_.id rfl
theorem fpo_box {t : Nat} {x : Operand} : @fpW ⟨.box t x⟩ e = [] := _root_.id rfl
theorem nn_build {t : Nat} {ps : Array (Nat × Operand)} : @nnW ⟨.build t ps⟩ l = True := _root_.id rfl
theorem fpo_build {t : Nat} {ps : Array (Nat × Operand)} : @fpW ⟨.build t ps⟩ e = [] := _root_.id rfl
theorem nn_buildSlice {t n : Nat} {ps : Array (Nat × Operand)} : @nnW ⟨.buildSlice t n ps⟩ l = True := _root_.id rfl
theorem fpo_buildSlice {t n : Nat} {ps : Array (Nat × Operand)} : @fpW ⟨.buildSlice t n ps⟩ e = [] := _root_.id rfl
theorem nn_store {t : Nat} {a x : Operand} : @nnW ⟨.store t a x⟩ l = True := _root_.id rfl
theorem fpo_store {t : Nat} {a x : Operand} : @fpW ⟨.store t a x⟩ e = [] := _root_.id rfl
theorem nn_fieldAddr {s f : Nat} {x : Operand} : @nnW ⟨.fieldAddr s x f⟩ l = True := _root_.id rfl
theorem fpo_fieldAddr {s f : Nat} {x : Operand} : @fpW ⟨.fieldAddr s x f⟩ e = [] := _root_.id rfl
theorem nn_field {s f : Nat} {x : Operand} : @nnW ⟨.field s x f⟩ l = True := _root_.id rfl
theorem fpo_field {s f : Nat} {x : Operand} : @fpW ⟨.field s x f⟩ e = [] := _root_.id rfl
theorem nn_indexAddr {t : Nat} {x i : Operand} : @nnW ⟨.indexAddr t x i⟩ l = True := _root_.id rfl
theorem fpo_indexAddr {t : Nat} {x i : Operand} : @fpW ⟨.indexAddr t x i⟩ e = [] := _root_.id rfl
theorem nn_makeSlice {t : Nat} {x c : Operand} : @nnW ⟨.makeSlice t x c⟩ l = True := _root_.id rfl
theorem fpo_makeSlice {t : Nat} {l c : Operand} : @fpW ⟨.makeSlice t l c⟩ e = [] := _root_.id rfl
theorem nn_extract {x : Operand} {i : Nat} : @nnW ⟨.extract x i⟩ l = True := _root_.id rfl
theorem fpo_extract {x : Operand} {i : Nat} : @fpW ⟨.extract x i⟩ e = [] := _root_.id rfl
theorem nn_makeFunc {f : Fn} {a c : Array Operand} : @nnW ⟨.makeFunc f a c⟩ l = True := _root_.id rfl
theorem fpo_makeFunc {f : Fn} {a c : Array Operand} : @fpW ⟨.makeFunc f a c⟩ e = [] := _root_.id rfl
theorem nn_nilCheck {x : Operand} : @nnW ⟨.nilCheck x⟩ l = True := _root_.id rfl
theorem fpo_nilCheck {x : Operand} : @fpW ⟨.nilCheck x⟩ e = [] := _root_.id rfl
theorem nn_builtin {b : Builtin} {aa0 : Array Operand} {ts : Array Nat} : @nnW ⟨.call ⟨.builtin b, aa0, ts⟩⟩ l = True := _root_.id rfl
theorem fpo_builtin {b : Builtin} {aa0 : Array Operand} {ts : Array Nat} : @fpW ⟨.call ⟨.builtin b, aa0, ts⟩⟩ e = [] := _root_.id rfl
theorem nn_call {x : Operand} {aa0 : Array Operand} {ts : Array Nat} : @nnW ⟨.call ⟨.value x, aa0, ts⟩⟩ l = AllL (fun _ => False) l := _root_.id rfl
theorem fpo_call {x : Operand} {aa0 : Array Operand} {ts : Array Nat} : @fpW ⟨.call ⟨.value x, aa0, ts⟩⟩ e = [] := _root_.id rfl
theorem nn_load {t : Nat} {x : Operand} : @nnW ⟨.load t x⟩ l = True := _root_.id rfl
theorem fpo_load {t : Nat} {x : Operand} : @fpW ⟨.load t x⟩ e = topsL [evW e x] := _root_.id rfl
theorem nn_convert {s t : Nat} {x : Operand} : @nnW ⟨.convert s t x⟩ l = True := _root_.id rfl
theorem fpo_convert {s t : Nat} {x : Operand} : @fpW ⟨.convert s t x⟩ e = topsL [evW e x] := _root_.id rfl
theorem nn_slice {t : Nat} {x : Operand} {lo hi : Option Operand} : @nnW ⟨.slice t x lo hi none⟩ l = True := _root_.id rfl
theorem fpo_slice {t : Nat} {x : Operand} {lo hi : Option Operand} : @fpW ⟨.slice t x lo hi none⟩ e = topsL [evW e x] := _root_.id rfl
theorem ow_move {x : Operand} : @opsW ⟨.move x⟩ e = [evW e x] := _root_.id rfl
theorem ow_assign {x : Operand} : @opsW ⟨.assign x⟩ e = [evW e x] := _root_.id rfl
theorem ow_pick {c a b : Operand} : @opsW ⟨.pick c a b⟩ e = [evW e c, evW e a, evW e b] := _root_.id rfl
theorem ow_binOp {o : BinOp} {t u : Nat} {x y : Operand} : @opsW ⟨.binOp o t x y u⟩ e = [evW e x, evW e y] := _root_.id rfl
theorem ow_unOp {o : UnOp} {t : Nat} {x : Operand} : @opsW ⟨.unOp o t x⟩ e = [evW e x] := _root_.id rfl
theorem ow_alloc {t : Nat} : @opsW ⟨.alloc t⟩ e = [] := _root_.id rfl
theorem ow_box {t : Nat} {x : Operand} : @opsW ⟨.box t x⟩ e = [evW e x] := _root_.id rfl
theorem ow_store {t : Nat} {a x : Operand} : @opsW ⟨.store t a x⟩ e = [evW e a, evW e x] := _root_.id rfl
theorem ow_fieldAddr {s f : Nat} {x : Operand} : @opsW ⟨.fieldAddr s x f⟩ e = [evW e x] := _root_.id rfl
theorem ow_field {s f : Nat} {x : Operand} : @opsW ⟨.field s x f⟩ e = [evW e x] := _root_.id rfl
theorem ow_indexAddr {t : Nat} {x i : Operand} : @opsW ⟨.indexAddr t x i⟩ e = [evW e x, evW e i] := _root_.id rfl
theorem ow_makeSlice {t : Nat} {l c : Operand} : @opsW ⟨.makeSlice t l c⟩ e = [evW e l, evW e c] := _root_.id rfl
theorem ow_extract {x : Operand} {i : Nat} : @opsW ⟨.extract x i⟩ e = [evW e x] := _root_.id rfl
theorem ow_nilCheck {x : Operand} : @opsW ⟨.nilCheck x⟩ e = [evW e x] := _root_.id rfl
theorem ow_load {t : Nat} {x : Operand} : @opsW ⟨.load t x⟩ e = [evW e x] := _root_.id rfl
theorem ow_convert {s t : Nat} {x : Operand} : @opsW ⟨.convert s t x⟩ e = [evW e x] := _root_.id rfl
theorem ow_slice00 {t : Nat} {x : Operand} : @opsW ⟨.slice t x none none none⟩ e = [evW e x] := _root_.id rfl
theorem ow_slice10 {t : Nat} {x a : Operand} : @opsW ⟨.slice t x (some a) none none⟩ e = [evW e x, evW e a] := _root_.id rfl
theorem ow_slice01 {t : Nat} {x a : Operand} : @opsW ⟨.slice t x none (some a) none⟩ e = [evW e x, evW e a] := _root_.id rfl
theorem ow_slice11 {t : Nat} {x a b : Operand} : @opsW ⟨.slice t x (some a) (some b) none⟩ e = [evW e x, evW e a, evW e b] := _root_.id rfl
theorem ow_builtin {b : Builtin} {aa0 : List Operand} {ts : Array Nat} : @opsW ⟨.call ⟨.builtin b, ⟨aa0⟩, ts⟩⟩ e = evL e aa0 := _root_.id rfl
theorem ow_call {x : Operand} {aa0 : List Operand} {ts : Array Nat} : @opsW ⟨.call ⟨.value x, ⟨aa0⟩, ts⟩⟩ e = evW e x :: evL e aa0 := _root_.id rfl
theorem ow_build {t : Nat} {ps : List (Nat × Operand)} : @opsW ⟨.build t ⟨ps⟩⟩ e = evL e (ps.map (·.2)) := _root_.id rfl
theorem ow_buildSlice {t n : Nat} {ps : List (Nat × Operand)} : @opsW ⟨.buildSlice t n ⟨ps⟩⟩ e = evL e (ps.map (·.2)) := _root_.id rfl
theorem ow_makeFunc {f : Fn} {a : Array Operand} {c : List Operand} : @opsW ⟨.makeFunc f a ⟨c⟩⟩ e = evL e c := _root_.id rfl
end
end Go.Ab
namespace Go.Ab
open Go

-- the simplifier's words for walking
attribute [go_sem] W_skip W_region W_draw W_seq W_cond W_block W_loop W_exit W_ret then_normal
attribute [go_sem] then_exit then_ret blk_normal blk_ret blk_hit blk_miss ret_normal ret_ret if_t if_f
attribute [go_sem] cond_v bool_v bool_u Ch_nil Ch_some Ch_none Ch_gsome grd_zero grd_succ O_move O_assign
attribute [go_sem high] bin_and1
attribute [go_sem] bin_and bin_or bin_eqb bin_neb nilc_sl nilc_rf nilc_nil niln_sl niln_rf niln_nil O_binI O_binS O_binB O_binN eq_self
attribute [go_sem] O_pick O_bin O_un O_alloc O_box O_build O_buildSlice O_load O_store O_fieldAddr
attribute [go_sem] O_field O_indexAddr O_slice00 O_slice10 O_slice01 O_slice11 O_makeSlice O_extract O_makeFunc O_nilCheck
attribute [go_sem] O_convert O_builtin O_builtin0 O_call O_call0 ev_tmp ev_func ev_int ev_bool ev_str
attribute [go_sem] ev_nil ev_ptr ev_agg evL_nil evL_cons evP_nil evP_cons own_own int_v pick_v
attribute [go_sem] bin_add bin_sub bin_mul bin_quo bin_rem bin_shl bin_shr bin_eql bin_neq bin_lss
attribute [go_sem] bin_leq bin_gtr bin_geq un_neg un_not load_pt load_lit store_pt addr_pt addr_fp
attribute [go_sem] fld_ag idx_sl idx_rf bnd_none bnd_some slc_sl slc_rf nil_pt nil_fp ext_tu
attribute [go_sem] mk_v fill_nil fill_cons len_sl len_rf len_nil len_str src_sl src_rf src_nil
attribute [go_sem] src_str new_int new_sli new_str app_rf app_nil cpy_rf blt_len blt_max blt_min
attribute [go_sem] blt_append blt_copy val_fn conv_int cells_int cells_bool cells_string cells_nil cells_sl cells_rf
attribute [go_sem] cells_pt cells_fp cells_ag cells_fn ck_nil ck_int ck_bool ck_string ck_slice ck_sl
attribute [go_sem] ck_rf ck_fn ck_app rd_f rd_t gd_zero gd_succ wr_nil wr_zero wr_succ
attribute [go_sem] cut_nil cut_succ cut_zero load_ints res_nil res_tmp res_cell eq_t eq_f upd_eq
attribute [go_sem] ofL_cons ofL_nil ofH_cons ofH_nil argE_cons chp_hi chp_lo chp_500 chp_501 chp_502
attribute [go_sem] ints_length ints_cut ints_app ints_wr ints_zrow ints_ck ints_all wrap_id zrowL_zero zrowL_succ
attribute [go_sem] ints_nil ints_snoc lent_no Int.tdiv_eq_ediv_of_nonneg Int.tmod_eq_emod_of_nonneg leE_nil leE_cons leL_nil leL_cons leH_nil
attribute [go_sem] leH_cons rhoL_nil rhoL_cons memK_nil memK_cons enumH_eq enumF_nil enumF_cons ren_un ren_v
attribute [go_sem] ren_sl ren_fp ren_rf ren_pt ren_ag ren_tu ren_fn renL_nil renL_cons renL_ints
attribute [go_sem] Oren_own all_un all_v all_sl all_fp all_rf all_pt all_ag all_tu all_fn
attribute [go_sem] allL_nil allL_cons allL_ints snap_un snap_int snap_bool snap_string snap_nil snap_sl snap_fp
attribute [go_sem] snap_ag snap_fn snap_rf snap_pt snap_ints snp_un snp_int snp_bool snp_string snp_nil
attribute [go_sem] snp_sl snp_rf snp_pt snp_rfx idx_cons idx_nil hpx_t hpx_f back_eq snpL_rf0
attribute [go_sem] snpL_pt0 snpL_rf1 snpL_pt1 snpL_one rho_lo rho_500 rho_501 addH_nil addH_cons freeN_nil
attribute [go_sem] freeN_cons updB_nil updB_cons tupA_one tupA_nil tupA_two kdagg_int kdagg_bool kdagg_str kdagg_sli
attribute [go_sem] kdagg_stru kdagg_oth placeE_eq noTop_nil noTop_v noTop_un noTop_sl noTop_fp noTop_ag noTop_tu
attribute [go_sem] noTop_fn noTop_rf noTop_pt allK_nil allK_cons sameW_nil sameW_cons fpOk_nil fpOk_cons nom_nil
attribute [go_sem] nom_cons topsL_nil topsL_rf topsL_pt topsL_v topsL_sl topsL_fp topsL_ag topsL_un nth_zero
attribute [go_sem] nth_succ DrC_nil DrC_cons dOk_some dOk_none putE_some putE_none stp_none stp_some nn_move
attribute [go_sem] fpo_move nn_assign fpo_assign nn_pick fpo_pick nn_binOp fpo_binOp nn_unOp fpo_unOp nn_alloc
attribute [go_sem] fpo_alloc nn_box fpo_box nn_build fpo_build nn_buildSlice fpo_buildSlice nn_store fpo_store nn_fieldAddr
attribute [go_sem] fpo_fieldAddr nn_field fpo_field nn_indexAddr fpo_indexAddr nn_makeSlice fpo_makeSlice nn_extract fpo_extract nn_makeFunc
attribute [go_sem] fpo_makeFunc nn_nilCheck fpo_nilCheck nn_builtin fpo_builtin nn_call fpo_call nn_load fpo_load nn_convert
attribute [go_sem] fpo_convert nn_slice fpo_slice ow_move ow_assign ow_pick ow_binOp ow_unOp ow_alloc ow_box
attribute [go_sem] ow_store ow_fieldAddr ow_field ow_indexAddr ow_makeSlice ow_extract ow_nilCheck ow_load ow_convert ow_slice00
attribute [go_sem] ow_slice10 ow_slice01 ow_slice11 ow_builtin ow_call ow_build ow_buildSlice ow_makeFunc true_and and_true
attribute [go_sem] cond_true cond_false decide_true decide_false Bool.not_true Bool.not_false ne_eq not_false_eq_true not_true_eq_false List.length_cons
attribute [go_sem] List.length_nil Nat.zero_add Nat.add_zero Nat.mul_one Nat.one_ne_zero List.append_nil Int.toNat_natCast Int.natCast_zero Int.toNat_zero List.replicate_zero
attribute [go_sem] Int.cast_ofNat_Int List.take_length List.drop_zero Nat.le_refl List.take_nil List.drop_nil List.map_cons List.map_nil List.cons_append List.nil_append
attribute [go_sem] true_or or_true false_or or_false Option.map_some Option.map_none Option.getD_some Option.isSome_some Option.isSome_none AV.v.injEq
attribute [go_sem] AV.rf.injEq AV.pt.injEq AV.sl.injEq Value.int.injEq Ob.own.injEq List.cons.injEq implies_true
attribute [go_sem ↓] reduceIte
attribute [go_sem] Int.reduceToNat Nat.reduceEqDiff Nat.reduceAdd Nat.reduceMul Nat.reduceSub Nat.reducePow Nat.reduceLT Nat.reduceLeDiff Int.reduceNeg Int.reduceEq
attribute [go_sem] Int.reduceLT Int.reduceLE reduceCtorEq
end Go.Ab
namespace Go.Ab
open Go
set_option linter.unusedVariables false

section
variable {P : Program} {f : FuncId} {args : List AV} {post : AV → List Ob → List Ob → Prop}

/-- What is new is given to nobody who would write there. -/
theorem Con.frz (h : Con P f false args [] post) : Con P f false args [] (fun r' hs' bs' => hs' = [] ∧ bs' = [] ∧ ∃ r hs, post r hs [] ∧ r' = snap (rhp hs []) 6 r) := by
  intro R ι w vs h1 h2 h3 h4 h5
  refine (h R ι w vs h1 h2 h3 h4 h5).mono ?_
  rintro e w' ⟨x, r, hs, bs', R', ι', he, hp, hF⟩
  have hb : bs' = [] := List.length_eq_zero_iff.1 (by simpa using hF.len)
  subst hb
  have hfree : ∀ m, 10000000 ≤ m → rhp hs [] m = .free := fun m hm => by simp [rhp, hm]
  have hO : HpOk R' ι' w' (rhp hs []) := by
    refine ⟨fun m => ?_, fun m z cs B e hB hr => hF.nR m z cs B e hB (.inr hr), hF.inj, hF.men⟩
    rcases Nat.lt_or_ge m 10000000 with hm | hm
    · exact hF.okF m hm
    · rw [hfree m hm]; trivial
  have hown : ∀ {m z cs B}, rhp hs [] m = .own z cs → ι' m = some B → w.heap.size ≤ B.b ∧ B.b < w'.heap.size := by
    intro m z cs B e hB
    have hm : m < 10000000 := by
      rcases Nat.lt_or_ge m 10000000 with hm | hm
      · exact hm
      · rw [hfree m hm] at e; cases e
    refine ⟨hF.fresh m z cs B hm e hB, ?_⟩
    have := hF.okF m hm
    rw [e, hB] at this
    obtain ⟨c, T, lo, hi, g1, _⟩ := this
    rcases Nat.lt_or_ge B.b w'.heap.size with h' | h'
    · exact h'
    · simp [Array.getElem?_eq_none h'] at g1
  refine ⟨x, snap (rhp hs []) 6 r, [], [], fun b => R' b ∨ OwnB (rhp hs []) ι' b, ι', he, ⟨rfl, rfl, r, hs, hp, rfl⟩, ?_⟩
  have hnil : ∀ m, rhp [] [] m = .free := fun m => by simp [rhp]
  refine ⟨hF.ext, fun b hb => ?_, fun b hb => ?_, .fr _ _ (snap_rep hO (fun _ h => .inl h) (fun _ h => .inr h) 6 hF.rep), snap_all 6 r, fun m _ => ?_, fun m _ => ?_, fun m z cs B e => ?_, fun m m' z z' cs cs' B B' e => ?_, fun m z cs e => ?_, fun m z cs B _ e => ?_, rfl, hF.bown, fun i hi => by simp at hi⟩
  · rcases hb with hb | ⟨m, z, cs, B, e, hB, rfl⟩
    · exact hF.rlt b hb
    · exact (hown e hB).2
  · rcases hb with hb | ⟨m, z, cs, B, e, hB, rfl⟩
    · exact hF.rnew b hb
    · exact .inl (hown e hB).1
  · rw [hnil]; trivial
  · rw [hnil]; trivial
  all_goals (rw [hnil] at e; cases e)

/-- A new row of numbers, or nil. -/
def numR (l : List Int) : AV → List Ob → List Ob → Prop := fun r hs bs =>
  (l = [] ∧ r = .v (.slice none 0 0) ∧ hs = []) ∨ ∃ zs, r = .rf 0 0 l.length ∧ hs = [.own 1 (ints (l ++ zs))]

def numF (l : List Int) : AV → List Ob → List Ob → Prop := fun r hs bs => r = .sl l.length (ints l) ∧ hs = [] ∧ bs = []

theorem Con.num {l : List Int} (h : Con P f false args [] (numR l)) : Con P f false args [] (numF l) :=
  h.frz.mono fun r hs bs ⟨h1, h2, r0, hs0, h3, h4⟩ => by
    refine ⟨?_, h1, h2⟩
    rcases h3 with ⟨rfl, rfl, rfl⟩ | ⟨zs, rfl, rfl⟩
    · rw [h4]; rfl
    · rw [h4]
      show AV.sl l.length ((cut (ints (l ++ zs)) 0 (l.length * 1)).map (snap _ 5)) = _
      rw [ints_cut, List.drop_zero, Nat.mul_one, List.take_left' rfl, snap_ints]

/-- A new row of bytes, or nil. -/
def bytR (l : List UInt8) : AV → List Ob → List Ob → Prop := fun r hs bs =>
  (l = [] ∧ r = .v (.slice none 0 0) ∧ hs = []) ∨ ∃ zs, r = .rf 0 0 l.length ∧ hs = [.own 1 (bytesA (l ++ zs))]

def bytF (l : List UInt8) : AV → List Ob → List Ob → Prop := fun r hs bs => r = .sl l.length (bytesA l) ∧ hs = [] ∧ bs = []

theorem bytes_length (l : List UInt8) : (bytesA l).length = l.length := by simp [bytesA]
theorem bytes_cut {xs : List UInt8} {o n : Nat} : cut (bytesA xs) o n = bytesA ((xs.drop o).take n) := by simp [cut, bytesA]
theorem bytes_app {xs ys : List UInt8} : bytesA xs ++ bytesA ys = bytesA (xs ++ ys) := by simp [bytesA]
theorem bytes_snap {h : Nat → Ob} {k : Nat} {xs : List UInt8} : (bytesA xs).map (snap h (k + 1)) = bytesA xs := by simp [bytesA, snap_int]
theorem bytes_wr {xs : List UInt8} {o : Nat} {b : UInt8} : wr (bytesA xs) o [.v (.int .u8 b.toNat)] = bytesA (xs.set o b) := by
  simp [wr, bytesA, List.map_set]
theorem bytes_ck {xs : List UInt8} : cellOk (bytesA xs) = True := by
  simp only [eq_iff_iff, iff_true]; intro k hk; obtain ⟨n, _, rfl⟩ := List.mem_map.1 hk; rfl
theorem bytes_ren {ρ : Nat → Nat} {xs : List UInt8} : renL ρ (bytesA xs) = bytesA xs := by simp [renL_map, bytesA, AV.ren]
theorem bytes_all {p : Nat → Prop} {xs : List UInt8} : AllL p (bytesA xs) = True := by
  simp only [eq_iff_iff, iff_true]; exact AllL.of_mem fun a ha => by obtain ⟨n, _, rfl⟩ := List.mem_map.1 ha; simp [AV.All]
theorem bytes_get {xs : List UInt8} {o : Nat} (ho : o < xs.length) : (bytesA xs).getD o .un = .v (.int .u8 (xs.getD o 0).toNat) := by
  simp [bytesA, List.getD_eq_getElem?_getD, List.getElem?_eq_getElem ho]
theorem load_bytes {h : Nat → Ob} {sz o : Nat} {xs : List UInt8} {K : AV → Prop} : @loadW false sz h (.fp (bytesA xs) o) ⟨K⟩ = (o < xs.length ∧ K (.v (.int .u8 (xs.getD o 0).toNat))) := by
  rw [load_fp, rd_f, cond_false, bytes_length]
  refine propext ⟨fun ⟨h1, h2⟩ => ?_, fun ⟨h1, h2⟩ => ?_⟩
  · rw [bytes_get (by omega)] at h2; exact ⟨by omega, h2⟩
  · rw [bytes_get h1]; exact ⟨by omega, h2⟩

end

theorem pu_ints {l : List Int} : AV.pu.puL (ints l) = True := by
  simp only [eq_iff_iff, iff_true]
  induction l with
  | nil => simp [ints, AV.pu.puL]
  | cons x r ih => exact ⟨trivial, ih⟩
/-- A number as a slice that nobody writes. -/
def nsl (n : Nat) : AV := .sl (lim n).length (ints (lim n))

attribute [go_sem] bytes_wr bytes_length bytes_cut bytes_app bytes_snap bytes_ck bytes_ren bytes_all load_bytes
end Go.Ab
namespace Go.Ab
open Go
set_option linter.unusedVariables false

mutual
theorem ren_id : ∀ a : AV, a.ren (fun m => m) = a
  | .un | .v _ | .sl _ _ | .fp _ _ | .rf _ _ _ | .pt _ _ => rfl
  | .ag cs => by simp only [AV.ren, renL_id cs]
  | .tu cs => by simp only [AV.ren, renL_id cs]
  | .fn _ cs => by simp only [AV.ren, renL_id cs]
theorem renL_id : ∀ cs : List AV, renL (fun m => m) cs = cs
  | [] => rfl
  | a :: r => by simp only [renL, ren_id a, renL_id r]
end

section
variable {P : Program} {N : Nat} {Q : Exit → St → Prop} {e : Nat → AV} {h : Nat → Ob}

theorem leL_self : ∀ {l : List AV}, AllL (memK []) l → leL [] [] l l
  | [], _ => trivial
  | a :: r, hl => by
    rw [allL_cons] at hl
    exact ⟨⟨ren_id a, hl.1⟩, leL_self hl.2⟩

/-- The end of a function that hands back values alone. -/
theorem fin_val {post : AV → List Ob → List Ob → Prop} {l : List AV} (hl : AllL (memK []) l) (hp : post (tupA l) [] []) : @finW N false 0 ⟨post⟩ ⟨e⟩ l h :=
  fin_intro [] [] [] l rfl (leL_self hl) trivial (by simp) (by simp) hp

theorem fin_valc {post : AV → List Ob → List Ob → Prop} {l : List AV} (hl : AllL (memK []) l) (hu : AV.pu.puL l) (hp : post (tupA l) [] []) : @finW N true 0 ⟨post⟩ ⟨e⟩ l h := by
  refine fin_intro [] [] [] l rfl (leL_self hl) trivial (by simp) (fun _ => ⟨by simp, by simp, ?_⟩) hp
  unfold tupA; split
  · exact hu.1
  · exact hu

theorem ifW_nb {b : Bool} {A B : Prop} (ha : b = false → A) (hb : b = true → B) : @ifW (!b) ⟨A⟩ ⟨B⟩ := ⟨fun h => ha (by simpa using h), fun h => hb (by simpa using h)⟩

theorem pu_nil : AV.pu.puL [] = True := by simp [AV.pu.puL]
theorem pu_cons {a : AV} {r : List AV} : AV.pu.puL (a :: r) = (a.pu ∧ AV.pu.puL r) := by simp [AV.pu.puL]
theorem pu_v {x : Value} : AV.pu (.v x) = True := by simp [AV.pu]
theorem pu_un : AV.pu .un = True := by simp [AV.pu]
theorem pu_ag {cs : List AV} : AV.pu (.ag cs) = AV.pu.puL cs := by simp [AV.pu]
theorem pu_tu {cs : List AV} : AV.pu (.tu cs) = AV.pu.puL cs := by simp [AV.pu]
theorem pu_rf {m o n : Nat} : AV.pu (.rf m o n) = True := by simp [AV.pu]
theorem pu_sl0 {n : Nat} : AV.pu (.sl n []) = True := by simp [AV.pu]

theorem snap_tu {k : Nat} {cs : List AV} : snap h (k + 1) (.tu cs) = .tu (cs.map (snap h k)) := _root_.id rfl

/-- The answer, in values. -/
def isA (a : AV) : AV → List Ob → List Ob → Prop := fun r hs bs => r = a ∧ hs = [] ∧ bs = []

theorem isA_mk {a : AV} : isA a a [] [] := ⟨rfl, rfl, rfl⟩

/-- The answer, with what is new in it given to nobody who would write there. -/
def frzR (a : AV) : AV → List Ob → List Ob → Prop := fun r hs bs => snap (rhp hs []) 6 r = a

theorem Con.frzA {f : FuncId} {args : List AV} {a : AV} (h : Con P f false args [] (frzR a)) : Con P f false args [] (isA a) :=
  h.frz.mono fun r hs bs ⟨h1, h2, r0, hs0, h3, h4⟩ => ⟨by rw [h4]; exact h3, h1, h2⟩

theorem rhp_zero {a : Ob} {hs : List Ob} : rhp (a :: hs) [] 0 = a := by simp [rhp]
theorem rhp_one {a b : Ob} {hs : List Ob} : rhp (a :: b :: hs) [] 1 = b := by simp [rhp]
theorem snap_num {hp : Nat → Ob} {k m n : Nat} {l zs : List Int} (h : hp m = .own 1 (ints (l ++ zs))) (hn : l.length = n) : snap hp (k + 2) (.rf m 0 n) = .sl n (ints l) := by
  subst hn
  simp only [snap_rf, h]
  rw [ints_cut, List.drop_zero, Nat.mul_one, List.take_left' rfl, snap_ints]

/-- A new number. -/
def natR (m : Nat) : AV → List Ob → List Ob → Prop := fun r hs bs =>
  (m = 0 ∧ r = .ag [.v (.slice none 0 0)] ∧ hs = []) ∨ ∃ zs, r = .ag [.rf 0 0 (lim m).length] ∧ hs = [.own 1 (ints (lim m ++ zs))]

theorem Con.natF {f : FuncId} {args : List AV} {m : Nat} (h : Con P f false args [] (natR m)) : Con P f false args [] (isA (.ag [.sl (lim m).length (ints (lim m))])) :=
  Con.frzA <| h.mono fun r hs bs h => by
    rcases h with ⟨rfl, rfl, rfl⟩ | ⟨zs, rfl, rfl⟩
    · show snap _ 6 _ = _
      rw [lim_zero]; rfl
    · show snap _ 6 _ = _
      rw [snap_ag, List.map_cons, List.map_nil, snap_num (k := 3) (l := lim m) (zs := zs) rhp_zero rfl]

/-- A function of the library: of values alone. -/
theorem Con.scalar {f : FuncId} {cl : Bool} {xs : List Value} {y : Value} (h : ∀ w, Gd w → Calls P f ⟨xs⟩ w fun e w' => e = .returned y ∧ w' = w) : Con P f cl (xs.map .v) [] (isA (.v y)) := by
  intro R ι w vs h1 h2 h3 h4 h5
  have hvs : vs = ⟨xs⟩ := by
    obtain ⟨g1, g2⟩ := h2
    apply Array.ext'
    apply List.ext_getElem
    · simpa using g1
    · intro i i1 i2
      have := g2 i (by simpa using i2)
      simp only [List.getElem_map] at this
      have := this.v_inv
      rw [Array.getD_eq_getD_getElem?, Array.getElem?_eq_getElem (by simpa using i1)] at this
      simpa using this
  subst hvs
  refine (h w h5.1).mono ?_
  rintro e w' ⟨rfl, rfl⟩
  have hnil : ∀ m, rhp [] [] m = .free := fun m => by simp [rhp]
  refine ⟨y, .v y, [], [], fun _ => False, ι, rfl, ⟨rfl, rfl, rfl⟩, Ext.refl _ _, fun _ h => h.elim, fun _ h => h.elim, .fr _ _ (.v _), by simp [AV.All], fun m _ => ?_, fun m _ => ?_, fun m z cs B e => ?_, fun m m' z z' cs cs' B B' e => ?_, fun m z cs e => ?_, fun m z cs B _ e => ?_, rfl, fun m _ => rfl, fun i hi => by simp at hi⟩
  · rw [hnil]; trivial
  · rw [hnil]; trivial
  all_goals (rw [hnil] at e; cases e)

end

theorem cut_z {cs : List AV} {o : Nat} : cut cs o 0 = [] := by simp [cut]
attribute [go_sem] Bool.not_not cut_z snap_tu pu_nil pu_cons pu_v pu_un pu_ag pu_tu pu_rf pu_sl0
end Go.Ab
namespace Go.Ab
open Go Go.Proofs

def ti1 : TI := ⟨Kd.oth, 1, 8, Value.nilFunc⟩
theorem tf1 : tyOf Tryd.prog 1 = some ti1 := by kernel_rfl
def ti2 : TI := ⟨Kd.int IntKind.i64, 1, 8, Value.int IntKind.i64 0⟩
theorem tf2 : tyOf Tryd.prog 2 = some ti2 := by kernel_rfl
def ti3 : TI := ⟨Kd.int IntKind.i64, 1, 8, Value.int IntKind.i64 0⟩
theorem tf3 : tyOf Tryd.prog 3 = some ti3 := by kernel_rfl
def ti4 : TI := ⟨Kd.bool, 1, 1, Value.bool false⟩
theorem tf4 : tyOf Tryd.prog 4 = some ti4 := by kernel_rfl
def ti5 : TI := ⟨Kd.int IntKind.u8, 1, 1, Value.int IntKind.u8 0⟩
theorem tf5 : tyOf Tryd.prog 5 = some ti5 := by kernel_rfl
def ti6 : TI := ⟨Kd.int IntKind.u8, 1, 1, Value.int IntKind.u8 0⟩
theorem tf6 : tyOf Tryd.prog 6 = some ti6 := by kernel_rfl
def ti7 : TI := ⟨Kd.stru [(0, 2), (1, 3), (2, 4), (3, 6)], 4, 24, Value.agg ⟨[Value.int IntKind.i64 0, Value.int IntKind.i64 0, Value.bool false, Value.int IntKind.u8 0]⟩⟩
theorem tf7 : tyOf Tryd.prog 7 = some ti7 := by kernel_rfl
def ti8 : TI := ⟨Kd.stru [(0, 2), (1, 3), (2, 4), (3, 6)], 4, 24, Value.agg ⟨[Value.int IntKind.i64 0, Value.int IntKind.i64 0, Value.bool false, Value.int IntKind.u8 0]⟩⟩
theorem tf8 : tyOf Tryd.prog 8 = some ti8 := by kernel_rfl
def ti9 : TI := ⟨Kd.str, 1, 16, Value.string { data := ⟨[]⟩ }⟩
theorem tf9 : tyOf Tryd.prog 9 = some ti9 := by kernel_rfl
def ti10 : TI := ⟨Kd.str, 1, 16, Value.string { data := ⟨[]⟩ }⟩
theorem tf10 : tyOf Tryd.prog 10 = some ti10 := by kernel_rfl
def ti11 : TI := ⟨Kd.str, 1, 16, Value.string { data := ⟨[]⟩ }⟩
theorem tf11 : tyOf Tryd.prog 11 = some ti11 := by kernel_rfl
def ti12 : TI := ⟨Kd.int IntKind.u64, 1, 8, Value.int IntKind.u64 0⟩
theorem tf12 : tyOf Tryd.prog 12 = some ti12 := by kernel_rfl
def ti21 : TI := ⟨Kd.int IntKind.i32, 1, 4, Value.int IntKind.i32 0⟩
theorem tf21 : tyOf Tryd.prog 21 = some ti21 := by kernel_rfl
def ti22 : TI := ⟨Kd.sli 3, 1, 24, Value.slice none 0 0⟩
theorem tf22 : tyOf Tryd.prog 22 = some ti22 := by kernel_rfl
def ti23 : TI := ⟨Kd.stru [(0, 22)], 1, 24, Value.agg ⟨[Value.slice none 0 0]⟩⟩
theorem tf23 : tyOf Tryd.prog 23 = some ti23 := by kernel_rfl
def ti24 : TI := ⟨Kd.stru [(0, 22)], 1, 24, Value.agg ⟨[Value.slice none 0 0]⟩⟩
theorem tf24 : tyOf Tryd.prog 24 = some ti24 := by kernel_rfl
def ti25 : TI := ⟨Kd.stru [(0, 4), (1, 24), (2, 3)], 3, 40, Value.agg ⟨[Value.bool false, Value.slice none 0 0, Value.int IntKind.i64 0]⟩⟩
theorem tf25 : tyOf Tryd.prog 25 = some ti25 := by kernel_rfl
def ti26 : TI := ⟨Kd.stru [(0, 4), (1, 24), (2, 3)], 3, 40, Value.agg ⟨[Value.bool false, Value.slice none 0 0, Value.int IntKind.i64 0]⟩⟩
theorem tf26 : tyOf Tryd.prog 26 = some ti26 := by kernel_rfl
def ti27 : TI := ⟨Kd.oth, 1, 8, Value.nilFunc⟩
theorem tf27 : tyOf Tryd.prog 27 = some ti27 := by kernel_rfl
def ti28 : TI := ⟨Kd.stru [(0, 3), (1, 4), (2, 3), (3, 3)], 4, 32, Value.agg ⟨[Value.int IntKind.i64 0, Value.bool false, Value.int IntKind.i64 0, Value.int IntKind.i64 0]⟩⟩
theorem tf28 : tyOf Tryd.prog 28 = some ti28 := by kernel_rfl
def ti29 : TI := ⟨Kd.stru [(0, 3), (1, 4), (2, 3), (3, 3)], 4, 32, Value.agg ⟨[Value.int IntKind.i64 0, Value.bool false, Value.int IntKind.i64 0, Value.int IntKind.i64 0]⟩⟩
theorem tf29 : tyOf Tryd.prog 29 = some ti29 := by kernel_rfl
def ti31 : TI := ⟨Kd.oth, 1, 8, Value.nilFunc⟩
theorem tf31 : tyOf Tryd.prog 31 = some ti31 := by kernel_rfl
def ti32 : TI := ⟨Kd.stru [(0, 22)], 1, 24, Value.agg ⟨[Value.slice none 0 0]⟩⟩
theorem tf32 : tyOf Tryd.prog 32 = some ti32 := by kernel_rfl
def ti33 : TI := ⟨Kd.stru [(0, 4), (1, 32), (2, 3)], 3, 40, Value.agg ⟨[Value.bool false, Value.slice none 0 0, Value.int IntKind.i64 0]⟩⟩
theorem tf33 : tyOf Tryd.prog 33 = some ti33 := by kernel_rfl
def ti34 : TI := ⟨Kd.stru [(0, 4), (1, 32), (2, 3)], 3, 40, Value.agg ⟨[Value.bool false, Value.slice none 0 0, Value.int IntKind.i64 0]⟩⟩
theorem tf34 : tyOf Tryd.prog 34 = some ti34 := by kernel_rfl
def ti35 : TI := ⟨Kd.oth, 1, 8, Value.nilFunc⟩
theorem tf35 : tyOf Tryd.prog 35 = some ti35 := by kernel_rfl
def ti36 : TI := ⟨Kd.oth, 1, 8, Value.nilFunc⟩
theorem tf36 : tyOf Tryd.prog 36 = some ti36 := by kernel_rfl
def ti37 : TI := ⟨Kd.oth, 1, 8, Value.nilFunc⟩
theorem tf37 : tyOf Tryd.prog 37 = some ti37 := by kernel_rfl
def ti38 : TI := ⟨Kd.oth, 1, 8, Value.nilFunc⟩
theorem tf38 : tyOf Tryd.prog 38 = some ti38 := by kernel_rfl
def ti39 : TI := ⟨Kd.oth, 1, 8, Value.nilFunc⟩
theorem tf39 : tyOf Tryd.prog 39 = some ti39 := by kernel_rfl
def ti40 : TI := ⟨Kd.oth, 1, 8, Value.nilFunc⟩
theorem tf40 : tyOf Tryd.prog 40 = some ti40 := by kernel_rfl
def ti41 : TI := ⟨Kd.oth, 1, 8, Value.nilFunc⟩
theorem tf41 : tyOf Tryd.prog 41 = some ti41 := by kernel_rfl
def ti43 : TI := ⟨Kd.oth, 1, 8, Value.nilFunc⟩
theorem tf43 : tyOf Tryd.prog 43 = some ti43 := by kernel_rfl
def ti44 : TI := ⟨Kd.oth, 1, 8, Value.nilFunc⟩
theorem tf44 : tyOf Tryd.prog 44 = some ti44 := by kernel_rfl
def ti45 : TI := ⟨Kd.oth, 1, 8, Value.nilFunc⟩
theorem tf45 : tyOf Tryd.prog 45 = some ti45 := by kernel_rfl
def ti46 : TI := ⟨Kd.oth, 1, 8, Value.nilFunc⟩
theorem tf46 : tyOf Tryd.prog 46 = some ti46 := by kernel_rfl
def ti47 : TI := ⟨Kd.oth, 1, 8, Value.nilFunc⟩
theorem tf47 : tyOf Tryd.prog 47 = some ti47 := by kernel_rfl
def ti48 : TI := ⟨Kd.oth, 1, 8, Value.nilFunc⟩
theorem tf48 : tyOf Tryd.prog 48 = some ti48 := by kernel_rfl
def ti50 : TI := ⟨Kd.oth, 1, 8, Value.nilFunc⟩
theorem tf50 : tyOf Tryd.prog 50 = some ti50 := by kernel_rfl
def ti51 : TI := ⟨Kd.stru [(0, 4), (1, 32)], 2, 32, Value.agg ⟨[Value.bool false, Value.slice none 0 0]⟩⟩
theorem tf51 : tyOf Tryd.prog 51 = some ti51 := by kernel_rfl
def ti52 : TI := ⟨Kd.stru [(0, 4), (1, 32)], 2, 32, Value.agg ⟨[Value.bool false, Value.slice none 0 0]⟩⟩
theorem tf52 : tyOf Tryd.prog 52 = some ti52 := by kernel_rfl
def ti53 : TI := ⟨Kd.stru [(0, 52), (2, 3)], 3, 40, Value.agg ⟨[Value.bool false, Value.slice none 0 0, Value.int IntKind.i64 0]⟩⟩
theorem tf53 : tyOf Tryd.prog 53 = some ti53 := by kernel_rfl
def ti54 : TI := ⟨Kd.stru [(0, 52), (2, 3)], 3, 40, Value.agg ⟨[Value.bool false, Value.slice none 0 0, Value.int IntKind.i64 0]⟩⟩
theorem tf54 : tyOf Tryd.prog 54 = some ti54 := by kernel_rfl
def ti56 : TI := ⟨Kd.oth, 1, 8, Value.nilFunc⟩
theorem tf56 : tyOf Tryd.prog 56 = some ti56 := by kernel_rfl
def ti57 : TI := ⟨Kd.oth, 1, 8, Value.nilFunc⟩
theorem tf57 : tyOf Tryd.prog 57 = some ti57 := by kernel_rfl
def ti58 : TI := ⟨Kd.oth, 1, 8, Value.nilFunc⟩
theorem tf58 : tyOf Tryd.prog 58 = some ti58 := by kernel_rfl
def ti59 : TI := ⟨Kd.oth, 1, 8, Value.nilFunc⟩
theorem tf59 : tyOf Tryd.prog 59 = some ti59 := by kernel_rfl
def ti60 : TI := ⟨Kd.oth, 1, 8, Value.nilFunc⟩
theorem tf60 : tyOf Tryd.prog 60 = some ti60 := by kernel_rfl
def ti61 : TI := ⟨Kd.oth, 1, 8, Value.nilFunc⟩
theorem tf61 : tyOf Tryd.prog 61 = some ti61 := by kernel_rfl
def ti63 : TI := ⟨Kd.oth, 1, 8, Value.nilFunc⟩
theorem tf63 : tyOf Tryd.prog 63 = some ti63 := by kernel_rfl
def ti64 : TI := ⟨Kd.oth, 1, 8, Value.nilFunc⟩
theorem tf64 : tyOf Tryd.prog 64 = some ti64 := by kernel_rfl
def ti65 : TI := ⟨Kd.stru [(0, 4), (1, 22), (2, 3)], 3, 40, Value.agg ⟨[Value.bool false, Value.slice none 0 0, Value.int IntKind.i64 0]⟩⟩
theorem tf65 : tyOf Tryd.prog 65 = some ti65 := by kernel_rfl
def ti66 : TI := ⟨Kd.stru [(0, 4), (1, 22), (2, 3)], 3, 40, Value.agg ⟨[Value.bool false, Value.slice none 0 0, Value.int IntKind.i64 0]⟩⟩
theorem tf66 : tyOf Tryd.prog 66 = some ti66 := by kernel_rfl
def ti68 : TI := ⟨Kd.oth, 1, 8, Value.nilFunc⟩
theorem tf68 : tyOf Tryd.prog 68 = some ti68 := by kernel_rfl
def ti69 : TI := ⟨Kd.oth, 1, 8, Value.nilFunc⟩
theorem tf69 : tyOf Tryd.prog 69 = some ti69 := by kernel_rfl
def ti70 : TI := ⟨Kd.oth, 1, 8, Value.nilFunc⟩
theorem tf70 : tyOf Tryd.prog 70 = some ti70 := by kernel_rfl
def ti71 : TI := ⟨Kd.oth, 1, 8, Value.nilFunc⟩
theorem tf71 : tyOf Tryd.prog 71 = some ti71 := by kernel_rfl
def ti72 : TI := ⟨Kd.oth, 1, 8, Value.nilFunc⟩
theorem tf72 : tyOf Tryd.prog 72 = some ti72 := by kernel_rfl
def ti73 : TI := ⟨Kd.oth, 1, 8, Value.nilFunc⟩
theorem tf73 : tyOf Tryd.prog 73 = some ti73 := by kernel_rfl
def ti74 : TI := ⟨Kd.oth, 1, 8, Value.nilFunc⟩
theorem tf74 : tyOf Tryd.prog 74 = some ti74 := by kernel_rfl
def ti75 : TI := ⟨Kd.oth, 1, 8, Value.nilFunc⟩
theorem tf75 : tyOf Tryd.prog 75 = some ti75 := by kernel_rfl
def ti76 : TI := ⟨Kd.oth, 1, 8, Value.nilFunc⟩
theorem tf76 : tyOf Tryd.prog 76 = some ti76 := by kernel_rfl
def ti77 : TI := ⟨Kd.oth, 1, 8, Value.nilFunc⟩
theorem tf77 : tyOf Tryd.prog 77 = some ti77 := by kernel_rfl
def ti79 : TI := ⟨Kd.oth, 1, 8, Value.nilFunc⟩
theorem tf79 : tyOf Tryd.prog 79 = some ti79 := by kernel_rfl
def ti80 : TI := ⟨Kd.oth, 1, 8, Value.nilFunc⟩
theorem tf80 : tyOf Tryd.prog 80 = some ti80 := by kernel_rfl
def ti82 : TI := ⟨Kd.oth, 1, 8, Value.nilFunc⟩
theorem tf82 : tyOf Tryd.prog 82 = some ti82 := by kernel_rfl
def ti83 : TI := ⟨Kd.oth, 1, 8, Value.nilFunc⟩
theorem tf83 : tyOf Tryd.prog 83 = some ti83 := by kernel_rfl
def ti84 : TI := ⟨Kd.oth, 1, 8, Value.nilFunc⟩
theorem tf84 : tyOf Tryd.prog 84 = some ti84 := by kernel_rfl
def ti85 : TI := ⟨Kd.oth, 1, 8, Value.nilFunc⟩
theorem tf85 : tyOf Tryd.prog 85 = some ti85 := by kernel_rfl
def ti86 : TI := ⟨Kd.oth, 1, 8, Value.nilFunc⟩
theorem tf86 : tyOf Tryd.prog 86 = some ti86 := by kernel_rfl
def ti87 : TI := ⟨Kd.oth, 1, 8, Value.nilFunc⟩
theorem tf87 : tyOf Tryd.prog 87 = some ti87 := by kernel_rfl
def ti89 : TI := ⟨Kd.oth, 1, 8, Value.nilFunc⟩
theorem tf89 : tyOf Tryd.prog 89 = some ti89 := by kernel_rfl
def ti90 : TI := ⟨Kd.oth, 1, 8, Value.nilFunc⟩
theorem tf90 : tyOf Tryd.prog 90 = some ti90 := by kernel_rfl
def ti91 : TI := ⟨Kd.oth, 1, 8, Value.nilFunc⟩
theorem tf91 : tyOf Tryd.prog 91 = some ti91 := by kernel_rfl
def ti92 : TI := ⟨Kd.oth, 1, 8, Value.nilFunc⟩
theorem tf92 : tyOf Tryd.prog 92 = some ti92 := by kernel_rfl
def ti93 : TI := ⟨Kd.oth, 1, 8, Value.nilFunc⟩
theorem tf93 : tyOf Tryd.prog 93 = some ti93 := by kernel_rfl
def ti94 : TI := ⟨Kd.oth, 1, 8, Value.nilFunc⟩
theorem tf94 : tyOf Tryd.prog 94 = some ti94 := by kernel_rfl
def ti95 : TI := ⟨Kd.oth, 1, 8, Value.nilFunc⟩
theorem tf95 : tyOf Tryd.prog 95 = some ti95 := by kernel_rfl
def ti96 : TI := ⟨Kd.oth, 1, 8, Value.nilFunc⟩
theorem tf96 : tyOf Tryd.prog 96 = some ti96 := by kernel_rfl
def ti97 : TI := ⟨Kd.oth, 1, 8, Value.nilFunc⟩
theorem tf97 : tyOf Tryd.prog 97 = some ti97 := by kernel_rfl
def ti98 : TI := ⟨Kd.oth, 1, 8, Value.nilFunc⟩
theorem tf98 : tyOf Tryd.prog 98 = some ti98 := by kernel_rfl
def ti99 : TI := ⟨Kd.oth, 1, 8, Value.nilFunc⟩
theorem tf99 : tyOf Tryd.prog 99 = some ti99 := by kernel_rfl
def ti101 : TI := ⟨Kd.oth, 1, 8, Value.nilFunc⟩
theorem tf101 : tyOf Tryd.prog 101 = some ti101 := by kernel_rfl
def ti102 : TI := ⟨Kd.oth, 1, 8, Value.nilFunc⟩
theorem tf102 : tyOf Tryd.prog 102 = some ti102 := by kernel_rfl
def ti103 : TI := ⟨Kd.oth, 1, 8, Value.nilFunc⟩
theorem tf103 : tyOf Tryd.prog 103 = some ti103 := by kernel_rfl
def ti104 : TI := ⟨Kd.oth, 1, 8, Value.nilFunc⟩
theorem tf104 : tyOf Tryd.prog 104 = some ti104 := by kernel_rfl
def ti106 : TI := ⟨Kd.oth, 1, 8, Value.nilFunc⟩
theorem tf106 : tyOf Tryd.prog 106 = some ti106 := by kernel_rfl
def ti107 : TI := ⟨Kd.oth, 1, 8, Value.nilFunc⟩
theorem tf107 : tyOf Tryd.prog 107 = some ti107 := by kernel_rfl
def ti109 : TI := ⟨Kd.oth, 1, 8, Value.nilFunc⟩
theorem tf109 : tyOf Tryd.prog 109 = some ti109 := by kernel_rfl
def ti110 : TI := ⟨Kd.oth, 1, 8, Value.nilFunc⟩
theorem tf110 : tyOf Tryd.prog 110 = some ti110 := by kernel_rfl
def ti111 : TI := ⟨Kd.oth, 1, 8, Value.nilFunc⟩
theorem tf111 : tyOf Tryd.prog 111 = some ti111 := by kernel_rfl
def ti112 : TI := ⟨Kd.oth, 1, 8, Value.nilFunc⟩
theorem tf112 : tyOf Tryd.prog 112 = some ti112 := by kernel_rfl
def ti113 : TI := ⟨Kd.int IntKind.u64, 1, 8, Value.int IntKind.u64 0⟩
theorem tf113 : tyOf Tryd.prog 113 = some ti113 := by kernel_rfl
def ti114 : TI := ⟨Kd.oth, 1, 8, Value.nilFunc⟩
theorem tf114 : tyOf Tryd.prog 114 = some ti114 := by kernel_rfl
def ti115 : TI := ⟨Kd.oth, 1, 8, Value.nilFunc⟩
theorem tf115 : tyOf Tryd.prog 115 = some ti115 := by kernel_rfl
def ti116 : TI := ⟨Kd.oth, 1, 8, Value.nilFunc⟩
theorem tf116 : tyOf Tryd.prog 116 = some ti116 := by kernel_rfl
def ti117 : TI := ⟨Kd.oth, 1, 8, Value.nilFunc⟩
theorem tf117 : tyOf Tryd.prog 117 = some ti117 := by kernel_rfl
def ti118 : TI := ⟨Kd.oth, 1, 8, Value.nilFunc⟩
theorem tf118 : tyOf Tryd.prog 118 = some ti118 := by kernel_rfl
def ti119 : TI := ⟨Kd.int IntKind.u32, 1, 4, Value.int IntKind.u32 0⟩
theorem tf119 : tyOf Tryd.prog 119 = some ti119 := by kernel_rfl
def ti120 : TI := ⟨Kd.oth, 1, 8, Value.nilFunc⟩
theorem tf120 : tyOf Tryd.prog 120 = some ti120 := by kernel_rfl
def ti121 : TI := ⟨Kd.int IntKind.u64, 1, 8, Value.int IntKind.u64 0⟩
theorem tf121 : tyOf Tryd.prog 121 = some ti121 := by kernel_rfl
def ti124 : TI := ⟨Kd.oth, 1, 8, Value.nilFunc⟩
theorem tf124 : tyOf Tryd.prog 124 = some ti124 := by kernel_rfl
def ti128 : TI := ⟨Kd.stru [(0, 127)], 0, 0, Value.agg ⟨[]⟩⟩
theorem tf128 : tyOf Tryd.prog 128 = some ti128 := by kernel_rfl
def ti129 : TI := ⟨Kd.stru [(0, 127)], 0, 0, Value.agg ⟨[]⟩⟩
theorem tf129 : tyOf Tryd.prog 129 = some ti129 := by kernel_rfl
def ti130 : TI := ⟨Kd.int IntKind.u8, 1, 1, Value.int IntKind.u8 0⟩
theorem tf130 : tyOf Tryd.prog 130 = some ti130 := by kernel_rfl
def ti131 : TI := ⟨Kd.int IntKind.u8, 1, 1, Value.int IntKind.u8 0⟩
theorem tf131 : tyOf Tryd.prog 131 = some ti131 := by kernel_rfl
def ti132 : TI := ⟨Kd.oth, 1, 8, Value.nilFunc⟩
theorem tf132 : tyOf Tryd.prog 132 = some ti132 := by kernel_rfl
def ti134 : TI := ⟨Kd.int IntKind.i32, 1, 4, Value.int IntKind.i32 0⟩
theorem tf134 : tyOf Tryd.prog 134 = some ti134 := by kernel_rfl
def ti135 : TI := ⟨Kd.int IntKind.i32, 1, 4, Value.int IntKind.i32 0⟩
theorem tf135 : tyOf Tryd.prog 135 = some ti135 := by kernel_rfl
def ti138 : TI := ⟨Kd.oth, 1, 8, Value.nilFunc⟩
theorem tf138 : tyOf Tryd.prog 138 = some ti138 := by kernel_rfl
theorem ty1 {K : TI → Prop} : @tyW Tryd.prog 1 ⟨K⟩ = K ti1 := ty_of tf1
theorem ti1_kd : ti1.kd = Kd.oth := _root_.id rfl
theorem ti1_agg : ti1.kd.agg = false := _root_.id rfl
theorem ti1_size : ti1.size = 1 := _root_.id rfl
theorem ti1_bytes : ti1.bytes = 8 := _root_.id rfl
theorem ti1_zs : zszW ti1 = True := eq_true rfl
theorem ti1_zc : zc ti1 = [.v Value.nilFunc] := _root_.id rfl
theorem ty2 {K : TI → Prop} : @tyW Tryd.prog 2 ⟨K⟩ = K ti2 := ty_of tf2
theorem ti2_kd : ti2.kd = Kd.int IntKind.i64 := _root_.id rfl
theorem ti2_agg : ti2.kd.agg = false := _root_.id rfl
theorem ti2_size : ti2.size = 1 := _root_.id rfl
theorem ti2_bytes : ti2.bytes = 8 := _root_.id rfl
theorem ti2_zs : zszW ti2 = True := eq_true rfl
theorem ti2_zc : zc ti2 = [.v (Value.int IntKind.i64 0)] := _root_.id rfl
theorem ty3 {K : TI → Prop} : @tyW Tryd.prog 3 ⟨K⟩ = K ti3 := ty_of tf3
theorem ti3_kd : ti3.kd = Kd.int IntKind.i64 := _root_.id rfl
theorem ti3_agg : ti3.kd.agg = false := _root_.id rfl
theorem ti3_size : ti3.size = 1 := _root_.id rfl
theorem ti3_bytes : ti3.bytes = 8 := _root_.id rfl
theorem ti3_zs : zszW ti3 = True := eq_true rfl
theorem ti3_zc : zc ti3 = [.v (Value.int IntKind.i64 0)] := _root_.id rfl
theorem ty4 {K : TI → Prop} : @tyW Tryd.prog 4 ⟨K⟩ = K ti4 := ty_of tf4
theorem ti4_kd : ti4.kd = Kd.bool := _root_.id rfl
theorem ti4_agg : ti4.kd.agg = false := _root_.id rfl
theorem ti4_size : ti4.size = 1 := _root_.id rfl
theorem ti4_bytes : ti4.bytes = 1 := _root_.id rfl
theorem ti4_zs : zszW ti4 = True := eq_true rfl
theorem ti4_zc : zc ti4 = [.v (Value.bool false)] := _root_.id rfl
theorem ty5 {K : TI → Prop} : @tyW Tryd.prog 5 ⟨K⟩ = K ti5 := ty_of tf5
theorem ti5_kd : ti5.kd = Kd.int IntKind.u8 := _root_.id rfl
theorem ti5_agg : ti5.kd.agg = false := _root_.id rfl
theorem ti5_size : ti5.size = 1 := _root_.id rfl
theorem ti5_bytes : ti5.bytes = 1 := _root_.id rfl
theorem ti5_zs : zszW ti5 = True := eq_true rfl
theorem ti5_zc : zc ti5 = [.v (Value.int IntKind.u8 0)] := _root_.id rfl
theorem ty6 {K : TI → Prop} : @tyW Tryd.prog 6 ⟨K⟩ = K ti6 := ty_of tf6
theorem ti6_kd : ti6.kd = Kd.int IntKind.u8 := _root_.id rfl
theorem ti6_agg : ti6.kd.agg = false := _root_.id rfl
theorem ti6_size : ti6.size = 1 := _root_.id rfl
theorem ti6_bytes : ti6.bytes = 1 := _root_.id rfl
theorem ti6_zs : zszW ti6 = True := eq_true rfl
theorem ti6_zc : zc ti6 = [.v (Value.int IntKind.u8 0)] := _root_.id rfl
theorem ty7 {K : TI → Prop} : @tyW Tryd.prog 7 ⟨K⟩ = K ti7 := ty_of tf7
theorem ti7_kd : ti7.kd = Kd.stru [(0, 2), (1, 3), (2, 4), (3, 6)] := _root_.id rfl
theorem ti7_agg : ti7.kd.agg = true := _root_.id rfl
theorem ti7_size : ti7.size = 4 := _root_.id rfl
theorem ti7_bytes : ti7.bytes = 24 := _root_.id rfl
theorem ti7_zs : zszW ti7 = True := eq_true rfl
theorem ti7_zc : zc ti7 = [.v (Value.int IntKind.i64 0), .v (Value.int IntKind.i64 0), .v (Value.bool false), .v (Value.int IntKind.u8 0)] := _root_.id rfl
theorem fld7_0 {K : Nat → TI → Prop} : @fieldW Tryd.prog 7 0 ⟨K⟩ = K 0 ti2 := field_of (ti := ti7) (tf := ti2) (fo := (0, 2)) (fs := [(0, 2), (1, 3), (2, 4), (3, 6)]) tf7 rfl rfl tf2
theorem pl7_0 {K : Nat → Nat → Prop} : placeF Tryd.prog [(0, 2), (1, 3), (2, 4), (3, 6)] 0 K = K 0 1 := place_of (tf := ti2) (fo := (0, 2)) (fs := [(0, 2), (1, 3), (2, 4), (3, 6)]) rfl tf2
theorem fld7_1 {K : Nat → TI → Prop} : @fieldW Tryd.prog 7 1 ⟨K⟩ = K 1 ti3 := field_of (ti := ti7) (tf := ti3) (fo := (1, 3)) (fs := [(0, 2), (1, 3), (2, 4), (3, 6)]) tf7 rfl rfl tf3
theorem pl7_1 {K : Nat → Nat → Prop} : placeF Tryd.prog [(0, 2), (1, 3), (2, 4), (3, 6)] 1 K = K 1 1 := place_of (tf := ti3) (fo := (1, 3)) (fs := [(0, 2), (1, 3), (2, 4), (3, 6)]) rfl tf3
theorem fld7_2 {K : Nat → TI → Prop} : @fieldW Tryd.prog 7 2 ⟨K⟩ = K 2 ti4 := field_of (ti := ti7) (tf := ti4) (fo := (2, 4)) (fs := [(0, 2), (1, 3), (2, 4), (3, 6)]) tf7 rfl rfl tf4
theorem pl7_2 {K : Nat → Nat → Prop} : placeF Tryd.prog [(0, 2), (1, 3), (2, 4), (3, 6)] 2 K = K 2 1 := place_of (tf := ti4) (fo := (2, 4)) (fs := [(0, 2), (1, 3), (2, 4), (3, 6)]) rfl tf4
theorem fld7_3 {K : Nat → TI → Prop} : @fieldW Tryd.prog 7 3 ⟨K⟩ = K 3 ti6 := field_of (ti := ti7) (tf := ti6) (fo := (3, 6)) (fs := [(0, 2), (1, 3), (2, 4), (3, 6)]) tf7 rfl rfl tf6
theorem pl7_3 {K : Nat → Nat → Prop} : placeF Tryd.prog [(0, 2), (1, 3), (2, 4), (3, 6)] 3 K = K 3 1 := place_of (tf := ti6) (fo := (3, 6)) (fs := [(0, 2), (1, 3), (2, 4), (3, 6)]) rfl tf6
theorem fsok7 : ∀ f ∈ ([(0, 2), (1, 3), (2, 4), (3, 6)] : List (Nat × Nat)), (tyOf Tryd.prog f.2).isSome = true := by
  intro f hf
  simp only [List.mem_cons, List.not_mem_nil, or_false] at hf
  rcases hf with rfl | rfl | rfl | rfl
  · rw [tf2]; rfl
  · rw [tf3]; rfl
  · rw [tf4]; rfl
  · rw [tf6]; rfl
theorem bld7 {ps : List (Nat × AV)} {K : AV → Prop} : @buildW Tryd.prog 7 ps ⟨K⟩ = @fillW (placeF Tryd.prog [(0, 2), (1, 3), (2, 4), (3, 6)]) (zc ti7) ps ⟨fun cs => K (.ag cs)⟩ := build_of tf7 rfl fsok7
theorem ty8 {K : TI → Prop} : @tyW Tryd.prog 8 ⟨K⟩ = K ti8 := ty_of tf8
theorem ti8_kd : ti8.kd = Kd.stru [(0, 2), (1, 3), (2, 4), (3, 6)] := _root_.id rfl
theorem ti8_agg : ti8.kd.agg = true := _root_.id rfl
theorem ti8_size : ti8.size = 4 := _root_.id rfl
theorem ti8_bytes : ti8.bytes = 24 := _root_.id rfl
theorem ti8_zs : zszW ti8 = True := eq_true rfl
theorem ti8_zc : zc ti8 = [.v (Value.int IntKind.i64 0), .v (Value.int IntKind.i64 0), .v (Value.bool false), .v (Value.int IntKind.u8 0)] := _root_.id rfl
theorem fld8_0 {K : Nat → TI → Prop} : @fieldW Tryd.prog 8 0 ⟨K⟩ = K 0 ti2 := field_of (ti := ti8) (tf := ti2) (fo := (0, 2)) (fs := [(0, 2), (1, 3), (2, 4), (3, 6)]) tf8 rfl rfl tf2
theorem pl8_0 {K : Nat → Nat → Prop} : placeF Tryd.prog [(0, 2), (1, 3), (2, 4), (3, 6)] 0 K = K 0 1 := place_of (tf := ti2) (fo := (0, 2)) (fs := [(0, 2), (1, 3), (2, 4), (3, 6)]) rfl tf2
theorem fld8_1 {K : Nat → TI → Prop} : @fieldW Tryd.prog 8 1 ⟨K⟩ = K 1 ti3 := field_of (ti := ti8) (tf := ti3) (fo := (1, 3)) (fs := [(0, 2), (1, 3), (2, 4), (3, 6)]) tf8 rfl rfl tf3
theorem pl8_1 {K : Nat → Nat → Prop} : placeF Tryd.prog [(0, 2), (1, 3), (2, 4), (3, 6)] 1 K = K 1 1 := place_of (tf := ti3) (fo := (1, 3)) (fs := [(0, 2), (1, 3), (2, 4), (3, 6)]) rfl tf3
theorem fld8_2 {K : Nat → TI → Prop} : @fieldW Tryd.prog 8 2 ⟨K⟩ = K 2 ti4 := field_of (ti := ti8) (tf := ti4) (fo := (2, 4)) (fs := [(0, 2), (1, 3), (2, 4), (3, 6)]) tf8 rfl rfl tf4
theorem pl8_2 {K : Nat → Nat → Prop} : placeF Tryd.prog [(0, 2), (1, 3), (2, 4), (3, 6)] 2 K = K 2 1 := place_of (tf := ti4) (fo := (2, 4)) (fs := [(0, 2), (1, 3), (2, 4), (3, 6)]) rfl tf4
theorem fld8_3 {K : Nat → TI → Prop} : @fieldW Tryd.prog 8 3 ⟨K⟩ = K 3 ti6 := field_of (ti := ti8) (tf := ti6) (fo := (3, 6)) (fs := [(0, 2), (1, 3), (2, 4), (3, 6)]) tf8 rfl rfl tf6
theorem pl8_3 {K : Nat → Nat → Prop} : placeF Tryd.prog [(0, 2), (1, 3), (2, 4), (3, 6)] 3 K = K 3 1 := place_of (tf := ti6) (fo := (3, 6)) (fs := [(0, 2), (1, 3), (2, 4), (3, 6)]) rfl tf6
theorem fsok8 : ∀ f ∈ ([(0, 2), (1, 3), (2, 4), (3, 6)] : List (Nat × Nat)), (tyOf Tryd.prog f.2).isSome = true := by
  intro f hf
  simp only [List.mem_cons, List.not_mem_nil, or_false] at hf
  rcases hf with rfl | rfl | rfl | rfl
  · rw [tf2]; rfl
  · rw [tf3]; rfl
  · rw [tf4]; rfl
  · rw [tf6]; rfl
theorem bld8 {ps : List (Nat × AV)} {K : AV → Prop} : @buildW Tryd.prog 8 ps ⟨K⟩ = @fillW (placeF Tryd.prog [(0, 2), (1, 3), (2, 4), (3, 6)]) (zc ti8) ps ⟨fun cs => K (.ag cs)⟩ := build_of tf8 rfl fsok8
theorem ty9 {K : TI → Prop} : @tyW Tryd.prog 9 ⟨K⟩ = K ti9 := ty_of tf9
theorem ti9_kd : ti9.kd = Kd.str := _root_.id rfl
theorem ti9_agg : ti9.kd.agg = false := _root_.id rfl
theorem ti9_size : ti9.size = 1 := _root_.id rfl
theorem ti9_bytes : ti9.bytes = 16 := _root_.id rfl
theorem ti9_zs : zszW ti9 = True := eq_true rfl
theorem ti9_zc : zc ti9 = [.v (Value.string { data := ⟨[]⟩ })] := _root_.id rfl
theorem ty10 {K : TI → Prop} : @tyW Tryd.prog 10 ⟨K⟩ = K ti10 := ty_of tf10
theorem ti10_kd : ti10.kd = Kd.str := _root_.id rfl
theorem ti10_agg : ti10.kd.agg = false := _root_.id rfl
theorem ti10_size : ti10.size = 1 := _root_.id rfl
theorem ti10_bytes : ti10.bytes = 16 := _root_.id rfl
theorem ti10_zs : zszW ti10 = True := eq_true rfl
theorem ti10_zc : zc ti10 = [.v (Value.string { data := ⟨[]⟩ })] := _root_.id rfl
theorem ty11 {K : TI → Prop} : @tyW Tryd.prog 11 ⟨K⟩ = K ti11 := ty_of tf11
theorem ti11_kd : ti11.kd = Kd.str := _root_.id rfl
theorem ti11_agg : ti11.kd.agg = false := _root_.id rfl
theorem ti11_size : ti11.size = 1 := _root_.id rfl
theorem ti11_bytes : ti11.bytes = 16 := _root_.id rfl
theorem ti11_zs : zszW ti11 = True := eq_true rfl
theorem ti11_zc : zc ti11 = [.v (Value.string { data := ⟨[]⟩ })] := _root_.id rfl
theorem ty12 {K : TI → Prop} : @tyW Tryd.prog 12 ⟨K⟩ = K ti12 := ty_of tf12
theorem ti12_kd : ti12.kd = Kd.int IntKind.u64 := _root_.id rfl
theorem ti12_agg : ti12.kd.agg = false := _root_.id rfl
theorem ti12_size : ti12.size = 1 := _root_.id rfl
theorem ti12_bytes : ti12.bytes = 8 := _root_.id rfl
theorem ti12_zs : zszW ti12 = True := eq_true rfl
theorem ti12_zc : zc ti12 = [.v (Value.int IntKind.u64 0)] := _root_.id rfl
theorem ty21 {K : TI → Prop} : @tyW Tryd.prog 21 ⟨K⟩ = K ti21 := ty_of tf21
theorem ti21_kd : ti21.kd = Kd.int IntKind.i32 := _root_.id rfl
theorem ti21_agg : ti21.kd.agg = false := _root_.id rfl
theorem ti21_size : ti21.size = 1 := _root_.id rfl
theorem ti21_bytes : ti21.bytes = 4 := _root_.id rfl
theorem ti21_zs : zszW ti21 = True := eq_true rfl
theorem ti21_zc : zc ti21 = [.v (Value.int IntKind.i32 0)] := _root_.id rfl
theorem ty22 {K : TI → Prop} : @tyW Tryd.prog 22 ⟨K⟩ = K ti22 := ty_of tf22
theorem ti22_kd : ti22.kd = Kd.sli 3 := _root_.id rfl
theorem ti22_agg : ti22.kd.agg = false := _root_.id rfl
theorem ti22_size : ti22.size = 1 := _root_.id rfl
theorem ti22_bytes : ti22.bytes = 24 := _root_.id rfl
theorem ti22_zs : zszW ti22 = True := eq_true rfl
theorem ti22_zc : zc ti22 = [.v (Value.slice none 0 0)] := _root_.id rfl
theorem sli22 {K : TI → Prop} : @sliW Tryd.prog 22 ⟨K⟩ = K ti3 := sli_of tf22 rfl tf3
theorem ty23 {K : TI → Prop} : @tyW Tryd.prog 23 ⟨K⟩ = K ti23 := ty_of tf23
theorem ti23_kd : ti23.kd = Kd.stru [(0, 22)] := _root_.id rfl
theorem ti23_agg : ti23.kd.agg = true := _root_.id rfl
theorem ti23_size : ti23.size = 1 := _root_.id rfl
theorem ti23_bytes : ti23.bytes = 24 := _root_.id rfl
theorem ti23_zs : zszW ti23 = True := eq_true rfl
theorem ti23_zc : zc ti23 = [.v (Value.slice none 0 0)] := _root_.id rfl
theorem fld23_0 {K : Nat → TI → Prop} : @fieldW Tryd.prog 23 0 ⟨K⟩ = K 0 ti22 := field_of (ti := ti23) (tf := ti22) (fo := (0, 22)) (fs := [(0, 22)]) tf23 rfl rfl tf22
theorem pl23_0 {K : Nat → Nat → Prop} : placeF Tryd.prog [(0, 22)] 0 K = K 0 1 := place_of (tf := ti22) (fo := (0, 22)) (fs := [(0, 22)]) rfl tf22
theorem fsok23 : ∀ f ∈ ([(0, 22)] : List (Nat × Nat)), (tyOf Tryd.prog f.2).isSome = true := by
  intro f hf
  simp only [List.mem_cons, List.not_mem_nil, or_false] at hf
  subst hf; rw [tf22]; rfl
theorem bld23 {ps : List (Nat × AV)} {K : AV → Prop} : @buildW Tryd.prog 23 ps ⟨K⟩ = @fillW (placeF Tryd.prog [(0, 22)]) (zc ti23) ps ⟨fun cs => K (.ag cs)⟩ := build_of tf23 rfl fsok23
theorem ty24 {K : TI → Prop} : @tyW Tryd.prog 24 ⟨K⟩ = K ti24 := ty_of tf24
theorem ti24_kd : ti24.kd = Kd.stru [(0, 22)] := _root_.id rfl
theorem ti24_agg : ti24.kd.agg = true := _root_.id rfl
theorem ti24_size : ti24.size = 1 := _root_.id rfl
theorem ti24_bytes : ti24.bytes = 24 := _root_.id rfl
theorem ti24_zs : zszW ti24 = True := eq_true rfl
theorem ti24_zc : zc ti24 = [.v (Value.slice none 0 0)] := _root_.id rfl
theorem fld24_0 {K : Nat → TI → Prop} : @fieldW Tryd.prog 24 0 ⟨K⟩ = K 0 ti22 := field_of (ti := ti24) (tf := ti22) (fo := (0, 22)) (fs := [(0, 22)]) tf24 rfl rfl tf22
theorem pl24_0 {K : Nat → Nat → Prop} : placeF Tryd.prog [(0, 22)] 0 K = K 0 1 := place_of (tf := ti22) (fo := (0, 22)) (fs := [(0, 22)]) rfl tf22
theorem fsok24 : ∀ f ∈ ([(0, 22)] : List (Nat × Nat)), (tyOf Tryd.prog f.2).isSome = true := by
  intro f hf
  simp only [List.mem_cons, List.not_mem_nil, or_false] at hf
  subst hf; rw [tf22]; rfl
theorem bld24 {ps : List (Nat × AV)} {K : AV → Prop} : @buildW Tryd.prog 24 ps ⟨K⟩ = @fillW (placeF Tryd.prog [(0, 22)]) (zc ti24) ps ⟨fun cs => K (.ag cs)⟩ := build_of tf24 rfl fsok24
theorem ty25 {K : TI → Prop} : @tyW Tryd.prog 25 ⟨K⟩ = K ti25 := ty_of tf25
theorem ti25_kd : ti25.kd = Kd.stru [(0, 4), (1, 24), (2, 3)] := _root_.id rfl
theorem ti25_agg : ti25.kd.agg = true := _root_.id rfl
theorem ti25_size : ti25.size = 3 := _root_.id rfl
theorem ti25_bytes : ti25.bytes = 40 := _root_.id rfl
theorem ti25_zs : zszW ti25 = True := eq_true rfl
theorem ti25_zc : zc ti25 = [.v (Value.bool false), .v (Value.slice none 0 0), .v (Value.int IntKind.i64 0)] := _root_.id rfl
theorem fld25_0 {K : Nat → TI → Prop} : @fieldW Tryd.prog 25 0 ⟨K⟩ = K 0 ti4 := field_of (ti := ti25) (tf := ti4) (fo := (0, 4)) (fs := [(0, 4), (1, 24), (2, 3)]) tf25 rfl rfl tf4
theorem pl25_0 {K : Nat → Nat → Prop} : placeF Tryd.prog [(0, 4), (1, 24), (2, 3)] 0 K = K 0 1 := place_of (tf := ti4) (fo := (0, 4)) (fs := [(0, 4), (1, 24), (2, 3)]) rfl tf4
theorem fld25_1 {K : Nat → TI → Prop} : @fieldW Tryd.prog 25 1 ⟨K⟩ = K 1 ti24 := field_of (ti := ti25) (tf := ti24) (fo := (1, 24)) (fs := [(0, 4), (1, 24), (2, 3)]) tf25 rfl rfl tf24
theorem pl25_1 {K : Nat → Nat → Prop} : placeF Tryd.prog [(0, 4), (1, 24), (2, 3)] 1 K = K 1 1 := place_of (tf := ti24) (fo := (1, 24)) (fs := [(0, 4), (1, 24), (2, 3)]) rfl tf24
theorem fld25_2 {K : Nat → TI → Prop} : @fieldW Tryd.prog 25 2 ⟨K⟩ = K 2 ti3 := field_of (ti := ti25) (tf := ti3) (fo := (2, 3)) (fs := [(0, 4), (1, 24), (2, 3)]) tf25 rfl rfl tf3
theorem pl25_2 {K : Nat → Nat → Prop} : placeF Tryd.prog [(0, 4), (1, 24), (2, 3)] 2 K = K 2 1 := place_of (tf := ti3) (fo := (2, 3)) (fs := [(0, 4), (1, 24), (2, 3)]) rfl tf3
theorem fsok25 : ∀ f ∈ ([(0, 4), (1, 24), (2, 3)] : List (Nat × Nat)), (tyOf Tryd.prog f.2).isSome = true := by
  intro f hf
  simp only [List.mem_cons, List.not_mem_nil, or_false] at hf
  rcases hf with rfl | rfl | rfl
  · rw [tf4]; rfl
  · rw [tf24]; rfl
  · rw [tf3]; rfl
theorem bld25 {ps : List (Nat × AV)} {K : AV → Prop} : @buildW Tryd.prog 25 ps ⟨K⟩ = @fillW (placeF Tryd.prog [(0, 4), (1, 24), (2, 3)]) (zc ti25) ps ⟨fun cs => K (.ag cs)⟩ := build_of tf25 rfl fsok25
theorem ty26 {K : TI → Prop} : @tyW Tryd.prog 26 ⟨K⟩ = K ti26 := ty_of tf26
theorem ti26_kd : ti26.kd = Kd.stru [(0, 4), (1, 24), (2, 3)] := _root_.id rfl
theorem ti26_agg : ti26.kd.agg = true := _root_.id rfl
theorem ti26_size : ti26.size = 3 := _root_.id rfl
theorem ti26_bytes : ti26.bytes = 40 := _root_.id rfl
theorem ti26_zs : zszW ti26 = True := eq_true rfl
theorem ti26_zc : zc ti26 = [.v (Value.bool false), .v (Value.slice none 0 0), .v (Value.int IntKind.i64 0)] := _root_.id rfl
theorem fld26_0 {K : Nat → TI → Prop} : @fieldW Tryd.prog 26 0 ⟨K⟩ = K 0 ti4 := field_of (ti := ti26) (tf := ti4) (fo := (0, 4)) (fs := [(0, 4), (1, 24), (2, 3)]) tf26 rfl rfl tf4
theorem pl26_0 {K : Nat → Nat → Prop} : placeF Tryd.prog [(0, 4), (1, 24), (2, 3)] 0 K = K 0 1 := place_of (tf := ti4) (fo := (0, 4)) (fs := [(0, 4), (1, 24), (2, 3)]) rfl tf4
theorem fld26_1 {K : Nat → TI → Prop} : @fieldW Tryd.prog 26 1 ⟨K⟩ = K 1 ti24 := field_of (ti := ti26) (tf := ti24) (fo := (1, 24)) (fs := [(0, 4), (1, 24), (2, 3)]) tf26 rfl rfl tf24
theorem pl26_1 {K : Nat → Nat → Prop} : placeF Tryd.prog [(0, 4), (1, 24), (2, 3)] 1 K = K 1 1 := place_of (tf := ti24) (fo := (1, 24)) (fs := [(0, 4), (1, 24), (2, 3)]) rfl tf24
theorem fld26_2 {K : Nat → TI → Prop} : @fieldW Tryd.prog 26 2 ⟨K⟩ = K 2 ti3 := field_of (ti := ti26) (tf := ti3) (fo := (2, 3)) (fs := [(0, 4), (1, 24), (2, 3)]) tf26 rfl rfl tf3
theorem pl26_2 {K : Nat → Nat → Prop} : placeF Tryd.prog [(0, 4), (1, 24), (2, 3)] 2 K = K 2 1 := place_of (tf := ti3) (fo := (2, 3)) (fs := [(0, 4), (1, 24), (2, 3)]) rfl tf3
theorem fsok26 : ∀ f ∈ ([(0, 4), (1, 24), (2, 3)] : List (Nat × Nat)), (tyOf Tryd.prog f.2).isSome = true := by
  intro f hf
  simp only [List.mem_cons, List.not_mem_nil, or_false] at hf
  rcases hf with rfl | rfl | rfl
  · rw [tf4]; rfl
  · rw [tf24]; rfl
  · rw [tf3]; rfl
theorem bld26 {ps : List (Nat × AV)} {K : AV → Prop} : @buildW Tryd.prog 26 ps ⟨K⟩ = @fillW (placeF Tryd.prog [(0, 4), (1, 24), (2, 3)]) (zc ti26) ps ⟨fun cs => K (.ag cs)⟩ := build_of tf26 rfl fsok26
theorem ty27 {K : TI → Prop} : @tyW Tryd.prog 27 ⟨K⟩ = K ti27 := ty_of tf27
theorem ti27_kd : ti27.kd = Kd.oth := _root_.id rfl
theorem ti27_agg : ti27.kd.agg = false := _root_.id rfl
theorem ti27_size : ti27.size = 1 := _root_.id rfl
theorem ti27_bytes : ti27.bytes = 8 := _root_.id rfl
theorem ti27_zs : zszW ti27 = True := eq_true rfl
theorem ti27_zc : zc ti27 = [.v Value.nilFunc] := _root_.id rfl
theorem ty28 {K : TI → Prop} : @tyW Tryd.prog 28 ⟨K⟩ = K ti28 := ty_of tf28
theorem ti28_kd : ti28.kd = Kd.stru [(0, 3), (1, 4), (2, 3), (3, 3)] := _root_.id rfl
theorem ti28_agg : ti28.kd.agg = true := _root_.id rfl
theorem ti28_size : ti28.size = 4 := _root_.id rfl
theorem ti28_bytes : ti28.bytes = 32 := _root_.id rfl
theorem ti28_zs : zszW ti28 = True := eq_true rfl
theorem ti28_zc : zc ti28 = [.v (Value.int IntKind.i64 0), .v (Value.bool false), .v (Value.int IntKind.i64 0), .v (Value.int IntKind.i64 0)] := _root_.id rfl
theorem fld28_0 {K : Nat → TI → Prop} : @fieldW Tryd.prog 28 0 ⟨K⟩ = K 0 ti3 := field_of (ti := ti28) (tf := ti3) (fo := (0, 3)) (fs := [(0, 3), (1, 4), (2, 3), (3, 3)]) tf28 rfl rfl tf3
theorem pl28_0 {K : Nat → Nat → Prop} : placeF Tryd.prog [(0, 3), (1, 4), (2, 3), (3, 3)] 0 K = K 0 1 := place_of (tf := ti3) (fo := (0, 3)) (fs := [(0, 3), (1, 4), (2, 3), (3, 3)]) rfl tf3
theorem fld28_1 {K : Nat → TI → Prop} : @fieldW Tryd.prog 28 1 ⟨K⟩ = K 1 ti4 := field_of (ti := ti28) (tf := ti4) (fo := (1, 4)) (fs := [(0, 3), (1, 4), (2, 3), (3, 3)]) tf28 rfl rfl tf4
theorem pl28_1 {K : Nat → Nat → Prop} : placeF Tryd.prog [(0, 3), (1, 4), (2, 3), (3, 3)] 1 K = K 1 1 := place_of (tf := ti4) (fo := (1, 4)) (fs := [(0, 3), (1, 4), (2, 3), (3, 3)]) rfl tf4
theorem fld28_2 {K : Nat → TI → Prop} : @fieldW Tryd.prog 28 2 ⟨K⟩ = K 2 ti3 := field_of (ti := ti28) (tf := ti3) (fo := (2, 3)) (fs := [(0, 3), (1, 4), (2, 3), (3, 3)]) tf28 rfl rfl tf3
theorem pl28_2 {K : Nat → Nat → Prop} : placeF Tryd.prog [(0, 3), (1, 4), (2, 3), (3, 3)] 2 K = K 2 1 := place_of (tf := ti3) (fo := (2, 3)) (fs := [(0, 3), (1, 4), (2, 3), (3, 3)]) rfl tf3
theorem fld28_3 {K : Nat → TI → Prop} : @fieldW Tryd.prog 28 3 ⟨K⟩ = K 3 ti3 := field_of (ti := ti28) (tf := ti3) (fo := (3, 3)) (fs := [(0, 3), (1, 4), (2, 3), (3, 3)]) tf28 rfl rfl tf3
theorem pl28_3 {K : Nat → Nat → Prop} : placeF Tryd.prog [(0, 3), (1, 4), (2, 3), (3, 3)] 3 K = K 3 1 := place_of (tf := ti3) (fo := (3, 3)) (fs := [(0, 3), (1, 4), (2, 3), (3, 3)]) rfl tf3
theorem fsok28 : ∀ f ∈ ([(0, 3), (1, 4), (2, 3), (3, 3)] : List (Nat × Nat)), (tyOf Tryd.prog f.2).isSome = true := by
  intro f hf
  simp only [List.mem_cons, List.not_mem_nil, or_false] at hf
  rcases hf with rfl | rfl | rfl | rfl
  · rw [tf3]; rfl
  · rw [tf4]; rfl
  · rw [tf3]; rfl
  · rw [tf3]; rfl
theorem bld28 {ps : List (Nat × AV)} {K : AV → Prop} : @buildW Tryd.prog 28 ps ⟨K⟩ = @fillW (placeF Tryd.prog [(0, 3), (1, 4), (2, 3), (3, 3)]) (zc ti28) ps ⟨fun cs => K (.ag cs)⟩ := build_of tf28 rfl fsok28
theorem ty29 {K : TI → Prop} : @tyW Tryd.prog 29 ⟨K⟩ = K ti29 := ty_of tf29
theorem ti29_kd : ti29.kd = Kd.stru [(0, 3), (1, 4), (2, 3), (3, 3)] := _root_.id rfl
theorem ti29_agg : ti29.kd.agg = true := _root_.id rfl
theorem ti29_size : ti29.size = 4 := _root_.id rfl
theorem ti29_bytes : ti29.bytes = 32 := _root_.id rfl
theorem ti29_zs : zszW ti29 = True := eq_true rfl
theorem ti29_zc : zc ti29 = [.v (Value.int IntKind.i64 0), .v (Value.bool false), .v (Value.int IntKind.i64 0), .v (Value.int IntKind.i64 0)] := _root_.id rfl
theorem fld29_0 {K : Nat → TI → Prop} : @fieldW Tryd.prog 29 0 ⟨K⟩ = K 0 ti3 := field_of (ti := ti29) (tf := ti3) (fo := (0, 3)) (fs := [(0, 3), (1, 4), (2, 3), (3, 3)]) tf29 rfl rfl tf3
theorem pl29_0 {K : Nat → Nat → Prop} : placeF Tryd.prog [(0, 3), (1, 4), (2, 3), (3, 3)] 0 K = K 0 1 := place_of (tf := ti3) (fo := (0, 3)) (fs := [(0, 3), (1, 4), (2, 3), (3, 3)]) rfl tf3
theorem fld29_1 {K : Nat → TI → Prop} : @fieldW Tryd.prog 29 1 ⟨K⟩ = K 1 ti4 := field_of (ti := ti29) (tf := ti4) (fo := (1, 4)) (fs := [(0, 3), (1, 4), (2, 3), (3, 3)]) tf29 rfl rfl tf4
theorem pl29_1 {K : Nat → Nat → Prop} : placeF Tryd.prog [(0, 3), (1, 4), (2, 3), (3, 3)] 1 K = K 1 1 := place_of (tf := ti4) (fo := (1, 4)) (fs := [(0, 3), (1, 4), (2, 3), (3, 3)]) rfl tf4
theorem fld29_2 {K : Nat → TI → Prop} : @fieldW Tryd.prog 29 2 ⟨K⟩ = K 2 ti3 := field_of (ti := ti29) (tf := ti3) (fo := (2, 3)) (fs := [(0, 3), (1, 4), (2, 3), (3, 3)]) tf29 rfl rfl tf3
theorem pl29_2 {K : Nat → Nat → Prop} : placeF Tryd.prog [(0, 3), (1, 4), (2, 3), (3, 3)] 2 K = K 2 1 := place_of (tf := ti3) (fo := (2, 3)) (fs := [(0, 3), (1, 4), (2, 3), (3, 3)]) rfl tf3
theorem fld29_3 {K : Nat → TI → Prop} : @fieldW Tryd.prog 29 3 ⟨K⟩ = K 3 ti3 := field_of (ti := ti29) (tf := ti3) (fo := (3, 3)) (fs := [(0, 3), (1, 4), (2, 3), (3, 3)]) tf29 rfl rfl tf3
theorem pl29_3 {K : Nat → Nat → Prop} : placeF Tryd.prog [(0, 3), (1, 4), (2, 3), (3, 3)] 3 K = K 3 1 := place_of (tf := ti3) (fo := (3, 3)) (fs := [(0, 3), (1, 4), (2, 3), (3, 3)]) rfl tf3
theorem fsok29 : ∀ f ∈ ([(0, 3), (1, 4), (2, 3), (3, 3)] : List (Nat × Nat)), (tyOf Tryd.prog f.2).isSome = true := by
  intro f hf
  simp only [List.mem_cons, List.not_mem_nil, or_false] at hf
  rcases hf with rfl | rfl | rfl | rfl
  · rw [tf3]; rfl
  · rw [tf4]; rfl
  · rw [tf3]; rfl
  · rw [tf3]; rfl
theorem bld29 {ps : List (Nat × AV)} {K : AV → Prop} : @buildW Tryd.prog 29 ps ⟨K⟩ = @fillW (placeF Tryd.prog [(0, 3), (1, 4), (2, 3), (3, 3)]) (zc ti29) ps ⟨fun cs => K (.ag cs)⟩ := build_of tf29 rfl fsok29
theorem ty31 {K : TI → Prop} : @tyW Tryd.prog 31 ⟨K⟩ = K ti31 := ty_of tf31
theorem ti31_kd : ti31.kd = Kd.oth := _root_.id rfl
theorem ti31_agg : ti31.kd.agg = false := _root_.id rfl
theorem ti31_size : ti31.size = 1 := _root_.id rfl
theorem ti31_bytes : ti31.bytes = 8 := _root_.id rfl
theorem ti31_zs : zszW ti31 = True := eq_true rfl
theorem ti31_zc : zc ti31 = [.v Value.nilFunc] := _root_.id rfl
theorem ty32 {K : TI → Prop} : @tyW Tryd.prog 32 ⟨K⟩ = K ti32 := ty_of tf32
theorem ti32_kd : ti32.kd = Kd.stru [(0, 22)] := _root_.id rfl
theorem ti32_agg : ti32.kd.agg = true := _root_.id rfl
theorem ti32_size : ti32.size = 1 := _root_.id rfl
theorem ti32_bytes : ti32.bytes = 24 := _root_.id rfl
theorem ti32_zs : zszW ti32 = True := eq_true rfl
theorem ti32_zc : zc ti32 = [.v (Value.slice none 0 0)] := _root_.id rfl
theorem fld32_0 {K : Nat → TI → Prop} : @fieldW Tryd.prog 32 0 ⟨K⟩ = K 0 ti22 := field_of (ti := ti32) (tf := ti22) (fo := (0, 22)) (fs := [(0, 22)]) tf32 rfl rfl tf22
theorem pl32_0 {K : Nat → Nat → Prop} : placeF Tryd.prog [(0, 22)] 0 K = K 0 1 := place_of (tf := ti22) (fo := (0, 22)) (fs := [(0, 22)]) rfl tf22
theorem fsok32 : ∀ f ∈ ([(0, 22)] : List (Nat × Nat)), (tyOf Tryd.prog f.2).isSome = true := by
  intro f hf
  simp only [List.mem_cons, List.not_mem_nil, or_false] at hf
  subst hf; rw [tf22]; rfl
theorem bld32 {ps : List (Nat × AV)} {K : AV → Prop} : @buildW Tryd.prog 32 ps ⟨K⟩ = @fillW (placeF Tryd.prog [(0, 22)]) (zc ti32) ps ⟨fun cs => K (.ag cs)⟩ := build_of tf32 rfl fsok32
theorem ty33 {K : TI → Prop} : @tyW Tryd.prog 33 ⟨K⟩ = K ti33 := ty_of tf33
theorem ti33_kd : ti33.kd = Kd.stru [(0, 4), (1, 32), (2, 3)] := _root_.id rfl
theorem ti33_agg : ti33.kd.agg = true := _root_.id rfl
theorem ti33_size : ti33.size = 3 := _root_.id rfl
theorem ti33_bytes : ti33.bytes = 40 := _root_.id rfl
theorem ti33_zs : zszW ti33 = True := eq_true rfl
theorem ti33_zc : zc ti33 = [.v (Value.bool false), .v (Value.slice none 0 0), .v (Value.int IntKind.i64 0)] := _root_.id rfl
theorem fld33_0 {K : Nat → TI → Prop} : @fieldW Tryd.prog 33 0 ⟨K⟩ = K 0 ti4 := field_of (ti := ti33) (tf := ti4) (fo := (0, 4)) (fs := [(0, 4), (1, 32), (2, 3)]) tf33 rfl rfl tf4
theorem pl33_0 {K : Nat → Nat → Prop} : placeF Tryd.prog [(0, 4), (1, 32), (2, 3)] 0 K = K 0 1 := place_of (tf := ti4) (fo := (0, 4)) (fs := [(0, 4), (1, 32), (2, 3)]) rfl tf4
theorem fld33_1 {K : Nat → TI → Prop} : @fieldW Tryd.prog 33 1 ⟨K⟩ = K 1 ti32 := field_of (ti := ti33) (tf := ti32) (fo := (1, 32)) (fs := [(0, 4), (1, 32), (2, 3)]) tf33 rfl rfl tf32
theorem pl33_1 {K : Nat → Nat → Prop} : placeF Tryd.prog [(0, 4), (1, 32), (2, 3)] 1 K = K 1 1 := place_of (tf := ti32) (fo := (1, 32)) (fs := [(0, 4), (1, 32), (2, 3)]) rfl tf32
theorem fld33_2 {K : Nat → TI → Prop} : @fieldW Tryd.prog 33 2 ⟨K⟩ = K 2 ti3 := field_of (ti := ti33) (tf := ti3) (fo := (2, 3)) (fs := [(0, 4), (1, 32), (2, 3)]) tf33 rfl rfl tf3
theorem pl33_2 {K : Nat → Nat → Prop} : placeF Tryd.prog [(0, 4), (1, 32), (2, 3)] 2 K = K 2 1 := place_of (tf := ti3) (fo := (2, 3)) (fs := [(0, 4), (1, 32), (2, 3)]) rfl tf3
theorem fsok33 : ∀ f ∈ ([(0, 4), (1, 32), (2, 3)] : List (Nat × Nat)), (tyOf Tryd.prog f.2).isSome = true := by
  intro f hf
  simp only [List.mem_cons, List.not_mem_nil, or_false] at hf
  rcases hf with rfl | rfl | rfl
  · rw [tf4]; rfl
  · rw [tf32]; rfl
  · rw [tf3]; rfl
theorem bld33 {ps : List (Nat × AV)} {K : AV → Prop} : @buildW Tryd.prog 33 ps ⟨K⟩ = @fillW (placeF Tryd.prog [(0, 4), (1, 32), (2, 3)]) (zc ti33) ps ⟨fun cs => K (.ag cs)⟩ := build_of tf33 rfl fsok33
theorem ty34 {K : TI → Prop} : @tyW Tryd.prog 34 ⟨K⟩ = K ti34 := ty_of tf34
theorem ti34_kd : ti34.kd = Kd.stru [(0, 4), (1, 32), (2, 3)] := _root_.id rfl
theorem ti34_agg : ti34.kd.agg = true := _root_.id rfl
theorem ti34_size : ti34.size = 3 := _root_.id rfl
theorem ti34_bytes : ti34.bytes = 40 := _root_.id rfl
theorem ti34_zs : zszW ti34 = True := eq_true rfl
theorem ti34_zc : zc ti34 = [.v (Value.bool false), .v (Value.slice none 0 0), .v (Value.int IntKind.i64 0)] := _root_.id rfl
theorem fld34_0 {K : Nat → TI → Prop} : @fieldW Tryd.prog 34 0 ⟨K⟩ = K 0 ti4 := field_of (ti := ti34) (tf := ti4) (fo := (0, 4)) (fs := [(0, 4), (1, 32), (2, 3)]) tf34 rfl rfl tf4
theorem pl34_0 {K : Nat → Nat → Prop} : placeF Tryd.prog [(0, 4), (1, 32), (2, 3)] 0 K = K 0 1 := place_of (tf := ti4) (fo := (0, 4)) (fs := [(0, 4), (1, 32), (2, 3)]) rfl tf4
theorem fld34_1 {K : Nat → TI → Prop} : @fieldW Tryd.prog 34 1 ⟨K⟩ = K 1 ti32 := field_of (ti := ti34) (tf := ti32) (fo := (1, 32)) (fs := [(0, 4), (1, 32), (2, 3)]) tf34 rfl rfl tf32
theorem pl34_1 {K : Nat → Nat → Prop} : placeF Tryd.prog [(0, 4), (1, 32), (2, 3)] 1 K = K 1 1 := place_of (tf := ti32) (fo := (1, 32)) (fs := [(0, 4), (1, 32), (2, 3)]) rfl tf32
theorem fld34_2 {K : Nat → TI → Prop} : @fieldW Tryd.prog 34 2 ⟨K⟩ = K 2 ti3 := field_of (ti := ti34) (tf := ti3) (fo := (2, 3)) (fs := [(0, 4), (1, 32), (2, 3)]) tf34 rfl rfl tf3
theorem pl34_2 {K : Nat → Nat → Prop} : placeF Tryd.prog [(0, 4), (1, 32), (2, 3)] 2 K = K 2 1 := place_of (tf := ti3) (fo := (2, 3)) (fs := [(0, 4), (1, 32), (2, 3)]) rfl tf3
theorem fsok34 : ∀ f ∈ ([(0, 4), (1, 32), (2, 3)] : List (Nat × Nat)), (tyOf Tryd.prog f.2).isSome = true := by
  intro f hf
  simp only [List.mem_cons, List.not_mem_nil, or_false] at hf
  rcases hf with rfl | rfl | rfl
  · rw [tf4]; rfl
  · rw [tf32]; rfl
  · rw [tf3]; rfl
theorem bld34 {ps : List (Nat × AV)} {K : AV → Prop} : @buildW Tryd.prog 34 ps ⟨K⟩ = @fillW (placeF Tryd.prog [(0, 4), (1, 32), (2, 3)]) (zc ti34) ps ⟨fun cs => K (.ag cs)⟩ := build_of tf34 rfl fsok34
theorem ty35 {K : TI → Prop} : @tyW Tryd.prog 35 ⟨K⟩ = K ti35 := ty_of tf35
theorem ti35_kd : ti35.kd = Kd.oth := _root_.id rfl
theorem ti35_agg : ti35.kd.agg = false := _root_.id rfl
theorem ti35_size : ti35.size = 1 := _root_.id rfl
theorem ti35_bytes : ti35.bytes = 8 := _root_.id rfl
theorem ti35_zs : zszW ti35 = True := eq_true rfl
theorem ti35_zc : zc ti35 = [.v Value.nilFunc] := _root_.id rfl
theorem ty36 {K : TI → Prop} : @tyW Tryd.prog 36 ⟨K⟩ = K ti36 := ty_of tf36
theorem ti36_kd : ti36.kd = Kd.oth := _root_.id rfl
theorem ti36_agg : ti36.kd.agg = false := _root_.id rfl
theorem ti36_size : ti36.size = 1 := _root_.id rfl
theorem ti36_bytes : ti36.bytes = 8 := _root_.id rfl
theorem ti36_zs : zszW ti36 = True := eq_true rfl
theorem ti36_zc : zc ti36 = [.v Value.nilFunc] := _root_.id rfl
theorem ty37 {K : TI → Prop} : @tyW Tryd.prog 37 ⟨K⟩ = K ti37 := ty_of tf37
theorem ti37_kd : ti37.kd = Kd.oth := _root_.id rfl
theorem ti37_agg : ti37.kd.agg = false := _root_.id rfl
theorem ti37_size : ti37.size = 1 := _root_.id rfl
theorem ti37_bytes : ti37.bytes = 8 := _root_.id rfl
theorem ti37_zs : zszW ti37 = True := eq_true rfl
theorem ti37_zc : zc ti37 = [.v Value.nilFunc] := _root_.id rfl
theorem ty38 {K : TI → Prop} : @tyW Tryd.prog 38 ⟨K⟩ = K ti38 := ty_of tf38
theorem ti38_kd : ti38.kd = Kd.oth := _root_.id rfl
theorem ti38_agg : ti38.kd.agg = false := _root_.id rfl
theorem ti38_size : ti38.size = 1 := _root_.id rfl
theorem ti38_bytes : ti38.bytes = 8 := _root_.id rfl
theorem ti38_zs : zszW ti38 = True := eq_true rfl
theorem ti38_zc : zc ti38 = [.v Value.nilFunc] := _root_.id rfl
theorem ty39 {K : TI → Prop} : @tyW Tryd.prog 39 ⟨K⟩ = K ti39 := ty_of tf39
theorem ti39_kd : ti39.kd = Kd.oth := _root_.id rfl
theorem ti39_agg : ti39.kd.agg = false := _root_.id rfl
theorem ti39_size : ti39.size = 1 := _root_.id rfl
theorem ti39_bytes : ti39.bytes = 8 := _root_.id rfl
theorem ti39_zs : zszW ti39 = True := eq_true rfl
theorem ti39_zc : zc ti39 = [.v Value.nilFunc] := _root_.id rfl
theorem ty40 {K : TI → Prop} : @tyW Tryd.prog 40 ⟨K⟩ = K ti40 := ty_of tf40
theorem ti40_kd : ti40.kd = Kd.oth := _root_.id rfl
theorem ti40_agg : ti40.kd.agg = false := _root_.id rfl
theorem ti40_size : ti40.size = 1 := _root_.id rfl
theorem ti40_bytes : ti40.bytes = 8 := _root_.id rfl
theorem ti40_zs : zszW ti40 = True := eq_true rfl
theorem ti40_zc : zc ti40 = [.v Value.nilFunc] := _root_.id rfl
theorem ty41 {K : TI → Prop} : @tyW Tryd.prog 41 ⟨K⟩ = K ti41 := ty_of tf41
theorem ti41_kd : ti41.kd = Kd.oth := _root_.id rfl
theorem ti41_agg : ti41.kd.agg = false := _root_.id rfl
theorem ti41_size : ti41.size = 1 := _root_.id rfl
theorem ti41_bytes : ti41.bytes = 8 := _root_.id rfl
theorem ti41_zs : zszW ti41 = True := eq_true rfl
theorem ti41_zc : zc ti41 = [.v Value.nilFunc] := _root_.id rfl
theorem ty43 {K : TI → Prop} : @tyW Tryd.prog 43 ⟨K⟩ = K ti43 := ty_of tf43
theorem ti43_kd : ti43.kd = Kd.oth := _root_.id rfl
theorem ti43_agg : ti43.kd.agg = false := _root_.id rfl
theorem ti43_size : ti43.size = 1 := _root_.id rfl
theorem ti43_bytes : ti43.bytes = 8 := _root_.id rfl
theorem ti43_zs : zszW ti43 = True := eq_true rfl
theorem ti43_zc : zc ti43 = [.v Value.nilFunc] := _root_.id rfl
theorem ty44 {K : TI → Prop} : @tyW Tryd.prog 44 ⟨K⟩ = K ti44 := ty_of tf44
theorem ti44_kd : ti44.kd = Kd.oth := _root_.id rfl
theorem ti44_agg : ti44.kd.agg = false := _root_.id rfl
theorem ti44_size : ti44.size = 1 := _root_.id rfl
theorem ti44_bytes : ti44.bytes = 8 := _root_.id rfl
theorem ti44_zs : zszW ti44 = True := eq_true rfl
theorem ti44_zc : zc ti44 = [.v Value.nilFunc] := _root_.id rfl
theorem ty45 {K : TI → Prop} : @tyW Tryd.prog 45 ⟨K⟩ = K ti45 := ty_of tf45
theorem ti45_kd : ti45.kd = Kd.oth := _root_.id rfl
theorem ti45_agg : ti45.kd.agg = false := _root_.id rfl
theorem ti45_size : ti45.size = 1 := _root_.id rfl
theorem ti45_bytes : ti45.bytes = 8 := _root_.id rfl
theorem ti45_zs : zszW ti45 = True := eq_true rfl
theorem ti45_zc : zc ti45 = [.v Value.nilFunc] := _root_.id rfl
theorem ty46 {K : TI → Prop} : @tyW Tryd.prog 46 ⟨K⟩ = K ti46 := ty_of tf46
theorem ti46_kd : ti46.kd = Kd.oth := _root_.id rfl
theorem ti46_agg : ti46.kd.agg = false := _root_.id rfl
theorem ti46_size : ti46.size = 1 := _root_.id rfl
theorem ti46_bytes : ti46.bytes = 8 := _root_.id rfl
theorem ti46_zs : zszW ti46 = True := eq_true rfl
theorem ti46_zc : zc ti46 = [.v Value.nilFunc] := _root_.id rfl
theorem ty47 {K : TI → Prop} : @tyW Tryd.prog 47 ⟨K⟩ = K ti47 := ty_of tf47
theorem ti47_kd : ti47.kd = Kd.oth := _root_.id rfl
theorem ti47_agg : ti47.kd.agg = false := _root_.id rfl
theorem ti47_size : ti47.size = 1 := _root_.id rfl
theorem ti47_bytes : ti47.bytes = 8 := _root_.id rfl
theorem ti47_zs : zszW ti47 = True := eq_true rfl
theorem ti47_zc : zc ti47 = [.v Value.nilFunc] := _root_.id rfl
theorem ty48 {K : TI → Prop} : @tyW Tryd.prog 48 ⟨K⟩ = K ti48 := ty_of tf48
theorem ti48_kd : ti48.kd = Kd.oth := _root_.id rfl
theorem ti48_agg : ti48.kd.agg = false := _root_.id rfl
theorem ti48_size : ti48.size = 1 := _root_.id rfl
theorem ti48_bytes : ti48.bytes = 8 := _root_.id rfl
theorem ti48_zs : zszW ti48 = True := eq_true rfl
theorem ti48_zc : zc ti48 = [.v Value.nilFunc] := _root_.id rfl
theorem ty50 {K : TI → Prop} : @tyW Tryd.prog 50 ⟨K⟩ = K ti50 := ty_of tf50
theorem ti50_kd : ti50.kd = Kd.oth := _root_.id rfl
theorem ti50_agg : ti50.kd.agg = false := _root_.id rfl
theorem ti50_size : ti50.size = 1 := _root_.id rfl
theorem ti50_bytes : ti50.bytes = 8 := _root_.id rfl
theorem ti50_zs : zszW ti50 = True := eq_true rfl
theorem ti50_zc : zc ti50 = [.v Value.nilFunc] := _root_.id rfl
theorem ty51 {K : TI → Prop} : @tyW Tryd.prog 51 ⟨K⟩ = K ti51 := ty_of tf51
theorem ti51_kd : ti51.kd = Kd.stru [(0, 4), (1, 32)] := _root_.id rfl
theorem ti51_agg : ti51.kd.agg = true := _root_.id rfl
theorem ti51_size : ti51.size = 2 := _root_.id rfl
theorem ti51_bytes : ti51.bytes = 32 := _root_.id rfl
theorem ti51_zs : zszW ti51 = True := eq_true rfl
theorem ti51_zc : zc ti51 = [.v (Value.bool false), .v (Value.slice none 0 0)] := _root_.id rfl
theorem fld51_0 {K : Nat → TI → Prop} : @fieldW Tryd.prog 51 0 ⟨K⟩ = K 0 ti4 := field_of (ti := ti51) (tf := ti4) (fo := (0, 4)) (fs := [(0, 4), (1, 32)]) tf51 rfl rfl tf4
theorem pl51_0 {K : Nat → Nat → Prop} : placeF Tryd.prog [(0, 4), (1, 32)] 0 K = K 0 1 := place_of (tf := ti4) (fo := (0, 4)) (fs := [(0, 4), (1, 32)]) rfl tf4
theorem fld51_1 {K : Nat → TI → Prop} : @fieldW Tryd.prog 51 1 ⟨K⟩ = K 1 ti32 := field_of (ti := ti51) (tf := ti32) (fo := (1, 32)) (fs := [(0, 4), (1, 32)]) tf51 rfl rfl tf32
theorem pl51_1 {K : Nat → Nat → Prop} : placeF Tryd.prog [(0, 4), (1, 32)] 1 K = K 1 1 := place_of (tf := ti32) (fo := (1, 32)) (fs := [(0, 4), (1, 32)]) rfl tf32
theorem fsok51 : ∀ f ∈ ([(0, 4), (1, 32)] : List (Nat × Nat)), (tyOf Tryd.prog f.2).isSome = true := by
  intro f hf
  simp only [List.mem_cons, List.not_mem_nil, or_false] at hf
  rcases hf with rfl | rfl
  · rw [tf4]; rfl
  · rw [tf32]; rfl
theorem bld51 {ps : List (Nat × AV)} {K : AV → Prop} : @buildW Tryd.prog 51 ps ⟨K⟩ = @fillW (placeF Tryd.prog [(0, 4), (1, 32)]) (zc ti51) ps ⟨fun cs => K (.ag cs)⟩ := build_of tf51 rfl fsok51
theorem ty52 {K : TI → Prop} : @tyW Tryd.prog 52 ⟨K⟩ = K ti52 := ty_of tf52
theorem ti52_kd : ti52.kd = Kd.stru [(0, 4), (1, 32)] := _root_.id rfl
theorem ti52_agg : ti52.kd.agg = true := _root_.id rfl
theorem ti52_size : ti52.size = 2 := _root_.id rfl
theorem ti52_bytes : ti52.bytes = 32 := _root_.id rfl
theorem ti52_zs : zszW ti52 = True := eq_true rfl
theorem ti52_zc : zc ti52 = [.v (Value.bool false), .v (Value.slice none 0 0)] := _root_.id rfl
theorem fld52_0 {K : Nat → TI → Prop} : @fieldW Tryd.prog 52 0 ⟨K⟩ = K 0 ti4 := field_of (ti := ti52) (tf := ti4) (fo := (0, 4)) (fs := [(0, 4), (1, 32)]) tf52 rfl rfl tf4
theorem pl52_0 {K : Nat → Nat → Prop} : placeF Tryd.prog [(0, 4), (1, 32)] 0 K = K 0 1 := place_of (tf := ti4) (fo := (0, 4)) (fs := [(0, 4), (1, 32)]) rfl tf4
theorem fld52_1 {K : Nat → TI → Prop} : @fieldW Tryd.prog 52 1 ⟨K⟩ = K 1 ti32 := field_of (ti := ti52) (tf := ti32) (fo := (1, 32)) (fs := [(0, 4), (1, 32)]) tf52 rfl rfl tf32
theorem pl52_1 {K : Nat → Nat → Prop} : placeF Tryd.prog [(0, 4), (1, 32)] 1 K = K 1 1 := place_of (tf := ti32) (fo := (1, 32)) (fs := [(0, 4), (1, 32)]) rfl tf32
theorem fsok52 : ∀ f ∈ ([(0, 4), (1, 32)] : List (Nat × Nat)), (tyOf Tryd.prog f.2).isSome = true := by
  intro f hf
  simp only [List.mem_cons, List.not_mem_nil, or_false] at hf
  rcases hf with rfl | rfl
  · rw [tf4]; rfl
  · rw [tf32]; rfl
theorem bld52 {ps : List (Nat × AV)} {K : AV → Prop} : @buildW Tryd.prog 52 ps ⟨K⟩ = @fillW (placeF Tryd.prog [(0, 4), (1, 32)]) (zc ti52) ps ⟨fun cs => K (.ag cs)⟩ := build_of tf52 rfl fsok52
theorem ty53 {K : TI → Prop} : @tyW Tryd.prog 53 ⟨K⟩ = K ti53 := ty_of tf53
theorem ti53_kd : ti53.kd = Kd.stru [(0, 52), (2, 3)] := _root_.id rfl
theorem ti53_agg : ti53.kd.agg = true := _root_.id rfl
theorem ti53_size : ti53.size = 3 := _root_.id rfl
theorem ti53_bytes : ti53.bytes = 40 := _root_.id rfl
theorem ti53_zs : zszW ti53 = True := eq_true rfl
theorem ti53_zc : zc ti53 = [.v (Value.bool false), .v (Value.slice none 0 0), .v (Value.int IntKind.i64 0)] := _root_.id rfl
theorem fld53_0 {K : Nat → TI → Prop} : @fieldW Tryd.prog 53 0 ⟨K⟩ = K 0 ti52 := field_of (ti := ti53) (tf := ti52) (fo := (0, 52)) (fs := [(0, 52), (2, 3)]) tf53 rfl rfl tf52
theorem pl53_0 {K : Nat → Nat → Prop} : placeF Tryd.prog [(0, 52), (2, 3)] 0 K = K 0 2 := place_of (tf := ti52) (fo := (0, 52)) (fs := [(0, 52), (2, 3)]) rfl tf52
theorem fld53_1 {K : Nat → TI → Prop} : @fieldW Tryd.prog 53 1 ⟨K⟩ = K 2 ti3 := field_of (ti := ti53) (tf := ti3) (fo := (2, 3)) (fs := [(0, 52), (2, 3)]) tf53 rfl rfl tf3
theorem pl53_1 {K : Nat → Nat → Prop} : placeF Tryd.prog [(0, 52), (2, 3)] 1 K = K 2 1 := place_of (tf := ti3) (fo := (2, 3)) (fs := [(0, 52), (2, 3)]) rfl tf3
theorem fsok53 : ∀ f ∈ ([(0, 52), (2, 3)] : List (Nat × Nat)), (tyOf Tryd.prog f.2).isSome = true := by
  intro f hf
  simp only [List.mem_cons, List.not_mem_nil, or_false] at hf
  rcases hf with rfl | rfl
  · rw [tf52]; rfl
  · rw [tf3]; rfl
theorem bld53 {ps : List (Nat × AV)} {K : AV → Prop} : @buildW Tryd.prog 53 ps ⟨K⟩ = @fillW (placeF Tryd.prog [(0, 52), (2, 3)]) (zc ti53) ps ⟨fun cs => K (.ag cs)⟩ := build_of tf53 rfl fsok53
theorem ty54 {K : TI → Prop} : @tyW Tryd.prog 54 ⟨K⟩ = K ti54 := ty_of tf54
theorem ti54_kd : ti54.kd = Kd.stru [(0, 52), (2, 3)] := _root_.id rfl
theorem ti54_agg : ti54.kd.agg = true := _root_.id rfl
theorem ti54_size : ti54.size = 3 := _root_.id rfl
theorem ti54_bytes : ti54.bytes = 40 := _root_.id rfl
theorem ti54_zs : zszW ti54 = True := eq_true rfl
theorem ti54_zc : zc ti54 = [.v (Value.bool false), .v (Value.slice none 0 0), .v (Value.int IntKind.i64 0)] := _root_.id rfl
theorem fld54_0 {K : Nat → TI → Prop} : @fieldW Tryd.prog 54 0 ⟨K⟩ = K 0 ti52 := field_of (ti := ti54) (tf := ti52) (fo := (0, 52)) (fs := [(0, 52), (2, 3)]) tf54 rfl rfl tf52
theorem pl54_0 {K : Nat → Nat → Prop} : placeF Tryd.prog [(0, 52), (2, 3)] 0 K = K 0 2 := place_of (tf := ti52) (fo := (0, 52)) (fs := [(0, 52), (2, 3)]) rfl tf52
theorem fld54_1 {K : Nat → TI → Prop} : @fieldW Tryd.prog 54 1 ⟨K⟩ = K 2 ti3 := field_of (ti := ti54) (tf := ti3) (fo := (2, 3)) (fs := [(0, 52), (2, 3)]) tf54 rfl rfl tf3
theorem pl54_1 {K : Nat → Nat → Prop} : placeF Tryd.prog [(0, 52), (2, 3)] 1 K = K 2 1 := place_of (tf := ti3) (fo := (2, 3)) (fs := [(0, 52), (2, 3)]) rfl tf3
theorem fsok54 : ∀ f ∈ ([(0, 52), (2, 3)] : List (Nat × Nat)), (tyOf Tryd.prog f.2).isSome = true := by
  intro f hf
  simp only [List.mem_cons, List.not_mem_nil, or_false] at hf
  rcases hf with rfl | rfl
  · rw [tf52]; rfl
  · rw [tf3]; rfl
theorem bld54 {ps : List (Nat × AV)} {K : AV → Prop} : @buildW Tryd.prog 54 ps ⟨K⟩ = @fillW (placeF Tryd.prog [(0, 52), (2, 3)]) (zc ti54) ps ⟨fun cs => K (.ag cs)⟩ := build_of tf54 rfl fsok54
theorem ty56 {K : TI → Prop} : @tyW Tryd.prog 56 ⟨K⟩ = K ti56 := ty_of tf56
theorem ti56_kd : ti56.kd = Kd.oth := _root_.id rfl
theorem ti56_agg : ti56.kd.agg = false := _root_.id rfl
theorem ti56_size : ti56.size = 1 := _root_.id rfl
theorem ti56_bytes : ti56.bytes = 8 := _root_.id rfl
theorem ti56_zs : zszW ti56 = True := eq_true rfl
theorem ti56_zc : zc ti56 = [.v Value.nilFunc] := _root_.id rfl
theorem ty57 {K : TI → Prop} : @tyW Tryd.prog 57 ⟨K⟩ = K ti57 := ty_of tf57
theorem ti57_kd : ti57.kd = Kd.oth := _root_.id rfl
theorem ti57_agg : ti57.kd.agg = false := _root_.id rfl
theorem ti57_size : ti57.size = 1 := _root_.id rfl
theorem ti57_bytes : ti57.bytes = 8 := _root_.id rfl
theorem ti57_zs : zszW ti57 = True := eq_true rfl
theorem ti57_zc : zc ti57 = [.v Value.nilFunc] := _root_.id rfl
theorem ty58 {K : TI → Prop} : @tyW Tryd.prog 58 ⟨K⟩ = K ti58 := ty_of tf58
theorem ti58_kd : ti58.kd = Kd.oth := _root_.id rfl
theorem ti58_agg : ti58.kd.agg = false := _root_.id rfl
theorem ti58_size : ti58.size = 1 := _root_.id rfl
theorem ti58_bytes : ti58.bytes = 8 := _root_.id rfl
theorem ti58_zs : zszW ti58 = True := eq_true rfl
theorem ti58_zc : zc ti58 = [.v Value.nilFunc] := _root_.id rfl
theorem ty59 {K : TI → Prop} : @tyW Tryd.prog 59 ⟨K⟩ = K ti59 := ty_of tf59
theorem ti59_kd : ti59.kd = Kd.oth := _root_.id rfl
theorem ti59_agg : ti59.kd.agg = false := _root_.id rfl
theorem ti59_size : ti59.size = 1 := _root_.id rfl
theorem ti59_bytes : ti59.bytes = 8 := _root_.id rfl
theorem ti59_zs : zszW ti59 = True := eq_true rfl
theorem ti59_zc : zc ti59 = [.v Value.nilFunc] := _root_.id rfl
theorem ty60 {K : TI → Prop} : @tyW Tryd.prog 60 ⟨K⟩ = K ti60 := ty_of tf60
theorem ti60_kd : ti60.kd = Kd.oth := _root_.id rfl
theorem ti60_agg : ti60.kd.agg = false := _root_.id rfl
theorem ti60_size : ti60.size = 1 := _root_.id rfl
theorem ti60_bytes : ti60.bytes = 8 := _root_.id rfl
theorem ti60_zs : zszW ti60 = True := eq_true rfl
theorem ti60_zc : zc ti60 = [.v Value.nilFunc] := _root_.id rfl
theorem ty61 {K : TI → Prop} : @tyW Tryd.prog 61 ⟨K⟩ = K ti61 := ty_of tf61
theorem ti61_kd : ti61.kd = Kd.oth := _root_.id rfl
theorem ti61_agg : ti61.kd.agg = false := _root_.id rfl
theorem ti61_size : ti61.size = 1 := _root_.id rfl
theorem ti61_bytes : ti61.bytes = 8 := _root_.id rfl
theorem ti61_zs : zszW ti61 = True := eq_true rfl
theorem ti61_zc : zc ti61 = [.v Value.nilFunc] := _root_.id rfl
theorem ty63 {K : TI → Prop} : @tyW Tryd.prog 63 ⟨K⟩ = K ti63 := ty_of tf63
theorem ti63_kd : ti63.kd = Kd.oth := _root_.id rfl
theorem ti63_agg : ti63.kd.agg = false := _root_.id rfl
theorem ti63_size : ti63.size = 1 := _root_.id rfl
theorem ti63_bytes : ti63.bytes = 8 := _root_.id rfl
theorem ti63_zs : zszW ti63 = True := eq_true rfl
theorem ti63_zc : zc ti63 = [.v Value.nilFunc] := _root_.id rfl
theorem ty64 {K : TI → Prop} : @tyW Tryd.prog 64 ⟨K⟩ = K ti64 := ty_of tf64
theorem ti64_kd : ti64.kd = Kd.oth := _root_.id rfl
theorem ti64_agg : ti64.kd.agg = false := _root_.id rfl
theorem ti64_size : ti64.size = 1 := _root_.id rfl
theorem ti64_bytes : ti64.bytes = 8 := _root_.id rfl
theorem ti64_zs : zszW ti64 = True := eq_true rfl
theorem ti64_zc : zc ti64 = [.v Value.nilFunc] := _root_.id rfl
theorem ty65 {K : TI → Prop} : @tyW Tryd.prog 65 ⟨K⟩ = K ti65 := ty_of tf65
theorem ti65_kd : ti65.kd = Kd.stru [(0, 4), (1, 22), (2, 3)] := _root_.id rfl
theorem ti65_agg : ti65.kd.agg = true := _root_.id rfl
theorem ti65_size : ti65.size = 3 := _root_.id rfl
theorem ti65_bytes : ti65.bytes = 40 := _root_.id rfl
theorem ti65_zs : zszW ti65 = True := eq_true rfl
theorem ti65_zc : zc ti65 = [.v (Value.bool false), .v (Value.slice none 0 0), .v (Value.int IntKind.i64 0)] := _root_.id rfl
theorem fld65_0 {K : Nat → TI → Prop} : @fieldW Tryd.prog 65 0 ⟨K⟩ = K 0 ti4 := field_of (ti := ti65) (tf := ti4) (fo := (0, 4)) (fs := [(0, 4), (1, 22), (2, 3)]) tf65 rfl rfl tf4
theorem pl65_0 {K : Nat → Nat → Prop} : placeF Tryd.prog [(0, 4), (1, 22), (2, 3)] 0 K = K 0 1 := place_of (tf := ti4) (fo := (0, 4)) (fs := [(0, 4), (1, 22), (2, 3)]) rfl tf4
theorem fld65_1 {K : Nat → TI → Prop} : @fieldW Tryd.prog 65 1 ⟨K⟩ = K 1 ti22 := field_of (ti := ti65) (tf := ti22) (fo := (1, 22)) (fs := [(0, 4), (1, 22), (2, 3)]) tf65 rfl rfl tf22
theorem pl65_1 {K : Nat → Nat → Prop} : placeF Tryd.prog [(0, 4), (1, 22), (2, 3)] 1 K = K 1 1 := place_of (tf := ti22) (fo := (1, 22)) (fs := [(0, 4), (1, 22), (2, 3)]) rfl tf22
theorem fld65_2 {K : Nat → TI → Prop} : @fieldW Tryd.prog 65 2 ⟨K⟩ = K 2 ti3 := field_of (ti := ti65) (tf := ti3) (fo := (2, 3)) (fs := [(0, 4), (1, 22), (2, 3)]) tf65 rfl rfl tf3
theorem pl65_2 {K : Nat → Nat → Prop} : placeF Tryd.prog [(0, 4), (1, 22), (2, 3)] 2 K = K 2 1 := place_of (tf := ti3) (fo := (2, 3)) (fs := [(0, 4), (1, 22), (2, 3)]) rfl tf3
theorem fsok65 : ∀ f ∈ ([(0, 4), (1, 22), (2, 3)] : List (Nat × Nat)), (tyOf Tryd.prog f.2).isSome = true := by
  intro f hf
  simp only [List.mem_cons, List.not_mem_nil, or_false] at hf
  rcases hf with rfl | rfl | rfl
  · rw [tf4]; rfl
  · rw [tf22]; rfl
  · rw [tf3]; rfl
theorem bld65 {ps : List (Nat × AV)} {K : AV → Prop} : @buildW Tryd.prog 65 ps ⟨K⟩ = @fillW (placeF Tryd.prog [(0, 4), (1, 22), (2, 3)]) (zc ti65) ps ⟨fun cs => K (.ag cs)⟩ := build_of tf65 rfl fsok65
theorem ty66 {K : TI → Prop} : @tyW Tryd.prog 66 ⟨K⟩ = K ti66 := ty_of tf66
theorem ti66_kd : ti66.kd = Kd.stru [(0, 4), (1, 22), (2, 3)] := _root_.id rfl
theorem ti66_agg : ti66.kd.agg = true := _root_.id rfl
theorem ti66_size : ti66.size = 3 := _root_.id rfl
theorem ti66_bytes : ti66.bytes = 40 := _root_.id rfl
theorem ti66_zs : zszW ti66 = True := eq_true rfl
theorem ti66_zc : zc ti66 = [.v (Value.bool false), .v (Value.slice none 0 0), .v (Value.int IntKind.i64 0)] := _root_.id rfl
theorem fld66_0 {K : Nat → TI → Prop} : @fieldW Tryd.prog 66 0 ⟨K⟩ = K 0 ti4 := field_of (ti := ti66) (tf := ti4) (fo := (0, 4)) (fs := [(0, 4), (1, 22), (2, 3)]) tf66 rfl rfl tf4
theorem pl66_0 {K : Nat → Nat → Prop} : placeF Tryd.prog [(0, 4), (1, 22), (2, 3)] 0 K = K 0 1 := place_of (tf := ti4) (fo := (0, 4)) (fs := [(0, 4), (1, 22), (2, 3)]) rfl tf4
theorem fld66_1 {K : Nat → TI → Prop} : @fieldW Tryd.prog 66 1 ⟨K⟩ = K 1 ti22 := field_of (ti := ti66) (tf := ti22) (fo := (1, 22)) (fs := [(0, 4), (1, 22), (2, 3)]) tf66 rfl rfl tf22
theorem pl66_1 {K : Nat → Nat → Prop} : placeF Tryd.prog [(0, 4), (1, 22), (2, 3)] 1 K = K 1 1 := place_of (tf := ti22) (fo := (1, 22)) (fs := [(0, 4), (1, 22), (2, 3)]) rfl tf22
theorem fld66_2 {K : Nat → TI → Prop} : @fieldW Tryd.prog 66 2 ⟨K⟩ = K 2 ti3 := field_of (ti := ti66) (tf := ti3) (fo := (2, 3)) (fs := [(0, 4), (1, 22), (2, 3)]) tf66 rfl rfl tf3
theorem pl66_2 {K : Nat → Nat → Prop} : placeF Tryd.prog [(0, 4), (1, 22), (2, 3)] 2 K = K 2 1 := place_of (tf := ti3) (fo := (2, 3)) (fs := [(0, 4), (1, 22), (2, 3)]) rfl tf3
theorem fsok66 : ∀ f ∈ ([(0, 4), (1, 22), (2, 3)] : List (Nat × Nat)), (tyOf Tryd.prog f.2).isSome = true := by
  intro f hf
  simp only [List.mem_cons, List.not_mem_nil, or_false] at hf
  rcases hf with rfl | rfl | rfl
  · rw [tf4]; rfl
  · rw [tf22]; rfl
  · rw [tf3]; rfl
theorem bld66 {ps : List (Nat × AV)} {K : AV → Prop} : @buildW Tryd.prog 66 ps ⟨K⟩ = @fillW (placeF Tryd.prog [(0, 4), (1, 22), (2, 3)]) (zc ti66) ps ⟨fun cs => K (.ag cs)⟩ := build_of tf66 rfl fsok66
theorem ty68 {K : TI → Prop} : @tyW Tryd.prog 68 ⟨K⟩ = K ti68 := ty_of tf68
theorem ti68_kd : ti68.kd = Kd.oth := _root_.id rfl
theorem ti68_agg : ti68.kd.agg = false := _root_.id rfl
theorem ti68_size : ti68.size = 1 := _root_.id rfl
theorem ti68_bytes : ti68.bytes = 8 := _root_.id rfl
theorem ti68_zs : zszW ti68 = True := eq_true rfl
theorem ti68_zc : zc ti68 = [.v Value.nilFunc] := _root_.id rfl
theorem ty69 {K : TI → Prop} : @tyW Tryd.prog 69 ⟨K⟩ = K ti69 := ty_of tf69
theorem ti69_kd : ti69.kd = Kd.oth := _root_.id rfl
theorem ti69_agg : ti69.kd.agg = false := _root_.id rfl
theorem ti69_size : ti69.size = 1 := _root_.id rfl
theorem ti69_bytes : ti69.bytes = 8 := _root_.id rfl
theorem ti69_zs : zszW ti69 = True := eq_true rfl
theorem ti69_zc : zc ti69 = [.v Value.nilFunc] := _root_.id rfl
theorem ty70 {K : TI → Prop} : @tyW Tryd.prog 70 ⟨K⟩ = K ti70 := ty_of tf70
theorem ti70_kd : ti70.kd = Kd.oth := _root_.id rfl
theorem ti70_agg : ti70.kd.agg = false := _root_.id rfl
theorem ti70_size : ti70.size = 1 := _root_.id rfl
theorem ti70_bytes : ti70.bytes = 8 := _root_.id rfl
theorem ti70_zs : zszW ti70 = True := eq_true rfl
theorem ti70_zc : zc ti70 = [.v Value.nilFunc] := _root_.id rfl
theorem ty71 {K : TI → Prop} : @tyW Tryd.prog 71 ⟨K⟩ = K ti71 := ty_of tf71
theorem ti71_kd : ti71.kd = Kd.oth := _root_.id rfl
theorem ti71_agg : ti71.kd.agg = false := _root_.id rfl
theorem ti71_size : ti71.size = 1 := _root_.id rfl
theorem ti71_bytes : ti71.bytes = 8 := _root_.id rfl
theorem ti71_zs : zszW ti71 = True := eq_true rfl
theorem ti71_zc : zc ti71 = [.v Value.nilFunc] := _root_.id rfl
theorem ty72 {K : TI → Prop} : @tyW Tryd.prog 72 ⟨K⟩ = K ti72 := ty_of tf72
theorem ti72_kd : ti72.kd = Kd.oth := _root_.id rfl
theorem ti72_agg : ti72.kd.agg = false := _root_.id rfl
theorem ti72_size : ti72.size = 1 := _root_.id rfl
theorem ti72_bytes : ti72.bytes = 8 := _root_.id rfl
theorem ti72_zs : zszW ti72 = True := eq_true rfl
theorem ti72_zc : zc ti72 = [.v Value.nilFunc] := _root_.id rfl
theorem ty73 {K : TI → Prop} : @tyW Tryd.prog 73 ⟨K⟩ = K ti73 := ty_of tf73
theorem ti73_kd : ti73.kd = Kd.oth := _root_.id rfl
theorem ti73_agg : ti73.kd.agg = false := _root_.id rfl
theorem ti73_size : ti73.size = 1 := _root_.id rfl
theorem ti73_bytes : ti73.bytes = 8 := _root_.id rfl
theorem ti73_zs : zszW ti73 = True := eq_true rfl
theorem ti73_zc : zc ti73 = [.v Value.nilFunc] := _root_.id rfl
theorem ty74 {K : TI → Prop} : @tyW Tryd.prog 74 ⟨K⟩ = K ti74 := ty_of tf74
theorem ti74_kd : ti74.kd = Kd.oth := _root_.id rfl
theorem ti74_agg : ti74.kd.agg = false := _root_.id rfl
theorem ti74_size : ti74.size = 1 := _root_.id rfl
theorem ti74_bytes : ti74.bytes = 8 := _root_.id rfl
theorem ti74_zs : zszW ti74 = True := eq_true rfl
theorem ti74_zc : zc ti74 = [.v Value.nilFunc] := _root_.id rfl
theorem ty75 {K : TI → Prop} : @tyW Tryd.prog 75 ⟨K⟩ = K ti75 := ty_of tf75
theorem ti75_kd : ti75.kd = Kd.oth := _root_.id rfl
theorem ti75_agg : ti75.kd.agg = false := _root_.id rfl
theorem ti75_size : ti75.size = 1 := _root_.id rfl
theorem ti75_bytes : ti75.bytes = 8 := _root_.id rfl
theorem ti75_zs : zszW ti75 = True := eq_true rfl
theorem ti75_zc : zc ti75 = [.v Value.nilFunc] := _root_.id rfl
theorem ty76 {K : TI → Prop} : @tyW Tryd.prog 76 ⟨K⟩ = K ti76 := ty_of tf76
theorem ti76_kd : ti76.kd = Kd.oth := _root_.id rfl
theorem ti76_agg : ti76.kd.agg = false := _root_.id rfl
theorem ti76_size : ti76.size = 1 := _root_.id rfl
theorem ti76_bytes : ti76.bytes = 8 := _root_.id rfl
theorem ti76_zs : zszW ti76 = True := eq_true rfl
theorem ti76_zc : zc ti76 = [.v Value.nilFunc] := _root_.id rfl
theorem ty77 {K : TI → Prop} : @tyW Tryd.prog 77 ⟨K⟩ = K ti77 := ty_of tf77
theorem ti77_kd : ti77.kd = Kd.oth := _root_.id rfl
theorem ti77_agg : ti77.kd.agg = false := _root_.id rfl
theorem ti77_size : ti77.size = 1 := _root_.id rfl
theorem ti77_bytes : ti77.bytes = 8 := _root_.id rfl
theorem ti77_zs : zszW ti77 = True := eq_true rfl
theorem ti77_zc : zc ti77 = [.v Value.nilFunc] := _root_.id rfl
theorem ty79 {K : TI → Prop} : @tyW Tryd.prog 79 ⟨K⟩ = K ti79 := ty_of tf79
theorem ti79_kd : ti79.kd = Kd.oth := _root_.id rfl
theorem ti79_agg : ti79.kd.agg = false := _root_.id rfl
theorem ti79_size : ti79.size = 1 := _root_.id rfl
theorem ti79_bytes : ti79.bytes = 8 := _root_.id rfl
theorem ti79_zs : zszW ti79 = True := eq_true rfl
theorem ti79_zc : zc ti79 = [.v Value.nilFunc] := _root_.id rfl
theorem ty80 {K : TI → Prop} : @tyW Tryd.prog 80 ⟨K⟩ = K ti80 := ty_of tf80
theorem ti80_kd : ti80.kd = Kd.oth := _root_.id rfl
theorem ti80_agg : ti80.kd.agg = false := _root_.id rfl
theorem ti80_size : ti80.size = 1 := _root_.id rfl
theorem ti80_bytes : ti80.bytes = 8 := _root_.id rfl
theorem ti80_zs : zszW ti80 = True := eq_true rfl
theorem ti80_zc : zc ti80 = [.v Value.nilFunc] := _root_.id rfl
theorem ty82 {K : TI → Prop} : @tyW Tryd.prog 82 ⟨K⟩ = K ti82 := ty_of tf82
theorem ti82_kd : ti82.kd = Kd.oth := _root_.id rfl
theorem ti82_agg : ti82.kd.agg = false := _root_.id rfl
theorem ti82_size : ti82.size = 1 := _root_.id rfl
theorem ti82_bytes : ti82.bytes = 8 := _root_.id rfl
theorem ti82_zs : zszW ti82 = True := eq_true rfl
theorem ti82_zc : zc ti82 = [.v Value.nilFunc] := _root_.id rfl
theorem ty83 {K : TI → Prop} : @tyW Tryd.prog 83 ⟨K⟩ = K ti83 := ty_of tf83
theorem ti83_kd : ti83.kd = Kd.oth := _root_.id rfl
theorem ti83_agg : ti83.kd.agg = false := _root_.id rfl
theorem ti83_size : ti83.size = 1 := _root_.id rfl
theorem ti83_bytes : ti83.bytes = 8 := _root_.id rfl
theorem ti83_zs : zszW ti83 = True := eq_true rfl
theorem ti83_zc : zc ti83 = [.v Value.nilFunc] := _root_.id rfl
theorem ty84 {K : TI → Prop} : @tyW Tryd.prog 84 ⟨K⟩ = K ti84 := ty_of tf84
theorem ti84_kd : ti84.kd = Kd.oth := _root_.id rfl
theorem ti84_agg : ti84.kd.agg = false := _root_.id rfl
theorem ti84_size : ti84.size = 1 := _root_.id rfl
theorem ti84_bytes : ti84.bytes = 8 := _root_.id rfl
theorem ti84_zs : zszW ti84 = True := eq_true rfl
theorem ti84_zc : zc ti84 = [.v Value.nilFunc] := _root_.id rfl
theorem ty85 {K : TI → Prop} : @tyW Tryd.prog 85 ⟨K⟩ = K ti85 := ty_of tf85
theorem ti85_kd : ti85.kd = Kd.oth := _root_.id rfl
theorem ti85_agg : ti85.kd.agg = false := _root_.id rfl
theorem ti85_size : ti85.size = 1 := _root_.id rfl
theorem ti85_bytes : ti85.bytes = 8 := _root_.id rfl
theorem ti85_zs : zszW ti85 = True := eq_true rfl
theorem ti85_zc : zc ti85 = [.v Value.nilFunc] := _root_.id rfl
theorem ty86 {K : TI → Prop} : @tyW Tryd.prog 86 ⟨K⟩ = K ti86 := ty_of tf86
theorem ti86_kd : ti86.kd = Kd.oth := _root_.id rfl
theorem ti86_agg : ti86.kd.agg = false := _root_.id rfl
theorem ti86_size : ti86.size = 1 := _root_.id rfl
theorem ti86_bytes : ti86.bytes = 8 := _root_.id rfl
theorem ti86_zs : zszW ti86 = True := eq_true rfl
theorem ti86_zc : zc ti86 = [.v Value.nilFunc] := _root_.id rfl
theorem ty87 {K : TI → Prop} : @tyW Tryd.prog 87 ⟨K⟩ = K ti87 := ty_of tf87
theorem ti87_kd : ti87.kd = Kd.oth := _root_.id rfl
theorem ti87_agg : ti87.kd.agg = false := _root_.id rfl
theorem ti87_size : ti87.size = 1 := _root_.id rfl
theorem ti87_bytes : ti87.bytes = 8 := _root_.id rfl
theorem ti87_zs : zszW ti87 = True := eq_true rfl
theorem ti87_zc : zc ti87 = [.v Value.nilFunc] := _root_.id rfl
theorem ty89 {K : TI → Prop} : @tyW Tryd.prog 89 ⟨K⟩ = K ti89 := ty_of tf89
theorem ti89_kd : ti89.kd = Kd.oth := _root_.id rfl
theorem ti89_agg : ti89.kd.agg = false := _root_.id rfl
theorem ti89_size : ti89.size = 1 := _root_.id rfl
theorem ti89_bytes : ti89.bytes = 8 := _root_.id rfl
theorem ti89_zs : zszW ti89 = True := eq_true rfl
theorem ti89_zc : zc ti89 = [.v Value.nilFunc] := _root_.id rfl
theorem ty90 {K : TI → Prop} : @tyW Tryd.prog 90 ⟨K⟩ = K ti90 := ty_of tf90
theorem ti90_kd : ti90.kd = Kd.oth := _root_.id rfl
theorem ti90_agg : ti90.kd.agg = false := _root_.id rfl
theorem ti90_size : ti90.size = 1 := _root_.id rfl
theorem ti90_bytes : ti90.bytes = 8 := _root_.id rfl
theorem ti90_zs : zszW ti90 = True := eq_true rfl
theorem ti90_zc : zc ti90 = [.v Value.nilFunc] := _root_.id rfl
theorem ty91 {K : TI → Prop} : @tyW Tryd.prog 91 ⟨K⟩ = K ti91 := ty_of tf91
theorem ti91_kd : ti91.kd = Kd.oth := _root_.id rfl
theorem ti91_agg : ti91.kd.agg = false := _root_.id rfl
theorem ti91_size : ti91.size = 1 := _root_.id rfl
theorem ti91_bytes : ti91.bytes = 8 := _root_.id rfl
theorem ti91_zs : zszW ti91 = True := eq_true rfl
theorem ti91_zc : zc ti91 = [.v Value.nilFunc] := _root_.id rfl
theorem ty92 {K : TI → Prop} : @tyW Tryd.prog 92 ⟨K⟩ = K ti92 := ty_of tf92
theorem ti92_kd : ti92.kd = Kd.oth := _root_.id rfl
theorem ti92_agg : ti92.kd.agg = false := _root_.id rfl
theorem ti92_size : ti92.size = 1 := _root_.id rfl
theorem ti92_bytes : ti92.bytes = 8 := _root_.id rfl
theorem ti92_zs : zszW ti92 = True := eq_true rfl
theorem ti92_zc : zc ti92 = [.v Value.nilFunc] := _root_.id rfl
theorem ty93 {K : TI → Prop} : @tyW Tryd.prog 93 ⟨K⟩ = K ti93 := ty_of tf93
theorem ti93_kd : ti93.kd = Kd.oth := _root_.id rfl
theorem ti93_agg : ti93.kd.agg = false := _root_.id rfl
theorem ti93_size : ti93.size = 1 := _root_.id rfl
theorem ti93_bytes : ti93.bytes = 8 := _root_.id rfl
theorem ti93_zs : zszW ti93 = True := eq_true rfl
theorem ti93_zc : zc ti93 = [.v Value.nilFunc] := _root_.id rfl
theorem ty94 {K : TI → Prop} : @tyW Tryd.prog 94 ⟨K⟩ = K ti94 := ty_of tf94
theorem ti94_kd : ti94.kd = Kd.oth := _root_.id rfl
theorem ti94_agg : ti94.kd.agg = false := _root_.id rfl
theorem ti94_size : ti94.size = 1 := _root_.id rfl
theorem ti94_bytes : ti94.bytes = 8 := _root_.id rfl
theorem ti94_zs : zszW ti94 = True := eq_true rfl
theorem ti94_zc : zc ti94 = [.v Value.nilFunc] := _root_.id rfl
theorem ty95 {K : TI → Prop} : @tyW Tryd.prog 95 ⟨K⟩ = K ti95 := ty_of tf95
theorem ti95_kd : ti95.kd = Kd.oth := _root_.id rfl
theorem ti95_agg : ti95.kd.agg = false := _root_.id rfl
theorem ti95_size : ti95.size = 1 := _root_.id rfl
theorem ti95_bytes : ti95.bytes = 8 := _root_.id rfl
theorem ti95_zs : zszW ti95 = True := eq_true rfl
theorem ti95_zc : zc ti95 = [.v Value.nilFunc] := _root_.id rfl
theorem ty96 {K : TI → Prop} : @tyW Tryd.prog 96 ⟨K⟩ = K ti96 := ty_of tf96
theorem ti96_kd : ti96.kd = Kd.oth := _root_.id rfl
theorem ti96_agg : ti96.kd.agg = false := _root_.id rfl
theorem ti96_size : ti96.size = 1 := _root_.id rfl
theorem ti96_bytes : ti96.bytes = 8 := _root_.id rfl
theorem ti96_zs : zszW ti96 = True := eq_true rfl
theorem ti96_zc : zc ti96 = [.v Value.nilFunc] := _root_.id rfl
theorem ty97 {K : TI → Prop} : @tyW Tryd.prog 97 ⟨K⟩ = K ti97 := ty_of tf97
theorem ti97_kd : ti97.kd = Kd.oth := _root_.id rfl
theorem ti97_agg : ti97.kd.agg = false := _root_.id rfl
theorem ti97_size : ti97.size = 1 := _root_.id rfl
theorem ti97_bytes : ti97.bytes = 8 := _root_.id rfl
theorem ti97_zs : zszW ti97 = True := eq_true rfl
theorem ti97_zc : zc ti97 = [.v Value.nilFunc] := _root_.id rfl
theorem ty98 {K : TI → Prop} : @tyW Tryd.prog 98 ⟨K⟩ = K ti98 := ty_of tf98
theorem ti98_kd : ti98.kd = Kd.oth := _root_.id rfl
theorem ti98_agg : ti98.kd.agg = false := _root_.id rfl
theorem ti98_size : ti98.size = 1 := _root_.id rfl
theorem ti98_bytes : ti98.bytes = 8 := _root_.id rfl
theorem ti98_zs : zszW ti98 = True := eq_true rfl
theorem ti98_zc : zc ti98 = [.v Value.nilFunc] := _root_.id rfl
theorem ty99 {K : TI → Prop} : @tyW Tryd.prog 99 ⟨K⟩ = K ti99 := ty_of tf99
theorem ti99_kd : ti99.kd = Kd.oth := _root_.id rfl
theorem ti99_agg : ti99.kd.agg = false := _root_.id rfl
theorem ti99_size : ti99.size = 1 := _root_.id rfl
theorem ti99_bytes : ti99.bytes = 8 := _root_.id rfl
theorem ti99_zs : zszW ti99 = True := eq_true rfl
theorem ti99_zc : zc ti99 = [.v Value.nilFunc] := _root_.id rfl
theorem ty101 {K : TI → Prop} : @tyW Tryd.prog 101 ⟨K⟩ = K ti101 := ty_of tf101
theorem ti101_kd : ti101.kd = Kd.oth := _root_.id rfl
theorem ti101_agg : ti101.kd.agg = false := _root_.id rfl
theorem ti101_size : ti101.size = 1 := _root_.id rfl
theorem ti101_bytes : ti101.bytes = 8 := _root_.id rfl
theorem ti101_zs : zszW ti101 = True := eq_true rfl
theorem ti101_zc : zc ti101 = [.v Value.nilFunc] := _root_.id rfl
theorem ty102 {K : TI → Prop} : @tyW Tryd.prog 102 ⟨K⟩ = K ti102 := ty_of tf102
theorem ti102_kd : ti102.kd = Kd.oth := _root_.id rfl
theorem ti102_agg : ti102.kd.agg = false := _root_.id rfl
theorem ti102_size : ti102.size = 1 := _root_.id rfl
theorem ti102_bytes : ti102.bytes = 8 := _root_.id rfl
theorem ti102_zs : zszW ti102 = True := eq_true rfl
theorem ti102_zc : zc ti102 = [.v Value.nilFunc] := _root_.id rfl
theorem ty103 {K : TI → Prop} : @tyW Tryd.prog 103 ⟨K⟩ = K ti103 := ty_of tf103
theorem ti103_kd : ti103.kd = Kd.oth := _root_.id rfl
theorem ti103_agg : ti103.kd.agg = false := _root_.id rfl
theorem ti103_size : ti103.size = 1 := _root_.id rfl
theorem ti103_bytes : ti103.bytes = 8 := _root_.id rfl
theorem ti103_zs : zszW ti103 = True := eq_true rfl
theorem ti103_zc : zc ti103 = [.v Value.nilFunc] := _root_.id rfl
theorem ty104 {K : TI → Prop} : @tyW Tryd.prog 104 ⟨K⟩ = K ti104 := ty_of tf104
theorem ti104_kd : ti104.kd = Kd.oth := _root_.id rfl
theorem ti104_agg : ti104.kd.agg = false := _root_.id rfl
theorem ti104_size : ti104.size = 1 := _root_.id rfl
theorem ti104_bytes : ti104.bytes = 8 := _root_.id rfl
theorem ti104_zs : zszW ti104 = True := eq_true rfl
theorem ti104_zc : zc ti104 = [.v Value.nilFunc] := _root_.id rfl
theorem ty106 {K : TI → Prop} : @tyW Tryd.prog 106 ⟨K⟩ = K ti106 := ty_of tf106
theorem ti106_kd : ti106.kd = Kd.oth := _root_.id rfl
theorem ti106_agg : ti106.kd.agg = false := _root_.id rfl
theorem ti106_size : ti106.size = 1 := _root_.id rfl
theorem ti106_bytes : ti106.bytes = 8 := _root_.id rfl
theorem ti106_zs : zszW ti106 = True := eq_true rfl
theorem ti106_zc : zc ti106 = [.v Value.nilFunc] := _root_.id rfl
theorem ty107 {K : TI → Prop} : @tyW Tryd.prog 107 ⟨K⟩ = K ti107 := ty_of tf107
theorem ti107_kd : ti107.kd = Kd.oth := _root_.id rfl
theorem ti107_agg : ti107.kd.agg = false := _root_.id rfl
theorem ti107_size : ti107.size = 1 := _root_.id rfl
theorem ti107_bytes : ti107.bytes = 8 := _root_.id rfl
theorem ti107_zs : zszW ti107 = True := eq_true rfl
theorem ti107_zc : zc ti107 = [.v Value.nilFunc] := _root_.id rfl
theorem ty109 {K : TI → Prop} : @tyW Tryd.prog 109 ⟨K⟩ = K ti109 := ty_of tf109
theorem ti109_kd : ti109.kd = Kd.oth := _root_.id rfl
theorem ti109_agg : ti109.kd.agg = false := _root_.id rfl
theorem ti109_size : ti109.size = 1 := _root_.id rfl
theorem ti109_bytes : ti109.bytes = 8 := _root_.id rfl
theorem ti109_zs : zszW ti109 = True := eq_true rfl
theorem ti109_zc : zc ti109 = [.v Value.nilFunc] := _root_.id rfl
theorem ty110 {K : TI → Prop} : @tyW Tryd.prog 110 ⟨K⟩ = K ti110 := ty_of tf110
theorem ti110_kd : ti110.kd = Kd.oth := _root_.id rfl
theorem ti110_agg : ti110.kd.agg = false := _root_.id rfl
theorem ti110_size : ti110.size = 1 := _root_.id rfl
theorem ti110_bytes : ti110.bytes = 8 := _root_.id rfl
theorem ti110_zs : zszW ti110 = True := eq_true rfl
theorem ti110_zc : zc ti110 = [.v Value.nilFunc] := _root_.id rfl
theorem ty111 {K : TI → Prop} : @tyW Tryd.prog 111 ⟨K⟩ = K ti111 := ty_of tf111
theorem ti111_kd : ti111.kd = Kd.oth := _root_.id rfl
theorem ti111_agg : ti111.kd.agg = false := _root_.id rfl
theorem ti111_size : ti111.size = 1 := _root_.id rfl
theorem ti111_bytes : ti111.bytes = 8 := _root_.id rfl
theorem ti111_zs : zszW ti111 = True := eq_true rfl
theorem ti111_zc : zc ti111 = [.v Value.nilFunc] := _root_.id rfl
theorem ty112 {K : TI → Prop} : @tyW Tryd.prog 112 ⟨K⟩ = K ti112 := ty_of tf112
theorem ti112_kd : ti112.kd = Kd.oth := _root_.id rfl
theorem ti112_agg : ti112.kd.agg = false := _root_.id rfl
theorem ti112_size : ti112.size = 1 := _root_.id rfl
theorem ti112_bytes : ti112.bytes = 8 := _root_.id rfl
theorem ti112_zs : zszW ti112 = True := eq_true rfl
theorem ti112_zc : zc ti112 = [.v Value.nilFunc] := _root_.id rfl
theorem ty113 {K : TI → Prop} : @tyW Tryd.prog 113 ⟨K⟩ = K ti113 := ty_of tf113
theorem ti113_kd : ti113.kd = Kd.int IntKind.u64 := _root_.id rfl
theorem ti113_agg : ti113.kd.agg = false := _root_.id rfl
theorem ti113_size : ti113.size = 1 := _root_.id rfl
theorem ti113_bytes : ti113.bytes = 8 := _root_.id rfl
theorem ti113_zs : zszW ti113 = True := eq_true rfl
theorem ti113_zc : zc ti113 = [.v (Value.int IntKind.u64 0)] := _root_.id rfl
theorem ty114 {K : TI → Prop} : @tyW Tryd.prog 114 ⟨K⟩ = K ti114 := ty_of tf114
theorem ti114_kd : ti114.kd = Kd.oth := _root_.id rfl
theorem ti114_agg : ti114.kd.agg = false := _root_.id rfl
theorem ti114_size : ti114.size = 1 := _root_.id rfl
theorem ti114_bytes : ti114.bytes = 8 := _root_.id rfl
theorem ti114_zs : zszW ti114 = True := eq_true rfl
theorem ti114_zc : zc ti114 = [.v Value.nilFunc] := _root_.id rfl
theorem ty115 {K : TI → Prop} : @tyW Tryd.prog 115 ⟨K⟩ = K ti115 := ty_of tf115
theorem ti115_kd : ti115.kd = Kd.oth := _root_.id rfl
theorem ti115_agg : ti115.kd.agg = false := _root_.id rfl
theorem ti115_size : ti115.size = 1 := _root_.id rfl
theorem ti115_bytes : ti115.bytes = 8 := _root_.id rfl
theorem ti115_zs : zszW ti115 = True := eq_true rfl
theorem ti115_zc : zc ti115 = [.v Value.nilFunc] := _root_.id rfl
theorem ty116 {K : TI → Prop} : @tyW Tryd.prog 116 ⟨K⟩ = K ti116 := ty_of tf116
theorem ti116_kd : ti116.kd = Kd.oth := _root_.id rfl
theorem ti116_agg : ti116.kd.agg = false := _root_.id rfl
theorem ti116_size : ti116.size = 1 := _root_.id rfl
theorem ti116_bytes : ti116.bytes = 8 := _root_.id rfl
theorem ti116_zs : zszW ti116 = True := eq_true rfl
theorem ti116_zc : zc ti116 = [.v Value.nilFunc] := _root_.id rfl
theorem ty117 {K : TI → Prop} : @tyW Tryd.prog 117 ⟨K⟩ = K ti117 := ty_of tf117
theorem ti117_kd : ti117.kd = Kd.oth := _root_.id rfl
theorem ti117_agg : ti117.kd.agg = false := _root_.id rfl
theorem ti117_size : ti117.size = 1 := _root_.id rfl
theorem ti117_bytes : ti117.bytes = 8 := _root_.id rfl
theorem ti117_zs : zszW ti117 = True := eq_true rfl
theorem ti117_zc : zc ti117 = [.v Value.nilFunc] := _root_.id rfl
theorem ty118 {K : TI → Prop} : @tyW Tryd.prog 118 ⟨K⟩ = K ti118 := ty_of tf118
theorem ti118_kd : ti118.kd = Kd.oth := _root_.id rfl
theorem ti118_agg : ti118.kd.agg = false := _root_.id rfl
theorem ti118_size : ti118.size = 1 := _root_.id rfl
theorem ti118_bytes : ti118.bytes = 8 := _root_.id rfl
theorem ti118_zs : zszW ti118 = True := eq_true rfl
theorem ti118_zc : zc ti118 = [.v Value.nilFunc] := _root_.id rfl
theorem ty119 {K : TI → Prop} : @tyW Tryd.prog 119 ⟨K⟩ = K ti119 := ty_of tf119
theorem ti119_kd : ti119.kd = Kd.int IntKind.u32 := _root_.id rfl
theorem ti119_agg : ti119.kd.agg = false := _root_.id rfl
theorem ti119_size : ti119.size = 1 := _root_.id rfl
theorem ti119_bytes : ti119.bytes = 4 := _root_.id rfl
theorem ti119_zs : zszW ti119 = True := eq_true rfl
theorem ti119_zc : zc ti119 = [.v (Value.int IntKind.u32 0)] := _root_.id rfl
theorem ty120 {K : TI → Prop} : @tyW Tryd.prog 120 ⟨K⟩ = K ti120 := ty_of tf120
theorem ti120_kd : ti120.kd = Kd.oth := _root_.id rfl
theorem ti120_agg : ti120.kd.agg = false := _root_.id rfl
theorem ti120_size : ti120.size = 1 := _root_.id rfl
theorem ti120_bytes : ti120.bytes = 8 := _root_.id rfl
theorem ti120_zs : zszW ti120 = True := eq_true rfl
theorem ti120_zc : zc ti120 = [.v Value.nilFunc] := _root_.id rfl
theorem ty121 {K : TI → Prop} : @tyW Tryd.prog 121 ⟨K⟩ = K ti121 := ty_of tf121
theorem ti121_kd : ti121.kd = Kd.int IntKind.u64 := _root_.id rfl
theorem ti121_agg : ti121.kd.agg = false := _root_.id rfl
theorem ti121_size : ti121.size = 1 := _root_.id rfl
theorem ti121_bytes : ti121.bytes = 8 := _root_.id rfl
theorem ti121_zs : zszW ti121 = True := eq_true rfl
theorem ti121_zc : zc ti121 = [.v (Value.int IntKind.u64 0)] := _root_.id rfl
theorem ty124 {K : TI → Prop} : @tyW Tryd.prog 124 ⟨K⟩ = K ti124 := ty_of tf124
theorem ti124_kd : ti124.kd = Kd.oth := _root_.id rfl
theorem ti124_agg : ti124.kd.agg = false := _root_.id rfl
theorem ti124_size : ti124.size = 1 := _root_.id rfl
theorem ti124_bytes : ti124.bytes = 8 := _root_.id rfl
theorem ti124_zs : zszW ti124 = True := eq_true rfl
theorem ti124_zc : zc ti124 = [.v Value.nilFunc] := _root_.id rfl
theorem ty128 {K : TI → Prop} : @tyW Tryd.prog 128 ⟨K⟩ = K ti128 := ty_of tf128
theorem ti128_kd : ti128.kd = Kd.stru [(0, 127)] := _root_.id rfl
theorem ti128_agg : ti128.kd.agg = true := _root_.id rfl
theorem ti128_size : ti128.size = 0 := _root_.id rfl
theorem ti128_bytes : ti128.bytes = 0 := _root_.id rfl
theorem ti128_zs : zszW ti128 = True := eq_true rfl
theorem ti128_zc : zc ti128 = [] := _root_.id rfl
theorem ty129 {K : TI → Prop} : @tyW Tryd.prog 129 ⟨K⟩ = K ti129 := ty_of tf129
theorem ti129_kd : ti129.kd = Kd.stru [(0, 127)] := _root_.id rfl
theorem ti129_agg : ti129.kd.agg = true := _root_.id rfl
theorem ti129_size : ti129.size = 0 := _root_.id rfl
theorem ti129_bytes : ti129.bytes = 0 := _root_.id rfl
theorem ti129_zs : zszW ti129 = True := eq_true rfl
theorem ti129_zc : zc ti129 = [] := _root_.id rfl
theorem ty130 {K : TI → Prop} : @tyW Tryd.prog 130 ⟨K⟩ = K ti130 := ty_of tf130
theorem ti130_kd : ti130.kd = Kd.int IntKind.u8 := _root_.id rfl
theorem ti130_agg : ti130.kd.agg = false := _root_.id rfl
theorem ti130_size : ti130.size = 1 := _root_.id rfl
theorem ti130_bytes : ti130.bytes = 1 := _root_.id rfl
theorem ti130_zs : zszW ti130 = True := eq_true rfl
theorem ti130_zc : zc ti130 = [.v (Value.int IntKind.u8 0)] := _root_.id rfl
theorem ty131 {K : TI → Prop} : @tyW Tryd.prog 131 ⟨K⟩ = K ti131 := ty_of tf131
theorem ti131_kd : ti131.kd = Kd.int IntKind.u8 := _root_.id rfl
theorem ti131_agg : ti131.kd.agg = false := _root_.id rfl
theorem ti131_size : ti131.size = 1 := _root_.id rfl
theorem ti131_bytes : ti131.bytes = 1 := _root_.id rfl
theorem ti131_zs : zszW ti131 = True := eq_true rfl
theorem ti131_zc : zc ti131 = [.v (Value.int IntKind.u8 0)] := _root_.id rfl
theorem ty132 {K : TI → Prop} : @tyW Tryd.prog 132 ⟨K⟩ = K ti132 := ty_of tf132
theorem ti132_kd : ti132.kd = Kd.oth := _root_.id rfl
theorem ti132_agg : ti132.kd.agg = false := _root_.id rfl
theorem ti132_size : ti132.size = 1 := _root_.id rfl
theorem ti132_bytes : ti132.bytes = 8 := _root_.id rfl
theorem ti132_zs : zszW ti132 = True := eq_true rfl
theorem ti132_zc : zc ti132 = [.v Value.nilFunc] := _root_.id rfl
theorem ty134 {K : TI → Prop} : @tyW Tryd.prog 134 ⟨K⟩ = K ti134 := ty_of tf134
theorem ti134_kd : ti134.kd = Kd.int IntKind.i32 := _root_.id rfl
theorem ti134_agg : ti134.kd.agg = false := _root_.id rfl
theorem ti134_size : ti134.size = 1 := _root_.id rfl
theorem ti134_bytes : ti134.bytes = 4 := _root_.id rfl
theorem ti134_zs : zszW ti134 = True := eq_true rfl
theorem ti134_zc : zc ti134 = [.v (Value.int IntKind.i32 0)] := _root_.id rfl
theorem ty135 {K : TI → Prop} : @tyW Tryd.prog 135 ⟨K⟩ = K ti135 := ty_of tf135
theorem ti135_kd : ti135.kd = Kd.int IntKind.i32 := _root_.id rfl
theorem ti135_agg : ti135.kd.agg = false := _root_.id rfl
theorem ti135_size : ti135.size = 1 := _root_.id rfl
theorem ti135_bytes : ti135.bytes = 4 := _root_.id rfl
theorem ti135_zs : zszW ti135 = True := eq_true rfl
theorem ti135_zc : zc ti135 = [.v (Value.int IntKind.i32 0)] := _root_.id rfl
theorem ty138 {K : TI → Prop} : @tyW Tryd.prog 138 ⟨K⟩ = K ti138 := ty_of tf138
theorem ti138_kd : ti138.kd = Kd.oth := _root_.id rfl
theorem ti138_agg : ti138.kd.agg = false := _root_.id rfl
theorem ti138_size : ti138.size = 1 := _root_.id rfl
theorem ti138_bytes : ti138.bytes = 8 := _root_.id rfl
theorem ti138_zs : zszW ti138 = True := eq_true rfl
theorem ti138_zc : zc ti138 = [.v Value.nilFunc] := _root_.id rfl
theorem fok2 : fnOk Tryd.prog 2 = True := eq_true ⟨_, Tryd.func2, of_decide_eq_false (by kernel_rfl), rfl⟩
theorem fok3 : fnOk Tryd.prog 3 = True := eq_true ⟨_, Tryd.func3, of_decide_eq_false (by kernel_rfl), rfl⟩
theorem fok4 : fnOk Tryd.prog 4 = True := eq_true ⟨_, Tryd.func4, of_decide_eq_false (by kernel_rfl), rfl⟩
theorem fok5 : fnOk Tryd.prog 5 = True := eq_true ⟨_, Tryd.func5, of_decide_eq_false (by kernel_rfl), rfl⟩
theorem fok6 : fnOk Tryd.prog 6 = True := eq_true ⟨_, Tryd.func6, of_decide_eq_false (by kernel_rfl), rfl⟩
theorem fok7 : fnOk Tryd.prog 7 = True := eq_true ⟨_, Tryd.func7, of_decide_eq_false (by kernel_rfl), rfl⟩
theorem fok8 : fnOk Tryd.prog 8 = True := eq_true ⟨_, Tryd.func8, of_decide_eq_false (by kernel_rfl), rfl⟩
theorem fok9 : fnOk Tryd.prog 9 = True := eq_true ⟨_, Tryd.func9, of_decide_eq_false (by kernel_rfl), rfl⟩
theorem fok10 : fnOk Tryd.prog 10 = True := eq_true ⟨_, Tryd.func10, of_decide_eq_false (by kernel_rfl), rfl⟩
theorem fok11 : fnOk Tryd.prog 11 = True := eq_true ⟨_, Tryd.func11, of_decide_eq_false (by kernel_rfl), rfl⟩
theorem fok12 : fnOk Tryd.prog 12 = True := eq_true ⟨_, Tryd.func12, of_decide_eq_false (by kernel_rfl), rfl⟩
theorem fok13 : fnOk Tryd.prog 13 = True := eq_true ⟨_, Tryd.func13, of_decide_eq_false (by kernel_rfl), rfl⟩
theorem fok14 : fnOk Tryd.prog 14 = True := eq_true ⟨_, Tryd.func14, of_decide_eq_false (by kernel_rfl), rfl⟩
theorem fok15 : fnOk Tryd.prog 15 = True := eq_true ⟨_, Tryd.func15, of_decide_eq_false (by kernel_rfl), rfl⟩
theorem fok16 : fnOk Tryd.prog 16 = True := eq_true ⟨_, Tryd.func16, of_decide_eq_false (by kernel_rfl), rfl⟩
theorem fok17 : fnOk Tryd.prog 17 = True := eq_true ⟨_, Tryd.func17, of_decide_eq_false (by kernel_rfl), rfl⟩
theorem fok18 : fnOk Tryd.prog 18 = True := eq_true ⟨_, Tryd.func18, of_decide_eq_false (by kernel_rfl), rfl⟩
theorem fok19 : fnOk Tryd.prog 19 = True := eq_true ⟨_, Tryd.func19, of_decide_eq_false (by kernel_rfl), rfl⟩
theorem fok20 : fnOk Tryd.prog 20 = True := eq_true ⟨_, Tryd.func20, of_decide_eq_false (by kernel_rfl), rfl⟩
theorem fok21 : fnOk Tryd.prog 21 = True := eq_true ⟨_, Tryd.func21, of_decide_eq_false (by kernel_rfl), rfl⟩
theorem fok22 : fnOk Tryd.prog 22 = True := eq_true ⟨_, Tryd.func22, of_decide_eq_false (by kernel_rfl), rfl⟩
theorem fok23 : fnOk Tryd.prog 23 = True := eq_true ⟨_, Tryd.func23, of_decide_eq_false (by kernel_rfl), rfl⟩
theorem fok24 : fnOk Tryd.prog 24 = True := eq_true ⟨_, Tryd.func24, of_decide_eq_false (by kernel_rfl), rfl⟩
theorem fok25 : fnOk Tryd.prog 25 = True := eq_true ⟨_, Tryd.func25, of_decide_eq_false (by kernel_rfl), rfl⟩
theorem fok26 : fnOk Tryd.prog 26 = True := eq_true ⟨_, Tryd.func26, of_decide_eq_false (by kernel_rfl), rfl⟩
theorem fok27 : fnOk Tryd.prog 27 = True := eq_true ⟨_, Tryd.func27, of_decide_eq_false (by kernel_rfl), rfl⟩
theorem fok28 : fnOk Tryd.prog 28 = True := eq_true ⟨_, Tryd.func28, of_decide_eq_false (by kernel_rfl), rfl⟩
theorem fok29 : fnOk Tryd.prog 29 = True := eq_true ⟨_, Tryd.func29, of_decide_eq_false (by kernel_rfl), rfl⟩
theorem fok30 : fnOk Tryd.prog 30 = True := eq_true ⟨_, Tryd.func30, of_decide_eq_false (by kernel_rfl), rfl⟩
theorem fok31 : fnOk Tryd.prog 31 = True := eq_true ⟨_, Tryd.func31, of_decide_eq_false (by kernel_rfl), rfl⟩
theorem fok32 : fnOk Tryd.prog 32 = True := eq_true ⟨_, Tryd.func32, of_decide_eq_false (by kernel_rfl), rfl⟩
theorem fok33 : fnOk Tryd.prog 33 = True := eq_true ⟨_, Tryd.func33, of_decide_eq_false (by kernel_rfl), rfl⟩
theorem fok34 : fnOk Tryd.prog 34 = True := eq_true ⟨_, Tryd.func34, of_decide_eq_false (by kernel_rfl), rfl⟩
theorem fok35 : fnOk Tryd.prog 35 = True := eq_true ⟨_, Tryd.func35, of_decide_eq_false (by kernel_rfl), rfl⟩
theorem fok36 : fnOk Tryd.prog 36 = True := eq_true ⟨_, Tryd.func36, of_decide_eq_false (by kernel_rfl), rfl⟩
theorem fok37 : fnOk Tryd.prog 37 = True := eq_true ⟨_, Tryd.func37, of_decide_eq_false (by kernel_rfl), rfl⟩
theorem fok38 : fnOk Tryd.prog 38 = True := eq_true ⟨_, Tryd.func38, of_decide_eq_false (by kernel_rfl), rfl⟩
theorem fok39 : fnOk Tryd.prog 39 = True := eq_true ⟨_, Tryd.func39, of_decide_eq_false (by kernel_rfl), rfl⟩
theorem fok40 : fnOk Tryd.prog 40 = True := eq_true ⟨_, Tryd.func40, of_decide_eq_false (by kernel_rfl), rfl⟩
theorem fok41 : fnOk Tryd.prog 41 = True := eq_true ⟨_, Tryd.func41, of_decide_eq_false (by kernel_rfl), rfl⟩
theorem fok42 : fnOk Tryd.prog 42 = True := eq_true ⟨_, Tryd.func42, of_decide_eq_false (by kernel_rfl), rfl⟩
theorem fok43 : fnOk Tryd.prog 43 = True := eq_true ⟨_, Tryd.func43, of_decide_eq_false (by kernel_rfl), rfl⟩
theorem fok44 : fnOk Tryd.prog 44 = True := eq_true ⟨_, Tryd.func44, of_decide_eq_false (by kernel_rfl), rfl⟩
theorem fok45 : fnOk Tryd.prog 45 = True := eq_true ⟨_, Tryd.func45, of_decide_eq_false (by kernel_rfl), rfl⟩
theorem fok46 : fnOk Tryd.prog 46 = True := eq_true ⟨_, Tryd.func46, of_decide_eq_false (by kernel_rfl), rfl⟩
theorem fok47 : fnOk Tryd.prog 47 = True := eq_true ⟨_, Tryd.func47, of_decide_eq_false (by kernel_rfl), rfl⟩
theorem fok48 : fnOk Tryd.prog 48 = True := eq_true ⟨_, Tryd.func48, of_decide_eq_false (by kernel_rfl), rfl⟩
theorem fok49 : fnOk Tryd.prog 49 = True := eq_true ⟨_, Tryd.func49, of_decide_eq_false (by kernel_rfl), rfl⟩
theorem fok50 : fnOk Tryd.prog 50 = True := eq_true ⟨_, Tryd.func50, of_decide_eq_false (by kernel_rfl), rfl⟩
theorem fok51 : fnOk Tryd.prog 51 = True := eq_true ⟨_, Tryd.func51, of_decide_eq_false (by kernel_rfl), rfl⟩
theorem fok52 : fnOk Tryd.prog 52 = True := eq_true ⟨_, Tryd.func52, of_decide_eq_false (by kernel_rfl), rfl⟩
theorem fok53 : fnOk Tryd.prog 53 = True := eq_true ⟨_, Tryd.func53, of_decide_eq_false (by kernel_rfl), rfl⟩
theorem fok54 : fnOk Tryd.prog 54 = True := eq_true ⟨_, Tryd.func54, of_decide_eq_false (by kernel_rfl), rfl⟩
theorem fok55 : fnOk Tryd.prog 55 = True := eq_true ⟨_, Tryd.func55, of_decide_eq_false (by kernel_rfl), rfl⟩
theorem fok56 : fnOk Tryd.prog 56 = True := eq_true ⟨_, Tryd.func56, of_decide_eq_false (by kernel_rfl), rfl⟩
theorem fok57 : fnOk Tryd.prog 57 = True := eq_true ⟨_, Tryd.func57, of_decide_eq_false (by kernel_rfl), rfl⟩
theorem fok58 : fnOk Tryd.prog 58 = True := eq_true ⟨_, Tryd.func58, of_decide_eq_false (by kernel_rfl), rfl⟩
theorem fok59 : fnOk Tryd.prog 59 = True := eq_true ⟨_, Tryd.func59, of_decide_eq_false (by kernel_rfl), rfl⟩
theorem fok60 : fnOk Tryd.prog 60 = True := eq_true ⟨_, Tryd.func60, of_decide_eq_false (by kernel_rfl), rfl⟩
theorem fok61 : fnOk Tryd.prog 61 = True := eq_true ⟨_, Tryd.func61, of_decide_eq_false (by kernel_rfl), rfl⟩
theorem fok62 : fnOk Tryd.prog 62 = True := eq_true ⟨_, Tryd.func62, of_decide_eq_false (by kernel_rfl), rfl⟩
theorem fok63 : fnOk Tryd.prog 63 = True := eq_true ⟨_, Tryd.func63, of_decide_eq_false (by kernel_rfl), rfl⟩
theorem fok64 : fnOk Tryd.prog 64 = True := eq_true ⟨_, Tryd.func64, of_decide_eq_false (by kernel_rfl), rfl⟩
theorem fok65 : fnOk Tryd.prog 65 = True := eq_true ⟨_, Tryd.func65, of_decide_eq_false (by kernel_rfl), rfl⟩
theorem fok66 : fnOk Tryd.prog 66 = True := eq_true ⟨_, Tryd.func66, of_decide_eq_false (by kernel_rfl), rfl⟩
theorem fok67 : fnOk Tryd.prog 67 = True := eq_true ⟨_, Tryd.func67, of_decide_eq_false (by kernel_rfl), rfl⟩
theorem fok68 : fnOk Tryd.prog 68 = True := eq_true ⟨_, Tryd.func68, of_decide_eq_false (by kernel_rfl), rfl⟩
theorem fok69 : fnOk Tryd.prog 69 = True := eq_true ⟨_, Tryd.func69, of_decide_eq_false (by kernel_rfl), rfl⟩
theorem fok70 : fnOk Tryd.prog 70 = True := eq_true ⟨_, Tryd.func70, of_decide_eq_false (by kernel_rfl), rfl⟩
theorem fok71 : fnOk Tryd.prog 71 = True := eq_true ⟨_, Tryd.func71, of_decide_eq_false (by kernel_rfl), rfl⟩
theorem fok72 : fnOk Tryd.prog 72 = True := eq_true ⟨_, Tryd.func72, of_decide_eq_false (by kernel_rfl), rfl⟩
theorem fok73 : fnOk Tryd.prog 73 = True := eq_true ⟨_, Tryd.func73, of_decide_eq_false (by kernel_rfl), rfl⟩
theorem fok74 : fnOk Tryd.prog 74 = True := eq_true ⟨_, Tryd.func74, of_decide_eq_false (by kernel_rfl), rfl⟩
theorem fok75 : fnOk Tryd.prog 75 = True := eq_true ⟨_, Tryd.func75, of_decide_eq_false (by kernel_rfl), rfl⟩
theorem fok76 : fnOk Tryd.prog 76 = True := eq_true ⟨_, Tryd.func76, of_decide_eq_false (by kernel_rfl), rfl⟩
theorem fok77 : fnOk Tryd.prog 77 = True := eq_true ⟨_, Tryd.func77, of_decide_eq_false (by kernel_rfl), rfl⟩
theorem fok78 : fnOk Tryd.prog 78 = True := eq_true ⟨_, Tryd.func78, of_decide_eq_false (by kernel_rfl), rfl⟩
theorem fok79 : fnOk Tryd.prog 79 = True := eq_true ⟨_, Tryd.func79, of_decide_eq_false (by kernel_rfl), rfl⟩
theorem fok80 : fnOk Tryd.prog 80 = True := eq_true ⟨_, Tryd.func80, of_decide_eq_false (by kernel_rfl), rfl⟩
theorem fok81 : fnOk Tryd.prog 81 = True := eq_true ⟨_, Tryd.func81, of_decide_eq_false (by kernel_rfl), rfl⟩
theorem fok82 : fnOk Tryd.prog 82 = True := eq_true ⟨_, Tryd.func82, of_decide_eq_false (by kernel_rfl), rfl⟩
theorem fok83 : fnOk Tryd.prog 83 = True := eq_true ⟨_, Tryd.func83, of_decide_eq_false (by kernel_rfl), rfl⟩
theorem fok84 : fnOk Tryd.prog 84 = True := eq_true ⟨_, Tryd.func84, of_decide_eq_false (by kernel_rfl), rfl⟩
theorem fok85 : fnOk Tryd.prog 85 = True := eq_true ⟨_, Tryd.func85, of_decide_eq_false (by kernel_rfl), rfl⟩
theorem fok86 : fnOk Tryd.prog 86 = True := eq_true ⟨_, Tryd.func86, of_decide_eq_false (by kernel_rfl), rfl⟩
theorem fok87 : fnOk Tryd.prog 87 = True := eq_true ⟨_, Tryd.func87, of_decide_eq_false (by kernel_rfl), rfl⟩
theorem fok88 : fnOk Tryd.prog 88 = True := eq_true ⟨_, Tryd.func88, of_decide_eq_false (by kernel_rfl), rfl⟩
theorem fok89 : fnOk Tryd.prog 89 = True := eq_true ⟨_, Tryd.func89, of_decide_eq_false (by kernel_rfl), rfl⟩
theorem fok90 : fnOk Tryd.prog 90 = True := eq_true ⟨_, Tryd.func90, of_decide_eq_false (by kernel_rfl), rfl⟩
theorem fok91 : fnOk Tryd.prog 91 = True := eq_true ⟨_, Tryd.func91, of_decide_eq_false (by kernel_rfl), rfl⟩
theorem fok92 : fnOk Tryd.prog 92 = True := eq_true ⟨_, Tryd.func92, of_decide_eq_false (by kernel_rfl), rfl⟩
theorem fok93 : fnOk Tryd.prog 93 = True := eq_true ⟨_, Tryd.func93, of_decide_eq_false (by kernel_rfl), rfl⟩
theorem fok94 : fnOk Tryd.prog 94 = True := eq_true ⟨_, Tryd.func94, of_decide_eq_false (by kernel_rfl), rfl⟩
theorem fok95 : fnOk Tryd.prog 95 = True := eq_true ⟨_, Tryd.func95, of_decide_eq_false (by kernel_rfl), rfl⟩
theorem fok96 : fnOk Tryd.prog 96 = True := eq_true ⟨_, Tryd.func96, of_decide_eq_false (by kernel_rfl), rfl⟩
theorem fok97 : fnOk Tryd.prog 97 = True := eq_true ⟨_, Tryd.func97, of_decide_eq_false (by kernel_rfl), rfl⟩
theorem fok98 : fnOk Tryd.prog 98 = True := eq_true ⟨_, Tryd.func98, of_decide_eq_false (by kernel_rfl), rfl⟩
theorem fok99 : fnOk Tryd.prog 99 = True := eq_true ⟨_, Tryd.func99, of_decide_eq_false (by kernel_rfl), rfl⟩
theorem fok123 : fnOk Tryd.prog 123 = True := eq_true ⟨_, Tryd.func123, of_decide_eq_false (by kernel_rfl), rfl⟩

attribute [go_sem] ty1 ti1_kd ti1_agg ti1_size ti1_bytes ti1_zs ti1_zc ty2 ti2_kd ti2_agg
attribute [go_sem] ti2_size ti2_bytes ti2_zs ti2_zc ty3 ti3_kd ti3_agg ti3_size ti3_bytes ti3_zs
attribute [go_sem] ti3_zc ty4 ti4_kd ti4_agg ti4_size ti4_bytes ti4_zs ti4_zc ty5 ti5_kd
attribute [go_sem] ti5_agg ti5_size ti5_bytes ti5_zs ti5_zc ty6 ti6_kd ti6_agg ti6_size ti6_bytes
attribute [go_sem] ti6_zs ti6_zc ty7 ti7_kd ti7_agg ti7_size ti7_bytes ti7_zs ti7_zc fld7_0
attribute [go_sem] pl7_0 fld7_1 pl7_1 fld7_2 pl7_2 fld7_3 pl7_3 bld7 ty8 ti8_kd
attribute [go_sem] ti8_agg ti8_size ti8_bytes ti8_zs ti8_zc fld8_0 pl8_0 fld8_1 pl8_1 fld8_2
attribute [go_sem] pl8_2 fld8_3 pl8_3 bld8 ty9 ti9_kd ti9_agg ti9_size ti9_bytes ti9_zs
attribute [go_sem] ti9_zc ty10 ti10_kd ti10_agg ti10_size ti10_bytes ti10_zs ti10_zc ty11 ti11_kd
attribute [go_sem] ti11_agg ti11_size ti11_bytes ti11_zs ti11_zc ty12 ti12_kd ti12_agg ti12_size ti12_bytes
attribute [go_sem] ti12_zs ti12_zc ty21 ti21_kd ti21_agg ti21_size ti21_bytes ti21_zs ti21_zc ty22
attribute [go_sem] ti22_kd ti22_agg ti22_size ti22_bytes ti22_zs ti22_zc sli22 ty23 ti23_kd ti23_agg
attribute [go_sem] ti23_size ti23_bytes ti23_zs ti23_zc fld23_0 pl23_0 bld23 ty24 ti24_kd ti24_agg
attribute [go_sem] ti24_size ti24_bytes ti24_zs ti24_zc fld24_0 pl24_0 bld24 ty25 ti25_kd ti25_agg
attribute [go_sem] ti25_size ti25_bytes ti25_zs ti25_zc fld25_0 pl25_0 fld25_1 pl25_1 fld25_2 pl25_2
attribute [go_sem] bld25 ty26 ti26_kd ti26_agg ti26_size ti26_bytes ti26_zs ti26_zc fld26_0 pl26_0
attribute [go_sem] fld26_1 pl26_1 fld26_2 pl26_2 bld26 ty27 ti27_kd ti27_agg ti27_size ti27_bytes
attribute [go_sem] ti27_zs ti27_zc ty28 ti28_kd ti28_agg ti28_size ti28_bytes ti28_zs ti28_zc fld28_0
attribute [go_sem] pl28_0 fld28_1 pl28_1 fld28_2 pl28_2 fld28_3 pl28_3 bld28 ty29 ti29_kd
attribute [go_sem] ti29_agg ti29_size ti29_bytes ti29_zs ti29_zc fld29_0 pl29_0 fld29_1 pl29_1 fld29_2
attribute [go_sem] pl29_2 fld29_3 pl29_3 bld29 ty31 ti31_kd ti31_agg ti31_size ti31_bytes ti31_zs
attribute [go_sem] ti31_zc ty32 ti32_kd ti32_agg ti32_size ti32_bytes ti32_zs ti32_zc fld32_0 pl32_0
attribute [go_sem] bld32 ty33 ti33_kd ti33_agg ti33_size ti33_bytes ti33_zs ti33_zc fld33_0 pl33_0
attribute [go_sem] fld33_1 pl33_1 fld33_2 pl33_2 bld33 ty34 ti34_kd ti34_agg ti34_size ti34_bytes
attribute [go_sem] ti34_zs ti34_zc fld34_0 pl34_0 fld34_1 pl34_1 fld34_2 pl34_2 bld34 ty35
attribute [go_sem] ti35_kd ti35_agg ti35_size ti35_bytes ti35_zs ti35_zc ty36 ti36_kd ti36_agg ti36_size
attribute [go_sem] ti36_bytes ti36_zs ti36_zc ty37 ti37_kd ti37_agg ti37_size ti37_bytes ti37_zs ti37_zc
attribute [go_sem] ty38 ti38_kd ti38_agg ti38_size ti38_bytes ti38_zs ti38_zc ty39 ti39_kd ti39_agg
attribute [go_sem] ti39_size ti39_bytes ti39_zs ti39_zc ty40 ti40_kd ti40_agg ti40_size ti40_bytes ti40_zs
attribute [go_sem] ti40_zc ty41 ti41_kd ti41_agg ti41_size ti41_bytes ti41_zs ti41_zc ty43 ti43_kd
attribute [go_sem] ti43_agg ti43_size ti43_bytes ti43_zs ti43_zc ty44 ti44_kd ti44_agg ti44_size ti44_bytes
attribute [go_sem] ti44_zs ti44_zc ty45 ti45_kd ti45_agg ti45_size ti45_bytes ti45_zs ti45_zc ty46
attribute [go_sem] ti46_kd ti46_agg ti46_size ti46_bytes ti46_zs ti46_zc ty47 ti47_kd ti47_agg ti47_size
attribute [go_sem] ti47_bytes ti47_zs ti47_zc ty48 ti48_kd ti48_agg ti48_size ti48_bytes ti48_zs ti48_zc
attribute [go_sem] ty50 ti50_kd ti50_agg ti50_size ti50_bytes ti50_zs ti50_zc ty51 ti51_kd ti51_agg
attribute [go_sem] ti51_size ti51_bytes ti51_zs ti51_zc fld51_0 pl51_0 fld51_1 pl51_1 bld51 ty52
attribute [go_sem] ti52_kd ti52_agg ti52_size ti52_bytes ti52_zs ti52_zc fld52_0 pl52_0 fld52_1 pl52_1
attribute [go_sem] bld52 ty53 ti53_kd ti53_agg ti53_size ti53_bytes ti53_zs ti53_zc fld53_0 pl53_0
attribute [go_sem] fld53_1 pl53_1 bld53 ty54 ti54_kd ti54_agg ti54_size ti54_bytes ti54_zs ti54_zc
attribute [go_sem] fld54_0 pl54_0 fld54_1 pl54_1 bld54 ty56 ti56_kd ti56_agg ti56_size ti56_bytes
attribute [go_sem] ti56_zs ti56_zc ty57 ti57_kd ti57_agg ti57_size ti57_bytes ti57_zs ti57_zc ty58
attribute [go_sem] ti58_kd ti58_agg ti58_size ti58_bytes ti58_zs ti58_zc ty59 ti59_kd ti59_agg ti59_size
attribute [go_sem] ti59_bytes ti59_zs ti59_zc ty60 ti60_kd ti60_agg ti60_size ti60_bytes ti60_zs ti60_zc
attribute [go_sem] ty61 ti61_kd ti61_agg ti61_size ti61_bytes ti61_zs ti61_zc ty63 ti63_kd ti63_agg
attribute [go_sem] ti63_size ti63_bytes ti63_zs ti63_zc ty64 ti64_kd ti64_agg ti64_size ti64_bytes ti64_zs
attribute [go_sem] ti64_zc ty65 ti65_kd ti65_agg ti65_size ti65_bytes ti65_zs ti65_zc fld65_0 pl65_0
attribute [go_sem] fld65_1 pl65_1 fld65_2 pl65_2 bld65 ty66 ti66_kd ti66_agg ti66_size ti66_bytes
attribute [go_sem] ti66_zs ti66_zc fld66_0 pl66_0 fld66_1 pl66_1 fld66_2 pl66_2 bld66 ty68
attribute [go_sem] ti68_kd ti68_agg ti68_size ti68_bytes ti68_zs ti68_zc ty69 ti69_kd ti69_agg ti69_size
attribute [go_sem] ti69_bytes ti69_zs ti69_zc ty70 ti70_kd ti70_agg ti70_size ti70_bytes ti70_zs ti70_zc
attribute [go_sem] ty71 ti71_kd ti71_agg ti71_size ti71_bytes ti71_zs ti71_zc ty72 ti72_kd ti72_agg
attribute [go_sem] ti72_size ti72_bytes ti72_zs ti72_zc ty73 ti73_kd ti73_agg ti73_size ti73_bytes ti73_zs
attribute [go_sem] ti73_zc ty74 ti74_kd ti74_agg ti74_size ti74_bytes ti74_zs ti74_zc ty75 ti75_kd
attribute [go_sem] ti75_agg ti75_size ti75_bytes ti75_zs ti75_zc ty76 ti76_kd ti76_agg ti76_size ti76_bytes
attribute [go_sem] ti76_zs ti76_zc ty77 ti77_kd ti77_agg ti77_size ti77_bytes ti77_zs ti77_zc ty79
attribute [go_sem] ti79_kd ti79_agg ti79_size ti79_bytes ti79_zs ti79_zc ty80 ti80_kd ti80_agg ti80_size
attribute [go_sem] ti80_bytes ti80_zs ti80_zc ty82 ti82_kd ti82_agg ti82_size ti82_bytes ti82_zs ti82_zc
attribute [go_sem] ty83 ti83_kd ti83_agg ti83_size ti83_bytes ti83_zs ti83_zc ty84 ti84_kd ti84_agg
attribute [go_sem] ti84_size ti84_bytes ti84_zs ti84_zc ty85 ti85_kd ti85_agg ti85_size ti85_bytes ti85_zs
attribute [go_sem] ti85_zc ty86 ti86_kd ti86_agg ti86_size ti86_bytes ti86_zs ti86_zc ty87 ti87_kd
attribute [go_sem] ti87_agg ti87_size ti87_bytes ti87_zs ti87_zc ty89 ti89_kd ti89_agg ti89_size ti89_bytes
attribute [go_sem] ti89_zs ti89_zc ty90 ti90_kd ti90_agg ti90_size ti90_bytes ti90_zs ti90_zc ty91
attribute [go_sem] ti91_kd ti91_agg ti91_size ti91_bytes ti91_zs ti91_zc ty92 ti92_kd ti92_agg ti92_size
attribute [go_sem] ti92_bytes ti92_zs ti92_zc ty93 ti93_kd ti93_agg ti93_size ti93_bytes ti93_zs ti93_zc
attribute [go_sem] ty94 ti94_kd ti94_agg ti94_size ti94_bytes ti94_zs ti94_zc ty95 ti95_kd ti95_agg
attribute [go_sem] ti95_size ti95_bytes ti95_zs ti95_zc ty96 ti96_kd ti96_agg ti96_size ti96_bytes ti96_zs
attribute [go_sem] ti96_zc ty97 ti97_kd ti97_agg ti97_size ti97_bytes ti97_zs ti97_zc ty98 ti98_kd
attribute [go_sem] ti98_agg ti98_size ti98_bytes ti98_zs ti98_zc ty99 ti99_kd ti99_agg ti99_size ti99_bytes
attribute [go_sem] ti99_zs ti99_zc ty101 ti101_kd ti101_agg ti101_size ti101_bytes ti101_zs ti101_zc ty102
attribute [go_sem] ti102_kd ti102_agg ti102_size ti102_bytes ti102_zs ti102_zc ty103 ti103_kd ti103_agg ti103_size
attribute [go_sem] ti103_bytes ti103_zs ti103_zc ty104 ti104_kd ti104_agg ti104_size ti104_bytes ti104_zs ti104_zc
attribute [go_sem] ty106 ti106_kd ti106_agg ti106_size ti106_bytes ti106_zs ti106_zc ty107 ti107_kd ti107_agg
attribute [go_sem] ti107_size ti107_bytes ti107_zs ti107_zc ty109 ti109_kd ti109_agg ti109_size ti109_bytes ti109_zs
attribute [go_sem] ti109_zc ty110 ti110_kd ti110_agg ti110_size ti110_bytes ti110_zs ti110_zc ty111 ti111_kd
attribute [go_sem] ti111_agg ti111_size ti111_bytes ti111_zs ti111_zc ty112 ti112_kd ti112_agg ti112_size ti112_bytes
attribute [go_sem] ti112_zs ti112_zc ty113 ti113_kd ti113_agg ti113_size ti113_bytes ti113_zs ti113_zc ty114
attribute [go_sem] ti114_kd ti114_agg ti114_size ti114_bytes ti114_zs ti114_zc ty115 ti115_kd ti115_agg ti115_size
attribute [go_sem] ti115_bytes ti115_zs ti115_zc ty116 ti116_kd ti116_agg ti116_size ti116_bytes ti116_zs ti116_zc
attribute [go_sem] ty117 ti117_kd ti117_agg ti117_size ti117_bytes ti117_zs ti117_zc ty118 ti118_kd ti118_agg
attribute [go_sem] ti118_size ti118_bytes ti118_zs ti118_zc ty119 ti119_kd ti119_agg ti119_size ti119_bytes ti119_zs
attribute [go_sem] ti119_zc ty120 ti120_kd ti120_agg ti120_size ti120_bytes ti120_zs ti120_zc ty121 ti121_kd
attribute [go_sem] ti121_agg ti121_size ti121_bytes ti121_zs ti121_zc ty124 ti124_kd ti124_agg ti124_size ti124_bytes
attribute [go_sem] ti124_zs ti124_zc ty128 ti128_kd ti128_agg ti128_size ti128_bytes ti128_zs ti128_zc ty129
attribute [go_sem] ti129_kd ti129_agg ti129_size ti129_bytes ti129_zs ti129_zc ty130 ti130_kd ti130_agg ti130_size
attribute [go_sem] ti130_bytes ti130_zs ti130_zc ty131 ti131_kd ti131_agg ti131_size ti131_bytes ti131_zs ti131_zc
attribute [go_sem] ty132 ti132_kd ti132_agg ti132_size ti132_bytes ti132_zs ti132_zc ty134 ti134_kd ti134_agg
attribute [go_sem] ti134_size ti134_bytes ti134_zs ti134_zc ty135 ti135_kd ti135_agg ti135_size ti135_bytes ti135_zs
attribute [go_sem] ti135_zc ty138 ti138_kd ti138_agg ti138_size ti138_bytes ti138_zs ti138_zc fok2 fok3
attribute [go_sem] fok4 fok5 fok6 fok7 fok8 fok9 fok10 fok11 fok12 fok13
attribute [go_sem] fok14 fok15 fok16 fok17 fok18 fok19 fok20 fok21 fok22 fok23
attribute [go_sem] fok24 fok25 fok26 fok27 fok28 fok29 fok30 fok31 fok32 fok33
attribute [go_sem] fok34 fok35 fok36 fok37 fok38 fok39 fok40 fok41 fok42 fok43
attribute [go_sem] fok44 fok45 fok46 fok47 fok48 fok49 fok50 fok51 fok52 fok53
attribute [go_sem] fok54 fok55 fok56 fok57 fok58 fok59 fok60 fok61 fok62 fok63
attribute [go_sem] fok64 fok65 fok66 fok67 fok68 fok69 fok70 fok71 fok72 fok73
attribute [go_sem] fok74 fok75 fok76 fok77 fok78 fok79 fok80 fok81 fok82 fok83
attribute [go_sem] fok84 fok85 fok86 fok87 fok88 fok89 fok90 fok91 fok92 fok93
attribute [go_sem] fok94 fok95 fok96 fok97 fok98 fok99 fok123
end Go.Ab
namespace Go.Ab
open Go Go.Proofs
set_option linter.unusedVariables false
set_option linter.unusedSimpArgs false

theorem con_l2norm (cl : Bool) (xs : List Int) (m : Nat) (hl : xs.length ≤ 2 ^ 39) (hx : gd xs) (hv : vl xs = (m : Int)) : Con Tryd.prog 34 cl [.sl xs.length (ints xs)] [] (natR m) := by
  refine Con.of_aw Tryd.func34 rfl Tryd.ntmps34 (by simp) (by simp) (by simp) (W.sound ?_)
  show @W Tryd.prog 24 ⟨_⟩ ⟨fun x σ => @retW _ _ _ ⟨_⟩ _ ⟨_⟩ x σ⟩ _ _
  simp (disch := omega) only [go_sem]
  have hcz : cutZ xs = lim m := by rw [cutZ_lim hx, hv, Int.toNat_natCast]
  refine loop_intro (fun k : Nat => [(0, .sl xs.length (ints xs)), (2, .pt 40000000 0), (3, .v (.int .i64 k))]) (fun _ => [(40000000, .own 0 [.v (.slice none 0 0)])]) (fun k => k ≤ xs.length ∧ cutZ (xs.take k) = cutZ xs) id xs.length ⟨Nat.le_refl _, by simp⟩
    (Le.lst [] _ _ rfl (by simp (disch := omega) only [go_sem]) (by simp (disch := omega) only [go_sem])) ?_
  intro k ⟨hk, hc⟩
  have hkx : ∀ j, j + 1 = k → xs.take k = xs.take j ++ [xs.getD j 0] := fun j hj => by rw [← hj]; exact take_succ' (by omega)
  simp (disch := omega) only [go_sem]
  refine ifW_dec (fun h1 => ?_) (fun h1 => ?_)
  · obtain ⟨j, rfl⟩ : ∃ j, k = j + 1 := ⟨k - 1, by omega⟩
    have e1 : ((j + 1 : Nat) : Int) - 1 = (j : Nat) := by omega
    rw [hkx j rfl] at hc
    simp (disch := omega) only [go_sem, h1, e1]
    refine ⟨by omega, by omega, ifW_dec (fun h2 => ?_) (fun h2 => ?_)⟩
    · simp (disch := omega) only [go_sem, h2, e1]
      rw [h2, cutZ_zero] at hc
      exact next_intro j [] ⟨by omega, hc⟩ (by show j < j + 1; omega) rfl (by simp (disch := omega) only [go_sem]; try omega) (by simp (disch := omega) only [go_sem])
    · rw [cutZ_ne _ h2, ← hkx j rfl, hcz] at hc
      have hlm : j + 1 = (lim m).length := by rw [← hc, List.length_take]; omega
      have e0 : (((j + 1 : Nat) : Int) - 0).toNat = (lim m).length := by omega
      rw [hlm] at hc
      simp (disch := omega) only [go_sem, h2, e0, hc]
      refine ⟨by omega, by omega, ?_⟩
      refine fin_intro [(0, 240000000)] [.own 1 (ints (lim m))] [] [.ag [.rf 0 0 (lim m).length]] rfl (by simp (disch := omega) only [go_sem]) (by simp (disch := omega) only [go_sem]) (by simp) (by intro _; simp [tupA, AV.pu, AV.pu.puL, Ob.pu, pu_ints]) (.inr ⟨[], rfl, by rw [List.append_nil]⟩)
  · have hlm : k = (lim m).length := by
      have : k = 0 := by omega
      rw [← hcz, ← hc, this]; rfl
    subst hlm
    have hc : xs.take (lim m).length = lim m := by
      have : lim m = [] := List.length_eq_zero_iff.1 (by omega)
      rw [this]; simp
    have e0 : (((lim m).length : Int) - 0).toNat = (lim m).length := by omega
    simp (disch := omega) only [go_sem, h1, e0, hc]
    refine ⟨by omega, by omega, ?_⟩
    refine fin_intro [(0, 240000000)] [.own 1 (ints (lim m))] [] [.ag [.rf 0 0 (lim m).length]] rfl (by simp (disch := omega) only [go_sem]) (by simp (disch := omega) only [go_sem]) (by simp) (by intro _; simp [tupA, AV.pu, AV.pu.puL, Ob.pu, pu_ints]) (.inr ⟨[], rfl, by rw [List.append_nil]⟩)

theorem con_l2of (cl : Bool) (n : Nat) (hn : n < 2 ^ 63) : Con Tryd.prog 47 cl [.v (.int .i64 n)] [] (natR n) := by
  refine Con.of_aw Tryd.func47 rfl Tryd.ntmps47 (by simp) (by simp) (by simp) (W.sound ?_)
  show @W Tryd.prog 15 ⟨_⟩ ⟨fun x σ => @retW _ _ _ ⟨_⟩ _ ⟨_⟩ x σ⟩ _ _
  simp (disch := omega) only [go_sem]
  refine loop_intro (fun x : Nat × List Int => [(0, .v (.int .i64 x.1)), (2, .pt 2 0), (3, .rf 1 0 x.2.length)]) (fun x => [(1, .own 1 (ints x.2)), (2, .own 0 [.v (.slice none 0 0)])]) (fun x => x.1 < 2 ^ 63 ∧ x.2 ++ lim x.1 = lim n) (fun x => x.1) (n, []) ⟨hn, rfl⟩
    ((Le.ghost 3 1 1 (by simp (disch := omega) only [go_sem]) (by simp (disch := omega) only [go_sem])).trans (Le.lst [(2, 40000000)] _ _ rfl (by simp (disch := omega) only [go_sem]) (by simp (disch := omega) only [go_sem]))) ?_
  rintro ⟨k, l⟩ ⟨hk, hl⟩
  dsimp only at hk hl ⊢
  have hlen : l.length ≤ 4 := by
    have h1 := congrArg List.length hl
    have h2 := lim_len (n := n) (k := 4) |>.2 (by omega)
    rw [List.length_append] at h1; omega
  simp (disch := omega) only [go_sem]
  refine ifW_dec (fun h1 => ?_) (fun h1 => ?_)
  · simp (disch := omega) only [go_sem, h1]
    have hk0 : k ≠ 0 := by omega
    refine ⟨by omega, next_intro (k / 65536, l ++ [(k : Int) % 65536]) [(1, 120000000)] ⟨by show k / 65536 < 2 ^ 63; omega, ?_⟩ (by show k / 65536 < k; omega) rfl (by simp (disch := omega) only [go_sem, List.length_append]; try omega) (by simp (disch := omega) only [go_sem])⟩
    rw [lim_pos hk0] at hl
    rw [← hl, List.append_assoc]; rfl
  · simp (disch := omega) only [go_sem, h1]
    have hk0 : k = 0 := by omega
    subst hk0
    rw [lim_zero, List.append_nil] at hl
    subst hl
    refine fin_intro [(0, 1)] [.own 1 (ints (lim n ++ []))] [] [.ag [.rf 0 0 (lim n).length]] rfl (by simp (disch := omega) only [go_sem]) (by simp (disch := omega) only [go_sem]) (by simp) (by intro _; simp [tupA, AV.pu, AV.pu.puL, Ob.pu, pu_ints]) (.inr ⟨[], rfl, rfl⟩)
end Go.Ab
namespace Go.Ab
open Go Go.Proofs
set_option linter.unusedVariables false
set_option linter.unusedSimpArgs false

theorem con_trim (xs : List Int) (hl : xs.length ≤ 2 ^ 40) : Con Tryd.prog 50 false [.rf 10000000 0 xs.length] [.own 1 (ints xs)] (fun r hs bs => r = .rf 10000000 0 (cutZ xs).length ∧ hs = [] ∧ bs = [.own 1 (ints xs)]) := by
  refine Con.of_aw Tryd.func50 rfl Tryd.ntmps50 (by simp) (by simp) (by simp) (W.sound ?_)
  show @W Tryd.prog 21 ⟨_⟩ ⟨fun x σ => @retW _ _ _ ⟨_⟩ _ ⟨_⟩ x σ⟩ _ _
  simp (disch := omega) only [go_sem]
  refine loop_intro (fun m : Nat => [(0, .rf 10000000 0 m)]) (fun _ => [(10000000, .own 1 (ints xs))]) (fun m => m ≤ xs.length ∧ cutZ (xs.take m) = cutZ xs) id xs.length ⟨Nat.le_refl _, by simp⟩
    (Le.lst [] _ _ rfl (by simp (disch := omega) only [go_sem]; try omega) (by simp (disch := omega) only [go_sem])) ?_
  intro m ⟨hm, hx⟩
  have hmx : ∀ k, k + 1 = m → xs.take m = xs.take k ++ [xs.getD k 0] := fun k hk => by rw [← hk]; exact take_succ' (by omega)
  simp (disch := omega) only [go_sem]
  refine ifW_dec (fun h1 => ?_) (fun h1 => ?_)
  · obtain ⟨k, rfl⟩ : ∃ k, m = k + 1 := ⟨m - 1, by omega⟩
    have e1 : ((k + 1 : Nat) : Int) - 1 = (k : Nat) := by omega
    rw [hmx k rfl] at hx
    simp (disch := omega) only [go_sem, h1, e1]
    refine ⟨by omega, by omega, ifW_dec (fun h2 => ?_) (fun h2 => ?_)⟩
    · simp (disch := omega) only [go_sem, h2, e1]
      rw [h2, cutZ_zero] at hx
      refine ⟨by omega, next_intro k [] ⟨by omega, hx⟩ (by show k < k + 1; omega) rfl (by simp (disch := omega) only [go_sem]; try omega) (by simp (disch := omega) only [go_sem])⟩
    · simp (disch := omega) only [go_sem, h2]
      refine fin_intro [] [] [.own 1 (ints xs)] [.rf 10000000 0 (k + 1)] rfl (by simp (disch := omega) only [go_sem]) (by simp (disch := omega) only [go_sem]) (by simp) (by simp) ⟨?_, rfl, rfl⟩
      rw [cutZ_ne _ h2, ← hmx k rfl] at hx
      rw [← hx, List.length_take, Nat.min_eq_left hm]; rfl
  · simp (disch := omega) only [go_sem, h1]
    refine fin_intro [] [] [.own 1 (ints xs)] [.rf 10000000 0 m] rfl (by simp (disch := omega) only [go_sem]) (by simp (disch := omega) only [go_sem]) (by simp) (by simp) ⟨?_, rfl, rfl⟩
    have : m = 0 := by omega
    subst this
    rw [← hx]; rfl
end Go.Ab
namespace Go.Ab
open Go Go.Proofs
set_option linter.unusedVariables false
set_option linter.unusedSimpArgs false

theorem mul_lim {x y : Int} (hx : 0 ≤ x ∧ x < 65536) (hy : 0 ≤ y ∧ y < 65536) : 0 ≤ x * y ∧ x * y ≤ 4294836225 := by
  have h1 := Int.mul_nonneg hx.1 hy.1
  have h2 : x * y ≤ 65535 * 65535 := Int.mul_le_mul (by omega) (by omega) hy.1 (by omega)
  omega

theorem zrow_zero (n : Nat) : zrow n [.v (.int .i64 0)] = ints (List.replicate n 0) := ints_zrow

theorem con_times (cl : Bool) (A B : List Int) (hA : gd A) (hB : gd B) (lA : A.length ≤ 1000000) (lB : B.length ≤ 1000000) :
    Con Tryd.prog 51 cl [.sl A.length (ints A), .sl B.length (ints B)] [] (numR (lim (vl A * vl B).toNat)) := by
  refine Con.of_aw Tryd.func51 rfl Tryd.ntmps51 (by simp) (by simp) (by simp) (W.sound ?_)
  show @W Tryd.prog 63 ⟨_⟩ ⟨fun x σ => @retW _ _ _ ⟨_⟩ _ ⟨_⟩ x σ⟩ _ _
  simp (disch := omega) only [go_sem]
  refine ⟨⟨by omega, by omega, by omega⟩, ?_⟩
  refine loop_intro (fun x : Nat × List Int => [(1, .sl B.length (ints B)), (5, .rf 180000000 0 (A.length + B.length)), (17, .sl A.length (ints A)), (18, .v (.int .i64 A.length)), (19, .v (.int .i64 x.1))])
    (fun x => [(180000000, .own 1 (ints x.2))])
    (fun x => x.1 ≤ A.length ∧ x.2.length = A.length + B.length ∧ gd x.2 ∧ vl x.2 = vl (A.take x.1) * vl B ∧ ∀ j, x.1 + B.length ≤ j → x.2.getD j 0 = 0)
    (fun x => A.length - x.1) (0, List.replicate (A.length + B.length) 0) ⟨by simp, by simp, gd_replicate _, by simp [vl_replicate, vl], fun j _ => by
      rw [List.getD_eq_getElem?_getD, List.getElem?_replicate]; split <;> rfl⟩
    (Le.lst [] _ _ rfl (by simp (disch := omega) only [go_sem]; try omega) (by simp (disch := omega) only [go_sem, show ((A.length : Int) + (B.length : Int)).toNat = A.length + B.length by omega])) ?_
  rintro ⟨i, out⟩ ⟨hi, hol, hog, hov, hoz⟩
  dsimp only at hi hol hog hov hoz ⊢
  simp (disch := omega) only [go_sem]
  refine ifW_dec (fun h1 => ?_) (fun h1 => ?_)
  · have hx := gd_getD hA i
    simp (disch := omega) only [go_sem, h1]
    refine ⟨by omega, by omega, ?_⟩
    refine loop_intro (fun x : Nat × List Int × Int => [(1, .sl B.length (ints B)), (5, .rf 180000000 0 (A.length + B.length)), (17, .sl A.length (ints A)), (18, .v (.int .i64 A.length)), (19, .v (.int .i64 i)), (6, .v (.int .i64 i)),
        (7, .v (.int .i64 (A.getD i 0))), (8, .v (.int .i64 x.2.2)), (24, .sl B.length (ints B)), (25, .v (.int .i64 B.length)), (26, .v (.int .i64 x.1))])
      (fun x => [(180000000, .own 1 (ints x.2.1))])
      (fun x => x.1 ≤ B.length ∧ x.2.1.length = A.length + B.length ∧ gd x.2.1 ∧ (0 ≤ x.2.2 ∧ x.2.2 < 65536) ∧ vl x.2.1 + 65536 ^ (i + x.1) * x.2.2 = vl out + 65536 ^ i * (A.getD i 0 * vl (B.take x.1)) ∧ ∀ j, i + B.length ≤ j → x.2.1.getD j 0 = 0)
      (fun x => B.length - x.1) (0, out, 0) ⟨by simp, hol, hog, by simp, by simp [vl], hoz⟩
      (Le.lst [] _ _ rfl (by simp (disch := omega) only [go_sem]; try omega) (by simp (disch := omega) only [go_sem])) ?_
    rintro ⟨j, o2, cy⟩ ⟨hj, hol2, hog2, hcy, hov2, hoz2⟩
    dsimp only at hj hol2 hog2 hcy hov2 hoz2 ⊢
    simp (disch := omega) only [go_sem]
    refine ifW_dec (fun h2 => ?_) (fun h2 => ?_)
    · have hy := gd_getD hB j
      have ho := gd_getD hog2 (i + j)
      have hxy := mul_lim hx hy
      have e1 : ((i : Int) + (j : Int)).toNat = i + j := by omega
      simp (disch := omega) only [go_sem, h2, e1]
      generalize hq : cy + (o2.getD (i + j) 0 + A.getD i 0 * B.getD j 0) = q
      refine ⟨by omega, by omega, by omega, by omega, by omega, by omega, next_intro (j + 1, o2.set (i + j) (q % 65536), q / 65536) [] ⟨by show j + 1 ≤ _; omega, by simp [hol2], gd_set hog2 (by omega), by show 0 ≤ q / 65536 ∧ q / 65536 < 65536; omega, ?_, fun k hk => ?_⟩
        (by show B.length - (j + 1) < B.length - j; omega) rfl (by simp (disch := omega) only [go_sem]; try omega) (by simp (disch := omega) only [go_sem])⟩
      · show vl (o2.set (i + j) (q % 65536)) + 65536 ^ (i + (j + 1)) * (q / 65536) = vl out + 65536 ^ i * (A.getD i 0 * vl (B.take (j + 1)))
        rw [vl_set (by omega), vl_take_succ (by omega), ← Nat.add_assoc, Int.pow_succ]
        have e2 : (65536 : Int) ^ (i + j) = 65536 ^ i * 65536 ^ j := Int.pow_add _ _ _
        have e3 : q % 65536 + 65536 * (q / 65536) = q := Int.emod_add_mul_ediv q 65536
        rw [e2] at hov2 ⊢
        generalize (65536 : Int) ^ i = Pi at *
        generalize (65536 : Int) ^ j = Pj at *
        grind
      · show (o2.set (i + j) (q % 65536)).getD k 0 = 0
        rw [List.getD_eq_getElem?_getD, List.getElem?_set_ne (by omega), ← List.getD_eq_getElem?_getD]
        exact hoz2 k hk
    · simp (disch := omega) only [go_sem, h2]
      have e1 : ((i : Int) + (B.length : Int)).toNat = i + B.length := by omega
      have hjB : j = B.length := by omega
      subst hjB
      rw [List.take_length] at hov2
      simp (disch := omega) only [go_sem, e1]
      refine ⟨by omega, by omega, next_intro (i + 1, o2.set (i + B.length) cy) [] ⟨by show i + 1 ≤ _; omega, by simp [hol2], gd_set hog2 hcy, ?_, fun k hk => ?_⟩ (by show A.length - (i + 1) < A.length - i; omega) rfl (by simp (disch := omega) only [go_sem]; try omega) (by simp (disch := omega) only [go_sem])⟩
      · show vl (o2.set (i + B.length) cy) = vl (A.take (i + 1)) * vl B
        rw [vl_set (by omega), hoz2 _ (Nat.le_refl _), vl_take_succ (by omega)]
        generalize (65536 : Int) ^ i = Pi at *
        grind
      · show (o2.set (i + B.length) cy).getD k 0 = 0
        rw [List.getD_eq_getElem?_getD, List.getElem?_set_ne (by show i + B.length ≠ k; omega), ← List.getD_eq_getElem?_getD]
        exact hoz2 k (by omega)
  · simp (disch := omega) only [go_sem, h1]
    have hiA : i = A.length := by omega
    subst hiA
    rw [List.take_length] at hov
    refine call_lend false [180000000] (con_trim out (by omega)) (by rw [← hol]; simp (disch := omega) only [go_sem]) (by simp (disch := omega) only [go_sem]) rfl (lend_cons (z := 1) (cs := ints out) (by simp (disch := omega) only [go_sem]) (by simp (disch := omega) only [go_sem])) (by intro n hn; exact ⟨_, List.mem_singleton.2 rfl, by rw [List.mem_singleton.1 hn]; rfl⟩) ?_
    rintro r hs bs ⟨rfl, rfl, rfl⟩ _
    refine ⟨by simp [freeN], ?_⟩
    simp (disch := omega) only [go_sem]
    obtain ⟨z, hz⟩ := cutZ_pre out
    have hc := cutZ_lim hog
    rw [hov] at hc
    rw [hc] at hz ⊢
    refine fin_intro [(0, 180000000)] [.own 1 (ints out)] [] [.rf 0 0 (lim (vl A * vl B).toNat).length] rfl (by simp (disch := omega) only [go_sem]) (by simp (disch := omega) only [go_sem]) (by simp) (by intro _; simp [tupA, AV.pu, AV.pu.puL, Ob.pu, pu_ints]) (.inr ⟨List.replicate z 0, rfl, by rw [← hz]⟩)
end Go.Ab
namespace Go.Ab
open Go Go.Proofs
set_option linter.unusedVariables false
set_option linter.unusedSimpArgs false

set_option maxRecDepth 100000 in
theorem con_l2add (cl : Bool) (a b : Nat) (la : (lim a).length ≤ 2000000) (lb : (lim b).length ≤ 2000000) : Con Tryd.prog 46 cl [.ag [.sl (lim (a)).length (ints (lim (a)))], .ag [.sl (lim (b)).length (ints (lim (b)))]] [] (natR (a + b)) := by
  refine Con.of_aw Tryd.func46 rfl Tryd.ntmps46 (by simp) (by simp) (by simp) (W.sound ?_)
  show @W Tryd.prog 61 ⟨_⟩ ⟨fun x σ => @retW _ _ _ ⟨_⟩ _ ⟨_⟩ x σ⟩ _ _
  simp (disch := omega) only [go_sem]
  have hA := gd_lim a
  have hB := gd_lim b
  refine loop_intro (fun x : Nat × List Int × Int => [(2, .pt 3 0), (3, .pt 4 0), (4, .pt 2 0), (5, .rf 1 0 x.2.1.length), (6, .v (.int .i64 x.2.2)), (7, .v (.int .i64 x.1))])
    (fun x => [(1, .own 1 (ints x.2.1)), (2, .own 0 [.v (.slice none 0 0)]), (3, .own 0 [.sl (lim (a)).length (ints (lim (a)))]), (4, .own 0 [.sl (lim (b)).length (ints (lim (b)))])])
    (fun x => x.1 ≤ max (lim a).length (lim b).length + 1 ∧ x.2.1.length = x.1 ∧ gd x.2.1 ∧ (0 ≤ x.2.2 ∧ x.2.2 ≤ 1) ∧ vl x.2.1 + 65536 ^ x.1 * x.2.2 = vl ((lim a).take x.1) + vl ((lim b).take x.1) ∧ (max (lim a).length (lim b).length < x.1 → x.2.2 = 0))
    (fun x => 2 * (max (lim a).length (lim b).length - x.1) + x.2.2.toNat) (0, [], 0) ⟨by simp, rfl, gd_nil, by simp, by simp [vl], fun h => rfl⟩
    ((Le.ghost 5 1 1 (by simp (disch := omega) only [go_sem]) (by simp (disch := omega) only [go_sem])).trans (Le.lst [(2, 60000000), (3, 40000000), (4, 50000000)] _ _ rfl (by simp (disch := omega) only [go_sem]) (by simp (disch := omega) only [go_sem]))) ?_
  rintro ⟨i, out, cy⟩ ⟨hi, hol, hog, hcy, hov, hcz⟩
  dsimp only at hi hol hog hcy hov hcz ⊢
  have hx := gd_getD hA i
  have hy := gd_getD hB i
  have hxz : ¬ (i : Int) < (lim a).length → (lim a).getD i 0 = 0 := fun h => by rw [List.getD_eq_getElem?_getD, List.getElem?_eq_none (by omega)]; rfl
  have hyz : ¬ (i : Int) < (lim b).length → (lim b).getD i 0 = 0 := fun h => by rw [List.getD_eq_getElem?_getD, List.getElem?_eq_none (by omega)]; rfl
  have hstep : ∀ q : Int, q = cy + (lim a).getD i 0 + (lim b).getD i 0 → vl (out ++ [q % 65536]) + 65536 ^ (i + 1) * (q / 65536) = vl ((lim a).take (i + 1)) + vl ((lim b).take (i + 1)) := by
    intro q hq
    rw [vl_snoc, vl_take_any, vl_take_any, hol, Int.pow_succ]
    have e3 : q % 65536 + 65536 * (q / 65536) = q := Int.emod_add_mul_ediv q 65536
    generalize (65536 : Int) ^ i = Pi at *
    grind
  have key : ∀ q : Int, q = cy + (lim a).getD i 0 + (lim b).getD i 0 → (i : Int) < (lim a).length ∨ (i : Int) < (lim b).length ∨ 0 < cy →
      ((i + 1 ≤ max (lim a).length (lim b).length + 1 ∧ (out ++ [q % 65536]).length = i + 1 ∧ gd (out ++ [q % 65536]) ∧ (0 ≤ q / 65536 ∧ q / 65536 ≤ 1) ∧ vl (out ++ [q % 65536]) + 65536 ^ (i + 1) * (q / 65536) = vl ((lim a).take (i + 1)) + vl ((lim b).take (i + 1)) ∧ (max (lim a).length (lim b).length < i + 1 → q / 65536 = 0)) ∧
      2 * (max (lim a).length (lim b).length - (i + 1)) + (q / 65536).toNat < 2 * (max (lim a).length (lim b).length - i) + cy.toNat) := by
    intro q hq hc
    have hle : i ≤ max (lim a).length (lim b).length := by
      rcases Nat.lt_or_ge (max (lim a).length (lim b).length) i with h | h
      · have := hcz h; omega
      · exact h
    have hbig : max (lim a).length (lim b).length < i + 1 → q / 65536 = 0 := fun h => by
      have := hxz (by omega)
      have := hyz (by omega)
      omega
    refine ⟨⟨by omega, by simp [hol], gd_append.2 ⟨hog, gd_one.2 (by omega)⟩, by omega, hstep q hq, hbig⟩, ?_⟩
    by_cases hm : max (lim a).length (lim b).length < i + 1
    · have := hbig hm; omega
    · omega
  by_cases h1 : (i : Int) < (lim a).length <;> by_cases h2 : (i : Int) < (lim b).length
  · simp (disch := omega) only [go_sem, h1, h2]
    obtain ⟨k1, k2⟩ := key _ rfl (.inl h1)
    refine ⟨by omega, by omega, by omega, by omega, by omega, next_intro (i + 1, out ++ [(cy + (lim a).getD i 0 + (lim b).getD i 0) % 65536], (cy + (lim a).getD i 0 + (lim b).getD i 0) / 65536) [(1, 580000000)] k1 k2 rfl (by simp (disch := omega) only [go_sem, List.length_append]; try omega) (by simp (disch := omega) only [go_sem])⟩
  · simp (disch := omega) only [go_sem, h1, h2]
    have e0 : cy + (lim a).getD i 0 = cy + (lim a).getD i 0 + (lim b).getD i 0 := by rw [hyz h2]; omega
    obtain ⟨k1, k2⟩ := key (cy + (lim a).getD i 0) e0 (.inl h1)
    refine ⟨by omega, by omega, by omega, next_intro (i + 1, out ++ [(cy + (lim a).getD i 0) % 65536], (cy + (lim a).getD i 0) / 65536) [(1, 580000000)] k1 k2 rfl (by simp (disch := omega) only [go_sem, List.length_append]; try omega) (by simp (disch := omega) only [go_sem])⟩
  · simp (disch := omega) only [go_sem, h1, h2]
    have e0 : cy + (lim b).getD i 0 = cy + (lim a).getD i 0 + (lim b).getD i 0 := by rw [hxz h1]; omega
    obtain ⟨k1, k2⟩ := key (cy + (lim b).getD i 0) e0 (.inr (.inl h2))
    refine ⟨by omega, by omega, by omega, next_intro (i + 1, out ++ [(cy + (lim b).getD i 0) % 65536], (cy + (lim b).getD i 0) / 65536) [(1, 580000000)] k1 k2 rfl (by simp (disch := omega) only [go_sem, List.length_append]; try omega) (by simp (disch := omega) only [go_sem])⟩
  · by_cases h3 : 0 < cy
    · simp (disch := omega) only [go_sem, h1, h2, h3]
      have e0 : cy = cy + (lim a).getD i 0 + (lim b).getD i 0 := by rw [hxz h1, hyz h2]; omega
      obtain ⟨k1, k2⟩ := key cy e0 (.inr (.inr h3))
      refine ⟨by omega, next_intro (i + 1, out ++ [cy % 65536], cy / 65536) [(1, 580000000)] k1 k2 rfl (by simp (disch := omega) only [go_sem, List.length_append]; try omega) (by simp (disch := omega) only [go_sem])⟩
    · have hcy0 : cy = 0 := by omega
      have hov2 : vl out = ((a + b : Nat) : Int) := by
        rw [List.take_of_length_le (by omega), List.take_of_length_le (by omega), vl_lim, vl_lim, hcy0] at hov
        simp at hov; omega
      simp (disch := omega) only [go_sem, h1, h2, h3]
      refine call_closed (con_l2norm true out (a + b) (by omega) hog hov2) (by simp (disch := omega) only [go_sem]) ?_
      rintro r hs (⟨h0, rfl, rfl⟩ | ⟨zs, rfl, rfl⟩)
      · refine ⟨⟨by simp, by simp (disch := omega) only [go_sem]⟩, ?_⟩
        simp (disch := omega) only [go_sem]
        refine fin_intro [] [] [] [.ag [.v (.slice none 0 0)]] rfl (by simp (disch := omega) only [go_sem]) (by simp (disch := omega) only [go_sem]) (by simp) (by intro _; simp [tupA, AV.pu, AV.pu.puL, Ob.pu, pu_ints]) (.inl ⟨h0, rfl, rfl⟩)
      · refine ⟨⟨by simp, by simp (disch := omega) only [go_sem]⟩, ?_⟩
        simp (disch := omega) only [go_sem]
        refine fin_intro [(0, 620000000)] [.own 1 (ints (lim (a + b) ++ zs))] [] [.ag [.rf 0 0 (lim (a + b)).length]] rfl (by simp (disch := omega) only [go_sem]) (by simp (disch := omega) only [go_sem]) (by simp) (by intro _; simp [tupA, AV.pu, AV.pu.puL, Ob.pu, pu_ints]) (.inr ⟨zs, rfl, rfl⟩)
end Go.Ab
namespace Go.Ab
open Go Go.Proofs
set_option linter.unusedVariables false
set_option linter.unusedSimpArgs false

set_option maxRecDepth 100000 in
theorem con_l2mulL (cl : Bool) (A : List Int) (hA : gd A) (b : Nat) (lA : A.length ≤ 1000000) (lB : (lim b).length ≤ 1000000) (m : Nat) (hm : vl A * (b : Int) = (m : Int)) :
    Con Tryd.prog 37 cl [.ag [.sl A.length (ints A)], .ag [.sl (lim (b)).length (ints (lim (b)))]] [] (natR m) := by
  refine Con.of_aw Tryd.func37 rfl Tryd.ntmps37 (by simp) (by simp) (by simp) (W.sound ?_)
  show @W Tryd.prog 80 ⟨_⟩ ⟨fun x σ => @retW _ _ _ ⟨_⟩ _ ⟨_⟩ x σ⟩ _ _
  have hvb := vl_lim b
  have hB := gd_lim b
  generalize lim b = B at *
  simp (disch := omega) only [go_sem]
  refine ⟨by omega, ?_⟩
  refine loop_intro (fun x : Nat × List Int => [(2, .pt 0 0), (3, .pt 1 0), (4, .pt 2 0), (5, .rf 3 0 (A.length + B.length)), (6, .v (.int .i64 x.1))])
    (fun x => [(0, .own 0 [.sl A.length (ints A)]), (1, .own 0 [.sl B.length (ints B)]), (2, .own 0 [.v (.slice none 0 0)]), (3, .own 1 (ints x.2))])
    (fun x => x.1 ≤ A.length ∧ x.2.length = A.length + B.length ∧ gd x.2 ∧ vl x.2 = vl (A.take x.1) * vl B ∧ ∀ j, x.1 + B.length ≤ j → x.2.getD j 0 = 0)
    (fun x => A.length - x.1) (0, List.replicate (A.length + B.length) 0) ⟨by simp, by simp, gd_replicate _, by simp [vl_replicate, vl], fun j _ => by
      rw [List.getD_eq_getElem?_getD, List.getElem?_replicate]; split <;> rfl⟩
    (Le.lst [(0, 40000000), (1, 50000000), (2, 60000000), (3, 190000000)] _ _ rfl (by simp (disch := omega) only [go_sem]; try omega) (by simp (disch := omega) only [go_sem, show ((A.length : Int) + (B.length : Int)).toNat = A.length + B.length by omega])) ?_
  rintro ⟨i, out⟩ ⟨hi, hol, hog, hov, hoz⟩
  dsimp only at hi hol hog hov hoz ⊢
  simp (disch := omega) only [go_sem]
  refine ifW_dec (fun h1 => ?_) (fun h1 => ?_)
  · have hx := gd_getD hA i
    simp (disch := omega) only [go_sem, h1]
    refine loop_intro (fun x : Nat × List Int × Int => [(2, .pt 0 0), (3, .pt 1 0), (4, .pt 2 0), (5, .rf 3 0 (A.length + B.length)), (6, .v (.int .i64 i)), (7, .v (.int .i64 x.2.2)), (8, .v (.int .i64 x.1))])
      (fun x => [(0, .own 0 [.sl A.length (ints A)]), (1, .own 0 [.sl B.length (ints B)]), (2, .own 0 [.v (.slice none 0 0)]), (3, .own 1 (ints x.2.1))])
      (fun x => x.1 ≤ B.length ∧ x.2.1.length = A.length + B.length ∧ gd x.2.1 ∧ (0 ≤ x.2.2 ∧ x.2.2 < 65536) ∧ vl x.2.1 + 65536 ^ (i + x.1) * x.2.2 = vl out + 65536 ^ i * (A.getD i 0 * vl (B.take x.1)) ∧ ∀ j, i + B.length ≤ j → x.2.1.getD j 0 = 0)
      (fun x => B.length - x.1) (0, out, 0) ⟨by simp, hol, hog, by simp, by simp [vl], hoz⟩
      (Le.lst [] _ _ rfl (by simp (disch := omega) only [go_sem]; try omega) (by simp (disch := omega) only [go_sem])) ?_
    rintro ⟨j, o2, cy⟩ ⟨hj, hol2, hog2, hcy, hov2, hoz2⟩
    dsimp only at hj hol2 hog2 hcy hov2 hoz2 ⊢
    simp (disch := omega) only [go_sem]
    refine ifW_dec (fun h2 => ?_) (fun h2 => ?_)
    · have hy := gd_getD hB j
      have ho := gd_getD hog2 (i + j)
      have hxy := mul_lim hx hy
      have e1 : ((i : Int) + (j : Int)).toNat = i + j := by omega
      simp (disch := omega) only [go_sem, h2]
      refine draw_of rfl [⟨0, [], []⟩, ⟨1, [], []⟩, ⟨2, [], []⟩, ⟨3, [], []⟩, ⟨4, [], []⟩, ⟨5, [], []⟩, ⟨6, [5], []⟩, ⟨7, [5], []⟩, ⟨8, [5, 7], []⟩, ⟨9, [5], []⟩, ⟨10, [5], []⟩, ⟨11, [5, 7, 10], []⟩, ⟨12, [5, 7, 10], []⟩, ⟨13, [5, 7, 10, 12], []⟩, ⟨14, [5, 7, 10], []⟩, ⟨15, [5, 7, 10], []⟩, ⟨16, [5], []⟩, ⟨17, [], []⟩, ⟨18, [5, 7, 10, 12, 15], []⟩, ⟨19, [], []⟩, ⟨20, [], []⟩] (by kernel_rfl) ?_
      simp (disch := omega) only [go_sem, e1]
      generalize hq : o2.getD (i + j) 0 + A.getD i 0 * B.getD j 0 + cy = q
      refine ⟨by omega, by omega, by omega, by omega, by omega, by omega, by omega, by omega, next_intro (j + 1, o2.set (i + j) (q % 65536), q / 65536) [] ⟨by show j + 1 ≤ _; omega, by simp [hol2], gd_set hog2 (by omega), by show 0 ≤ q / 65536 ∧ q / 65536 < 65536; omega, ?_, fun k hk => ?_⟩
        (by show B.length - (j + 1) < B.length - j; omega) rfl (by simp (disch := omega) only [go_sem]; try omega) (by simp (disch := omega) only [go_sem])⟩
      · show vl (o2.set (i + j) (q % 65536)) + 65536 ^ (i + (j + 1)) * (q / 65536) = vl out + 65536 ^ i * (A.getD i 0 * vl (B.take (j + 1)))
        rw [vl_set (by omega), vl_take_succ (by omega), ← Nat.add_assoc, Int.pow_succ]
        have e2 : (65536 : Int) ^ (i + j) = 65536 ^ i * 65536 ^ j := Int.pow_add _ _ _
        have e3 : q % 65536 + 65536 * (q / 65536) = q := Int.emod_add_mul_ediv q 65536
        rw [e2] at hov2 ⊢
        generalize (65536 : Int) ^ i = Pi at *
        generalize (65536 : Int) ^ j = Pj at *
        grind
      · show (o2.set (i + j) (q % 65536)).getD k 0 = 0
        rw [List.getD_eq_getElem?_getD, List.getElem?_set_ne (by omega), ← List.getD_eq_getElem?_getD]
        exact hoz2 k hk
    · simp (disch := omega) only [go_sem, h2]
      have e1 : ((i : Int) + (B.length : Int)).toNat = i + B.length := by omega
      have hjB : j = B.length := by omega
      subst hjB
      rw [List.take_length] at hov2
      have hz := hoz2 (i + B.length) (Nat.le_refl _)
      refine draw_of rfl [⟨0, [], []⟩, ⟨1, [], []⟩, ⟨2, [], []⟩, ⟨3, [], []⟩, ⟨4, [], []⟩, ⟨5, [], []⟩, ⟨6, [3], []⟩, ⟨7, [3], []⟩, ⟨8, [3], []⟩, ⟨9, [3], []⟩, ⟨10, [3], []⟩, ⟨11, [3], []⟩, ⟨12, [3], []⟩, ⟨13, [3], []⟩, ⟨14, [3, 9, 13], []⟩, ⟨15, [3], []⟩, ⟨16, [], []⟩, ⟨17, [], []⟩] (by kernel_rfl) ?_
      simp (disch := omega) only [go_sem, e1, hz]
      have e0 : (0 : Int) + cy = cy := by omega
      refine ⟨by omega, by omega, by omega, by omega, next_intro (i + 1, o2.set (i + B.length) cy) [] ⟨by show i + 1 ≤ _; omega, by simp [hol2], gd_set hog2 hcy, ?_, fun k hk => ?_⟩ (by show A.length - (i + 1) < A.length - i; omega) rfl (by simp (disch := omega) only [go_sem]; try omega) (by simp (disch := omega) only [go_sem, e0])⟩
      · show vl (o2.set (i + B.length) cy) = vl (A.take (i + 1)) * vl B
        rw [vl_set (by omega), hz, vl_take_succ (by omega)]
        generalize (65536 : Int) ^ i = Pi at *
        grind
      · show (o2.set (i + B.length) cy).getD k 0 = 0
        rw [List.getD_eq_getElem?_getD, List.getElem?_set_ne (by show i + B.length ≠ k; omega), ← List.getD_eq_getElem?_getD]
        exact hoz2 k (by omega)
  · simp (disch := omega) only [go_sem, h1]
    have hiA : i = A.length := by omega
    subst hiA
    rw [List.take_length, hvb, hm] at hov
    rw [← hol]
    refine call_closed (con_l2norm true (out) (m) (by omega) (hog) (hov)) (by simp (disch := omega) only [go_sem]) ?_
    rintro r hs (⟨h0, rfl, rfl⟩ | ⟨zs, rfl, rfl⟩)
    · refine ⟨⟨by simp, by simp (disch := omega) only [go_sem]⟩, ?_⟩
      simp (disch := omega) only [go_sem]
      refine fin_intro [] [] [] [.ag [.v (.slice none 0 0)]] rfl (by simp (disch := omega) only [go_sem]) (by simp (disch := omega) only [go_sem]) (by simp) (by intro _; simp [tupA, AV.pu, AV.pu.puL, Ob.pu, pu_ints]) (.inl ⟨h0, rfl, rfl⟩)
    · refine ⟨⟨by simp, by simp (disch := omega) only [go_sem]⟩, ?_⟩
      simp (disch := omega) only [go_sem]
      refine fin_intro [(0, 810000000)] [.own 1 (ints (lim (m) ++ zs))] [] [.ag [.rf 0 0 (lim (m)).length]] rfl (by simp (disch := omega) only [go_sem]) (by simp (disch := omega) only [go_sem]) (by simp) (by intro _; simp [tupA, AV.pu, AV.pu.puL, Ob.pu, pu_ints]) (.inr ⟨zs, rfl, rfl⟩)

theorem con_l2mul (cl : Bool) (a b : Nat) (la : (lim a).length ≤ 1000000) (lb : (lim b).length ≤ 1000000) : Con Tryd.prog 37 cl [.ag [.sl (lim (a)).length (ints (lim (a)))], .ag [.sl (lim (b)).length (ints (lim (b)))]] [] (natR (a * b)) :=
  con_l2mulL cl (lim a) (gd_lim a) b la lb (a * b) (by rw [vl_lim, Int.natCast_mul])
end Go.Ab
namespace Go.Ab
open Go Go.Proofs
set_option linter.unusedVariables false
set_option linter.unusedSimpArgs false

theorem pow_le_15 (k : Nat) (h : k < 16) : (0 : Int) < 2 ^ k ∧ (2 : Int) ^ k ≤ 32768 := by
  have : ∀ k, k < 16 → (0 : Int) < 2 ^ k ∧ (2 : Int) ^ k ≤ 32768 := by decide
  exact this k h

theorem mul_shift {x : Int} (hx : 0 ≤ x ∧ x < 65536) {k : Nat} (hk : k < 16) : 0 ≤ x * 2 ^ k ∧ x * 2 ^ k ≤ 2147450880 := by
  obtain ⟨h1, h2⟩ := pow_le_15 k hk
  have h3 := Int.mul_nonneg hx.1 (Int.le_of_lt h1)
  have h4 : x * 2 ^ k ≤ 65535 * 32768 := Int.mul_le_mul (by omega) h2 (by omega) (by omega)
  omega

theorem pow_split (k : Nat) : (65536 : Int) ^ (k / 16) * 2 ^ (k % 16) = 2 ^ k := by
  have e : (65536 : Int) = 2 ^ 16 := by decide
  rw [e, ← Int.pow_mul, ← Int.pow_add, Nat.div_add_mod]

theorem con_up (cl : Bool) (A : List Int) (k : Nat) (hA : gd A) (lA : A.length ≤ 1000000) (hk : k ≤ 100000000) :
    Con Tryd.prog 64 cl [.sl A.length (ints A), .v (.int .i64 k)] [] (numR (lim (vl A * 2 ^ k).toNat)) := by
  refine Con.of_aw Tryd.func64 rfl Tryd.ntmps64 (by simp) (by simp) (by simp) (W.sound ?_)
  show @W Tryd.prog 46 ⟨_⟩ ⟨fun x σ => @retW _ _ _ ⟨_⟩ _ ⟨_⟩ x σ⟩ _ _
  simp (disch := omega) only [go_sem]
  refine ifW_dec (fun h0 => ?_) (fun h0 => ?_)
  · simp (disch := omega) only [go_sem, h0]
    have : A = [] := List.length_eq_zero_iff.1 (by omega)
    subst this
    refine fin_intro [] [] [] [.v (.slice none 0 0)] rfl (by simp (disch := omega) only [go_sem]) (by simp (disch := omega) only [go_sem]) (by simp) (by intro _; simp [tupA, AV.pu, AV.pu.puL, Ob.pu, pu_ints]) (.inl ⟨by simp [vl, lim_zero], rfl, rfl⟩)
  · simp (disch := omega) only [go_sem, h0]
    refine ⟨by omega, ?_⟩
    have e16 : ((k : Int) / 16).toNat = k / 16 := by omega
    refine loop_intro (fun x : Nat × List Int × Int => [(1, .v (.int .i64 k)), (5, .rf 1 0 x.2.1.length), (6, .v (.int .i64 x.2.2)), (21, .sl A.length (ints A)), (22, .v (.int .i64 A.length)), (23, .v (.int .i64 x.1))])
      (fun x => [(1, .own 1 (ints x.2.1))])
      (fun x => x.1 ≤ A.length ∧ x.2.1.length = k / 16 + x.1 ∧ gd x.2.1 ∧ (0 ≤ x.2.2 ∧ x.2.2 < 65536) ∧ vl x.2.1 + 65536 ^ (k / 16 + x.1) * x.2.2 = 65536 ^ (k / 16) * 2 ^ (k % 16) * vl (A.take x.1))
      (fun x => A.length - x.1) (0, List.replicate (k / 16) 0, 0) ⟨by simp, by simp, gd_replicate _, by simp, by simp [vl, vl_replicate]⟩
      (Le.lst [(1, 220000000)] _ _ rfl (by simp (disch := omega) only [go_sem, List.length_replicate, e16]) (by simp (disch := omega) only [go_sem, e16])) ?_
    rintro ⟨i, out, cy⟩ ⟨hi, hol, hog, hcy, hov⟩
    dsimp only at hi hol hog hcy hov ⊢
    simp (disch := omega) only [go_sem]
    refine ifW_dec (fun h1 => ?_) (fun h1 => ?_)
    · have hx := gd_getD hA i
      have hxs := mul_shift hx (show k % 16 < 16 by omega)
      have em : min ((k : Int) % 16).toNat 64 = k % 16 := by omega
      simp (disch := omega) only [go_sem, h1, em]
      generalize hq : cy + A.getD i 0 * 2 ^ (k % 16) = q
      refine ⟨by omega, by omega, by omega, by omega, next_intro (i + 1, out ++ [q % 65536], q / 65536) [(1, 390000000)] ⟨by show i + 1 ≤ _; omega, by simp [hol]; omega, gd_append.2 ⟨hog, gd_one.2 (by omega)⟩, by show 0 ≤ q / 65536 ∧ q / 65536 < 65536; omega, ?_⟩ (by show A.length - (i + 1) < A.length - i; omega) rfl (by simp (disch := omega) only [go_sem, List.length_append]; try omega) (by simp (disch := omega) only [go_sem])⟩
      show vl (out ++ [q % 65536]) + 65536 ^ (k / 16 + (i + 1)) * (q / 65536) = 65536 ^ (k / 16) * 2 ^ (k % 16) * vl (A.take (i + 1))
      rw [vl_snoc, vl_take_any, hol, ← Nat.add_assoc, Int.pow_succ]
      have e3 : q % 65536 + 65536 * (q / 65536) = q := Int.emod_add_mul_ediv q 65536
      rw [Int.pow_add] at hov ⊢
      generalize (65536 : Int) ^ i = Pi at *
      generalize (65536 : Int) ^ (k / 16) = Pk at *
      generalize (2 : Int) ^ (k % 16) = Pm at *
      grind
    · simp (disch := omega) only [go_sem, h1]
      have hiA : i = A.length := by omega
      subst hiA
      rw [List.take_length, pow_split] at hov
      have hov2 : vl (out ++ [cy]) = vl A * 2 ^ k := by rw [vl_snoc, hol, hov]; grind
      have hog2 : gd (out ++ [cy]) := gd_append.2 ⟨hog, gd_one.2 hcy⟩
      refine ⟨by omega, ?_⟩
      have hl2 : out.length + 1 = (out ++ [cy]).length := by simp
      rw [hl2]
      refine call_lend false [460000000] (con_trim (out ++ [cy]) (by simp; omega)) (by simp (disch := omega) only [go_sem]) (by simp (disch := omega) only [go_sem]) rfl (lend_cons (z := 1) (cs := ints (out ++ [cy])) (by simp (disch := omega) only [go_sem]) (by simp (disch := omega) only [go_sem])) (by intro n hn; exact ⟨_, List.mem_singleton.2 rfl, by rw [List.mem_singleton.1 hn]; rfl⟩) ?_
      rintro r hs bs ⟨rfl, rfl, rfl⟩ _
      refine ⟨by simp [freeN], ?_⟩
      simp (disch := omega) only [go_sem]
      obtain ⟨z, hz⟩ := cutZ_pre (out ++ [cy])
      have hc := cutZ_lim hog2
      rw [hov2] at hc
      rw [hc] at hz ⊢
      refine fin_intro [(0, 460000000)] [.own 1 (ints (out ++ [cy]))] [] [.rf 0 0 (lim (vl A * 2 ^ k).toNat).length] rfl (by simp (disch := omega) only [go_sem]) (by simp (disch := omega) only [go_sem]) (by simp) (by intro _; simp [tupA, AV.pu, AV.pu.puL, Ob.pu, pu_ints]) (.inr ⟨List.replicate z 0, rfl, by rw [← hz]⟩)
end Go.Ab
namespace Go.Ab
open Go Go.Proofs
set_option linter.unusedVariables false
set_option linter.unusedSimpArgs false

theorem drop_set {l : List Int} {i : Nat} (h : i < l.length) (z : Int) : (l.set i z).drop i = z :: l.drop (i + 1) := by
  rw [List.drop_eq_getElem_cons (by simpa using h)]
  simp [List.drop_set]

theorem con_divs (cl : Bool) (A : List Int) (d : Nat) (hA : gd A) (lA : A.length ≤ 1000000) (hd : 0 < d) (hd2 : d < 65536) :
    Con Tryd.prog 29 cl [.sl A.length (ints A), .v (.int .i64 d)] [] (fun r hs bs => ∃ zs, r = .tu [.rf 0 0 (lim (vl A / d).toNat).length, .v (.int .i64 (vl A % d))] ∧ hs = [.own 1 (ints (lim (vl A / d).toNat ++ zs))]) := by
  refine Con.of_aw Tryd.func29 rfl Tryd.ntmps29 (by simp) (by simp) (by simp) (W.sound ?_)
  show @W Tryd.prog 38 ⟨_⟩ ⟨fun x σ => @retW _ _ _ ⟨_⟩ _ ⟨_⟩ x σ⟩ _ _
  simp (disch := omega) only [go_sem]
  refine ⟨by omega, ?_⟩
  refine loop_intro (fun x : Nat × List Int × Int => [(0, .sl A.length (ints A)), (1, .v (.int .i64 d)), (6, .rf 130000000 0 A.length), (7, .v (.int .i64 x.2.2)), (8, .v (.int .i64 ((x.1 : Int) - 1)))])
    (fun x => [(130000000, .own 1 (ints x.2.1))])
    (fun x => x.1 ≤ A.length ∧ x.2.1.length = A.length ∧ gd x.2.1 ∧ x.2.2 = vl (A.drop x.1) % d ∧ vl (x.2.1.drop x.1) = vl (A.drop x.1) / d)
    (fun x => x.1) (A.length, List.replicate A.length 0, 0) ⟨by simp, by simp, gd_replicate _, by simp [vl], by simp [vl]⟩
    (Le.lst [] _ _ rfl (by simp (disch := omega) only [go_sem]; try omega) (by simp (disch := omega) only [go_sem])) ?_
  rintro ⟨m, out, rest⟩ ⟨hm, hol, hog, hr, hov⟩
  dsimp only at hm hol hog hr hov ⊢
  simp (disch := omega) only [go_sem]
  refine ifW_dec (fun h1 => ?_) (fun h1 => ?_)
  · obtain ⟨i, rfl⟩ : ∃ i, m = i + 1 := ⟨m - 1, by omega⟩
    have e1 : ((i + 1 : Nat) : Int) - 1 = (i : Nat) := by omega
    have hx := gd_getD hA i
    have hr2 : 0 ≤ rest ∧ rest < d := by rw [hr]; exact ⟨Int.emod_nonneg _ (by omega), Int.emod_lt_of_pos _ (by omega)⟩
    generalize hq : rest * 65536 + A.getD i 0 = q
    have hq0 : 0 ≤ q := by omega
    have hqd : 0 ≤ q / d ∧ q / d < 65536 := ⟨Int.ediv_nonneg hq0 (by omega), Int.ediv_lt_of_lt_mul (by omega) (by omega)⟩
    have hqm : 0 ≤ q % d ∧ q % d < d := ⟨Int.emod_nonneg _ (by omega), Int.emod_lt_of_pos _ (by omega)⟩
    simp (disch := omega) only [go_sem, h1, e1, hq]
    refine ⟨by omega, by omega, by omega, by omega, by omega, by omega, next_intro (i, out.set i (q / d), q % d) [] ⟨by show i ≤ _; omega, by simp [hol], gd_set hog hqd, ?_, ?_⟩ (by show i < i + 1; omega) rfl (by simp (disch := omega) only [go_sem]) (by simp (disch := omega) only [go_sem])⟩
    · show q % d = vl (A.drop i) % d
      rw [vl_drop (l := A) (i := i) (by omega), ← hq, hr]
      have h3 := Int.emod_add_mul_ediv (vl (A.drop (i + 1))) d
      rw [show A.getD i 0 + 65536 * vl (A.drop (i + 1)) = vl (A.drop (i + 1)) % d * 65536 + A.getD i 0 + d * (65536 * (vl (A.drop (i + 1)) / d)) by grind, Int.add_mul_emod_self_left]
    · show vl ((out.set i (q / d)).drop i) = vl (A.drop i) / d
      rw [drop_set (by omega), vl, hov, vl_drop (l := A) (i := i) (by omega), ← hq, hr]
      have h3 := Int.emod_add_mul_ediv (vl (A.drop (i + 1))) d
      rw [show A.getD i 0 + 65536 * vl (A.drop (i + 1)) = vl (A.drop (i + 1)) % d * 65536 + A.getD i 0 + d * (65536 * (vl (A.drop (i + 1)) / d)) by grind, Int.add_mul_ediv_left _ _ (by omega)]
  · simp (disch := omega) only [go_sem, h1]
    have : m = 0 := by omega
    subst this
    rw [List.drop_zero, List.drop_zero] at hov
    rw [List.drop_zero] at hr
    rw [← hol]
    refine call_lend false [130000000] (con_trim out (by omega)) (by simp (disch := omega) only [go_sem]) (by simp (disch := omega) only [go_sem]) rfl (lend_cons (z := 1) (cs := ints out) (by simp (disch := omega) only [go_sem]) (by simp (disch := omega) only [go_sem])) (by intro n hn; exact ⟨_, List.mem_singleton.2 rfl, by rw [List.mem_singleton.1 hn]; rfl⟩) ?_
    rintro r hs bs ⟨rfl, rfl, rfl⟩ _
    refine ⟨by simp [freeN], ?_⟩
    simp (disch := omega) only [go_sem]
    obtain ⟨z, hz⟩ := cutZ_pre out
    have hc := cutZ_lim hog
    rw [hov] at hc
    rw [hc] at hz ⊢
    rw [hr]
    refine fin_intro [(0, 130000000)] [.own 1 (ints out)] [] [.rf 0 0 (lim (vl A / d).toNat).length, .v (.int .i64 (vl A % d))] rfl (by simp (disch := omega) only [go_sem]) (by simp (disch := omega) only [go_sem]) (by simp) (by intro _; simp [tupA, AV.pu, AV.pu.puL, Ob.pu, pu_ints]) ⟨List.replicate z 0, rfl, by rw [← hz]⟩
end Go.Ab
namespace Go.Ab
open Go Go.Proofs
set_option linter.unusedVariables false
set_option linter.unusedSimpArgs false

/-- A quotient by a small number, and the rest. -/
def natR2 (m : Nat) (r0 : Int) : AV → List Ob → List Ob → Prop := fun r hs bs =>
  (m = 0 ∧ r = .tu [.ag [.v (.slice none 0 0)], .v (.int .i64 r0)] ∧ hs = []) ∨ ∃ zs, r = .tu [.ag [.rf 0 0 (lim m).length], .v (.int .i64 r0)] ∧ hs = [.own 1 (ints (lim m ++ zs))]

theorem Con.natF2 {P : Program} {f : FuncId} {args : List AV} {m : Nat} {r0 : Int} (h : Con P f false args [] (natR2 m r0)) : Con P f false args [] (isA (.tu [.ag [.sl (lim (m)).length (ints (lim (m)))], .v (.int .i64 r0)])) :=
  Con.frzA <| h.mono fun r hs bs h => by
    rcases h with ⟨rfl, rfl, rfl⟩ | ⟨zs, rfl, rfl⟩
    · show snap _ 6 _ = _
      rw [lim_zero]; rfl
    · show snap _ 6 _ = _
      rw [snap_tu, List.map_cons, List.map_cons, List.map_nil, snap_ag, List.map_cons, List.map_nil, snap_num (k := 2) (l := lim m) (zs := zs) rhp_zero rfl]
      rfl

theorem con_l2smallL (cl : Bool) (A : List Int) (d : Nat) (hA : gd A) (lA : A.length ≤ 1000000) (hd : 0 < d) (hd2 : d < 65536) (m : Nat) (hm : vl A / (d : Int) = (m : Int)) :
    Con Tryd.prog 21 cl [.ag [.sl A.length (ints A)], .v (.int .i64 d)] [] (natR2 m (vl A % d)) := by
  refine Con.of_aw Tryd.func21 rfl Tryd.ntmps21 (by simp) (by simp) (by simp) (W.sound ?_)
  show @W Tryd.prog 42 ⟨_⟩ ⟨fun x σ => @retW _ _ _ ⟨_⟩ _ ⟨_⟩ x σ⟩ _ _
  simp (disch := omega) only [go_sem]
  refine ⟨by omega, ?_⟩
  refine loop_intro (fun x : Nat × List Int × Int => [(1, .v (.int .i64 d)), (2, .pt 0 0), (4, .pt 1 0), (6, .rf 2 0 A.length), (7, .v (.int .i64 x.2.2)), (8, .v (.int .i64 ((x.1 : Int) - 1)))])
    (fun x => [(0, .own 0 [.sl A.length (ints A)]), (1, .own 0 [.v (.slice none 0 0)]), (2, .own 1 (ints x.2.1))])
    (fun x => x.1 ≤ A.length ∧ x.2.1.length = A.length ∧ gd x.2.1 ∧ x.2.2 = vl (A.drop x.1) % d ∧ vl (x.2.1.drop x.1) = vl (A.drop x.1) / d)
    (fun x => x.1) (A.length, List.replicate A.length 0, 0) ⟨Nat.le_refl _, by simp, gd_replicate _, by simp [vl], by simp [vl]⟩
    (Le.lst [(0, 40000000), (1, 60000000), (2, 150000000)] _ _ rfl (by simp (disch := omega) only [go_sem, List.length_replicate]; try omega) (by simp (disch := omega) only [go_sem])) ?_
  rintro ⟨k, out, rest⟩ ⟨hk, hol, hog, hr, hov⟩
  dsimp only at hk hol hog hr hov ⊢
  have hr0 : 0 ≤ rest ∧ rest < d := by rw [hr]; exact ⟨Int.emod_nonneg _ (by omega), Int.emod_lt_of_pos _ (by omega)⟩
  simp (disch := omega) only [go_sem]
  refine ifW_dec (fun h1 => ?_) (fun h1 => ?_)
  · obtain ⟨i, rfl⟩ : ∃ i, k = i + 1 := ⟨k - 1, by omega⟩
    have ei : ((i + 1 : Nat) : Int) - 1 = (i : Nat) := by omega
    have hx := gd_getD hA i
    have hq6 : 0 ≤ (rest * 65536 + A.getD i 0) / d ∧ (rest * 65536 + A.getD i 0) / d < 65536 := by
      refine ⟨Int.ediv_nonneg (by omega) (by omega), Int.ediv_lt_of_lt_mul (by omega) ?_⟩
      have : rest + 1 ≤ (d : Int) := by omega
      have := Int.mul_le_mul_of_nonneg_left this (show (0 : Int) ≤ 65536 by omega)
      omega
    simp (disch := omega) only [go_sem, h1, ei]
    generalize hq : rest * 65536 + A.getD i 0 = q at *
    refine ⟨by omega, by omega, by omega, by omega, by omega, by omega, next_intro (i, out.set i (q / d), q % d) [] ⟨by show i ≤ _; omega, by simp [hol], gd_set hog hq6, ?_, ?_⟩ (by show i < i + 1; omega) rfl (by simp (disch := omega) only [go_sem]; try omega) (by simp (disch := omega) only [go_sem])⟩
    · show q % d = vl (A.drop i) % d
      rw [vl_drop (l := A) (i := i) (by omega), ← hq, hr]
      have h3 := Int.emod_add_mul_ediv (vl (A.drop (i + 1))) d
      rw [show A.getD i 0 + 65536 * vl (A.drop (i + 1)) = vl (A.drop (i + 1)) % d * 65536 + A.getD i 0 + d * (65536 * (vl (A.drop (i + 1)) / d)) by grind, Int.add_mul_emod_self_left]
    · show vl ((out.set i (q / d)).drop i) = vl (A.drop i) / d
      rw [drop_set (by omega), vl, hov, vl_drop (l := A) (i := i) (by omega), ← hq, hr]
      have h3 := Int.emod_add_mul_ediv (vl (A.drop (i + 1))) d
      rw [show A.getD i 0 + 65536 * vl (A.drop (i + 1)) = vl (A.drop (i + 1)) % d * 65536 + A.getD i 0 + d * (65536 * (vl (A.drop (i + 1)) / d)) by grind, Int.add_mul_ediv_left _ _ (by omega)]
  · simp (disch := omega) only [go_sem, h1]
    have : k = 0 := by omega
    subst this
    rw [List.drop_zero, List.drop_zero, hm] at hov
    rw [List.drop_zero] at hr
    rw [← hol]
    refine call_closed (con_l2norm true out m (by omega) hog hov) (by simp (disch := omega) only [go_sem]) ?_
    rintro r hs (⟨h0, rfl, rfl⟩ | ⟨zs, rfl, rfl⟩)
    · refine ⟨⟨by simp, by simp (disch := omega) only [go_sem]⟩, ?_⟩
      simp (disch := omega) only [go_sem]
      rw [hr]
      refine fin_intro [] [] [] [.ag [.v (.slice none 0 0)], .v (.int .i64 (vl A % d))] rfl (by simp (disch := omega) only [go_sem]) (by simp (disch := omega) only [go_sem]) (by simp) (by intro _; simp [tupA, AV.pu, AV.pu.puL, Ob.pu, pu_ints]) (.inl ⟨h0, rfl, rfl⟩)
    · refine ⟨⟨by simp, by simp (disch := omega) only [go_sem]⟩, ?_⟩
      simp (disch := omega) only [go_sem]
      rw [hr]
      refine fin_intro [(0, 420000000)] [.own 1 (ints (lim m ++ zs))] [] [.ag [.rf 0 0 (lim m).length], .v (.int .i64 (vl A % d))] rfl (by simp (disch := omega) only [go_sem]) (by simp (disch := omega) only [go_sem]) (by simp) (by intro _; simp [tupA, AV.pu, AV.pu.puL, Ob.pu, pu_ints]) (.inr ⟨zs, rfl, rfl⟩)

theorem con_l2smallN (a d : Nat) (la : (lim a).length ≤ 1000000) (hd : 0 < d) (hd2 : d < 65536) :
    Con Tryd.prog 21 false [.ag [.sl (lim (a)).length (ints (lim (a)))], .v (.int .i64 d)] [] (isA (.tu [.ag [.sl (lim (a / d)).length (ints (lim (a / d)))], .v (.int .i64 ((a % d : Nat) : Int))])) := by
  have := (con_l2smallL false (lim a) d (gd_lim a) la hd hd2 (a / d) (by rw [vl_lim, Int.natCast_ediv])).natF2
  rwa [vl_lim, ← Int.natCast_emod] at this

/-! ### Shifts -/
theorem shl_one {k : Nat} (hk : k < 16) : IntKind.i64.wrap (1 * 2 ^ (min ((k : Int)).toNat 64)) = ((2 ^ k : Nat) : Int) := by
  have e : min ((k : Int)).toNat 64 = k := by omega
  rw [e, Int.one_mul]
  have h := pow_le_15 k hk
  rw [wrap_id (by omega) (by omega), Int.natCast_pow]; rfl

theorem con_l2shl (cl : Bool) (a k : Nat) (la : (lim a).length ≤ 400000) (hk : k ≤ 5000000) : Con Tryd.prog 44 cl [.ag [.sl (lim (a)).length (ints (lim (a)))], .v (.int .i64 k)] [] (natR (a * 2 ^ k)) := by
  refine Con.of_aw Tryd.func44 rfl Tryd.ntmps44 (by simp) (by simp) (by simp) (W.sound ?_)
  show @W Tryd.prog 22 ⟨_⟩ ⟨fun x σ => @retW _ _ _ ⟨_⟩ _ ⟨_⟩ x σ⟩ _ _
  have hz : ((lim a).length : Int) = 0 → a = 0 := fun h => lim_eq_nil.1 (List.length_eq_zero_iff.1 (by omega))
  have hvA := vl_lim a
  have gA := gd_lim a
  generalize hLA : lim a = A at *
  simp (disch := omega) only [go_sem]
  refine ifW_dec (fun h1 => ?_) (fun h1 => ?_)
  · simp (disch := omega) only [go_sem, h1]
    have h0 := hz h1
    subst h0
    refine fin_intro [] [] [] [.ag [.v (.slice none 0 0)]] rfl (by simp (disch := omega) only [go_sem]) (by simp (disch := omega) only [go_sem]) (by simp) (by intro _; simp [tupA, AV.pu, AV.pu.puL, Ob.pu, pu_ints]) (.inl ⟨by simp, rfl, rfl⟩)
  · simp (disch := omega) only [go_sem, h1]
    refine draw_of rfl [⟨0, [], []⟩, ⟨1, [], []⟩, ⟨3, [], []⟩, ⟨4, [], []⟩, ⟨7, [4], []⟩, ⟨8, [4], []⟩, ⟨9, [4], []⟩, ⟨2, [4], []⟩, ⟨5, [], []⟩, ⟨6, [], []⟩, ⟨10, [], []⟩, ⟨11, [], []⟩, ⟨12, [], []⟩] (by kernel_rfl) ?_
    have e16 : ((k : Int) / 16).toNat = k / 16 := by omega
    have e17 : (k : Int) % 16 = ((k % 16 : Nat) : Int) := by omega
    have es : IntKind.i64.wrap (1 * 2 ^ (min ((k : Int) % 16).toNat 64)) = ((2 ^ (k % 16) : Nat) : Int) := by rw [e17]; exact shl_one (by omega)
    have hp15 : 2 ^ (k % 16) ≤ 2 ^ 15 := Nat.pow_le_pow_right (by omega) (by omega)
    have ecut : (List.replicate (k / 16) (0 : Int)).take (k / 16) = List.replicate (k / 16) 0 := List.take_of_length_le (by simp)
    simp (disch := omega) only [go_sem, e16, ecut, es]
    refine ⟨by omega, by omega, by simp; omega, ?_⟩
    refine call_open ((con_l2of false (2 ^ (k % 16)) (by omega)).natF) (by simp (disch := omega) only [go_sem]) ?_
    rintro r hs ⟨rfl, rfl, _⟩
    refine ⟨by simp [freeN], ?_⟩
    simp (disch := omega) only [go_sem]
    have hvA2 : vl (List.replicate (k / 16) 0 ++ A) * ((2 ^ (k % 16) : Nat) : Int) = ((a * 2 ^ k : Nat) : Int) := by
      rw [vl_append, vl_replicate, hvA, List.length_replicate]
      have h2 : a * 2 ^ k = 65536 ^ (k / 16) * a * 2 ^ (k % 16) := by
        have : 2 ^ k = 65536 ^ (k / 16) * 2 ^ (k % 16) := by rw [pow16, ← Nat.pow_add, Nat.div_add_mod]
        rw [this]; grind
      rw [h2, Int.natCast_mul, Int.natCast_mul, Int.natCast_pow]
      simp
    have gA2 : gd (List.replicate (k / 16) 0 ++ A) := gd_append.2 ⟨gd_replicate _, gA⟩
    have lA2 : (List.replicate (k / 16) (0 : Int) ++ A).length = k / 16 + A.length := by simp
    have et : (List.replicate (k / 16) (0 : Int) ++ A).take (k / 16 + A.length) = List.replicate (k / 16) 0 ++ A := List.take_of_length_le (by simp)
    have l2s : (lim (2 ^ (k % 16))).length ≤ 1000000 := by
      have := len_bl (m := 2 ^ (k % 16)) (B := 16) (bl_le.2 (by omega)); omega
    refine call_closed (con_l2mulL true (List.replicate (k / 16) 0 ++ A) gA2 (2 ^ (k % 16)) (by omega) l2s (a * 2 ^ k) hvA2) (by simp (disch := omega) only [go_sem, lA2, et]) ?_
    rintro r hs (⟨h0, rfl, rfl⟩ | ⟨zs, rfl, rfl⟩)
    · refine ⟨⟨by simp, by simp (disch := omega) only [go_sem]⟩, ?_⟩
      simp (disch := omega) only [go_sem]
      refine fin_intro [] [] [] [.ag [.v (.slice none 0 0)]] rfl (by simp (disch := omega) only [go_sem]) (by simp (disch := omega) only [go_sem]) (by simp) (by intro _; simp [tupA, AV.pu, AV.pu.puL, Ob.pu, pu_ints]) (.inl ⟨h0, rfl, rfl⟩)
    · refine ⟨⟨by simp, by simp (disch := omega) only [go_sem]⟩, ?_⟩
      simp (disch := omega) only [go_sem]
      refine fin_intro [(0, 230000000)] [.own 1 (ints (lim (a * 2 ^ k) ++ zs))] [] [.ag [.rf 0 0 (lim (a * 2 ^ k)).length]] rfl (by simp (disch := omega) only [go_sem]) (by simp (disch := omega) only [go_sem]) (by simp) (by intro _; simp [tupA, AV.pu, AV.pu.puL, Ob.pu, pu_ints]) (.inr ⟨zs, rfl, rfl⟩)
end Go.Ab
