/- What the proof of this claim stands on: the walks of the functions and the plain laws, part 3. -/
import Derived.Test.YtkmldlminmlcnaaGreatDoorFnFlIntsLib2
import Derived.Orders
import Derived.Test.YtkmldlminmlcnaaGreatDoorProg
import Derived.KernelRfl
namespace Go.Ab
open Go
set_option linter.unusedVariables false

/-- One guarded operation. -/
def stW (P : Program) (l0 : List Oper) (o : Oper) (K : KV) (e : Nat → AV) (h : Nat → Ob) : Prop := match o.guard with
  | none => @Op1 P ⟨o.dst⟩ ⟨o.op⟩ ⟨K⟩ e h
  | some (j, want) => @grdW ⟨l0⟩ j want e ⟨fun c => @ifW c ⟨@Op1 P ⟨o.dst⟩ ⟨o.op⟩ ⟨K⟩ e h⟩ ⟨K (.v (.tuple ⟨[]⟩)) h⟩⟩

structure Item where
  i : Nat
  ws : List Nat
  wa : List Nat

def tmpsOf : List Operand → List Nat
  | [] => []
  | .tmp t :: r => t :: tmpsOf r
  | _ :: r => tmpsOf r

def readsO (l0 : List Oper) (o : Oper) : List Nat := tmpsOf (opnds o.op) ++ match o.guard with
  | none => []
  | some (j, _) => ((l0[j]?).bind (·.dst)).toList

def fpOk (F : Nat → List Nat) (h hp : Nat → Ob) : List Nat → Prop
  | [] => True
  | j :: r => (∀ m ∈ F j, hp m = h m) ∧ fpOk F h hp r

def nomOk (o : Op) (l : List AV) (wa : List Nat) : Prop := (∀ c ∈ wa, noTop c l) ∧ (wa ≠ [] → noNm o l)

/-- The operations in the order that is chosen for the proof. -/
def ChD (P : Program) (N : Nat) (l0 : List Oper) (Q : St → Prop) : List Item → (Nat → List Nat) → (Nat → AV) → (Nat → Ob) → Prop
  | [], F, e, h => Q ⟨e, h⟩
  | it :: c, F, e, h => match l0[it.i]? with
    | none => False
    | some o => dOk N o.dst ∧ nomOk o.op (evL e (opnds o.op)) it.wa ∧ stW P l0 o (fun v hp => fpOk F h hp it.ws ∧ ChD P N l0 Q c (upd F it.i (fps o.op e)) (putE e o.dst v) hp) e h

/-! ### The check -/
def edgeM (o : Oper) (acc : List Nat) : Nat := o.after.toList.foldl (fun s e => bif Region.binds .any e then s ||| 2 ^ e.on ||| acc.getD e.on 0 else s) 0
def mskGo : List Oper → List Nat → List Nat
  | [], acc => acc
  | o :: r, acc => mskGo r (acc ++ [edgeM o acc])

def memN (l : List Nat) (n : Nat) : Bool := l.any (Nat.beq n)
def disjN (d : Option Nat) (l : List Nat) : Bool := match d with
  | none => true
  | some d => !memN l d

/-- x stands before y in the chosen order, and nothing orders them: x may wait. -/
def swB (l0 : List Oper) (x y : Item) : Bool := match l0[x.i]?, l0[y.i]? with
  | some ox, some oy => movB ox.op && disjN ox.dst (readsO l0 oy) && disjN oy.dst (readsO l0 ox) &&
      (match ox.dst with | some d => disjN oy.dst [d] | none => true) &&
      ((fpOp ox.op).isEmpty || memN y.ws x.i) && (!allocB ox.op || (memN y.wa (cOf ox.dst) && !Nat.beq (ox.dst.getD 0) (oy.dst.getD 0)))
  | _, _ => false

def prB (l0 : List Oper) (M : List Nat) (x y : Item) : Bool :=
  !Nat.beq x.i y.i && !memN x.ws y.i && (Nat.testBit (M.getD y.i 0) x.i || swB l0 x y) &&
  (match l0[x.i]? with
  | some ox => ox.after.toList.all fun e => !Region.binds .any e || !Nat.beq e.on y.i
  | none => false)

def pwB (r : Item → Item → Bool) : List Item → Bool
  | [] => true
  | a :: l => l.all (r a) && pwB r l

def okD (l0 : List Oper) (c : List Item) : Bool :=
  pwB (prB l0 (mskGo l0 [])) c && Nat.beq c.length l0.length && c.all (fun it => Nat.blt it.i l0.length && !memN it.ws it.i) &&
  ((List.range l0.length).all fun i => memN (c.map (·.i)) i) &&
  (List.range l0.length).all (fun i => match l0[i]? with
    | some o => o.after.toList.all fun e => !Region.binds .any e || Nat.blt e.on i
    | none => false)

section
variable {P : Program} {N : Nat} {l0 : List Oper} {Q : St → Prop}

theorem evW_agree {e e' : Nat → AV} : ∀ {l : List Operand}, (∀ t ∈ tmpsOf l, e' t = e t) → ∀ x ∈ l, evW e' x = evW e x
  | [], _, x, hx => by cases hx
  | y :: r, h, x, hx => by
    have h2 : ∀ t ∈ tmpsOf r, e' t = e t := fun t ht => h t (by cases y <;> simp [tmpsOf, ht])
    rcases List.mem_cons.1 hx with rfl | hx
    · cases x with
      | tmp t => exact h t (by simp [tmpsOf])
      | _ => rfl
    · exact evW_agree h2 x hx

theorem evL_agree {e e' : Nat → AV} {l : List Operand} (h : ∀ t ∈ tmpsOf l, e' t = e t) : evL e' l = evL e l := by
  rw [evL_map, evL_map]; exact List.map_congr_left (evW_agree h)

theorem fps_agree {e e' : Nat → AV} {op : Op} (h : ∀ t ∈ tmpsOf (opnds op), e' t = e t) : fps op e' = fps op e := by
  have hsub : ∀ x ∈ fpOp op, x ∈ opnds op := by
    intro x hx
    cases op <;> simp [fpOp] at hx <;> subst hx <;> simp [opnds]
  unfold fps
  rw [evL_map, evL_map]
  congr 1
  exact List.map_congr_left fun x hx => evW_agree h x (hsub x hx)

theorem stW_mono {o : Oper} {K K' : KV} {e : Nat → AV} {h : Nat → Ob} (hs : stW P l0 o K e h) (hk : ∀ v hp, K v hp → K' v hp) : stW P l0 o K' e h := by
  unfold stW at *
  split at hs
  · exact Op1_mono hs hk
  · unfold grdW at *
    dsimp only at hs ⊢
    split at hs
    · unfold boolW at *
      split at hs
      · exact ⟨fun g => Op1_mono (hs.1 g) hk, fun g => hk _ _ (hs.2 g)⟩
      · exact ⟨fun g => Op1_mono (hs.1 g) hk, fun g => hk _ _ (hs.2 g)⟩
      · exact hs.elim
    · exact hs.elim

theorem stW_env {o : Oper} {K : KV} {e e' : Nat → AV} {h : Nat → Ob} (he : ∀ t ∈ readsO l0 o, e' t = e t) (hs : stW P l0 o K e h) : stW P l0 o K e' h := by
  have he1 : ∀ t ∈ tmpsOf (opnds o.op), e' t = e t := fun t ht => he t (by unfold readsO; exact List.mem_append.2 (.inl ht))
  have hop : ∀ {K : KV}, @Op1 P ⟨o.dst⟩ ⟨o.op⟩ ⟨K⟩ e h → @Op1 P ⟨o.dst⟩ ⟨o.op⟩ ⟨K⟩ e' h := fun hs => Op1_env (evW_agree he1) hs
  unfold stW at *
  split at hs
  · exact hop hs
  · rename_i j want hg
    unfold grdW at *
    dsimp only at hs ⊢
    split at hs
    · rename_i d hd
      have : e' d = e d := he d (by unfold readsO; rw [hg]; exact List.mem_append.2 (.inr (by show d ∈ ((l0[j]?).bind (·.dst)).toList; rw [hd]; simp)))
      unfold boolW at *
      rw [this]
      split at hs
      · exact ⟨fun g => hop (hs.1 g), hs.2⟩
      · exact ⟨fun g => hop (hs.1 g), hs.2⟩
      · exact hs.elim
    · exact hs.elim

theorem stW_frame {o : Oper} {K K' : KV} {e : Nat → AV} {h : Nat → Ob} {c : Nat} {ob : Ob} (hf : h c = .free) (hck : ∀ i, i < 10000000 → c ≠ cOf o.dst + i) (hA : noTop c (evL e (opnds o.op))) (hN : noNm o.op (evL e (opnds o.op)))
    (hs : stW P l0 o K e (upd h c ob)) (hk : ∀ v hp, hp c = .free → K v (upd hp c ob) → K' v hp) : stW P l0 o K' e h := by
  unfold stW at *
  split at hs
  · exact Op1_frame hf hck hA hN hs hk
  · unfold grdW at *
    dsimp only at hs ⊢
    split at hs
    · unfold boolW at *
      split at hs
      · exact ⟨fun g => Op1_frame hf hck hA hN (hs.1 g) hk, fun g => hk _ _ hf (hs.2 g)⟩
      · exact ⟨fun g => Op1_frame hf hck hA hN (hs.1 g) hk, fun g => hk _ _ hf (hs.2 g)⟩
      · exact hs.elim
    · exact hs.elim

theorem stW_mov {o : Oper} {K : KV} {e : Nat → AV} {h : Nat → Ob} (hm : movB o.op = true) (hs : stW P l0 o K e h) :
    ∃ u eff, K u (apE eff (cOf o.dst) h) ∧ (eff ≠ none → allocB o.op = true ∧ h (cOf o.dst) = .free ∧ ∃ z cs, eff = some (.own z cs)) ∧ ∀ e' h' K', (∀ t ∈ readsO l0 o, e' t = e t) → (∀ m ∈ fps o.op e, h' m = h m) →
      (eff ≠ none → h' (cOf o.dst) = .free) → K' u (apE eff (cOf o.dst) h') → stW P l0 o K' e' h' := by
  have hs0 := hs
  unfold stW at hs
  split at hs
  · rename_i hg
    obtain ⟨u, eff, h1, h2, h3⟩ := Op1_mov hm hs
    refine ⟨u, eff, h1, h2, fun e' h' K' he hf hfr hk => ?_⟩
    unfold stW
    rw [hg]
    exact h3 e' h' K' (evW_agree fun t ht => he t (by unfold readsO; exact List.mem_append.2 (.inl ht))) hf hfr hk
  · rename_i j want hg
    unfold grdW at hs
    dsimp only at hs
    split at hs
    · rename_i d hd
      unfold boolW at hs
      split at hs
      · rename_i b hb
        cases hbw : b == want with
        | true =>
          obtain ⟨u, eff, h1, h2, h3⟩ := Op1_mov hm (hs.1 hbw)
          refine ⟨u, eff, h1, h2, fun e' h' K' he hf hfr hk => ?_⟩
          unfold stW
          rw [hg]
          unfold grdW
          dsimp only
          rw [hd]
          dsimp only
          rw [he d (by unfold readsO; rw [hg]; exact List.mem_append.2 (.inr (by show d ∈ ((l0[j]?).bind (·.dst)).toList; rw [hd]; simp))), hb]
          show @ifW (b == want) ⟨_⟩ ⟨_⟩
          rw [hbw, if_t]
          exact h3 e' h' K' (evW_agree fun t ht => he t (by unfold readsO; exact List.mem_append.2 (.inl ht))) hf hfr hk
        | false =>
          refine ⟨(.v (.tuple ⟨[]⟩)), none, hs.2 hbw, fun g => absurd rfl g, fun e' h' K' he hf hfr hk => ?_⟩
          unfold stW
          rw [hg]
          unfold grdW
          dsimp only
          rw [hd]
          dsimp only
          rw [he d (by unfold readsO; rw [hg]; exact List.mem_append.2 (.inr (by show d ∈ ((l0[j]?).bind (·.dst)).toList; rw [hd]; simp))), hb]
          show @ifW (b == want) ⟨_⟩ ⟨_⟩
          rw [hbw, if_f]
          exact hk
      · rename_i hb
        refine ⟨(.v (.tuple ⟨[]⟩)), none, hs.2 rfl, fun g => absurd rfl g, fun e' h' K' he hf hfr hk => ?_⟩
        unfold stW
        rw [hg]
        unfold grdW
        dsimp only
        rw [hd]
        dsimp only
        rw [he d (by unfold readsO; rw [hg]; exact List.mem_append.2 (.inr (by show d ∈ ((l0[j]?).bind (·.dst)).toList; rw [hd]; simp))), hb]
        show @ifW false ⟨_⟩ ⟨_⟩
        rw [if_f]
        exact hk
      · exact hs.elim
    · exact hs.elim

theorem fpOk_iff {F : Nat → List Nat} {h hp : Nat → Ob} {ws : List Nat} : fpOk F h hp ws ↔ ∀ j ∈ ws, ∀ m ∈ F j, hp m = h m := by
  induction ws with
  | nil => simp [fpOk]
  | cons j r ih => simp [fpOk, ih]

theorem memN_iff {l : List Nat} {n : Nat} : memN l n = true ↔ n ∈ l := by
  unfold memN
  rw [List.any_eq_true]
  exact ⟨fun ⟨x, hx, e⟩ => by rw [Nat.eq_of_beq_eq_true e]; exact hx, fun h => ⟨n, h, Nat.beq_refl n⟩⟩

theorem putE_agree {e : Nat → AV} {d : Option Nat} {v : AV} {l : List Nat} (h : disjN d l = true) : ∀ t ∈ l, putE e d v t = e t := by
  intro t ht
  cases d with
  | none => rfl
  | some d =>
    refine upd_ne fun e => ?_
    subst e
    simp only [disjN, Bool.not_eq_true'] at h
    rw [memN_iff.2 ht] at h; cases h

theorem putE_comm {e : Nat → AV} {d d' : Option Nat} {v v' : AV} (h : (match d with | some d => disjN d' [d] | none => true) = true) : putE (putE e d v) d' v' = putE (putE e d' v') d v := by
  cases d with
  | none => rfl
  | some d =>
    cases d' with
    | none => rfl
    | some d' =>
      have hne : d' ≠ d := fun e => by
        subst e
        simp [disjN, memN, Nat.beq_refl] at h
      funext t
      simp only [putE, upd]
      by_cases h1 : t = d' <;> by_cases h2 : t = d <;> simp [h1, h2] <;> (intro e; exact absurd (by omega) hne) <;> simp_all

theorem spaced {a b : Option Nat} (h : Nat.beq (a.getD 0) (b.getD 0) = false) : ∀ i, i < 10000000 → cOf a ≠ cOf b + i := by
  intro i hi e
  have : a.getD 0 ≠ b.getD 0 := fun e => by rw [e, Nat.beq_refl] at h; cases h
  unfold cOf at e
  omega

/-- Any operation that nothing keeps may come first. -/
theorem ext_y {y : Item} {oy : Oper} {suf : List Item} (hoy : l0[y.i]? = some oy) : ∀ {pre : List Item} {F : Nat → List Nat} {e : Nat → AV} {h : Nat → Ob}, (∀ x ∈ pre, swB l0 x y = true ∧ x.i ≠ y.i ∧ memN x.ws y.i = false ∧ F x.i = []) → (pre.map (·.i)).Nodup →
    ChD P N l0 Q (pre ++ y :: suf) F e h → dOk N oy.dst ∧ nomOk oy.op (evL e (opnds oy.op)) y.wa ∧
      stW P l0 oy (fun v hp => fpOk F h hp y.ws ∧ ChD P N l0 Q (pre ++ suf) (upd F y.i (fps oy.op e)) (putE e oy.dst v) hp) e h
  | [], F, e, h, _, _, hc => by
    simp only [List.nil_append, ChD, hoy] at hc
    exact hc
  | x :: pre, F, e, h, hsw, hnd, hc => by
    obtain ⟨hxy, hne, hws, hFx⟩ := hsw x (by simp)
    have hnd := List.nodup_cons.1 hnd
    unfold swB at hxy
    cases hox : l0[x.i]? with
    | none => rw [hox] at hxy; cases hxy
    | some ox =>
      rw [hox, hoy] at hxy
      simp only [Bool.and_eq_true, Bool.or_eq_true, Bool.not_eq_true'] at hxy
      obtain ⟨⟨⟨⟨⟨s1, s2⟩, s3⟩, s4⟩, s5⟩, s6⟩ := hxy
      simp only [List.cons_append, ChD, hox] at hc
      obtain ⟨hd, hnx, hst⟩ := hc
      obtain ⟨u, eff, ⟨hfx, hK⟩, heff, hstab⟩ := stW_mov s1 hst
      obtain ⟨hdy, hny, hsy⟩ := ext_y hoy (fun z hz => let ⟨g1, g2, g3, g4⟩ := hsw z (by simp [hz]); ⟨g1, g2, g3, by rw [upd_ne (fun e => hnd.1 (by show x.i ∈ _; rw [← e]; exact List.mem_map_of_mem (f := (·.i)) hz))]; exact g4⟩) hnd.2 hK
      have hag : ∀ t ∈ readsO l0 oy, putE e ox.dst u t = e t := putE_agree s2
      have hag1 : ∀ t ∈ tmpsOf (opnds oy.op), putE e ox.dst u t = e t := fun t ht => hag t (by unfold readsO; exact List.mem_append.2 (.inl ht))
      have hag' : ∀ v, ∀ t ∈ readsO l0 ox, putE e oy.dst v t = e t := fun v => putE_agree s3
      have hag1' : ∀ v, ∀ t ∈ tmpsOf (opnds ox.op), putE e oy.dst v t = e t := fun v t ht => hag' v t (by unfold readsO; exact List.mem_append.2 (.inl ht))
      rw [evL_agree hag1] at hny
      rw [fps_agree hag1] at hsy
      refine ⟨hdy, hny, ?_⟩
      have hsy2 := stW_env (e' := e) (fun t ht => (hag t ht).symm) hsy
      -- what comes behind y
      have fin : ∀ v hp, (eff ≠ none → hp (cOf ox.dst) = .free) → (∀ m ∈ fps ox.op e, hp m = h m) → fpOk F h hp y.ws →
          ChD P N l0 Q (pre ++ suf) (upd (upd F x.i (fps ox.op e)) y.i (fps oy.op e)) (putE (putE e ox.dst u) oy.dst v) (apE eff (cOf ox.dst) hp) →
          fpOk F h hp y.ws ∧ ChD P N l0 Q ((x :: pre) ++ suf) (upd F y.i (fps oy.op e)) (putE e oy.dst v) hp := by
        intro v hp hfr hfp hfy hch
        refine ⟨hfy, ?_⟩
        simp only [List.cons_append, ChD, hox]
        refine ⟨hd, by rw [evL_agree (hag1' v)]; exact hnx, hstab _ _ _ (hag' v) hfp hfr ⟨?_, ?_⟩⟩
        · rw [fpOk_iff] at hfx ⊢
          intro j hj m hm
          have hjy : j ≠ y.i := fun e => by subst e; rw [memN_iff.2 hj] at hws; cases hws
          rw [upd_ne hjy] at hm
          have := hfx j hj m hm
          cases heq : eff with
          | none => rfl
          | some ob =>
            rw [heq] at this
            obtain ⟨_, g1, z, cs, g2⟩ := heff (by rw [heq]; simp)
            have hmc : m ≠ cOf ox.dst := fun e => by
              rw [heq] at g2; cases g2
              rw [e] at this
              simp only [apE, upd_same] at this
              rw [g1] at this; cases this
            simp only [apE]
            exact upd_ne hmc
        · rw [fps_agree (hag1' v)]
          have e1 : upd (upd F y.i (fps oy.op e)) x.i (fps ox.op e) = upd (upd F x.i (fps ox.op e)) y.i (fps oy.op e) := by
            funext k
            simp only [upd]
            by_cases h1 : k = x.i <;> by_cases h2 : k = y.i <;> simp [h1, h2] <;> (intro e; exact absurd (by omega) hne) <;> simp_all
          rw [e1, ← putE_comm s4]
          exact hch
      have hfpx : ∀ {h2 hp : Nat → Ob}, fpOk (upd F x.i (fps ox.op e)) h2 hp y.ws → (∀ m ∈ fps ox.op e, hp m = h2 m) ∧ fpOk F h2 hp y.ws := by
        intro h2 hp hh
        rw [fpOk_iff] at hh
        refine ⟨fun m hm => ?_, fpOk_iff.2 fun j hj m hm => ?_⟩
        · rcases s5 with s5 | s5
          · have : fps ox.op e = [] := by unfold fps; rw [List.isEmpty_iff.1 s5]; rfl
            rw [this] at hm; cases hm
          · exact hh _ (memN_iff.1 s5) m (by rw [upd_same]; exact hm)
        · by_cases hjx : j = x.i
          · subst hjx; rw [hFx] at hm; cases hm
          · exact hh j hj m (by rw [upd_ne hjx]; exact hm)
      cases heq : eff with
      | none =>
        rw [heq] at hsy2
        refine stW_mono hsy2 fun v hp ⟨h1, h2⟩ => ?_
        have := hfpx h1
        refine fin v hp (fun g => absurd heq g) this.1 this.2 ?_
        rw [heq]; exact h2
      | some ob =>
        obtain ⟨ha, hfree, z, cs, hob⟩ := heff (by rw [heq]; simp)
        rw [heq] at hsy2
        rw [ha] at s6
        simp only [Bool.true_eq_false, false_or] at s6
        have hcm : cOf ox.dst ∈ y.wa := memN_iff.1 s6.1
        refine stW_frame hfree (spaced s6.2) (hny.1 _ hcm) (hny.2 fun e => by rw [e] at hcm; cases hcm) hsy2 fun v hp hpc ⟨h1, h2⟩ => ?_
        have hx := hfpx h1
        have hdn : ∀ m, upd hp (cOf ox.dst) ob m = upd h (cOf ox.dst) ob m → hp m = h m := fun m hm => by
          by_cases hmc : m = cOf ox.dst
          · subst hmc; rw [hpc, hfree]
          · rwa [upd_ne hmc, upd_ne hmc] at hm
        refine fin v hp (fun _ => hpc) (fun m hm => hdn m (hx.1 m hm)) (fpOk_iff.2 fun j hj m hm => hdn m (fpOk_iff.1 hx.2 j hj m hm)) ?_
        rw [heq]; exact h2

end
end Go.Ab
namespace Go.Ab
open Go
set_option linter.unusedVariables false

section
variable {P : Program} {N : Nat}

theorem edgeM_bit {o : Oper} {acc : List Nat} {x : Nat} (h : Nat.testBit (edgeM o acc) x = true) : ∃ e ∈ o.after, Region.binds .any e = true ∧ (e.on = x ∨ Nat.testBit (acc.getD e.on 0) x = true) := by
  unfold edgeM at h
  have key : ∀ (l : List Edge) (s : Nat), Nat.testBit (l.foldl (fun s e => bif Region.binds .any e then s ||| 2 ^ e.on ||| acc.getD e.on 0 else s) s) x = true →
      Nat.testBit s x = true ∨ ∃ e ∈ l, Region.binds .any e = true ∧ (e.on = x ∨ Nat.testBit (acc.getD e.on 0) x = true) := by
    intro l
    induction l with
    | nil => intro s h; exact .inl h
    | cons a l ih =>
      intro s h
      rcases ih _ h with h | ⟨e, he, h1, h2⟩
      · dsimp only at h
        cases hb : Region.binds .any a with
        | false => rw [hb, cond_false] at h; exact .inl h
        | true =>
          rw [hb, cond_true, Nat.testBit_or, Nat.testBit_or] at h
          simp only [Bool.or_eq_true] at h
          rcases h with (h | h) | h
          · exact .inl h
          · refine .inr ⟨a, by simp, hb, .inl ?_⟩
            rw [Nat.testBit_two_pow] at h
            exact of_decide_eq_true h
          · exact .inr ⟨a, by simp, hb, .inr h⟩
      · exact .inr ⟨e, by simp [he], h1, h2⟩
  rcases key _ _ h with h | ⟨e, he, h1, h2⟩
  · simp at h
  · exact ⟨e, by simpa using he, h1, h2⟩

theorem mskGo_get : ∀ (l : List Oper) (acc : List Nat), (∀ i, i < acc.length → (mskGo l acc).getD i 0 = acc.getD i 0) ∧ (mskGo l acc).length = acc.length + l.length ∧
    ∀ k (hk : k < l.length), ∃ acc' : List Nat, (∀ i x, Nat.testBit (acc'.getD i 0) x = true → Nat.testBit ((mskGo l acc).getD i 0) x = true) ∧ (mskGo l acc).getD (acc.length + k) 0 = edgeM l[k] acc'
  | [], acc => ⟨fun _ _ => rfl, by simp [mskGo], fun k hk => by simp at hk⟩
  | o :: r, acc => by
    obtain ⟨h1, h2, h3⟩ := mskGo_get r (acc ++ [edgeM o acc])
    have h1' : ∀ i, i < acc.length → (mskGo (o :: r) acc).getD i 0 = acc.getD i 0 := fun i hi => by
      simp only [mskGo]
      rw [h1 i (by simp; omega), List.getD_eq_getElem?_getD, List.getElem?_append_left hi, ← List.getD_eq_getElem?_getD]
    refine ⟨h1', by simp only [mskGo]; rw [h2]; simp; omega, fun k hk => ?_⟩
    cases k with
    | zero =>
      refine ⟨acc, fun i x hx => ?_, ?_⟩
      · rcases Nat.lt_or_ge i acc.length with hi | hi
        · rw [h1' i hi]; exact hx
        · rw [List.getD_eq_getElem?_getD, List.getElem?_eq_none hi] at hx; simp at hx
      · simp only [mskGo, Nat.add_zero, List.getElem_cons_zero]
        rw [h1 _ (by simp), List.getD_eq_getElem?_getD, List.getElem?_append_right (by omega)]; simp
    | succ k =>
      obtain ⟨acc', g1, g2⟩ := h3 k (by simpa using hk)
      refine ⟨acc', g1, ?_⟩
      simp only [mskGo, List.getElem_cons_succ]
      rw [← g2]; congr 1; simp; omega

theorem msk_bit {l0 : List Oper} {i x : Nat} {o : Oper} (ho : l0[i]? = some o) (h : Nat.testBit ((mskGo l0 []).getD i 0) x = true) :
    ∃ e ∈ o.after, Region.binds .any e = true ∧ (e.on = x ∨ Nat.testBit ((mskGo l0 []).getD e.on 0) x = true) := by
  obtain ⟨hi, rfl⟩ := List.getElem?_eq_some_iff.1 ho
  obtain ⟨acc', g1, g2⟩ := (mskGo_get l0 []).2.2 i hi
  simp only [List.length_nil, Nat.zero_add] at g2
  rw [g2] at h
  obtain ⟨e, he, h1, h2⟩ := edgeM_bit h
  exact ⟨e, he, h1, h2.imp id (g1 _ _)⟩

theorem pw_of {r : Item → Item → Bool} : ∀ {l : List Item}, pwB r l = true → l.Pairwise (fun a b => r a b = true)
  | [], _ => List.Pairwise.nil
  | a :: l, h => by
    simp only [pwB, Bool.and_eq_true, List.all_eq_true] at h
    exact List.Pairwise.cons h.1 (pw_of h.2)

theorem stW_snd {L : Nat → Option Blk → Prop} {w0 : World} {R0 : Nat → Prop} {ops : Array Oper} {o : Oper} {i : Nat} (ho : ops[i]? = some o) {K : KV} {e : Nat → AV} {h : Nat → Ob} {a : Act} {w : World} {next : Act → World → Prop} {Q' : Exit → Act → World → Prop}
    (hi : In L w0 R0 N ⟨e, h⟩ a w) (hd : dOk N o.dst) (hs : stW P ops.toList o K e h) (hn : ∀ v hp a' w', In L w0 R0 N ⟨putE e o.dst v, hp⟩ a' w' → K v hp → next a' w') : wpOp P ops Q' i next a w := by
  unfold wpOp
  rw [ho]
  dsimp only
  obtain ⟨d, op, ty, pos, af, g⟩ := o
  have run : @Op1 P ⟨d⟩ ⟨op⟩ ⟨K⟩ e h → Oper.wp P ⟨d, op, ty, pos, af, g⟩ a w next Q' := fun hs => by
    obtain ⟨R, ι, hR, hinv⟩ := hi.inv
    refine op_snd hinv (Op1.sound hs ty pos af g) fun x w' R' ι' av hp' hR' hK hx hm hi' => ?_
    exact hn _ _ _ _ (hi.put (o := ⟨d, op, ty, pos, af, g⟩) hd hR hR' hx hm hi') hK
  have skip : K (.v (.tuple ⟨[]⟩)) h → next (a.put d undef) w := fun hs => by
    obtain ⟨R, ι, hR, hinv⟩ := hi.inv
    exact hn _ _ _ _ (hi.put (o := ⟨d, op, ty, pos, af, g⟩) hd hR (fun _ h => .inl h) (.fr _ _ (.v _)) (by simp [AV.All]) hinv) hs
  unfold stW at hs
  cases g with
  | none =>
    rw [if_pos (by simp [Region.wanted])]
    exact .inl (run hs)
  | some p =>
    obtain ⟨j, want⟩ := p
    dsimp only at hs
    unfold grdW at hs
    dsimp only at hs
    split at hs
    · rename_i d' hd'
      have key : ∀ v c, e d' = .v v → (match v with | .bool b => some b | _ => none) = c → yielded ops a.tmps j = c := by
        intro v c hv hc
        obtain ⟨R, ι, hR, hinv⟩ := hi.inv
        have := hinv.env d'
        change Rep _ _ _ _ (e d') at this
        rw [hv] at this
        have := this.v_inv
        unfold yielded
        rw [Array.getElem?_toList] at hd'
        rw [hd']
        rw [Array.getD_eq_getD_getElem?] at this
        cases ee : a.tmps[d']? with
        | none =>
          rw [ee] at this
          subst hc
          have : v = undef := this.symm
          subst this; simp [ee, undef]
        | some y => rw [ee] at this; simp at this; subst this; subst hc; simp only [Option.bind_some, ee]; cases y <;> rfl
      unfold boolW at hs
      split at hs
      · rename_i b hb
        have hy := key _ _ hb rfl
        have hw : Region.wanted ⟨d, op, ty, pos, af, some (j, want)⟩ (yielded ops a.tmps) = (b == want) := by
          simp only [Region.wanted, hy]
          cases b <;> cases want <;> rfl
        rw [hw]
        cases hbw : b == want with
        | true => rw [if_pos rfl]; exact .inl (run (hs.1 hbw))
        | false => rw [if_neg (by simp)]; exact skip (hs.2 hbw)
      · rename_i hb
        have hy := key _ _ hb rfl
        have hw : Region.wanted ⟨d, op, ty, pos, af, some (j, want)⟩ (yielded ops a.tmps) = false := by
          simp only [Region.wanted, hy]
          cases want <;> rfl
        rw [hw, if_neg (by simp)]
        exact skip (hs.2 rfl)
      · exact hs.elim
    · exact hs.elim

/-- What holds of the operations that are still to come. -/
structure Rest (ops : Array Oper) (c : List Item) (listed : Array Bool) : Prop where
  pw : c.Pairwise (fun a b => prB ops.toList (mskGo ops.toList []) a b = true)
  lt : ∀ x ∈ c, x.i < ops.size
  mem : ∀ i, i < ops.size → (listed.getD i true = false ↔ ∃ x ∈ c, x.i = i)
  sz : listed.size = ops.size
  back : ∀ i o, ops[i]? = some o → ∀ e ∈ o.after, Region.binds .any e = true → e.on < i
  closed : ∀ i o, ops[i]? = some o → listed.getD i true = true → ∀ e ∈ o.after, Region.binds .any e = true → listed.getD e.on true = true

theorem Rest.before {ops : Array Oper} {c : List Item} {listed : Array Bool} (h : Rest ops c listed) (x : Nat) : ∀ (n i : Nat) (o : Oper), i < n → ops[i]? = some o →
    (∀ e ∈ o.after, Region.binds .any e = true → listed.getD e.on true = true) → Nat.testBit ((mskGo ops.toList []).getD i 0) x = true → listed.getD x true = true
  | 0, i, o, hn, _, _, _ => by omega
  | n + 1, i, o, hn, ho, hr, hb => by
    obtain ⟨e, he, h1, h2⟩ := msk_bit (by rw [Array.getElem?_toList]; exact ho) hb
    rcases h2 with h2 | h2
    · rw [← h2]; exact hr e he h1
    · have hlt := h.back i o ho e he h1
      cases ho2 : ops[e.on]? with
      | none =>
        have := (Array.getElem?_eq_some_iff.1 ho).1
        rw [Array.getElem?_eq_none_iff] at ho2; omega
      | some o2 => exact Rest.before h x n e.on o2 (by omega) ho2 (h.closed e.on o2 ho2 (hr e he h1)) h2

theorem chD_any {L : Nat → Option Blk → Prop} {w0 : World} {R0 : Nat → Prop} {ops : Array Oper} {K : St → Prop} {Q' : Exit → Act → World → Prop} (hQ : ∀ σ a w, In L w0 R0 N σ a w → K σ → Q' .normal a w) :
    ∀ (n : Nat) (c : List Item) (listed : Array Bool) (F : Nat → List Nat) {e h a w}, c.length = n → Rest ops c listed → (∀ x ∈ c, F x.i = []) → In L w0 R0 N ⟨e, h⟩ a w → ChD P N ops.toList K c F e h →
      wpAny P .any ops Q' n listed a w
  | 0, c, listed, F, e, h, a, w, hn, hr, hF, hi, hc => by
    have : c = [] := List.length_eq_zero_iff.1 hn
    subst this
    refine ⟨?_, hQ _ _ _ hi hc⟩
    unfold Region.ready
    rw [List.filter_eq_nil_iff]
    intro i hi'
    have hlt := List.mem_range.1 hi'
    have : listed.getD i true = true := by
      cases hl : listed.getD i true with
      | true => rfl
      | false => obtain ⟨x, hx, _⟩ := (hr.mem i hlt).1 hl; cases hx
    simp [this]
  | n + 1, c, listed, F, e, h, a, w, hn, hr, hF, hi, hc => by
    refine ⟨fun hnil => ?_, fun i hrd => ?_⟩
    · -- the first one is ready
      exfalso
      cases c with
      | nil => simp at hn
      | cons x c =>
        have hxlt := hr.lt x (by simp)
        obtain ⟨ox, hox⟩ : ∃ ox, ops[x.i]? = some ox := ⟨ops[x.i], Array.getElem?_eq_getElem hxlt⟩
        have hxl : listed.getD x.i true = false := (hr.mem _ hxlt).2 ⟨x, by simp, rfl⟩
        have hmem : x.i ∈ Region.ready .any ops listed := by
          unfold Region.ready
          rw [List.mem_filter]
          refine ⟨List.mem_range.2 hxlt, ?_⟩
          simp only [hxl, hox, Bool.not_false, Bool.true_and, Option.map_some, Option.getD_some, Array.all_eq_true']
          intro e' he'
          cases hb : Region.binds .any e' with
          | false => rfl
          | true =>
            simp only [Bool.not_true, Bool.false_or]
            have hlt := hr.back _ _ hox e' he' hb
            have hlt2 : e'.on < listed.size := by rw [hr.sz]; omega
            have key : listed.getD e'.on true = true := by
              cases hl : listed.getD e'.on true with
              | true => rfl
              | false =>
                obtain ⟨z, hz, hzi⟩ := (hr.mem _ (by omega)).1 hl
                rcases List.mem_cons.1 hz with rfl | hz
                · omega
                · have := List.rel_of_pairwise_cons hr.pw hz
                  unfold prB at this
                  rw [Array.getElem?_toList, hox] at this
                  simp only [Bool.and_eq_true, List.all_eq_true] at this
                  have := this.2 e' (by simpa using he')
                  rw [hb, hzi, Nat.beq_refl] at this
                  simp at this
            rw [Array.getD_eq_getD_getElem?, Array.getElem?_eq_getElem hlt2] at key ⊢
            exact key
        rw [hnil] at hmem; cases hmem
    · unfold Region.ready at hrd
      rw [List.mem_filter] at hrd
      obtain ⟨hlt, hrd⟩ := hrd
      have hlt := List.mem_range.1 hlt
      obtain ⟨oy, hoy⟩ : ∃ oy, ops[i]? = some oy := ⟨ops[i], Array.getElem?_eq_getElem hlt⟩
      simp only [hoy, Option.map_some, Option.getD_some, Bool.and_eq_true, Bool.not_eq_true', Array.all_eq_true', Bool.or_eq_true] at hrd
      obtain ⟨hun, hed⟩ := hrd
      have hed2 : ∀ e ∈ oy.after, Region.binds .any e = true → listed.getD e.on true = true := fun e' he' hb => by
        have h1 := hed e' he'
        rw [hb] at h1
        simp only [Bool.true_eq_false, false_or] at h1
        have hlt := hr.back _ _ hoy e' he' hb
        have hlt2 : e'.on < listed.size := by rw [hr.sz]; omega
        rw [Array.getD_eq_getD_getElem?, Array.getElem?_eq_getElem hlt2] at h1 ⊢
        exact h1
      obtain ⟨y, hy, rfl⟩ := (hr.mem i hlt).1 hun
      obtain ⟨pre, suf, rfl⟩ := List.append_of_mem hy
      have hpw := hr.pw
      rw [List.pairwise_append] at hpw
      obtain ⟨hp1, hp2, hp3⟩ := hpw
      have hdist : ∀ {a b : Item}, prB ops.toList (mskGo ops.toList []) a b = true → a.i ≠ b.i := fun hab e => by
        unfold prB at hab
        rw [e, Nat.beq_refl] at hab
        simp at hab
      have hnd : ((pre ++ y :: suf).map (·.i)).Nodup := by
        rw [List.nodup_iff_pairwise_ne, List.pairwise_map]
        exact hr.pw.imp hdist
      have hsw : ∀ x ∈ pre, swB ops.toList x y = true ∧ x.i ≠ y.i ∧ memN x.ws y.i = false ∧ F x.i = [] := by
        intro x hx
        have hpr := hp3 x hx y (by simp)
        have hd := hdist hpr
        unfold prB at hpr
        simp only [Bool.and_eq_true, Bool.or_eq_true, Bool.not_eq_true'] at hpr
        obtain ⟨⟨⟨_, h2⟩, h3⟩, _⟩ := hpr
        refine ⟨?_, hd, h2, hF x (by simp [hx])⟩
        rcases h3 with h3 | h3
        · exfalso
          have := hr.before x.i (y.i + 1) y.i oy (by omega) hoy hed2 h3
          rw [(hr.mem x.i (hr.lt x (by simp [hx]))).2 ⟨x, by simp [hx], rfl⟩] at this
          cases this
        · exact h3
      have hndp : (pre.map (·.i)).Nodup := by
        rw [List.map_append, List.nodup_append] at hnd
        exact hnd.1
      obtain ⟨hdk, hnm, hst⟩ := ext_y (by rw [Array.getElem?_toList]; exact hoy) hsw hndp hc
      refine stW_snd hoy hi hdk hst fun v hp a' w' hi' ⟨_, hch⟩ => ?_
      refine chD_any hQ n (pre ++ suf) _ _ (by simp at hn ⊢; omega) ?_ ?_ hi' hch
      · have hsub : (pre ++ suf).Sublist (pre ++ y :: suf) := List.Sublist.append (List.Sublist.refl _) (List.sublist_cons_self _ _)
        have hset : ∀ j, j < ops.size → (listed.setIfInBounds y.i true).getD j true = if j = y.i then true else listed.getD j true := fun j hj => by
          by_cases e : j = y.i
          · subst e; rw [if_pos rfl, Array.getD_eq_getD_getElem?, Array.getElem?_setIfInBounds_self_of_lt (by rw [hr.sz]; exact hj)]; rfl
          · rw [if_neg e, Array.getD_eq_getD_getElem?, Array.getElem?_setIfInBounds_ne (fun h => e h.symm), ← Array.getD_eq_getD_getElem?]
        refine ⟨hr.pw.sublist hsub, fun x hx => hr.lt x (hsub.subset hx), fun j hj => ?_, by simp [hr.sz], hr.back, fun j o hj hl e' he' hb => ?_⟩
        · rw [hset j hj]
          by_cases ej : j = y.i
          · subst ej
            rw [if_pos rfl]
            refine Iff.intro (fun h => nomatch h) (fun ⟨x, hx, hxi⟩ => ?_)
            exfalso
            rw [List.map_append, List.map_cons, List.nodup_append] at hnd
            obtain ⟨_, g2, g3⟩ := hnd
            have g2 := List.nodup_cons.1 g2
            rcases List.mem_append.1 hx with hx | hx
            · exact g3 _ (List.mem_map_of_mem (f := (·.i)) hx) _ (by simp) hxi
            · exact g2.1 (by show y.i ∈ _; rw [← hxi]; exact List.mem_map_of_mem (f := (·.i)) hx)
          · rw [if_neg ej, hr.mem j hj]
            refine ⟨fun ⟨x, hx, hxi⟩ => ⟨x, ?_, hxi⟩, fun ⟨x, hx, hxi⟩ => ⟨x, hsub.subset hx, hxi⟩⟩
            rcases List.mem_append.1 hx with hx | hx
            · exact List.mem_append.2 (.inl hx)
            · rcases List.mem_cons.1 hx with rfl | hx
              · exact absurd hxi.symm ej
              · exact List.mem_append.2 (.inr hx)
        · have hjlt := (Array.getElem?_eq_some_iff.1 hj).1
          have hlt := hr.back j o hj e' he' hb
          rw [hset j hjlt] at hl
          rw [hset e'.on (by omega)]
          by_cases ee : e'.on = y.i
          · rw [if_pos ee]
          · rw [if_neg ee]
            by_cases ej : j = y.i
            · subst ej
              rw [hoy] at hj; cases hj
              exact hed2 e' he' hb
            · rw [if_neg ej] at hl
              exact hr.closed j o hj hl e' he' hb
      · intro x hx
        have hxy : x.i ≠ y.i := fun e => by
          rw [List.map_append, List.map_cons, List.nodup_append] at hnd
          obtain ⟨_, g2, g3⟩ := hnd
          have g2 := List.nodup_cons.1 g2
          rcases List.mem_append.1 hx with hx | hx
          · exact g3 _ (List.mem_map_of_mem (f := (·.i)) hx) _ (by simp) e
          · exact g2.1 (by show y.i ∈ _; rw [← e]; exact List.mem_map_of_mem (f := (·.i)) hx)
        rw [upd_ne hxy]
        refine hF x ?_
        rcases List.mem_append.1 hx with hx | hx
        · exact List.mem_append.2 (.inl hx)
        · exact List.mem_append.2 (.inr (by simp [hx]))

/-- A region whose order is drawn: in the order that the list c tells. -/
theorem draw_intro {l : List Oper} {Q : St → Prop} {e : Nat → AV} {h : Nat → Ob} (hm : P.follows .mixedOrders = true) (c : List Item) (hok : okD l c = true) (hc : ChD P N l Q c (fun _ => []) e h) : @drawW P N ⟨l⟩ ⟨Q⟩ ⟨e, h⟩ := by
  intro id L w0 R0 a w hi
  refine wp_region_any hm ?_
  simp only [okD, Bool.and_eq_true, List.all_eq_true, Bool.not_eq_true', List.mem_range] at hok
  obtain ⟨⟨⟨⟨h1, h2⟩, h3⟩, h4⟩, h5⟩ := hok
  have hlen : c.length = l.length := Nat.eq_of_beq_eq_true h2
  have hi' : In L w0 R0 N ⟨e, h⟩ a { w with drawn := w.drawn + 1 } := by
    obtain ⟨R, ι, hR, hinv⟩ := hi.inv
    exact ⟨hi.df, hi.sz, R, ι, hR, hinv.drew⟩
  have hblt : ∀ {a b : Nat}, Nat.blt a b = true → a < b := fun h => by simp [Nat.blt] at h; omega
  refine chD_any (ops := ⟨l⟩) (K := Q) (fun σ a w hi hq => ⟨σ, hi, rfl, hq⟩) _ c _ (fun _ => []) (by simpa using hlen) ⟨pw_of h1, fun x hx => by simpa using hblt (h3 x hx).1, fun i hi => ?_, by simp, fun i o ho e' he' hb => ?_, fun i o ho hl => ?_⟩ (fun _ _ => rfl) hi' hc
  · have hi2 : i < l.length := by simpa using hi
    refine ⟨fun _ => ?_, fun _ => ?_⟩
    · have := memN_iff.1 (h4 i hi2)
      obtain ⟨x, hx, e'⟩ := List.mem_map.1 this
      exact ⟨x, hx, e'⟩
    · rw [Array.getD_eq_getD_getElem?]
      have hi3 : i < (Array.mk l).size := hi
      show ((Array.replicate (Array.mk l).size false)[i]?).getD true = false
      rw [Array.getElem?_replicate, if_pos hi3]; rfl
  · have hi2 : i < l.length := by have := (Array.getElem?_eq_some_iff.1 ho).1; simpa using this
    have := h5 i hi2
    rw [show l[i]? = some o by simpa using ho] at this
    have this := List.all_eq_true.1 this e' (by simpa using he')
    rw [hb] at this
    exact hblt (by simpa using this)
  · have hi2 := (Array.getElem?_eq_some_iff.1 ho).1
    have hl2 : ((Array.replicate (Array.mk l).size false)[i]?).getD true = true := by rw [← Array.getD_eq_getD_getElem?]; exact hl
    rw [Array.getElem?_replicate, if_pos hi2] at hl2; cases hl2

end
end Go.Ab
namespace Go.Ab
open Go
set_option linter.unusedVariables false

def nnW [op : Bx Op] (l : List AV) : Prop := noNm op.v l
def nomW [op : Bx Op] (l : List AV) (wa : List Nat) : Prop := nomOk op.v l wa
def fpW [op : Bx Op] (e : Nat → AV) : List Nat := fps op.v e
def opsW [op : Bx Op] (e : Nat → AV) : List AV := evL e (opnds op.v)
def allK : List Nat → (Nat → Prop) → Prop
  | [], _ => True
  | k :: r, p => p k ∧ allK r p
def sameW (h hp : Nat → Ob) : List Nat → Prop
  | [] => True
  | m :: r => hp m = h m ∧ sameW h hp r

def DrC (P : Program) (N : Nat) [l0 : Bx (List Oper)] [c : Bx (List Item)] [Q : Bx (St → Prop)] (F : Nat → List Nat) (e : Nat → AV) (h : Nat → Ob) : Prop := ChD P N l0.v Q.v c.v F e h
def nthW [l : Bx (List Oper)] (i : Nat) [K : Bx (Oper → Prop)] : Prop := match l.v[i]? with
  | none => False
  | some o => K.v o
def stpW (P : Program) [l0 : Bx (List Oper)] [o : Bx Oper] [K : Bx KV] (e : Nat → AV) (h : Nat → Ob) : Prop := stW P l0.v o.v K.v e h

section
variable {P : Program} {N : Nat} {e : Nat → AV} {h hp : Nat → Ob} {l : List AV} {l0 : List Oper} {F : Nat → List Nat} {Q : St → Prop}

theorem noTop_nil {c : Nat} : noTop c [] = True := _root_.id rfl
theorem noTop_v {c : Nat} {x : Value} {r : List AV} : noTop c (.v x :: r) = noTop c r := by simp [noTop, AV.top]
theorem noTop_un {c : Nat} {r : List AV} : noTop c (.un :: r) = noTop c r := by simp [noTop, AV.top]
theorem noTop_sl {c n : Nat} {cs r : List AV} : noTop c (.sl n cs :: r) = noTop c r := by simp [noTop, AV.top]
theorem noTop_fp {c o : Nat} {cs r : List AV} : noTop c (.fp cs o :: r) = noTop c r := by simp [noTop, AV.top]
theorem noTop_ag {c : Nat} {cs r : List AV} : noTop c (.ag cs :: r) = noTop c r := by simp [noTop, AV.top]
theorem noTop_tu {c : Nat} {cs r : List AV} : noTop c (.tu cs :: r) = noTop c r := by simp [noTop, AV.top]
theorem noTop_fn {c f : Nat} {cs r : List AV} : noTop c (.fn f cs :: r) = noTop c r := by simp [noTop, AV.top]
theorem noTop_rf {c m o n : Nat} {r : List AV} : noTop c (.rf m o n :: r) = (m ≠ c ∧ noTop c r) := by simp [noTop, AV.top]
theorem noTop_pt {c m o : Nat} {r : List AV} : noTop c (.pt m o :: r) = (m ≠ c ∧ noTop c r) := by simp [noTop, AV.top]
theorem allK_nil {p : Nat → Prop} : allK [] p = True := _root_.id rfl
theorem allK_cons {k : Nat} {r : List Nat} {p : Nat → Prop} : allK (k :: r) p = (p k ∧ allK r p) := _root_.id rfl
theorem sameW_nil : sameW h hp [] = True := _root_.id rfl
theorem sameW_cons {m : Nat} {r : List Nat} : sameW h hp (m :: r) = (hp m = h m ∧ sameW h hp r) := _root_.id rfl
theorem sameW_iff {l : List Nat} : sameW h hp l ↔ ∀ m ∈ l, hp m = h m := by
  induction l with
  | nil => simp [sameW]
  | cons m r ih => simp [sameW, ih]
theorem allK_iff {l : List Nat} {p : Nat → Prop} : allK l p ↔ ∀ m ∈ l, p m := by
  induction l with
  | nil => simp [allK]
  | cons m r ih => simp [allK, ih]
theorem fpOk_nil : fpOk F h hp [] = True := _root_.id rfl
theorem fpOk_cons {j : Nat} {r : List Nat} : fpOk F h hp (j :: r) = (sameW h hp (F j) ∧ fpOk F h hp r) := by
  simp only [fpOk, eq_iff_iff, sameW_iff]
theorem nom_nil {op : Op} : @nomW ⟨op⟩ l [] = True := by simp [nomW, nomOk]
theorem nom_cons {op : Op} {c : Nat} {r : List Nat} : @nomW ⟨op⟩ l (c :: r) = (allK (c :: r) (fun c => noTop c l) ∧ @nnW ⟨op⟩ l) := by
  simp only [nomW, nomOk, nnW, eq_iff_iff, allK_iff]
  exact ⟨fun h => ⟨h.1, h.2 (by simp)⟩, fun h => ⟨h.1, fun _ => h.2⟩⟩
theorem topsL_nil : topsL [] = [] := _root_.id rfl
theorem topsL_rf {m o n : Nat} {r : List AV} : topsL (.rf m o n :: r) = m :: topsL r := _root_.id rfl
theorem topsL_pt {m o : Nat} {r : List AV} : topsL (.pt m o :: r) = m :: topsL r := _root_.id rfl
theorem topsL_v {x : Value} {r : List AV} : topsL (.v x :: r) = topsL r := _root_.id rfl
theorem topsL_sl {n : Nat} {cs r : List AV} : topsL (.sl n cs :: r) = topsL r := _root_.id rfl
theorem topsL_fp {o : Nat} {cs r : List AV} : topsL (.fp cs o :: r) = topsL r := _root_.id rfl
theorem topsL_ag {cs r : List AV} : topsL (.ag cs :: r) = topsL r := _root_.id rfl
theorem topsL_un {r : List AV} : topsL (.un :: r) = topsL r := _root_.id rfl
theorem nth_zero {o : Oper} {r : List Oper} {K : Oper → Prop} : @nthW ⟨o :: r⟩ 0 ⟨K⟩ = K o := _root_.id rfl
theorem nth_succ {o : Oper} {r : List Oper} {n : Nat} {K : Oper → Prop} : @nthW ⟨o :: r⟩ (n + 1) ⟨K⟩ = @nthW ⟨r⟩ n ⟨K⟩ := _root_.id rfl
theorem DrC_nil : @DrC P N ⟨l0⟩ ⟨[]⟩ ⟨Q⟩ F e h = Q ⟨e, h⟩ := _root_.id rfl
theorem DrC_cons {i : Nat} {ws wa : List Nat} {c : List Item} : @DrC P N ⟨l0⟩ ⟨⟨i, ws, wa⟩ :: c⟩ ⟨Q⟩ F e h = @nthW ⟨l0⟩ i ⟨fun o => dOk N o.dst ∧ @nomW ⟨o.op⟩ (@opsW ⟨o.op⟩ e) wa ∧ @stpW P ⟨l0⟩ ⟨o⟩ ⟨fun v hp => fpOk F h hp ws ∧ @DrC P N ⟨l0⟩ ⟨c⟩ ⟨Q⟩ (upd F i (@fpW ⟨o.op⟩ e)) (putE e o.dst v) hp⟩ e h⟩ := by
  show ChD P N l0 Q (⟨i, ws, wa⟩ :: c) F e h = _
  simp only [ChD, nthW]
  cases l0[i]? <;> rfl
theorem dOk_some {d : Nat} : dOk N (some d) = (d < N) := _root_.id rfl
theorem dOk_none : dOk N none = True := _root_.id rfl
theorem putE_some {d : Nat} {v : AV} : putE e (some d) v = upd e d v := _root_.id rfl
theorem putE_none {v : AV} : putE e none v = e := _root_.id rfl
theorem stp_none {d : Option Nat} {op : Op} {ty : Nat} {pos : String} {af : Array Edge} {K : KV} : @stpW P ⟨l0⟩ ⟨⟨d, op, ty, pos, af, none⟩⟩ ⟨K⟩ e h = @Op1 P ⟨d⟩ ⟨op⟩ ⟨K⟩ e h := _root_.id rfl
theorem stp_some {d : Option Nat} {op : Op} {ty : Nat} {pos : String} {af : Array Edge} {j : Nat} {w : Bool} {K : KV} : @stpW P ⟨l0⟩ ⟨⟨d, op, ty, pos, af, some (j, w)⟩⟩ ⟨K⟩ e h = @grdW ⟨l0⟩ j w e ⟨fun c => @ifW c ⟨@Op1 P ⟨d⟩ ⟨op⟩ ⟨K⟩ e h⟩ ⟨K (.v (.tuple ⟨[]⟩)) h⟩⟩ := _root_.id rfl
theorem draw_of {l : List Oper} {Q : St → Prop} (hm : P.follows .mixedOrders = true) (c : List Item) (hok : okD l c = true) (hc : @DrC P N ⟨l⟩ ⟨c⟩ ⟨Q⟩ (fun _ => []) e h) : @drawW P N ⟨l⟩ ⟨Q⟩ ⟨e, h⟩ := draw_intro hm c hok hc
theorem nn_move {x : Operand} : @nnW ⟨.move x⟩ l = True := _root_.id rfl
theorem fpo_move {x : Operand} : @fpW ⟨.move x⟩ e = [] := _root_.id rfl
theorem nn_assign {x : Operand} : @nnW ⟨.assign x⟩ l = True := _root_.id rfl
theorem fpo_assign {x : Operand} : @fpW ⟨.assign x⟩ e = [] := _root_.id rfl
theorem nn_pick {c a b : Operand} : @nnW ⟨.pick c a b⟩ l = True := _root_.id rfl
theorem fpo_pick {c a b : Operand} : @fpW ⟨.pick c a b⟩ e = [] := _root_.id rfl
theorem nn_binOp {o : BinOp} {t u : Nat} {x y : Operand} : @nnW ⟨.binOp o t x y u⟩ l = True := _root_.id rfl
theorem fpo_binOp {o : BinOp} {t u : Nat} {x y : Operand} : @fpW ⟨.binOp o t x y u⟩ e = [] := _root_.id rfl
theorem nn_unOp {o : UnOp} {t : Nat} {x : Operand} : @nnW ⟨.unOp o t x⟩ l = True := _root_.id rfl
theorem fpo_unOp {o : UnOp} {t : Nat} {x : Operand} : @fpW ⟨.unOp o t x⟩ e = [] := _root_.id rfl
theorem nn_alloc {t : Nat} : @nnW ⟨.alloc t⟩ l = True := _root_.id rfl
theorem fpo_alloc {t : Nat} : @fpW ⟨.alloc t⟩ e = [] := _root_.id rfl
theorem nn_box {t : Nat} {x : Operand} : @nnW ⟨.box t x⟩ l = True := _root_.id rfl
theorem fpo_box {t : Nat} {x : Operand} : @fpW ⟨.box t x⟩ e = [] := _root_.id rfl
theorem nn_build {t : Nat} {ps : Array (Nat × Operand)} : @nnW ⟨.build t ps⟩ l = True := _root_.id rfl
theorem fpo_build {t : Nat} {ps : Array (Nat × Operand)} : @fpW ⟨.build t ps⟩ e = [] := _root_.id rfl
theorem nn_buildSlice {t n : Nat} {ps : Array (Nat × Operand)} : @nnW ⟨.buildSlice t n ps⟩ l = True := _root_.id rfl
theorem fpo_buildSlice {t n : Nat} {ps : Array (Nat × Operand)} : @fpW ⟨.buildSlice t n ps⟩ e = [] := _root_.id rfl
theorem nn_store {t : Nat} {a x : Operand} : @nnW ⟨.store t a x⟩ l = True := _root_.id rfl
theorem fpo_store {t : Nat} {a x : Operand} : @fpW ⟨.store t a x⟩ e = [] := _root_.id rfl
theorem nn_fieldAddr {s f : Nat} {x : Operand} : @nnW ⟨.fieldAddr s x f⟩ l = True := _root_.id rfl
theorem fpo_fieldAddr {s f : Nat} {x : Operand} : @fpW ⟨.fieldAddr s x f⟩ e = [] := _root_.id rfl
theorem nn_field {s f : Nat} {x : Operand} : @nnW ⟨.field s x f⟩ l = True := _root_.id rfl
theorem fpo_field {s f : Nat} {x : Operand} : @fpW ⟨.field s x f⟩ e = [] := _root_.id rfl
theorem nn_indexAddr {t : Nat} {x i : Operand} : @nnW ⟨.indexAddr t x i⟩ l = True := _root_.id rfl
theorem fpo_indexAddr {t : Nat} {x i : Operand} : @fpW ⟨.indexAddr t x i⟩ e = [] := _root_.id rfl
theorem nn_makeSlice {t : Nat} {x c : Operand} : @nnW ⟨.makeSlice t x c⟩ l = True := _root_.id rfl
theorem fpo_makeSlice {t : Nat} {l c : Operand} : @fpW ⟨.makeSlice t l c⟩ e = [] := _root_.id rfl
theorem nn_extract {x : Operand} {i : Nat} : @nnW ⟨.extract x i⟩ l = True := _root_.id rfl
theorem fpo_extract {x : Operand} {i : Nat} : @fpW ⟨.extract x i⟩ e = [] := _root_.id rfl
theorem nn_makeFunc {f : Fn} {a c : Array Operand} : @nnW ⟨.makeFunc f a c⟩ l = True := _root_.id rfl
theorem fpo_makeFunc {f : Fn} {a c : Array Operand} : @fpW ⟨.makeFunc f a c⟩ e = [] := _root_.id rfl
theorem nn_nilCheck {x : Operand} : @nnW ⟨.nilCheck x⟩ l = True := _root_.id rfl
theorem fpo_nilCheck {x : Operand} : @fpW ⟨.nilCheck x⟩ e = [] := _root_.id rfl
theorem nn_builtin {b : Builtin} {aa0 : Array Operand} {ts : Array Nat} : @nnW ⟨.call ⟨.builtin b, aa0, ts⟩⟩ l = True := _root_.id rfl
theorem fpo_builtin {b : Builtin} {aa0 : Array Operand} {ts : Array Nat} : @fpW ⟨.call ⟨.builtin b, aa0, ts⟩⟩ e = [] := _root_.id rfl
theorem nn_call {x : Operand} {aa0 : Array Operand} {ts : Array Nat} : @nnW ⟨.call ⟨.value x, aa0, ts⟩⟩ l = AllL (fun _ => False) l := _root_.id rfl
theorem fpo_call {x : Operand} {aa0 : Array Operand} {ts : Array Nat} : @fpW ⟨.call ⟨.value x, aa0, ts⟩⟩ e = [] := _root_.id rfl
theorem nn_load {t : Nat} {x : Operand} : @nnW ⟨.load t x⟩ l = True := _root_.id rfl
theorem fpo_load {t : Nat} {x : Operand} : @fpW ⟨.load t x⟩ e = topsL [evW e x] := _root_.id rfl
theorem nn_convert {s t : Nat} {x : Operand} : @nnW ⟨.convert s t x⟩ l = True := _root_.id rfl
theorem fpo_convert {s t : Nat} {x : Operand} : @fpW ⟨.convert s t x⟩ e = topsL [evW e x] := _root_.id rfl
theorem nn_slice {t : Nat} {x : Operand} {lo hi : Option Operand} : @nnW ⟨.slice t x lo hi none⟩ l = True := _root_.id rfl
theorem fpo_slice {t : Nat} {x : Operand} {lo hi : Option Operand} : @fpW ⟨.slice t x lo hi none⟩ e = topsL [evW e x] := _root_.id rfl
theorem ow_move {x : Operand} : @opsW ⟨.move x⟩ e = [evW e x] := _root_.id rfl
theorem ow_assign {x : Operand} : @opsW ⟨.assign x⟩ e = [evW e x] := _root_.id rfl
theorem ow_pick {c a b : Operand} : @opsW ⟨.pick c a b⟩ e = [evW e c, evW e a, evW e b] := _root_.id rfl
theorem ow_binOp {o : BinOp} {t u : Nat} {x y : Operand} : @opsW ⟨.binOp o t x y u⟩ e = [evW e x, evW e y] := _root_.id rfl
theorem ow_unOp {o : UnOp} {t : Nat} {x : Operand} : @opsW ⟨.unOp o t x⟩ e = [evW e x] := _root_.id rfl
theorem ow_alloc {t : Nat} : @opsW ⟨.alloc t⟩ e = [] := _root_.id rfl
theorem ow_box {t : Nat} {x : Operand} : @opsW ⟨.box t x⟩ e = [evW e x] := _root_.id rfl
theorem ow_store {t : Nat} {a x : Operand} : @opsW ⟨.store t a x⟩ e = [evW e a, evW e x] := _root_.id rfl
theorem ow_fieldAddr {s f : Nat} {x : Operand} : @opsW ⟨.fieldAddr s x f⟩ e = [evW e x] := _root_.id rfl
theorem ow_field {s f : Nat} {x : Operand} : @opsW ⟨.field s x f⟩ e = [evW e x] := _root_.id rfl
theorem ow_indexAddr {t : Nat} {x i : Operand} : @opsW ⟨.indexAddr t x i⟩ e = [evW e x, evW e i] := _root_.id rfl
theorem ow_makeSlice {t : Nat} {l c : Operand} : @opsW ⟨.makeSlice t l c⟩ e = [evW e l, evW e c] := _root_.id rfl
theorem ow_extract {x : Operand} {i : Nat} : @opsW ⟨.extract x i⟩ e = [evW e x] := _root_.id rfl
theorem ow_nilCheck {x : Operand} : @opsW ⟨.nilCheck x⟩ e = [evW e x] := _root_.id rfl
theorem ow_load {t : Nat} {x : Operand} : @opsW ⟨.load t x⟩ e = [evW e x] := _root_.id rfl
theorem ow_convert {s t : Nat} {x : Operand} : @opsW ⟨.convert s t x⟩ e = [evW e x] := _root_.id rfl
theorem ow_slice00 {t : Nat} {x : Operand} : @opsW ⟨.slice t x none none none⟩ e = [evW e x] := _root_.id rfl
theorem ow_slice10 {t : Nat} {x a : Operand} : @opsW ⟨.slice t x (some a) none none⟩ e = [evW e x, evW e a] := _root_.id rfl
theorem ow_slice01 {t : Nat} {x a : Operand} : @opsW ⟨.slice t x none (some a) none⟩ e = [evW e x, evW e a] := _root_.id rfl
theorem ow_slice11 {t : Nat} {x a b : Operand} : @opsW ⟨.slice t x (some a) (some b) none⟩ e = [evW e x, evW e a, evW e b] := _root_.id rfl
theorem ow_builtin {b : Builtin} {aa0 : List Operand} {ts : Array Nat} : @opsW ⟨.call ⟨.builtin b, ⟨aa0⟩, ts⟩⟩ e = evL e aa0 := _root_.id rfl
theorem ow_call {x : Operand} {aa0 : List Operand} {ts : Array Nat} : @opsW ⟨.call ⟨.value x, ⟨aa0⟩, ts⟩⟩ e = evW e x :: evL e aa0 := _root_.id rfl
theorem ow_build {t : Nat} {ps : List (Nat × Operand)} : @opsW ⟨.build t ⟨ps⟩⟩ e = evL e (ps.map (·.2)) := _root_.id rfl
theorem ow_buildSlice {t n : Nat} {ps : List (Nat × Operand)} : @opsW ⟨.buildSlice t n ⟨ps⟩⟩ e = evL e (ps.map (·.2)) := _root_.id rfl
theorem ow_makeFunc {f : Fn} {a : Array Operand} {c : List Operand} : @opsW ⟨.makeFunc f a ⟨c⟩⟩ e = evL e c := _root_.id rfl
end
end Go.Ab
namespace Go.Ab
open Go

-- the simplifier's words for walking
attribute [go_sem] W_skip W_region W_draw W_seq W_cond W_block W_loop W_exit W_ret then_normal
attribute [go_sem] then_exit then_ret blk_normal blk_ret blk_hit blk_miss ret_normal ret_ret if_t if_f
attribute [go_sem] cond_v bool_v bool_u Ch_nil Ch_some Ch_none Ch_gsome grd_zero grd_succ O_move O_assign
attribute [go_sem high] bin_and1
attribute [go_sem] bin_and bin_or bin_eqb bin_neb nilc_sl nilc_rf nilc_nil niln_sl niln_rf niln_nil O_binI O_binS O_binB O_binN eq_self
attribute [go_sem] O_pick O_bin O_un O_alloc O_box O_build O_buildSlice O_load O_store O_fieldAddr
attribute [go_sem] O_field O_indexAddr O_slice00 O_slice10 O_slice01 O_slice11 O_makeSlice O_extract O_makeFunc O_nilCheck
attribute [go_sem] O_convert O_builtin O_builtin0 O_call O_call0 ev_tmp ev_func ev_int ev_bool ev_str
attribute [go_sem] ev_nil ev_ptr ev_agg evL_nil evL_cons evP_nil evP_cons own_own int_v pick_v
attribute [go_sem] bin_add bin_sub bin_mul bin_quo bin_rem bin_shl bin_shr bin_eql bin_neq bin_lss
attribute [go_sem] bin_leq bin_gtr bin_geq un_neg un_not load_pt load_lit store_pt addr_pt addr_fp
attribute [go_sem] fld_ag idx_sl idx_rf bnd_none bnd_some slc_sl slc_rf nil_pt nil_fp ext_tu
attribute [go_sem] mk_v fill_nil fill_cons len_sl len_rf len_nil len_str src_sl src_rf src_nil
attribute [go_sem] src_str new_int new_sli new_str app_rf app_nil cpy_rf blt_len blt_max blt_min
attribute [go_sem] blt_append blt_copy val_fn conv_int cells_int cells_bool cells_string cells_nil cells_sl cells_rf
attribute [go_sem] cells_pt cells_fp cells_ag cells_fn ck_nil ck_int ck_bool ck_string ck_slice ck_sl
attribute [go_sem] ck_rf ck_fn ck_app rd_f rd_t gd_zero gd_succ wr_nil wr_zero wr_succ
attribute [go_sem] cut_nil cut_succ cut_zero load_ints res_nil res_tmp res_cell eq_t eq_f upd_eq
attribute [go_sem] ofL_cons ofL_nil ofH_cons ofH_nil argE_cons chp_hi chp_lo chp_500 chp_501 chp_502
attribute [go_sem] ints_length ints_cut ints_app ints_wr ints_zrow ints_ck ints_all wrap_id zrowL_zero zrowL_succ
attribute [go_sem] ints_nil ints_snoc lent_no Int.tdiv_eq_ediv_of_nonneg Int.tmod_eq_emod_of_nonneg leE_nil leE_cons leL_nil leL_cons leH_nil
attribute [go_sem] leH_cons rhoL_nil rhoL_cons memK_nil memK_cons enumH_eq enumF_nil enumF_cons ren_un ren_v
attribute [go_sem] ren_sl ren_fp ren_rf ren_pt ren_ag ren_tu ren_fn renL_nil renL_cons renL_ints
attribute [go_sem] Oren_own all_un all_v all_sl all_fp all_rf all_pt all_ag all_tu all_fn
attribute [go_sem] allL_nil allL_cons allL_ints snap_un snap_int snap_bool snap_string snap_nil snap_sl snap_fp
attribute [go_sem] snap_ag snap_fn snap_rf snap_pt snap_ints snp_un snp_int snp_bool snp_string snp_nil
attribute [go_sem] snp_sl snp_rf snp_pt snp_rfx idx_cons idx_nil hpx_t hpx_f back_eq snpL_rf0
attribute [go_sem] snpL_pt0 snpL_rf1 snpL_pt1 snpL_one rho_lo rho_500 rho_501 addH_nil addH_cons freeN_nil
attribute [go_sem] freeN_cons updB_nil updB_cons tupA_one tupA_nil tupA_two kdagg_int kdagg_bool kdagg_str kdagg_sli
attribute [go_sem] kdagg_stru kdagg_oth placeE_eq noTop_nil noTop_v noTop_un noTop_sl noTop_fp noTop_ag noTop_tu
attribute [go_sem] noTop_fn noTop_rf noTop_pt allK_nil allK_cons sameW_nil sameW_cons fpOk_nil fpOk_cons nom_nil
attribute [go_sem] nom_cons topsL_nil topsL_rf topsL_pt topsL_v topsL_sl topsL_fp topsL_ag topsL_un nth_zero
attribute [go_sem] nth_succ DrC_nil DrC_cons dOk_some dOk_none putE_some putE_none stp_none stp_some nn_move
attribute [go_sem] fpo_move nn_assign fpo_assign nn_pick fpo_pick nn_binOp fpo_binOp nn_unOp fpo_unOp nn_alloc
attribute [go_sem] fpo_alloc nn_box fpo_box nn_build fpo_build nn_buildSlice fpo_buildSlice nn_store fpo_store nn_fieldAddr
attribute [go_sem] fpo_fieldAddr nn_field fpo_field nn_indexAddr fpo_indexAddr nn_makeSlice fpo_makeSlice nn_extract fpo_extract nn_makeFunc
attribute [go_sem] fpo_makeFunc nn_nilCheck fpo_nilCheck nn_builtin fpo_builtin nn_call fpo_call nn_load fpo_load nn_convert
attribute [go_sem] fpo_convert nn_slice fpo_slice ow_move ow_assign ow_pick ow_binOp ow_unOp ow_alloc ow_box
attribute [go_sem] ow_store ow_fieldAddr ow_field ow_indexAddr ow_makeSlice ow_extract ow_nilCheck ow_load ow_convert ow_slice00
attribute [go_sem] ow_slice10 ow_slice01 ow_slice11 ow_builtin ow_call ow_build ow_buildSlice ow_makeFunc true_and and_true
attribute [go_sem] cond_true cond_false decide_true decide_false Bool.not_true Bool.not_false ne_eq not_false_eq_true not_true_eq_false List.length_cons
attribute [go_sem] List.length_nil Nat.zero_add Nat.add_zero Nat.mul_one Nat.one_ne_zero List.append_nil Int.toNat_natCast Int.natCast_zero Int.toNat_zero List.replicate_zero
attribute [go_sem] Int.cast_ofNat_Int List.take_length List.drop_zero Nat.le_refl List.take_nil List.drop_nil List.map_cons List.map_nil List.cons_append List.nil_append
attribute [go_sem] true_or or_true false_or or_false Option.map_some Option.map_none Option.getD_some Option.isSome_some Option.isSome_none AV.v.injEq
attribute [go_sem] AV.rf.injEq AV.pt.injEq AV.sl.injEq Value.int.injEq Ob.own.injEq List.cons.injEq implies_true
attribute [go_sem ↓] reduceIte
attribute [go_sem] Int.reduceToNat Nat.reduceEqDiff Nat.reduceAdd Nat.reduceMul Nat.reduceSub Nat.reducePow Nat.reduceLT Nat.reduceLeDiff Int.reduceNeg Int.reduceEq
attribute [go_sem] Int.reduceLT Int.reduceLE reduceCtorEq
end Go.Ab
namespace Go.Ab
open Go
set_option linter.unusedVariables false

section
variable {P : Program} {f : FuncId} {args : List AV} {post : AV → List Ob → List Ob → Prop}

/-- What is new is given to nobody who would write there. -/
theorem Con.frz (h : Con P f false args [] post) : Con P f false args [] (fun r' hs' bs' => hs' = [] ∧ bs' = [] ∧ ∃ r hs, post r hs [] ∧ r' = snap (rhp hs []) 6 r) := by
  intro R ι w vs h1 h2 h3 h4 h5
  refine (h R ι w vs h1 h2 h3 h4 h5).mono ?_
  rintro e w' ⟨x, r, hs, bs', R', ι', he, hp, hF⟩
  have hb : bs' = [] := List.length_eq_zero_iff.1 (by simpa using hF.len)
  subst hb
  have hfree : ∀ m, 10000000 ≤ m → rhp hs [] m = .free := fun m hm => by simp [rhp, hm]
  have hO : HpOk R' ι' w' (rhp hs []) := by
    refine ⟨fun m => ?_, fun m z cs B e hB hr => hF.nR m z cs B e hB (.inr hr), hF.inj, hF.men⟩
    rcases Nat.lt_or_ge m 10000000 with hm | hm
    · exact hF.okF m hm
    · rw [hfree m hm]; trivial
  have hown : ∀ {m z cs B}, rhp hs [] m = .own z cs → ι' m = some B → w.heap.size ≤ B.b ∧ B.b < w'.heap.size := by
    intro m z cs B e hB
    have hm : m < 10000000 := by
      rcases Nat.lt_or_ge m 10000000 with hm | hm
      · exact hm
      · rw [hfree m hm] at e; cases e
    refine ⟨hF.fresh m z cs B hm e hB, ?_⟩
    have := hF.okF m hm
    rw [e, hB] at this
    obtain ⟨c, T, lo, hi, g1, _⟩ := this
    rcases Nat.lt_or_ge B.b w'.heap.size with h' | h'
    · exact h'
    · simp [Array.getElem?_eq_none h'] at g1
  refine ⟨x, snap (rhp hs []) 6 r, [], [], fun b => R' b ∨ OwnB (rhp hs []) ι' b, ι', he, ⟨rfl, rfl, r, hs, hp, rfl⟩, ?_⟩
  have hnil : ∀ m, rhp [] [] m = .free := fun m => by simp [rhp]
  refine ⟨hF.ext, fun b hb => ?_, fun b hb => ?_, .fr _ _ (snap_rep hO (fun _ h => .inl h) (fun _ h => .inr h) 6 hF.rep), snap_all 6 r, fun m _ => ?_, fun m _ => ?_, fun m z cs B e => ?_, fun m m' z z' cs cs' B B' e => ?_, fun m z cs e => ?_, fun m z cs B _ e => ?_, rfl, hF.bown, fun i hi => by simp at hi⟩
  · rcases hb with hb | ⟨m, z, cs, B, e, hB, rfl⟩
    · exact hF.rlt b hb
    · exact (hown e hB).2
  · rcases hb with hb | ⟨m, z, cs, B, e, hB, rfl⟩
    · exact hF.rnew b hb
    · exact .inl (hown e hB).1
  · rw [hnil]; trivial
  · rw [hnil]; trivial
  all_goals (rw [hnil] at e; cases e)

/-- A new row of numbers, or nil. -/
def numR (l : List Int) : AV → List Ob → List Ob → Prop := fun r hs bs =>
  (l = [] ∧ r = .v (.slice none 0 0) ∧ hs = []) ∨ ∃ zs, r = .rf 0 0 l.length ∧ hs = [.own 1 (ints (l ++ zs))]

def numF (l : List Int) : AV → List Ob → List Ob → Prop := fun r hs bs => r = .sl l.length (ints l) ∧ hs = [] ∧ bs = []

theorem Con.num {l : List Int} (h : Con P f false args [] (numR l)) : Con P f false args [] (numF l) :=
  h.frz.mono fun r hs bs ⟨h1, h2, r0, hs0, h3, h4⟩ => by
    refine ⟨?_, h1, h2⟩
    rcases h3 with ⟨rfl, rfl, rfl⟩ | ⟨zs, rfl, rfl⟩
    · rw [h4]; rfl
    · rw [h4]
      show AV.sl l.length ((cut (ints (l ++ zs)) 0 (l.length * 1)).map (snap _ 5)) = _
      rw [ints_cut, List.drop_zero, Nat.mul_one, List.take_left' rfl, snap_ints]

/-- A new row of bytes, or nil. -/
def bytR (l : List UInt8) : AV → List Ob → List Ob → Prop := fun r hs bs =>
  (l = [] ∧ r = .v (.slice none 0 0) ∧ hs = []) ∨ ∃ zs, r = .rf 0 0 l.length ∧ hs = [.own 1 (bytesA (l ++ zs))]

def bytF (l : List UInt8) : AV → List Ob → List Ob → Prop := fun r hs bs => r = .sl l.length (bytesA l) ∧ hs = [] ∧ bs = []

theorem bytes_length (l : List UInt8) : (bytesA l).length = l.length := by simp [bytesA]
theorem bytes_cut {xs : List UInt8} {o n : Nat} : cut (bytesA xs) o n = bytesA ((xs.drop o).take n) := by simp [cut, bytesA]
theorem bytes_app {xs ys : List UInt8} : bytesA xs ++ bytesA ys = bytesA (xs ++ ys) := by simp [bytesA]
theorem bytes_snap {h : Nat → Ob} {k : Nat} {xs : List UInt8} : (bytesA xs).map (snap h (k + 1)) = bytesA xs := by simp [bytesA, snap_int]
theorem bytes_wr {xs : List UInt8} {o : Nat} {b : UInt8} : wr (bytesA xs) o [.v (.int .u8 b.toNat)] = bytesA (xs.set o b) := by
  simp [wr, bytesA, List.map_set]
theorem bytes_ck {xs : List UInt8} : cellOk (bytesA xs) = True := by
  simp only [eq_iff_iff, iff_true]; intro k hk; obtain ⟨n, _, rfl⟩ := List.mem_map.1 hk; rfl
theorem bytes_ren {ρ : Nat → Nat} {xs : List UInt8} : renL ρ (bytesA xs) = bytesA xs := by simp [renL_map, bytesA, AV.ren]
theorem bytes_all {p : Nat → Prop} {xs : List UInt8} : AllL p (bytesA xs) = True := by
  simp only [eq_iff_iff, iff_true]; exact AllL.of_mem fun a ha => by obtain ⟨n, _, rfl⟩ := List.mem_map.1 ha; simp [AV.All]
theorem bytes_get {xs : List UInt8} {o : Nat} (ho : o < xs.length) : (bytesA xs).getD o .un = .v (.int .u8 (xs.getD o 0).toNat) := by
  simp [bytesA, List.getD_eq_getElem?_getD, List.getElem?_eq_getElem ho]
theorem load_bytes {h : Nat → Ob} {sz o : Nat} {xs : List UInt8} {K : AV → Prop} : @loadW false sz h (.fp (bytesA xs) o) ⟨K⟩ = (o < xs.length ∧ K (.v (.int .u8 (xs.getD o 0).toNat))) := by
  rw [load_fp, rd_f, cond_false, bytes_length]
  refine propext ⟨fun ⟨h1, h2⟩ => ?_, fun ⟨h1, h2⟩ => ?_⟩
  · rw [bytes_get (by omega)] at h2; exact ⟨by omega, h2⟩
  · rw [bytes_get h1]; exact ⟨by omega, h2⟩

end

theorem pu_ints {l : List Int} : AV.pu.puL (ints l) = True := by
  simp only [eq_iff_iff, iff_true]
  induction l with
  | nil => simp [ints, AV.pu.puL]
  | cons x r ih => exact ⟨trivial, ih⟩
/-- A number as a slice that nobody writes. -/
def nsl (n : Nat) : AV := .sl (lim n).length (ints (lim n))

attribute [go_sem] bytes_wr bytes_length bytes_cut bytes_app bytes_snap bytes_ck bytes_ren bytes_all load_bytes
end Go.Ab
namespace Go.Ab
open Go
set_option linter.unusedVariables false

mutual
theorem ren_id : ∀ a : AV, a.ren (fun m => m) = a
  | .un | .v _ | .sl _ _ | .fp _ _ | .rf _ _ _ | .pt _ _ => rfl
  | .ag cs => by simp only [AV.ren, renL_id cs]
  | .tu cs => by simp only [AV.ren, renL_id cs]
  | .fn _ cs => by simp only [AV.ren, renL_id cs]
theorem renL_id : ∀ cs : List AV, renL (fun m => m) cs = cs
  | [] => rfl
  | a :: r => by simp only [renL, ren_id a, renL_id r]
end

section
variable {P : Program} {N : Nat} {Q : Exit → St → Prop} {e : Nat → AV} {h : Nat → Ob}

theorem leL_self : ∀ {l : List AV}, AllL (memK []) l → leL [] [] l l
  | [], _ => trivial
  | a :: r, hl => by
    rw [allL_cons] at hl
    exact ⟨⟨ren_id a, hl.1⟩, leL_self hl.2⟩

/-- The end of a function that hands back values alone. -/
theorem fin_val {post : AV → List Ob → List Ob → Prop} {l : List AV} (hl : AllL (memK []) l) (hp : post (tupA l) [] []) : @finW N false 0 ⟨post⟩ ⟨e⟩ l h :=
  fin_intro [] [] [] l rfl (leL_self hl) trivial (by simp) (by simp) hp

theorem fin_valc {post : AV → List Ob → List Ob → Prop} {l : List AV} (hl : AllL (memK []) l) (hu : AV.pu.puL l) (hp : post (tupA l) [] []) : @finW N true 0 ⟨post⟩ ⟨e⟩ l h := by
  refine fin_intro [] [] [] l rfl (leL_self hl) trivial (by simp) (fun _ => ⟨by simp, by simp, ?_⟩) hp
  unfold tupA; split
  · exact hu.1
  · exact hu

theorem ifW_nb {b : Bool} {A B : Prop} (ha : b = false → A) (hb : b = true → B) : @ifW (!b) ⟨A⟩ ⟨B⟩ := ⟨fun h => ha (by simpa using h), fun h => hb (by simpa using h)⟩

theorem pu_nil : AV.pu.puL [] = True := by simp [AV.pu.puL]
theorem pu_cons {a : AV} {r : List AV} : AV.pu.puL (a :: r) = (a.pu ∧ AV.pu.puL r) := by simp [AV.pu.puL]
theorem pu_v {x : Value} : AV.pu (.v x) = True := by simp [AV.pu]
theorem pu_un : AV.pu .un = True := by simp [AV.pu]
theorem pu_ag {cs : List AV} : AV.pu (.ag cs) = AV.pu.puL cs := by simp [AV.pu]
theorem pu_tu {cs : List AV} : AV.pu (.tu cs) = AV.pu.puL cs := by simp [AV.pu]
theorem pu_rf {m o n : Nat} : AV.pu (.rf m o n) = True := by simp [AV.pu]
theorem pu_sl0 {n : Nat} : AV.pu (.sl n []) = True := by simp [AV.pu]

theorem snap_tu {k : Nat} {cs : List AV} : snap h (k + 1) (.tu cs) = .tu (cs.map (snap h k)) := _root_.id rfl

/-- The answer, in values. -/
def isA (a : AV) : AV → List Ob → List Ob → Prop := fun r hs bs => r = a ∧ hs = [] ∧ bs = []

theorem isA_mk {a : AV} : isA a a [] [] := ⟨rfl, rfl, rfl⟩

/-- The answer, with what is new in it given to nobody who would write there. -/
def frzR (a : AV) : AV → List Ob → List Ob → Prop := fun r hs bs => snap (rhp hs []) 6 r = a

theorem Con.frzA {f : FuncId} {args : List AV} {a : AV} (h : Con P f false args [] (frzR a)) : Con P f false args [] (isA a) :=
  h.frz.mono fun r hs bs ⟨h1, h2, r0, hs0, h3, h4⟩ => ⟨by rw [h4]; exact h3, h1, h2⟩

theorem rhp_zero {a : Ob} {hs : List Ob} : rhp (a :: hs) [] 0 = a := by simp [rhp]
theorem rhp_one {a b : Ob} {hs : List Ob} : rhp (a :: b :: hs) [] 1 = b := by simp [rhp]
theorem snap_num {hp : Nat → Ob} {k m n : Nat} {l zs : List Int} (h : hp m = .own 1 (ints (l ++ zs))) (hn : l.length = n) : snap hp (k + 2) (.rf m 0 n) = .sl n (ints l) := by
  subst hn
  simp only [snap_rf, h]
  rw [ints_cut, List.drop_zero, Nat.mul_one, List.take_left' rfl, snap_ints]

/-- A new number. -/
def natR (m : Nat) : AV → List Ob → List Ob → Prop := fun r hs bs =>
  (m = 0 ∧ r = .ag [.v (.slice none 0 0)] ∧ hs = []) ∨ ∃ zs, r = .ag [.rf 0 0 (lim m).length] ∧ hs = [.own 1 (ints (lim m ++ zs))]

theorem Con.natF {f : FuncId} {args : List AV} {m : Nat} (h : Con P f false args [] (natR m)) : Con P f false args [] (isA (.ag [.sl (lim m).length (ints (lim m))])) :=
  Con.frzA <| h.mono fun r hs bs h => by
    rcases h with ⟨rfl, rfl, rfl⟩ | ⟨zs, rfl, rfl⟩
    · show snap _ 6 _ = _
      rw [lim_zero]; rfl
    · show snap _ 6 _ = _
      rw [snap_ag, List.map_cons, List.map_nil, snap_num (k := 3) (l := lim m) (zs := zs) rhp_zero rfl]

/-- A function of the library: of values alone. -/
theorem Con.scalar {f : FuncId} {cl : Bool} {xs : List Value} {y : Value} (h : ∀ w, Gd w → Calls P f ⟨xs⟩ w fun e w' => e = .returned y ∧ w' = w) : Con P f cl (xs.map .v) [] (isA (.v y)) := by
  intro R ι w vs h1 h2 h3 h4 h5
  have hvs : vs = ⟨xs⟩ := by
    obtain ⟨g1, g2⟩ := h2
    apply Array.ext'
    apply List.ext_getElem
    · simpa using g1
    · intro i i1 i2
      have := g2 i (by simpa using i2)
      simp only [List.getElem_map] at this
      have := this.v_inv
      rw [Array.getD_eq_getD_getElem?, Array.getElem?_eq_getElem (by simpa using i1)] at this
      simpa using this
  subst hvs
  refine (h w h5.1).mono ?_
  rintro e w' ⟨rfl, rfl⟩
  have hnil : ∀ m, rhp [] [] m = .free := fun m => by simp [rhp]
  refine ⟨y, .v y, [], [], fun _ => False, ι, rfl, ⟨rfl, rfl, rfl⟩, Ext.refl _ _, fun _ h => h.elim, fun _ h => h.elim, .fr _ _ (.v _), by simp [AV.All], fun m _ => ?_, fun m _ => ?_, fun m z cs B e => ?_, fun m m' z z' cs cs' B B' e => ?_, fun m z cs e => ?_, fun m z cs B _ e => ?_, rfl, fun m _ => rfl, fun i hi => by simp at hi⟩
  · rw [hnil]; trivial
  · rw [hnil]; trivial
  all_goals (rw [hnil] at e; cases e)

end

theorem cut_z {cs : List AV} {o : Nat} : cut cs o 0 = [] := by simp [cut]
attribute [go_sem] Bool.not_not cut_z snap_tu pu_nil pu_cons pu_v pu_un pu_ag pu_tu pu_rf pu_sl0
end Go.Ab
namespace Go.Ab
open Go Go.Proofs

def ti1 : TI := ⟨Kd.oth, 1, 8, Value.nilFunc⟩
theorem tf1 : tyOf Tryz.prog 1 = some ti1 := by kernel_rfl
def ti2 : TI := ⟨Kd.int IntKind.i64, 1, 8, Value.int IntKind.i64 0⟩
theorem tf2 : tyOf Tryz.prog 2 = some ti2 := by kernel_rfl
def ti3 : TI := ⟨Kd.int IntKind.i64, 1, 8, Value.int IntKind.i64 0⟩
theorem tf3 : tyOf Tryz.prog 3 = some ti3 := by kernel_rfl
def ti4 : TI := ⟨Kd.bool, 1, 1, Value.bool false⟩
theorem tf4 : tyOf Tryz.prog 4 = some ti4 := by kernel_rfl
def ti5 : TI := ⟨Kd.int IntKind.u8, 1, 1, Value.int IntKind.u8 0⟩
theorem tf5 : tyOf Tryz.prog 5 = some ti5 := by kernel_rfl
def ti6 : TI := ⟨Kd.int IntKind.u8, 1, 1, Value.int IntKind.u8 0⟩
theorem tf6 : tyOf Tryz.prog 6 = some ti6 := by kernel_rfl
def ti7 : TI := ⟨Kd.stru [(0, 2), (1, 3), (2, 4), (3, 6)], 4, 24, Value.agg ⟨[Value.int IntKind.i64 0, Value.int IntKind.i64 0, Value.bool false, Value.int IntKind.u8 0]⟩⟩
theorem tf7 : tyOf Tryz.prog 7 = some ti7 := by kernel_rfl
def ti8 : TI := ⟨Kd.stru [(0, 2), (1, 3), (2, 4), (3, 6)], 4, 24, Value.agg ⟨[Value.int IntKind.i64 0, Value.int IntKind.i64 0, Value.bool false, Value.int IntKind.u8 0]⟩⟩
theorem tf8 : tyOf Tryz.prog 8 = some ti8 := by kernel_rfl
def ti9 : TI := ⟨Kd.str, 1, 16, Value.string { data := ⟨[]⟩ }⟩
theorem tf9 : tyOf Tryz.prog 9 = some ti9 := by kernel_rfl
def ti10 : TI := ⟨Kd.str, 1, 16, Value.string { data := ⟨[]⟩ }⟩
theorem tf10 : tyOf Tryz.prog 10 = some ti10 := by kernel_rfl
def ti11 : TI := ⟨Kd.str, 1, 16, Value.string { data := ⟨[]⟩ }⟩
theorem tf11 : tyOf Tryz.prog 11 = some ti11 := by kernel_rfl
def ti12 : TI := ⟨Kd.int IntKind.u64, 1, 8, Value.int IntKind.u64 0⟩
theorem tf12 : tyOf Tryz.prog 12 = some ti12 := by kernel_rfl
def ti21 : TI := ⟨Kd.int IntKind.i32, 1, 4, Value.int IntKind.i32 0⟩
theorem tf21 : tyOf Tryz.prog 21 = some ti21 := by kernel_rfl
def ti22 : TI := ⟨Kd.sli 5, 1, 24, Value.slice none 0 0⟩
theorem tf22 : tyOf Tryz.prog 22 = some ti22 := by kernel_rfl
def ti24 : TI := ⟨Kd.oth, 1, 8, Value.nilFunc⟩
theorem tf24 : tyOf Tryz.prog 24 = some ti24 := by kernel_rfl
def ti25 : TI := ⟨Kd.stru [(0, 3), (1, 4), (2, 3), (3, 3)], 4, 32, Value.agg ⟨[Value.int IntKind.i64 0, Value.bool false, Value.int IntKind.i64 0, Value.int IntKind.i64 0]⟩⟩
theorem tf25 : tyOf Tryz.prog 25 = some ti25 := by kernel_rfl
def ti26 : TI := ⟨Kd.stru [(0, 3), (1, 4), (2, 3), (3, 3)], 4, 32, Value.agg ⟨[Value.int IntKind.i64 0, Value.bool false, Value.int IntKind.i64 0, Value.int IntKind.i64 0]⟩⟩
theorem tf26 : tyOf Tryz.prog 26 = some ti26 := by kernel_rfl
def ti28 : TI := ⟨Kd.oth, 1, 8, Value.nilFunc⟩
theorem tf28 : tyOf Tryz.prog 28 = some ti28 := by kernel_rfl
def ti29 : TI := ⟨Kd.oth, 1, 8, Value.nilFunc⟩
theorem tf29 : tyOf Tryz.prog 29 = some ti29 := by kernel_rfl
def ti30 : TI := ⟨Kd.sli 3, 1, 24, Value.slice none 0 0⟩
theorem tf30 : tyOf Tryz.prog 30 = some ti30 := by kernel_rfl
def ti31 : TI := ⟨Kd.stru [(0, 30)], 1, 24, Value.agg ⟨[Value.slice none 0 0]⟩⟩
theorem tf31 : tyOf Tryz.prog 31 = some ti31 := by kernel_rfl
def ti32 : TI := ⟨Kd.stru [(0, 30)], 1, 24, Value.agg ⟨[Value.slice none 0 0]⟩⟩
theorem tf32 : tyOf Tryz.prog 32 = some ti32 := by kernel_rfl
def ti33 : TI := ⟨Kd.stru [(0, 4), (1, 32)], 2, 32, Value.agg ⟨[Value.bool false, Value.slice none 0 0]⟩⟩
theorem tf33 : tyOf Tryz.prog 33 = some ti33 := by kernel_rfl
def ti34 : TI := ⟨Kd.stru [(0, 4), (1, 32)], 2, 32, Value.agg ⟨[Value.bool false, Value.slice none 0 0]⟩⟩
theorem tf34 : tyOf Tryz.prog 34 = some ti34 := by kernel_rfl
def ti36 : TI := ⟨Kd.oth, 1, 8, Value.nilFunc⟩
theorem tf36 : tyOf Tryz.prog 36 = some ti36 := by kernel_rfl
def ti37 : TI := ⟨Kd.oth, 1, 8, Value.nilFunc⟩
theorem tf37 : tyOf Tryz.prog 37 = some ti37 := by kernel_rfl
def ti38 : TI := ⟨Kd.oth, 1, 8, Value.nilFunc⟩
theorem tf38 : tyOf Tryz.prog 38 = some ti38 := by kernel_rfl
def ti39 : TI := ⟨Kd.stru [(0, 34), (2, 3)], 3, 40, Value.agg ⟨[Value.bool false, Value.slice none 0 0, Value.int IntKind.i64 0]⟩⟩
theorem tf39 : tyOf Tryz.prog 39 = some ti39 := by kernel_rfl
def ti40 : TI := ⟨Kd.stru [(0, 34), (2, 3)], 3, 40, Value.agg ⟨[Value.bool false, Value.slice none 0 0, Value.int IntKind.i64 0]⟩⟩
theorem tf40 : tyOf Tryz.prog 40 = some ti40 := by kernel_rfl
def ti42 : TI := ⟨Kd.oth, 1, 8, Value.nilFunc⟩
theorem tf42 : tyOf Tryz.prog 42 = some ti42 := by kernel_rfl
def ti44 : TI := ⟨Kd.oth, 1, 8, Value.nilFunc⟩
theorem tf44 : tyOf Tryz.prog 44 = some ti44 := by kernel_rfl
def ti45 : TI := ⟨Kd.oth, 1, 8, Value.nilFunc⟩
theorem tf45 : tyOf Tryz.prog 45 = some ti45 := by kernel_rfl
def ti46 : TI := ⟨Kd.oth, 1, 8, Value.nilFunc⟩
theorem tf46 : tyOf Tryz.prog 46 = some ti46 := by kernel_rfl
def ti47 : TI := ⟨Kd.oth, 1, 8, Value.nilFunc⟩
theorem tf47 : tyOf Tryz.prog 47 = some ti47 := by kernel_rfl
def ti48 : TI := ⟨Kd.oth, 1, 8, Value.nilFunc⟩
theorem tf48 : tyOf Tryz.prog 48 = some ti48 := by kernel_rfl
def ti49 : TI := ⟨Kd.oth, 1, 8, Value.nilFunc⟩
theorem tf49 : tyOf Tryz.prog 49 = some ti49 := by kernel_rfl
def ti50 : TI := ⟨Kd.oth, 1, 8, Value.nilFunc⟩
theorem tf50 : tyOf Tryz.prog 50 = some ti50 := by kernel_rfl
def ti52 : TI := ⟨Kd.oth, 1, 8, Value.nilFunc⟩
theorem tf52 : tyOf Tryz.prog 52 = some ti52 := by kernel_rfl
def ti53 : TI := ⟨Kd.oth, 1, 8, Value.nilFunc⟩
theorem tf53 : tyOf Tryz.prog 53 = some ti53 := by kernel_rfl
def ti54 : TI := ⟨Kd.oth, 1, 8, Value.nilFunc⟩
theorem tf54 : tyOf Tryz.prog 54 = some ti54 := by kernel_rfl
def ti55 : TI := ⟨Kd.oth, 1, 8, Value.nilFunc⟩
theorem tf55 : tyOf Tryz.prog 55 = some ti55 := by kernel_rfl
def ti57 : TI := ⟨Kd.oth, 1, 8, Value.nilFunc⟩
theorem tf57 : tyOf Tryz.prog 57 = some ti57 := by kernel_rfl
def ti58 : TI := ⟨Kd.oth, 1, 8, Value.nilFunc⟩
theorem tf58 : tyOf Tryz.prog 58 = some ti58 := by kernel_rfl
def ti60 : TI := ⟨Kd.oth, 1, 8, Value.nilFunc⟩
theorem tf60 : tyOf Tryz.prog 60 = some ti60 := by kernel_rfl
def ti61 : TI := ⟨Kd.oth, 1, 8, Value.nilFunc⟩
theorem tf61 : tyOf Tryz.prog 61 = some ti61 := by kernel_rfl
def ti62 : TI := ⟨Kd.oth, 1, 8, Value.nilFunc⟩
theorem tf62 : tyOf Tryz.prog 62 = some ti62 := by kernel_rfl
def ti64 : TI := ⟨Kd.oth, 1, 8, Value.nilFunc⟩
theorem tf64 : tyOf Tryz.prog 64 = some ti64 := by kernel_rfl
def ti65 : TI := ⟨Kd.oth, 1, 8, Value.nilFunc⟩
theorem tf65 : tyOf Tryz.prog 65 = some ti65 := by kernel_rfl
def ti66 : TI := ⟨Kd.oth, 1, 8, Value.nilFunc⟩
theorem tf66 : tyOf Tryz.prog 66 = some ti66 := by kernel_rfl
def ti67 : TI := ⟨Kd.oth, 1, 8, Value.nilFunc⟩
theorem tf67 : tyOf Tryz.prog 67 = some ti67 := by kernel_rfl
def ti68 : TI := ⟨Kd.oth, 1, 8, Value.nilFunc⟩
theorem tf68 : tyOf Tryz.prog 68 = some ti68 := by kernel_rfl
def ti69 : TI := ⟨Kd.oth, 1, 8, Value.nilFunc⟩
theorem tf69 : tyOf Tryz.prog 69 = some ti69 := by kernel_rfl
def ti70 : TI := ⟨Kd.oth, 1, 8, Value.nilFunc⟩
theorem tf70 : tyOf Tryz.prog 70 = some ti70 := by kernel_rfl
def ti71 : TI := ⟨Kd.stru [(0, 4), (1, 30), (2, 3)], 3, 40, Value.agg ⟨[Value.bool false, Value.slice none 0 0, Value.int IntKind.i64 0]⟩⟩
theorem tf71 : tyOf Tryz.prog 71 = some ti71 := by kernel_rfl
def ti72 : TI := ⟨Kd.stru [(0, 4), (1, 30), (2, 3)], 3, 40, Value.agg ⟨[Value.bool false, Value.slice none 0 0, Value.int IntKind.i64 0]⟩⟩
theorem tf72 : tyOf Tryz.prog 72 = some ti72 := by kernel_rfl
def ti73 : TI := ⟨Kd.oth, 1, 8, Value.nilFunc⟩
theorem tf73 : tyOf Tryz.prog 73 = some ti73 := by kernel_rfl
def ti74 : TI := ⟨Kd.oth, 1, 8, Value.nilFunc⟩
theorem tf74 : tyOf Tryz.prog 74 = some ti74 := by kernel_rfl
def ti75 : TI := ⟨Kd.oth, 1, 8, Value.nilFunc⟩
theorem tf75 : tyOf Tryz.prog 75 = some ti75 := by kernel_rfl
def ti76 : TI := ⟨Kd.oth, 1, 8, Value.nilFunc⟩
theorem tf76 : tyOf Tryz.prog 76 = some ti76 := by kernel_rfl
def ti78 : TI := ⟨Kd.oth, 1, 8, Value.nilFunc⟩
theorem tf78 : tyOf Tryz.prog 78 = some ti78 := by kernel_rfl
def ti79 : TI := ⟨Kd.oth, 1, 8, Value.nilFunc⟩
theorem tf79 : tyOf Tryz.prog 79 = some ti79 := by kernel_rfl
def ti80 : TI := ⟨Kd.oth, 1, 8, Value.nilFunc⟩
theorem tf80 : tyOf Tryz.prog 80 = some ti80 := by kernel_rfl
def ti81 : TI := ⟨Kd.oth, 1, 8, Value.nilFunc⟩
theorem tf81 : tyOf Tryz.prog 81 = some ti81 := by kernel_rfl
def ti82 : TI := ⟨Kd.oth, 1, 8, Value.nilFunc⟩
theorem tf82 : tyOf Tryz.prog 82 = some ti82 := by kernel_rfl
def ti83 : TI := ⟨Kd.oth, 1, 8, Value.nilFunc⟩
theorem tf83 : tyOf Tryz.prog 83 = some ti83 := by kernel_rfl
def ti84 : TI := ⟨Kd.oth, 1, 8, Value.nilFunc⟩
theorem tf84 : tyOf Tryz.prog 84 = some ti84 := by kernel_rfl
def ti85 : TI := ⟨Kd.oth, 1, 8, Value.nilFunc⟩
theorem tf85 : tyOf Tryz.prog 85 = some ti85 := by kernel_rfl
def ti86 : TI := ⟨Kd.oth, 1, 8, Value.nilFunc⟩
theorem tf86 : tyOf Tryz.prog 86 = some ti86 := by kernel_rfl
def ti87 : TI := ⟨Kd.oth, 1, 8, Value.nilFunc⟩
theorem tf87 : tyOf Tryz.prog 87 = some ti87 := by kernel_rfl
def ti88 : TI := ⟨Kd.oth, 1, 8, Value.nilFunc⟩
theorem tf88 : tyOf Tryz.prog 88 = some ti88 := by kernel_rfl
def ti89 : TI := ⟨Kd.oth, 1, 8, Value.nilFunc⟩
theorem tf89 : tyOf Tryz.prog 89 = some ti89 := by kernel_rfl
def ti90 : TI := ⟨Kd.oth, 1, 8, Value.nilFunc⟩
theorem tf90 : tyOf Tryz.prog 90 = some ti90 := by kernel_rfl
def ti92 : TI := ⟨Kd.oth, 1, 8, Value.nilFunc⟩
theorem tf92 : tyOf Tryz.prog 92 = some ti92 := by kernel_rfl
def ti93 : TI := ⟨Kd.oth, 1, 8, Value.nilFunc⟩
theorem tf93 : tyOf Tryz.prog 93 = some ti93 := by kernel_rfl
def ti94 : TI := ⟨Kd.oth, 1, 8, Value.nilFunc⟩
theorem tf94 : tyOf Tryz.prog 94 = some ti94 := by kernel_rfl
def ti95 : TI := ⟨Kd.stru [(0, 22), (1, 3), (2, 3)], 3, 40, Value.agg ⟨[Value.slice none 0 0, Value.int IntKind.i64 0, Value.int IntKind.i64 0]⟩⟩
theorem tf95 : tyOf Tryz.prog 95 = some ti95 := by kernel_rfl
def ti96 : TI := ⟨Kd.stru [(0, 22), (1, 3), (2, 3)], 3, 40, Value.agg ⟨[Value.slice none 0 0, Value.int IntKind.i64 0, Value.int IntKind.i64 0]⟩⟩
theorem tf96 : tyOf Tryz.prog 96 = some ti96 := by kernel_rfl
def ti97 : TI := ⟨Kd.oth, 1, 8, Value.nilFunc⟩
theorem tf97 : tyOf Tryz.prog 97 = some ti97 := by kernel_rfl
def ti98 : TI := ⟨Kd.oth, 1, 8, Value.nilFunc⟩
theorem tf98 : tyOf Tryz.prog 98 = some ti98 := by kernel_rfl
def ti99 : TI := ⟨Kd.oth, 1, 8, Value.nilFunc⟩
theorem tf99 : tyOf Tryz.prog 99 = some ti99 := by kernel_rfl
def ti100 : TI := ⟨Kd.oth, 1, 8, Value.nilFunc⟩
theorem tf100 : tyOf Tryz.prog 100 = some ti100 := by kernel_rfl
def ti101 : TI := ⟨Kd.oth, 1, 8, Value.nilFunc⟩
theorem tf101 : tyOf Tryz.prog 101 = some ti101 := by kernel_rfl
def ti102 : TI := ⟨Kd.sli 26, 1, 24, Value.slice none 0 0⟩
theorem tf102 : tyOf Tryz.prog 102 = some ti102 := by kernel_rfl
def ti103 : TI := ⟨Kd.oth, 1, 8, Value.nilFunc⟩
theorem tf103 : tyOf Tryz.prog 103 = some ti103 := by kernel_rfl
def ti104 : TI := ⟨Kd.oth, 1, 8, Value.nilFunc⟩
theorem tf104 : tyOf Tryz.prog 104 = some ti104 := by kernel_rfl
def ti106 : TI := ⟨Kd.oth, 1, 8, Value.nilFunc⟩
theorem tf106 : tyOf Tryz.prog 106 = some ti106 := by kernel_rfl
def ti107 : TI := ⟨Kd.oth, 1, 8, Value.nilFunc⟩
theorem tf107 : tyOf Tryz.prog 107 = some ti107 := by kernel_rfl
def ti108 : TI := ⟨Kd.oth, 1, 8, Value.nilFunc⟩
theorem tf108 : tyOf Tryz.prog 108 = some ti108 := by kernel_rfl
def ti109 : TI := ⟨Kd.oth, 1, 8, Value.nilFunc⟩
theorem tf109 : tyOf Tryz.prog 109 = some ti109 := by kernel_rfl
def ti110 : TI := ⟨Kd.oth, 1, 8, Value.nilFunc⟩
theorem tf110 : tyOf Tryz.prog 110 = some ti110 := by kernel_rfl
def ti111 : TI := ⟨Kd.oth, 1, 8, Value.nilFunc⟩
theorem tf111 : tyOf Tryz.prog 111 = some ti111 := by kernel_rfl
def ti112 : TI := ⟨Kd.oth, 1, 8, Value.nilFunc⟩
theorem tf112 : tyOf Tryz.prog 112 = some ti112 := by kernel_rfl
def ti113 : TI := ⟨Kd.oth, 1, 8, Value.nilFunc⟩
theorem tf113 : tyOf Tryz.prog 113 = some ti113 := by kernel_rfl
def ti114 : TI := ⟨Kd.oth, 1, 8, Value.nilFunc⟩
theorem tf114 : tyOf Tryz.prog 114 = some ti114 := by kernel_rfl
def ti115 : TI := ⟨Kd.oth, 1, 8, Value.nilFunc⟩
theorem tf115 : tyOf Tryz.prog 115 = some ti115 := by kernel_rfl
def ti116 : TI := ⟨Kd.oth, 1, 8, Value.nilFunc⟩
theorem tf116 : tyOf Tryz.prog 116 = some ti116 := by kernel_rfl
def ti117 : TI := ⟨Kd.oth, 1, 8, Value.nilFunc⟩
theorem tf117 : tyOf Tryz.prog 117 = some ti117 := by kernel_rfl
def ti118 : TI := ⟨Kd.oth, 1, 8, Value.nilFunc⟩
theorem tf118 : tyOf Tryz.prog 118 = some ti118 := by kernel_rfl
def ti119 : TI := ⟨Kd.oth, 1, 8, Value.nilFunc⟩
theorem tf119 : tyOf Tryz.prog 119 = some ti119 := by kernel_rfl
def ti121 : TI := ⟨Kd.oth, 1, 8, Value.nilFunc⟩
theorem tf121 : tyOf Tryz.prog 121 = some ti121 := by kernel_rfl
def ti122 : TI := ⟨Kd.oth, 1, 8, Value.nilFunc⟩
theorem tf122 : tyOf Tryz.prog 122 = some ti122 := by kernel_rfl
def ti123 : TI := ⟨Kd.oth, 1, 8, Value.nilFunc⟩
theorem tf123 : tyOf Tryz.prog 123 = some ti123 := by kernel_rfl
def ti124 : TI := ⟨Kd.oth, 1, 8, Value.nilFunc⟩
theorem tf124 : tyOf Tryz.prog 124 = some ti124 := by kernel_rfl
def ti125 : TI := ⟨Kd.oth, 1, 8, Value.nilFunc⟩
theorem tf125 : tyOf Tryz.prog 125 = some ti125 := by kernel_rfl
def ti127 : TI := ⟨Kd.oth, 1, 8, Value.nilFunc⟩
theorem tf127 : tyOf Tryz.prog 127 = some ti127 := by kernel_rfl
def ti129 : TI := ⟨Kd.oth, 1, 8, Value.nilFunc⟩
theorem tf129 : tyOf Tryz.prog 129 = some ti129 := by kernel_rfl
def ti130 : TI := ⟨Kd.int IntKind.u64, 1, 8, Value.int IntKind.u64 0⟩
theorem tf130 : tyOf Tryz.prog 130 = some ti130 := by kernel_rfl
def ti131 : TI := ⟨Kd.oth, 1, 8, Value.nilFunc⟩
theorem tf131 : tyOf Tryz.prog 131 = some ti131 := by kernel_rfl
def ti132 : TI := ⟨Kd.oth, 1, 8, Value.nilFunc⟩
theorem tf132 : tyOf Tryz.prog 132 = some ti132 := by kernel_rfl
def ti133 : TI := ⟨Kd.oth, 1, 8, Value.nilFunc⟩
theorem tf133 : tyOf Tryz.prog 133 = some ti133 := by kernel_rfl
def ti135 : TI := ⟨Kd.oth, 1, 8, Value.nilFunc⟩
theorem tf135 : tyOf Tryz.prog 135 = some ti135 := by kernel_rfl
def ti136 : TI := ⟨Kd.oth, 1, 8, Value.nilFunc⟩
theorem tf136 : tyOf Tryz.prog 136 = some ti136 := by kernel_rfl
def ti138 : TI := ⟨Kd.oth, 1, 8, Value.nilFunc⟩
theorem tf138 : tyOf Tryz.prog 138 = some ti138 := by kernel_rfl
def ti139 : TI := ⟨Kd.oth, 1, 8, Value.nilFunc⟩
theorem tf139 : tyOf Tryz.prog 139 = some ti139 := by kernel_rfl
def ti140 : TI := ⟨Kd.oth, 1, 8, Value.nilFunc⟩
theorem tf140 : tyOf Tryz.prog 140 = some ti140 := by kernel_rfl
def ti141 : TI := ⟨Kd.oth, 1, 8, Value.nilFunc⟩
theorem tf141 : tyOf Tryz.prog 141 = some ti141 := by kernel_rfl
def ti142 : TI := ⟨Kd.oth, 1, 8, Value.nilFunc⟩
theorem tf142 : tyOf Tryz.prog 142 = some ti142 := by kernel_rfl
def ti143 : TI := ⟨Kd.oth, 1, 8, Value.nilFunc⟩
theorem tf143 : tyOf Tryz.prog 143 = some ti143 := by kernel_rfl
def ti144 : TI := ⟨Kd.oth, 1, 8, Value.nilFunc⟩
theorem tf144 : tyOf Tryz.prog 144 = some ti144 := by kernel_rfl
def ti145 : TI := ⟨Kd.oth, 1, 8, Value.nilFunc⟩
theorem tf145 : tyOf Tryz.prog 145 = some ti145 := by kernel_rfl
def ti146 : TI := ⟨Kd.oth, 1, 8, Value.nilFunc⟩
theorem tf146 : tyOf Tryz.prog 146 = some ti146 := by kernel_rfl
def ti147 : TI := ⟨Kd.oth, 1, 8, Value.nilFunc⟩
theorem tf147 : tyOf Tryz.prog 147 = some ti147 := by kernel_rfl
def ti148 : TI := ⟨Kd.oth, 1, 8, Value.nilFunc⟩
theorem tf148 : tyOf Tryz.prog 148 = some ti148 := by kernel_rfl
def ti150 : TI := ⟨Kd.oth, 1, 8, Value.nilFunc⟩
theorem tf150 : tyOf Tryz.prog 150 = some ti150 := by kernel_rfl
def ti151 : TI := ⟨Kd.oth, 1, 8, Value.nilFunc⟩
theorem tf151 : tyOf Tryz.prog 151 = some ti151 := by kernel_rfl
def ti152 : TI := ⟨Kd.oth, 1, 8, Value.nilFunc⟩
theorem tf152 : tyOf Tryz.prog 152 = some ti152 := by kernel_rfl
def ti153 : TI := ⟨Kd.oth, 1, 8, Value.nilFunc⟩
theorem tf153 : tyOf Tryz.prog 153 = some ti153 := by kernel_rfl
def ti154 : TI := ⟨Kd.int IntKind.u32, 1, 4, Value.int IntKind.u32 0⟩
theorem tf154 : tyOf Tryz.prog 154 = some ti154 := by kernel_rfl
def ti155 : TI := ⟨Kd.oth, 1, 8, Value.nilFunc⟩
theorem tf155 : tyOf Tryz.prog 155 = some ti155 := by kernel_rfl
def ti156 : TI := ⟨Kd.int IntKind.u64, 1, 8, Value.int IntKind.u64 0⟩
theorem tf156 : tyOf Tryz.prog 156 = some ti156 := by kernel_rfl
def ti157 : TI := ⟨Kd.oth, 1, 8, Value.nilFunc⟩
theorem tf157 : tyOf Tryz.prog 157 = some ti157 := by kernel_rfl
def ti159 : TI := ⟨Kd.oth, 1, 8, Value.nilFunc⟩
theorem tf159 : tyOf Tryz.prog 159 = some ti159 := by kernel_rfl
def ti160 : TI := ⟨Kd.oth, 1, 8, Value.nilFunc⟩
theorem tf160 : tyOf Tryz.prog 160 = some ti160 := by kernel_rfl
def ti161 : TI := ⟨Kd.oth, 1, 8, Value.nilFunc⟩
theorem tf161 : tyOf Tryz.prog 161 = some ti161 := by kernel_rfl
def ti162 : TI := ⟨Kd.oth, 1, 8, Value.nilFunc⟩
theorem tf162 : tyOf Tryz.prog 162 = some ti162 := by kernel_rfl
def ti165 : TI := ⟨Kd.oth, 1, 8, Value.nilFunc⟩
theorem tf165 : tyOf Tryz.prog 165 = some ti165 := by kernel_rfl
def ti166 : TI := ⟨Kd.oth, 1, 8, Value.nilFunc⟩
theorem tf166 : tyOf Tryz.prog 166 = some ti166 := by kernel_rfl
def ti170 : TI := ⟨Kd.stru [(0, 169)], 0, 0, Value.agg ⟨[]⟩⟩
theorem tf170 : tyOf Tryz.prog 170 = some ti170 := by kernel_rfl
def ti171 : TI := ⟨Kd.stru [(0, 169)], 0, 0, Value.agg ⟨[]⟩⟩
theorem tf171 : tyOf Tryz.prog 171 = some ti171 := by kernel_rfl
def ti172 : TI := ⟨Kd.int IntKind.u8, 1, 1, Value.int IntKind.u8 0⟩
theorem tf172 : tyOf Tryz.prog 172 = some ti172 := by kernel_rfl
def ti173 : TI := ⟨Kd.int IntKind.u8, 1, 1, Value.int IntKind.u8 0⟩
theorem tf173 : tyOf Tryz.prog 173 = some ti173 := by kernel_rfl
def ti174 : TI := ⟨Kd.oth, 1, 8, Value.nilFunc⟩
theorem tf174 : tyOf Tryz.prog 174 = some ti174 := by kernel_rfl
def ti176 : TI := ⟨Kd.int IntKind.i32, 1, 4, Value.int IntKind.i32 0⟩
theorem tf176 : tyOf Tryz.prog 176 = some ti176 := by kernel_rfl
def ti177 : TI := ⟨Kd.int IntKind.i32, 1, 4, Value.int IntKind.i32 0⟩
theorem tf177 : tyOf Tryz.prog 177 = some ti177 := by kernel_rfl
def ti180 : TI := ⟨Kd.oth, 1, 8, Value.nilFunc⟩
theorem tf180 : tyOf Tryz.prog 180 = some ti180 := by kernel_rfl
theorem ty1 {K : TI → Prop} : @tyW Tryz.prog 1 ⟨K⟩ = K ti1 := ty_of tf1
theorem ti1_kd : ti1.kd = Kd.oth := _root_.id rfl
theorem ti1_agg : ti1.kd.agg = false := _root_.id rfl
theorem ti1_size : ti1.size = 1 := _root_.id rfl
theorem ti1_bytes : ti1.bytes = 8 := _root_.id rfl
theorem ti1_zs : zszW ti1 = True := eq_true rfl
theorem ti1_zc : zc ti1 = [.v Value.nilFunc] := _root_.id rfl
theorem ty2 {K : TI → Prop} : @tyW Tryz.prog 2 ⟨K⟩ = K ti2 := ty_of tf2
theorem ti2_kd : ti2.kd = Kd.int IntKind.i64 := _root_.id rfl
theorem ti2_agg : ti2.kd.agg = false := _root_.id rfl
theorem ti2_size : ti2.size = 1 := _root_.id rfl
theorem ti2_bytes : ti2.bytes = 8 := _root_.id rfl
theorem ti2_zs : zszW ti2 = True := eq_true rfl
theorem ti2_zc : zc ti2 = [.v (Value.int IntKind.i64 0)] := _root_.id rfl
theorem ty3 {K : TI → Prop} : @tyW Tryz.prog 3 ⟨K⟩ = K ti3 := ty_of tf3
theorem ti3_kd : ti3.kd = Kd.int IntKind.i64 := _root_.id rfl
theorem ti3_agg : ti3.kd.agg = false := _root_.id rfl
theorem ti3_size : ti3.size = 1 := _root_.id rfl
theorem ti3_bytes : ti3.bytes = 8 := _root_.id rfl
theorem ti3_zs : zszW ti3 = True := eq_true rfl
theorem ti3_zc : zc ti3 = [.v (Value.int IntKind.i64 0)] := _root_.id rfl
theorem ty4 {K : TI → Prop} : @tyW Tryz.prog 4 ⟨K⟩ = K ti4 := ty_of tf4
theorem ti4_kd : ti4.kd = Kd.bool := _root_.id rfl
theorem ti4_agg : ti4.kd.agg = false := _root_.id rfl
theorem ti4_size : ti4.size = 1 := _root_.id rfl
theorem ti4_bytes : ti4.bytes = 1 := _root_.id rfl
theorem ti4_zs : zszW ti4 = True := eq_true rfl
theorem ti4_zc : zc ti4 = [.v (Value.bool false)] := _root_.id rfl
theorem ty5 {K : TI → Prop} : @tyW Tryz.prog 5 ⟨K⟩ = K ti5 := ty_of tf5
theorem ti5_kd : ti5.kd = Kd.int IntKind.u8 := _root_.id rfl
theorem ti5_agg : ti5.kd.agg = false := _root_.id rfl
theorem ti5_size : ti5.size = 1 := _root_.id rfl
theorem ti5_bytes : ti5.bytes = 1 := _root_.id rfl
theorem ti5_zs : zszW ti5 = True := eq_true rfl
theorem ti5_zc : zc ti5 = [.v (Value.int IntKind.u8 0)] := _root_.id rfl
theorem ty6 {K : TI → Prop} : @tyW Tryz.prog 6 ⟨K⟩ = K ti6 := ty_of tf6
theorem ti6_kd : ti6.kd = Kd.int IntKind.u8 := _root_.id rfl
theorem ti6_agg : ti6.kd.agg = false := _root_.id rfl
theorem ti6_size : ti6.size = 1 := _root_.id rfl
theorem ti6_bytes : ti6.bytes = 1 := _root_.id rfl
theorem ti6_zs : zszW ti6 = True := eq_true rfl
theorem ti6_zc : zc ti6 = [.v (Value.int IntKind.u8 0)] := _root_.id rfl
theorem ty7 {K : TI → Prop} : @tyW Tryz.prog 7 ⟨K⟩ = K ti7 := ty_of tf7
theorem ti7_kd : ti7.kd = Kd.stru [(0, 2), (1, 3), (2, 4), (3, 6)] := _root_.id rfl
theorem ti7_agg : ti7.kd.agg = true := _root_.id rfl
theorem ti7_size : ti7.size = 4 := _root_.id rfl
theorem ti7_bytes : ti7.bytes = 24 := _root_.id rfl
theorem ti7_zs : zszW ti7 = True := eq_true rfl
theorem ti7_zc : zc ti7 = [.v (Value.int IntKind.i64 0), .v (Value.int IntKind.i64 0), .v (Value.bool false), .v (Value.int IntKind.u8 0)] := _root_.id rfl
theorem fld7_0 {K : Nat → TI → Prop} : @fieldW Tryz.prog 7 0 ⟨K⟩ = K 0 ti2 := field_of (ti := ti7) (tf := ti2) (fo := (0, 2)) (fs := [(0, 2), (1, 3), (2, 4), (3, 6)]) tf7 rfl rfl tf2
theorem pl7_0 {K : Nat → Nat → Prop} : placeF Tryz.prog [(0, 2), (1, 3), (2, 4), (3, 6)] 0 K = K 0 1 := place_of (tf := ti2) (fo := (0, 2)) (fs := [(0, 2), (1, 3), (2, 4), (3, 6)]) rfl tf2
theorem fld7_1 {K : Nat → TI → Prop} : @fieldW Tryz.prog 7 1 ⟨K⟩ = K 1 ti3 := field_of (ti := ti7) (tf := ti3) (fo := (1, 3)) (fs := [(0, 2), (1, 3), (2, 4), (3, 6)]) tf7 rfl rfl tf3
theorem pl7_1 {K : Nat → Nat → Prop} : placeF Tryz.prog [(0, 2), (1, 3), (2, 4), (3, 6)] 1 K = K 1 1 := place_of (tf := ti3) (fo := (1, 3)) (fs := [(0, 2), (1, 3), (2, 4), (3, 6)]) rfl tf3
theorem fld7_2 {K : Nat → TI → Prop} : @fieldW Tryz.prog 7 2 ⟨K⟩ = K 2 ti4 := field_of (ti := ti7) (tf := ti4) (fo := (2, 4)) (fs := [(0, 2), (1, 3), (2, 4), (3, 6)]) tf7 rfl rfl tf4
theorem pl7_2 {K : Nat → Nat → Prop} : placeF Tryz.prog [(0, 2), (1, 3), (2, 4), (3, 6)] 2 K = K 2 1 := place_of (tf := ti4) (fo := (2, 4)) (fs := [(0, 2), (1, 3), (2, 4), (3, 6)]) rfl tf4
theorem fld7_3 {K : Nat → TI → Prop} : @fieldW Tryz.prog 7 3 ⟨K⟩ = K 3 ti6 := field_of (ti := ti7) (tf := ti6) (fo := (3, 6)) (fs := [(0, 2), (1, 3), (2, 4), (3, 6)]) tf7 rfl rfl tf6
theorem pl7_3 {K : Nat → Nat → Prop} : placeF Tryz.prog [(0, 2), (1, 3), (2, 4), (3, 6)] 3 K = K 3 1 := place_of (tf := ti6) (fo := (3, 6)) (fs := [(0, 2), (1, 3), (2, 4), (3, 6)]) rfl tf6
theorem fsok7 : ∀ f ∈ ([(0, 2), (1, 3), (2, 4), (3, 6)] : List (Nat × Nat)), (tyOf Tryz.prog f.2).isSome = true := by
  intro f hf
  simp only [List.mem_cons, List.not_mem_nil, or_false] at hf
  rcases hf with rfl | rfl | rfl | rfl
  · rw [tf2]; rfl
  · rw [tf3]; rfl
  · rw [tf4]; rfl
  · rw [tf6]; rfl
theorem bld7 {ps : List (Nat × AV)} {K : AV → Prop} : @buildW Tryz.prog 7 ps ⟨K⟩ = @fillW (placeF Tryz.prog [(0, 2), (1, 3), (2, 4), (3, 6)]) (zc ti7) ps ⟨fun cs => K (.ag cs)⟩ := build_of tf7 rfl fsok7
theorem ty8 {K : TI → Prop} : @tyW Tryz.prog 8 ⟨K⟩ = K ti8 := ty_of tf8
theorem ti8_kd : ti8.kd = Kd.stru [(0, 2), (1, 3), (2, 4), (3, 6)] := _root_.id rfl
theorem ti8_agg : ti8.kd.agg = true := _root_.id rfl
theorem ti8_size : ti8.size = 4 := _root_.id rfl
theorem ti8_bytes : ti8.bytes = 24 := _root_.id rfl
theorem ti8_zs : zszW ti8 = True := eq_true rfl
theorem ti8_zc : zc ti8 = [.v (Value.int IntKind.i64 0), .v (Value.int IntKind.i64 0), .v (Value.bool false), .v (Value.int IntKind.u8 0)] := _root_.id rfl
theorem fld8_0 {K : Nat → TI → Prop} : @fieldW Tryz.prog 8 0 ⟨K⟩ = K 0 ti2 := field_of (ti := ti8) (tf := ti2) (fo := (0, 2)) (fs := [(0, 2), (1, 3), (2, 4), (3, 6)]) tf8 rfl rfl tf2
theorem pl8_0 {K : Nat → Nat → Prop} : placeF Tryz.prog [(0, 2), (1, 3), (2, 4), (3, 6)] 0 K = K 0 1 := place_of (tf := ti2) (fo := (0, 2)) (fs := [(0, 2), (1, 3), (2, 4), (3, 6)]) rfl tf2
theorem fld8_1 {K : Nat → TI → Prop} : @fieldW Tryz.prog 8 1 ⟨K⟩ = K 1 ti3 := field_of (ti := ti8) (tf := ti3) (fo := (1, 3)) (fs := [(0, 2), (1, 3), (2, 4), (3, 6)]) tf8 rfl rfl tf3
theorem pl8_1 {K : Nat → Nat → Prop} : placeF Tryz.prog [(0, 2), (1, 3), (2, 4), (3, 6)] 1 K = K 1 1 := place_of (tf := ti3) (fo := (1, 3)) (fs := [(0, 2), (1, 3), (2, 4), (3, 6)]) rfl tf3
theorem fld8_2 {K : Nat → TI → Prop} : @fieldW Tryz.prog 8 2 ⟨K⟩ = K 2 ti4 := field_of (ti := ti8) (tf := ti4) (fo := (2, 4)) (fs := [(0, 2), (1, 3), (2, 4), (3, 6)]) tf8 rfl rfl tf4
theorem pl8_2 {K : Nat → Nat → Prop} : placeF Tryz.prog [(0, 2), (1, 3), (2, 4), (3, 6)] 2 K = K 2 1 := place_of (tf := ti4) (fo := (2, 4)) (fs := [(0, 2), (1, 3), (2, 4), (3, 6)]) rfl tf4
theorem fld8_3 {K : Nat → TI → Prop} : @fieldW Tryz.prog 8 3 ⟨K⟩ = K 3 ti6 := field_of (ti := ti8) (tf := ti6) (fo := (3, 6)) (fs := [(0, 2), (1, 3), (2, 4), (3, 6)]) tf8 rfl rfl tf6
theorem pl8_3 {K : Nat → Nat → Prop} : placeF Tryz.prog [(0, 2), (1, 3), (2, 4), (3, 6)] 3 K = K 3 1 := place_of (tf := ti6) (fo := (3, 6)) (fs := [(0, 2), (1, 3), (2, 4), (3, 6)]) rfl tf6
theorem fsok8 : ∀ f ∈ ([(0, 2), (1, 3), (2, 4), (3, 6)] : List (Nat × Nat)), (tyOf Tryz.prog f.2).isSome = true := by
  intro f hf
  simp only [List.mem_cons, List.not_mem_nil, or_false] at hf
  rcases hf with rfl | rfl | rfl | rfl
  · rw [tf2]; rfl
  · rw [tf3]; rfl
  · rw [tf4]; rfl
  · rw [tf6]; rfl
theorem bld8 {ps : List (Nat × AV)} {K : AV → Prop} : @buildW Tryz.prog 8 ps ⟨K⟩ = @fillW (placeF Tryz.prog [(0, 2), (1, 3), (2, 4), (3, 6)]) (zc ti8) ps ⟨fun cs => K (.ag cs)⟩ := build_of tf8 rfl fsok8
theorem ty9 {K : TI → Prop} : @tyW Tryz.prog 9 ⟨K⟩ = K ti9 := ty_of tf9
theorem ti9_kd : ti9.kd = Kd.str := _root_.id rfl
theorem ti9_agg : ti9.kd.agg = false := _root_.id rfl
theorem ti9_size : ti9.size = 1 := _root_.id rfl
theorem ti9_bytes : ti9.bytes = 16 := _root_.id rfl
theorem ti9_zs : zszW ti9 = True := eq_true rfl
theorem ti9_zc : zc ti9 = [.v (Value.string { data := ⟨[]⟩ })] := _root_.id rfl
theorem ty10 {K : TI → Prop} : @tyW Tryz.prog 10 ⟨K⟩ = K ti10 := ty_of tf10
theorem ti10_kd : ti10.kd = Kd.str := _root_.id rfl
theorem ti10_agg : ti10.kd.agg = false := _root_.id rfl
theorem ti10_size : ti10.size = 1 := _root_.id rfl
theorem ti10_bytes : ti10.bytes = 16 := _root_.id rfl
theorem ti10_zs : zszW ti10 = True := eq_true rfl
theorem ti10_zc : zc ti10 = [.v (Value.string { data := ⟨[]⟩ })] := _root_.id rfl
theorem ty11 {K : TI → Prop} : @tyW Tryz.prog 11 ⟨K⟩ = K ti11 := ty_of tf11
theorem ti11_kd : ti11.kd = Kd.str := _root_.id rfl
theorem ti11_agg : ti11.kd.agg = false := _root_.id rfl
theorem ti11_size : ti11.size = 1 := _root_.id rfl
theorem ti11_bytes : ti11.bytes = 16 := _root_.id rfl
theorem ti11_zs : zszW ti11 = True := eq_true rfl
theorem ti11_zc : zc ti11 = [.v (Value.string { data := ⟨[]⟩ })] := _root_.id rfl
theorem ty12 {K : TI → Prop} : @tyW Tryz.prog 12 ⟨K⟩ = K ti12 := ty_of tf12
theorem ti12_kd : ti12.kd = Kd.int IntKind.u64 := _root_.id rfl
theorem ti12_agg : ti12.kd.agg = false := _root_.id rfl
theorem ti12_size : ti12.size = 1 := _root_.id rfl
theorem ti12_bytes : ti12.bytes = 8 := _root_.id rfl
theorem ti12_zs : zszW ti12 = True := eq_true rfl
theorem ti12_zc : zc ti12 = [.v (Value.int IntKind.u64 0)] := _root_.id rfl
theorem ty21 {K : TI → Prop} : @tyW Tryz.prog 21 ⟨K⟩ = K ti21 := ty_of tf21
theorem ti21_kd : ti21.kd = Kd.int IntKind.i32 := _root_.id rfl
theorem ti21_agg : ti21.kd.agg = false := _root_.id rfl
theorem ti21_size : ti21.size = 1 := _root_.id rfl
theorem ti21_bytes : ti21.bytes = 4 := _root_.id rfl
theorem ti21_zs : zszW ti21 = True := eq_true rfl
theorem ti21_zc : zc ti21 = [.v (Value.int IntKind.i32 0)] := _root_.id rfl
theorem ty22 {K : TI → Prop} : @tyW Tryz.prog 22 ⟨K⟩ = K ti22 := ty_of tf22
theorem ti22_kd : ti22.kd = Kd.sli 5 := _root_.id rfl
theorem ti22_agg : ti22.kd.agg = false := _root_.id rfl
theorem ti22_size : ti22.size = 1 := _root_.id rfl
theorem ti22_bytes : ti22.bytes = 24 := _root_.id rfl
theorem ti22_zs : zszW ti22 = True := eq_true rfl
theorem ti22_zc : zc ti22 = [.v (Value.slice none 0 0)] := _root_.id rfl
theorem sli22 {K : TI → Prop} : @sliW Tryz.prog 22 ⟨K⟩ = K ti5 := sli_of tf22 rfl tf5
theorem ty24 {K : TI → Prop} : @tyW Tryz.prog 24 ⟨K⟩ = K ti24 := ty_of tf24
theorem ti24_kd : ti24.kd = Kd.oth := _root_.id rfl
theorem ti24_agg : ti24.kd.agg = false := _root_.id rfl
theorem ti24_size : ti24.size = 1 := _root_.id rfl
theorem ti24_bytes : ti24.bytes = 8 := _root_.id rfl
theorem ti24_zs : zszW ti24 = True := eq_true rfl
theorem ti24_zc : zc ti24 = [.v Value.nilFunc] := _root_.id rfl
theorem ty25 {K : TI → Prop} : @tyW Tryz.prog 25 ⟨K⟩ = K ti25 := ty_of tf25
theorem ti25_kd : ti25.kd = Kd.stru [(0, 3), (1, 4), (2, 3), (3, 3)] := _root_.id rfl
theorem ti25_agg : ti25.kd.agg = true := _root_.id rfl
theorem ti25_size : ti25.size = 4 := _root_.id rfl
theorem ti25_bytes : ti25.bytes = 32 := _root_.id rfl
theorem ti25_zs : zszW ti25 = True := eq_true rfl
theorem ti25_zc : zc ti25 = [.v (Value.int IntKind.i64 0), .v (Value.bool false), .v (Value.int IntKind.i64 0), .v (Value.int IntKind.i64 0)] := _root_.id rfl
theorem fld25_0 {K : Nat → TI → Prop} : @fieldW Tryz.prog 25 0 ⟨K⟩ = K 0 ti3 := field_of (ti := ti25) (tf := ti3) (fo := (0, 3)) (fs := [(0, 3), (1, 4), (2, 3), (3, 3)]) tf25 rfl rfl tf3
theorem pl25_0 {K : Nat → Nat → Prop} : placeF Tryz.prog [(0, 3), (1, 4), (2, 3), (3, 3)] 0 K = K 0 1 := place_of (tf := ti3) (fo := (0, 3)) (fs := [(0, 3), (1, 4), (2, 3), (3, 3)]) rfl tf3
theorem fld25_1 {K : Nat → TI → Prop} : @fieldW Tryz.prog 25 1 ⟨K⟩ = K 1 ti4 := field_of (ti := ti25) (tf := ti4) (fo := (1, 4)) (fs := [(0, 3), (1, 4), (2, 3), (3, 3)]) tf25 rfl rfl tf4
theorem pl25_1 {K : Nat → Nat → Prop} : placeF Tryz.prog [(0, 3), (1, 4), (2, 3), (3, 3)] 1 K = K 1 1 := place_of (tf := ti4) (fo := (1, 4)) (fs := [(0, 3), (1, 4), (2, 3), (3, 3)]) rfl tf4
theorem fld25_2 {K : Nat → TI → Prop} : @fieldW Tryz.prog 25 2 ⟨K⟩ = K 2 ti3 := field_of (ti := ti25) (tf := ti3) (fo := (2, 3)) (fs := [(0, 3), (1, 4), (2, 3), (3, 3)]) tf25 rfl rfl tf3
theorem pl25_2 {K : Nat → Nat → Prop} : placeF Tryz.prog [(0, 3), (1, 4), (2, 3), (3, 3)] 2 K = K 2 1 := place_of (tf := ti3) (fo := (2, 3)) (fs := [(0, 3), (1, 4), (2, 3), (3, 3)]) rfl tf3
theorem fld25_3 {K : Nat → TI → Prop} : @fieldW Tryz.prog 25 3 ⟨K⟩ = K 3 ti3 := field_of (ti := ti25) (tf := ti3) (fo := (3, 3)) (fs := [(0, 3), (1, 4), (2, 3), (3, 3)]) tf25 rfl rfl tf3
theorem pl25_3 {K : Nat → Nat → Prop} : placeF Tryz.prog [(0, 3), (1, 4), (2, 3), (3, 3)] 3 K = K 3 1 := place_of (tf := ti3) (fo := (3, 3)) (fs := [(0, 3), (1, 4), (2, 3), (3, 3)]) rfl tf3
theorem fsok25 : ∀ f ∈ ([(0, 3), (1, 4), (2, 3), (3, 3)] : List (Nat × Nat)), (tyOf Tryz.prog f.2).isSome = true := by
  intro f hf
  simp only [List.mem_cons, List.not_mem_nil, or_false] at hf
  rcases hf with rfl | rfl | rfl | rfl
  · rw [tf3]; rfl
  · rw [tf4]; rfl
  · rw [tf3]; rfl
  · rw [tf3]; rfl
theorem bld25 {ps : List (Nat × AV)} {K : AV → Prop} : @buildW Tryz.prog 25 ps ⟨K⟩ = @fillW (placeF Tryz.prog [(0, 3), (1, 4), (2, 3), (3, 3)]) (zc ti25) ps ⟨fun cs => K (.ag cs)⟩ := build_of tf25 rfl fsok25
theorem ty26 {K : TI → Prop} : @tyW Tryz.prog 26 ⟨K⟩ = K ti26 := ty_of tf26
theorem ti26_kd : ti26.kd = Kd.stru [(0, 3), (1, 4), (2, 3), (3, 3)] := _root_.id rfl
theorem ti26_agg : ti26.kd.agg = true := _root_.id rfl
theorem ti26_size : ti26.size = 4 := _root_.id rfl
theorem ti26_bytes : ti26.bytes = 32 := _root_.id rfl
theorem ti26_zs : zszW ti26 = True := eq_true rfl
theorem ti26_zc : zc ti26 = [.v (Value.int IntKind.i64 0), .v (Value.bool false), .v (Value.int IntKind.i64 0), .v (Value.int IntKind.i64 0)] := _root_.id rfl
theorem fld26_0 {K : Nat → TI → Prop} : @fieldW Tryz.prog 26 0 ⟨K⟩ = K 0 ti3 := field_of (ti := ti26) (tf := ti3) (fo := (0, 3)) (fs := [(0, 3), (1, 4), (2, 3), (3, 3)]) tf26 rfl rfl tf3
theorem pl26_0 {K : Nat → Nat → Prop} : placeF Tryz.prog [(0, 3), (1, 4), (2, 3), (3, 3)] 0 K = K 0 1 := place_of (tf := ti3) (fo := (0, 3)) (fs := [(0, 3), (1, 4), (2, 3), (3, 3)]) rfl tf3
theorem fld26_1 {K : Nat → TI → Prop} : @fieldW Tryz.prog 26 1 ⟨K⟩ = K 1 ti4 := field_of (ti := ti26) (tf := ti4) (fo := (1, 4)) (fs := [(0, 3), (1, 4), (2, 3), (3, 3)]) tf26 rfl rfl tf4
theorem pl26_1 {K : Nat → Nat → Prop} : placeF Tryz.prog [(0, 3), (1, 4), (2, 3), (3, 3)] 1 K = K 1 1 := place_of (tf := ti4) (fo := (1, 4)) (fs := [(0, 3), (1, 4), (2, 3), (3, 3)]) rfl tf4
theorem fld26_2 {K : Nat → TI → Prop} : @fieldW Tryz.prog 26 2 ⟨K⟩ = K 2 ti3 := field_of (ti := ti26) (tf := ti3) (fo := (2, 3)) (fs := [(0, 3), (1, 4), (2, 3), (3, 3)]) tf26 rfl rfl tf3
theorem pl26_2 {K : Nat → Nat → Prop} : placeF Tryz.prog [(0, 3), (1, 4), (2, 3), (3, 3)] 2 K = K 2 1 := place_of (tf := ti3) (fo := (2, 3)) (fs := [(0, 3), (1, 4), (2, 3), (3, 3)]) rfl tf3
theorem fld26_3 {K : Nat → TI → Prop} : @fieldW Tryz.prog 26 3 ⟨K⟩ = K 3 ti3 := field_of (ti := ti26) (tf := ti3) (fo := (3, 3)) (fs := [(0, 3), (1, 4), (2, 3), (3, 3)]) tf26 rfl rfl tf3
theorem pl26_3 {K : Nat → Nat → Prop} : placeF Tryz.prog [(0, 3), (1, 4), (2, 3), (3, 3)] 3 K = K 3 1 := place_of (tf := ti3) (fo := (3, 3)) (fs := [(0, 3), (1, 4), (2, 3), (3, 3)]) rfl tf3
theorem fsok26 : ∀ f ∈ ([(0, 3), (1, 4), (2, 3), (3, 3)] : List (Nat × Nat)), (tyOf Tryz.prog f.2).isSome = true := by
  intro f hf
  simp only [List.mem_cons, List.not_mem_nil, or_false] at hf
  rcases hf with rfl | rfl | rfl | rfl
  · rw [tf3]; rfl
  · rw [tf4]; rfl
  · rw [tf3]; rfl
  · rw [tf3]; rfl
theorem bld26 {ps : List (Nat × AV)} {K : AV → Prop} : @buildW Tryz.prog 26 ps ⟨K⟩ = @fillW (placeF Tryz.prog [(0, 3), (1, 4), (2, 3), (3, 3)]) (zc ti26) ps ⟨fun cs => K (.ag cs)⟩ := build_of tf26 rfl fsok26
theorem ty28 {K : TI → Prop} : @tyW Tryz.prog 28 ⟨K⟩ = K ti28 := ty_of tf28
theorem ti28_kd : ti28.kd = Kd.oth := _root_.id rfl
theorem ti28_agg : ti28.kd.agg = false := _root_.id rfl
theorem ti28_size : ti28.size = 1 := _root_.id rfl
theorem ti28_bytes : ti28.bytes = 8 := _root_.id rfl
theorem ti28_zs : zszW ti28 = True := eq_true rfl
theorem ti28_zc : zc ti28 = [.v Value.nilFunc] := _root_.id rfl
theorem ty29 {K : TI → Prop} : @tyW Tryz.prog 29 ⟨K⟩ = K ti29 := ty_of tf29
theorem ti29_kd : ti29.kd = Kd.oth := _root_.id rfl
theorem ti29_agg : ti29.kd.agg = false := _root_.id rfl
theorem ti29_size : ti29.size = 1 := _root_.id rfl
theorem ti29_bytes : ti29.bytes = 8 := _root_.id rfl
theorem ti29_zs : zszW ti29 = True := eq_true rfl
theorem ti29_zc : zc ti29 = [.v Value.nilFunc] := _root_.id rfl
theorem ty30 {K : TI → Prop} : @tyW Tryz.prog 30 ⟨K⟩ = K ti30 := ty_of tf30
theorem ti30_kd : ti30.kd = Kd.sli 3 := _root_.id rfl
theorem ti30_agg : ti30.kd.agg = false := _root_.id rfl
theorem ti30_size : ti30.size = 1 := _root_.id rfl
theorem ti30_bytes : ti30.bytes = 24 := _root_.id rfl
theorem ti30_zs : zszW ti30 = True := eq_true rfl
theorem ti30_zc : zc ti30 = [.v (Value.slice none 0 0)] := _root_.id rfl
theorem sli30 {K : TI → Prop} : @sliW Tryz.prog 30 ⟨K⟩ = K ti3 := sli_of tf30 rfl tf3
theorem ty31 {K : TI → Prop} : @tyW Tryz.prog 31 ⟨K⟩ = K ti31 := ty_of tf31
theorem ti31_kd : ti31.kd = Kd.stru [(0, 30)] := _root_.id rfl
theorem ti31_agg : ti31.kd.agg = true := _root_.id rfl
theorem ti31_size : ti31.size = 1 := _root_.id rfl
theorem ti31_bytes : ti31.bytes = 24 := _root_.id rfl
theorem ti31_zs : zszW ti31 = True := eq_true rfl
theorem ti31_zc : zc ti31 = [.v (Value.slice none 0 0)] := _root_.id rfl
theorem fld31_0 {K : Nat → TI → Prop} : @fieldW Tryz.prog 31 0 ⟨K⟩ = K 0 ti30 := field_of (ti := ti31) (tf := ti30) (fo := (0, 30)) (fs := [(0, 30)]) tf31 rfl rfl tf30
theorem pl31_0 {K : Nat → Nat → Prop} : placeF Tryz.prog [(0, 30)] 0 K = K 0 1 := place_of (tf := ti30) (fo := (0, 30)) (fs := [(0, 30)]) rfl tf30
theorem fsok31 : ∀ f ∈ ([(0, 30)] : List (Nat × Nat)), (tyOf Tryz.prog f.2).isSome = true := by
  intro f hf
  simp only [List.mem_cons, List.not_mem_nil, or_false] at hf
  subst hf; rw [tf30]; rfl
theorem bld31 {ps : List (Nat × AV)} {K : AV → Prop} : @buildW Tryz.prog 31 ps ⟨K⟩ = @fillW (placeF Tryz.prog [(0, 30)]) (zc ti31) ps ⟨fun cs => K (.ag cs)⟩ := build_of tf31 rfl fsok31
theorem ty32 {K : TI → Prop} : @tyW Tryz.prog 32 ⟨K⟩ = K ti32 := ty_of tf32
theorem ti32_kd : ti32.kd = Kd.stru [(0, 30)] := _root_.id rfl
theorem ti32_agg : ti32.kd.agg = true := _root_.id rfl
theorem ti32_size : ti32.size = 1 := _root_.id rfl
theorem ti32_bytes : ti32.bytes = 24 := _root_.id rfl
theorem ti32_zs : zszW ti32 = True := eq_true rfl
theorem ti32_zc : zc ti32 = [.v (Value.slice none 0 0)] := _root_.id rfl
theorem fld32_0 {K : Nat → TI → Prop} : @fieldW Tryz.prog 32 0 ⟨K⟩ = K 0 ti30 := field_of (ti := ti32) (tf := ti30) (fo := (0, 30)) (fs := [(0, 30)]) tf32 rfl rfl tf30
theorem pl32_0 {K : Nat → Nat → Prop} : placeF Tryz.prog [(0, 30)] 0 K = K 0 1 := place_of (tf := ti30) (fo := (0, 30)) (fs := [(0, 30)]) rfl tf30
theorem fsok32 : ∀ f ∈ ([(0, 30)] : List (Nat × Nat)), (tyOf Tryz.prog f.2).isSome = true := by
  intro f hf
  simp only [List.mem_cons, List.not_mem_nil, or_false] at hf
  subst hf; rw [tf30]; rfl
theorem bld32 {ps : List (Nat × AV)} {K : AV → Prop} : @buildW Tryz.prog 32 ps ⟨K⟩ = @fillW (placeF Tryz.prog [(0, 30)]) (zc ti32) ps ⟨fun cs => K (.ag cs)⟩ := build_of tf32 rfl fsok32
theorem ty33 {K : TI → Prop} : @tyW Tryz.prog 33 ⟨K⟩ = K ti33 := ty_of tf33
theorem ti33_kd : ti33.kd = Kd.stru [(0, 4), (1, 32)] := _root_.id rfl
theorem ti33_agg : ti33.kd.agg = true := _root_.id rfl
theorem ti33_size : ti33.size = 2 := _root_.id rfl
theorem ti33_bytes : ti33.bytes = 32 := _root_.id rfl
theorem ti33_zs : zszW ti33 = True := eq_true rfl
theorem ti33_zc : zc ti33 = [.v (Value.bool false), .v (Value.slice none 0 0)] := _root_.id rfl
theorem fld33_0 {K : Nat → TI → Prop} : @fieldW Tryz.prog 33 0 ⟨K⟩ = K 0 ti4 := field_of (ti := ti33) (tf := ti4) (fo := (0, 4)) (fs := [(0, 4), (1, 32)]) tf33 rfl rfl tf4
theorem pl33_0 {K : Nat → Nat → Prop} : placeF Tryz.prog [(0, 4), (1, 32)] 0 K = K 0 1 := place_of (tf := ti4) (fo := (0, 4)) (fs := [(0, 4), (1, 32)]) rfl tf4
theorem fld33_1 {K : Nat → TI → Prop} : @fieldW Tryz.prog 33 1 ⟨K⟩ = K 1 ti32 := field_of (ti := ti33) (tf := ti32) (fo := (1, 32)) (fs := [(0, 4), (1, 32)]) tf33 rfl rfl tf32
theorem pl33_1 {K : Nat → Nat → Prop} : placeF Tryz.prog [(0, 4), (1, 32)] 1 K = K 1 1 := place_of (tf := ti32) (fo := (1, 32)) (fs := [(0, 4), (1, 32)]) rfl tf32
theorem fsok33 : ∀ f ∈ ([(0, 4), (1, 32)] : List (Nat × Nat)), (tyOf Tryz.prog f.2).isSome = true := by
  intro f hf
  simp only [List.mem_cons, List.not_mem_nil, or_false] at hf
  rcases hf with rfl | rfl
  · rw [tf4]; rfl
  · rw [tf32]; rfl
theorem bld33 {ps : List (Nat × AV)} {K : AV → Prop} : @buildW Tryz.prog 33 ps ⟨K⟩ = @fillW (placeF Tryz.prog [(0, 4), (1, 32)]) (zc ti33) ps ⟨fun cs => K (.ag cs)⟩ := build_of tf33 rfl fsok33
theorem ty34 {K : TI → Prop} : @tyW Tryz.prog 34 ⟨K⟩ = K ti34 := ty_of tf34
theorem ti34_kd : ti34.kd = Kd.stru [(0, 4), (1, 32)] := _root_.id rfl
theorem ti34_agg : ti34.kd.agg = true := _root_.id rfl
theorem ti34_size : ti34.size = 2 := _root_.id rfl
theorem ti34_bytes : ti34.bytes = 32 := _root_.id rfl
theorem ti34_zs : zszW ti34 = True := eq_true rfl
theorem ti34_zc : zc ti34 = [.v (Value.bool false), .v (Value.slice none 0 0)] := _root_.id rfl
theorem fld34_0 {K : Nat → TI → Prop} : @fieldW Tryz.prog 34 0 ⟨K⟩ = K 0 ti4 := field_of (ti := ti34) (tf := ti4) (fo := (0, 4)) (fs := [(0, 4), (1, 32)]) tf34 rfl rfl tf4
theorem pl34_0 {K : Nat → Nat → Prop} : placeF Tryz.prog [(0, 4), (1, 32)] 0 K = K 0 1 := place_of (tf := ti4) (fo := (0, 4)) (fs := [(0, 4), (1, 32)]) rfl tf4
theorem fld34_1 {K : Nat → TI → Prop} : @fieldW Tryz.prog 34 1 ⟨K⟩ = K 1 ti32 := field_of (ti := ti34) (tf := ti32) (fo := (1, 32)) (fs := [(0, 4), (1, 32)]) tf34 rfl rfl tf32
theorem pl34_1 {K : Nat → Nat → Prop} : placeF Tryz.prog [(0, 4), (1, 32)] 1 K = K 1 1 := place_of (tf := ti32) (fo := (1, 32)) (fs := [(0, 4), (1, 32)]) rfl tf32
theorem fsok34 : ∀ f ∈ ([(0, 4), (1, 32)] : List (Nat × Nat)), (tyOf Tryz.prog f.2).isSome = true := by
  intro f hf
  simp only [List.mem_cons, List.not_mem_nil, or_false] at hf
  rcases hf with rfl | rfl
  · rw [tf4]; rfl
  · rw [tf32]; rfl
theorem bld34 {ps : List (Nat × AV)} {K : AV → Prop} : @buildW Tryz.prog 34 ps ⟨K⟩ = @fillW (placeF Tryz.prog [(0, 4), (1, 32)]) (zc ti34) ps ⟨fun cs => K (.ag cs)⟩ := build_of tf34 rfl fsok34
theorem ty36 {K : TI → Prop} : @tyW Tryz.prog 36 ⟨K⟩ = K ti36 := ty_of tf36
theorem ti36_kd : ti36.kd = Kd.oth := _root_.id rfl
theorem ti36_agg : ti36.kd.agg = false := _root_.id rfl
theorem ti36_size : ti36.size = 1 := _root_.id rfl
theorem ti36_bytes : ti36.bytes = 8 := _root_.id rfl
theorem ti36_zs : zszW ti36 = True := eq_true rfl
theorem ti36_zc : zc ti36 = [.v Value.nilFunc] := _root_.id rfl
theorem ty37 {K : TI → Prop} : @tyW Tryz.prog 37 ⟨K⟩ = K ti37 := ty_of tf37
theorem ti37_kd : ti37.kd = Kd.oth := _root_.id rfl
theorem ti37_agg : ti37.kd.agg = false := _root_.id rfl
theorem ti37_size : ti37.size = 1 := _root_.id rfl
theorem ti37_bytes : ti37.bytes = 8 := _root_.id rfl
theorem ti37_zs : zszW ti37 = True := eq_true rfl
theorem ti37_zc : zc ti37 = [.v Value.nilFunc] := _root_.id rfl
theorem ty38 {K : TI → Prop} : @tyW Tryz.prog 38 ⟨K⟩ = K ti38 := ty_of tf38
theorem ti38_kd : ti38.kd = Kd.oth := _root_.id rfl
theorem ti38_agg : ti38.kd.agg = false := _root_.id rfl
theorem ti38_size : ti38.size = 1 := _root_.id rfl
theorem ti38_bytes : ti38.bytes = 8 := _root_.id rfl
theorem ti38_zs : zszW ti38 = True := eq_true rfl
theorem ti38_zc : zc ti38 = [.v Value.nilFunc] := _root_.id rfl
theorem ty39 {K : TI → Prop} : @tyW Tryz.prog 39 ⟨K⟩ = K ti39 := ty_of tf39
theorem ti39_kd : ti39.kd = Kd.stru [(0, 34), (2, 3)] := _root_.id rfl
theorem ti39_agg : ti39.kd.agg = true := _root_.id rfl
theorem ti39_size : ti39.size = 3 := _root_.id rfl
theorem ti39_bytes : ti39.bytes = 40 := _root_.id rfl
theorem ti39_zs : zszW ti39 = True := eq_true rfl
theorem ti39_zc : zc ti39 = [.v (Value.bool false), .v (Value.slice none 0 0), .v (Value.int IntKind.i64 0)] := _root_.id rfl
theorem fld39_0 {K : Nat → TI → Prop} : @fieldW Tryz.prog 39 0 ⟨K⟩ = K 0 ti34 := field_of (ti := ti39) (tf := ti34) (fo := (0, 34)) (fs := [(0, 34), (2, 3)]) tf39 rfl rfl tf34
theorem pl39_0 {K : Nat → Nat → Prop} : placeF Tryz.prog [(0, 34), (2, 3)] 0 K = K 0 2 := place_of (tf := ti34) (fo := (0, 34)) (fs := [(0, 34), (2, 3)]) rfl tf34
theorem fld39_1 {K : Nat → TI → Prop} : @fieldW Tryz.prog 39 1 ⟨K⟩ = K 2 ti3 := field_of (ti := ti39) (tf := ti3) (fo := (2, 3)) (fs := [(0, 34), (2, 3)]) tf39 rfl rfl tf3
theorem pl39_1 {K : Nat → Nat → Prop} : placeF Tryz.prog [(0, 34), (2, 3)] 1 K = K 2 1 := place_of (tf := ti3) (fo := (2, 3)) (fs := [(0, 34), (2, 3)]) rfl tf3
theorem fsok39 : ∀ f ∈ ([(0, 34), (2, 3)] : List (Nat × Nat)), (tyOf Tryz.prog f.2).isSome = true := by
  intro f hf
  simp only [List.mem_cons, List.not_mem_nil, or_false] at hf
  rcases hf with rfl | rfl
  · rw [tf34]; rfl
  · rw [tf3]; rfl
theorem bld39 {ps : List (Nat × AV)} {K : AV → Prop} : @buildW Tryz.prog 39 ps ⟨K⟩ = @fillW (placeF Tryz.prog [(0, 34), (2, 3)]) (zc ti39) ps ⟨fun cs => K (.ag cs)⟩ := build_of tf39 rfl fsok39
theorem ty40 {K : TI → Prop} : @tyW Tryz.prog 40 ⟨K⟩ = K ti40 := ty_of tf40
theorem ti40_kd : ti40.kd = Kd.stru [(0, 34), (2, 3)] := _root_.id rfl
theorem ti40_agg : ti40.kd.agg = true := _root_.id rfl
theorem ti40_size : ti40.size = 3 := _root_.id rfl
theorem ti40_bytes : ti40.bytes = 40 := _root_.id rfl
theorem ti40_zs : zszW ti40 = True := eq_true rfl
theorem ti40_zc : zc ti40 = [.v (Value.bool false), .v (Value.slice none 0 0), .v (Value.int IntKind.i64 0)] := _root_.id rfl
theorem fld40_0 {K : Nat → TI → Prop} : @fieldW Tryz.prog 40 0 ⟨K⟩ = K 0 ti34 := field_of (ti := ti40) (tf := ti34) (fo := (0, 34)) (fs := [(0, 34), (2, 3)]) tf40 rfl rfl tf34
theorem pl40_0 {K : Nat → Nat → Prop} : placeF Tryz.prog [(0, 34), (2, 3)] 0 K = K 0 2 := place_of (tf := ti34) (fo := (0, 34)) (fs := [(0, 34), (2, 3)]) rfl tf34
theorem fld40_1 {K : Nat → TI → Prop} : @fieldW Tryz.prog 40 1 ⟨K⟩ = K 2 ti3 := field_of (ti := ti40) (tf := ti3) (fo := (2, 3)) (fs := [(0, 34), (2, 3)]) tf40 rfl rfl tf3
theorem pl40_1 {K : Nat → Nat → Prop} : placeF Tryz.prog [(0, 34), (2, 3)] 1 K = K 2 1 := place_of (tf := ti3) (fo := (2, 3)) (fs := [(0, 34), (2, 3)]) rfl tf3
theorem fsok40 : ∀ f ∈ ([(0, 34), (2, 3)] : List (Nat × Nat)), (tyOf Tryz.prog f.2).isSome = true := by
  intro f hf
  simp only [List.mem_cons, List.not_mem_nil, or_false] at hf
  rcases hf with rfl | rfl
  · rw [tf34]; rfl
  · rw [tf3]; rfl
theorem bld40 {ps : List (Nat × AV)} {K : AV → Prop} : @buildW Tryz.prog 40 ps ⟨K⟩ = @fillW (placeF Tryz.prog [(0, 34), (2, 3)]) (zc ti40) ps ⟨fun cs => K (.ag cs)⟩ := build_of tf40 rfl fsok40
theorem ty42 {K : TI → Prop} : @tyW Tryz.prog 42 ⟨K⟩ = K ti42 := ty_of tf42
theorem ti42_kd : ti42.kd = Kd.oth := _root_.id rfl
theorem ti42_agg : ti42.kd.agg = false := _root_.id rfl
theorem ti42_size : ti42.size = 1 := _root_.id rfl
theorem ti42_bytes : ti42.bytes = 8 := _root_.id rfl
theorem ti42_zs : zszW ti42 = True := eq_true rfl
theorem ti42_zc : zc ti42 = [.v Value.nilFunc] := _root_.id rfl
theorem ty44 {K : TI → Prop} : @tyW Tryz.prog 44 ⟨K⟩ = K ti44 := ty_of tf44
theorem ti44_kd : ti44.kd = Kd.oth := _root_.id rfl
theorem ti44_agg : ti44.kd.agg = false := _root_.id rfl
theorem ti44_size : ti44.size = 1 := _root_.id rfl
theorem ti44_bytes : ti44.bytes = 8 := _root_.id rfl
theorem ti44_zs : zszW ti44 = True := eq_true rfl
theorem ti44_zc : zc ti44 = [.v Value.nilFunc] := _root_.id rfl
theorem ty45 {K : TI → Prop} : @tyW Tryz.prog 45 ⟨K⟩ = K ti45 := ty_of tf45
theorem ti45_kd : ti45.kd = Kd.oth := _root_.id rfl
theorem ti45_agg : ti45.kd.agg = false := _root_.id rfl
theorem ti45_size : ti45.size = 1 := _root_.id rfl
theorem ti45_bytes : ti45.bytes = 8 := _root_.id rfl
theorem ti45_zs : zszW ti45 = True := eq_true rfl
theorem ti45_zc : zc ti45 = [.v Value.nilFunc] := _root_.id rfl
theorem ty46 {K : TI → Prop} : @tyW Tryz.prog 46 ⟨K⟩ = K ti46 := ty_of tf46
theorem ti46_kd : ti46.kd = Kd.oth := _root_.id rfl
theorem ti46_agg : ti46.kd.agg = false := _root_.id rfl
theorem ti46_size : ti46.size = 1 := _root_.id rfl
theorem ti46_bytes : ti46.bytes = 8 := _root_.id rfl
theorem ti46_zs : zszW ti46 = True := eq_true rfl
theorem ti46_zc : zc ti46 = [.v Value.nilFunc] := _root_.id rfl
theorem ty47 {K : TI → Prop} : @tyW Tryz.prog 47 ⟨K⟩ = K ti47 := ty_of tf47
theorem ti47_kd : ti47.kd = Kd.oth := _root_.id rfl
theorem ti47_agg : ti47.kd.agg = false := _root_.id rfl
theorem ti47_size : ti47.size = 1 := _root_.id rfl
theorem ti47_bytes : ti47.bytes = 8 := _root_.id rfl
theorem ti47_zs : zszW ti47 = True := eq_true rfl
theorem ti47_zc : zc ti47 = [.v Value.nilFunc] := _root_.id rfl
theorem ty48 {K : TI → Prop} : @tyW Tryz.prog 48 ⟨K⟩ = K ti48 := ty_of tf48
theorem ti48_kd : ti48.kd = Kd.oth := _root_.id rfl
theorem ti48_agg : ti48.kd.agg = false := _root_.id rfl
theorem ti48_size : ti48.size = 1 := _root_.id rfl
theorem ti48_bytes : ti48.bytes = 8 := _root_.id rfl
theorem ti48_zs : zszW ti48 = True := eq_true rfl
theorem ti48_zc : zc ti48 = [.v Value.nilFunc] := _root_.id rfl
theorem ty49 {K : TI → Prop} : @tyW Tryz.prog 49 ⟨K⟩ = K ti49 := ty_of tf49
theorem ti49_kd : ti49.kd = Kd.oth := _root_.id rfl
theorem ti49_agg : ti49.kd.agg = false := _root_.id rfl
theorem ti49_size : ti49.size = 1 := _root_.id rfl
theorem ti49_bytes : ti49.bytes = 8 := _root_.id rfl
theorem ti49_zs : zszW ti49 = True := eq_true rfl
theorem ti49_zc : zc ti49 = [.v Value.nilFunc] := _root_.id rfl
theorem ty50 {K : TI → Prop} : @tyW Tryz.prog 50 ⟨K⟩ = K ti50 := ty_of tf50
theorem ti50_kd : ti50.kd = Kd.oth := _root_.id rfl
theorem ti50_agg : ti50.kd.agg = false := _root_.id rfl
theorem ti50_size : ti50.size = 1 := _root_.id rfl
theorem ti50_bytes : ti50.bytes = 8 := _root_.id rfl
theorem ti50_zs : zszW ti50 = True := eq_true rfl
theorem ti50_zc : zc ti50 = [.v Value.nilFunc] := _root_.id rfl
theorem ty52 {K : TI → Prop} : @tyW Tryz.prog 52 ⟨K⟩ = K ti52 := ty_of tf52
theorem ti52_kd : ti52.kd = Kd.oth := _root_.id rfl
theorem ti52_agg : ti52.kd.agg = false := _root_.id rfl
theorem ti52_size : ti52.size = 1 := _root_.id rfl
theorem ti52_bytes : ti52.bytes = 8 := _root_.id rfl
theorem ti52_zs : zszW ti52 = True := eq_true rfl
theorem ti52_zc : zc ti52 = [.v Value.nilFunc] := _root_.id rfl
theorem ty53 {K : TI → Prop} : @tyW Tryz.prog 53 ⟨K⟩ = K ti53 := ty_of tf53
theorem ti53_kd : ti53.kd = Kd.oth := _root_.id rfl
theorem ti53_agg : ti53.kd.agg = false := _root_.id rfl
theorem ti53_size : ti53.size = 1 := _root_.id rfl
theorem ti53_bytes : ti53.bytes = 8 := _root_.id rfl
theorem ti53_zs : zszW ti53 = True := eq_true rfl
theorem ti53_zc : zc ti53 = [.v Value.nilFunc] := _root_.id rfl
theorem ty54 {K : TI → Prop} : @tyW Tryz.prog 54 ⟨K⟩ = K ti54 := ty_of tf54
theorem ti54_kd : ti54.kd = Kd.oth := _root_.id rfl
theorem ti54_agg : ti54.kd.agg = false := _root_.id rfl
theorem ti54_size : ti54.size = 1 := _root_.id rfl
theorem ti54_bytes : ti54.bytes = 8 := _root_.id rfl
theorem ti54_zs : zszW ti54 = True := eq_true rfl
theorem ti54_zc : zc ti54 = [.v Value.nilFunc] := _root_.id rfl
theorem ty55 {K : TI → Prop} : @tyW Tryz.prog 55 ⟨K⟩ = K ti55 := ty_of tf55
theorem ti55_kd : ti55.kd = Kd.oth := _root_.id rfl
theorem ti55_agg : ti55.kd.agg = false := _root_.id rfl
theorem ti55_size : ti55.size = 1 := _root_.id rfl
theorem ti55_bytes : ti55.bytes = 8 := _root_.id rfl
theorem ti55_zs : zszW ti55 = True := eq_true rfl
theorem ti55_zc : zc ti55 = [.v Value.nilFunc] := _root_.id rfl
theorem ty57 {K : TI → Prop} : @tyW Tryz.prog 57 ⟨K⟩ = K ti57 := ty_of tf57
theorem ti57_kd : ti57.kd = Kd.oth := _root_.id rfl
theorem ti57_agg : ti57.kd.agg = false := _root_.id rfl
theorem ti57_size : ti57.size = 1 := _root_.id rfl
theorem ti57_bytes : ti57.bytes = 8 := _root_.id rfl
theorem ti57_zs : zszW ti57 = True := eq_true rfl
theorem ti57_zc : zc ti57 = [.v Value.nilFunc] := _root_.id rfl
theorem ty58 {K : TI → Prop} : @tyW Tryz.prog 58 ⟨K⟩ = K ti58 := ty_of tf58
theorem ti58_kd : ti58.kd = Kd.oth := _root_.id rfl
theorem ti58_agg : ti58.kd.agg = false := _root_.id rfl
theorem ti58_size : ti58.size = 1 := _root_.id rfl
theorem ti58_bytes : ti58.bytes = 8 := _root_.id rfl
theorem ti58_zs : zszW ti58 = True := eq_true rfl
theorem ti58_zc : zc ti58 = [.v Value.nilFunc] := _root_.id rfl
theorem ty60 {K : TI → Prop} : @tyW Tryz.prog 60 ⟨K⟩ = K ti60 := ty_of tf60
theorem ti60_kd : ti60.kd = Kd.oth := _root_.id rfl
theorem ti60_agg : ti60.kd.agg = false := _root_.id rfl
theorem ti60_size : ti60.size = 1 := _root_.id rfl
theorem ti60_bytes : ti60.bytes = 8 := _root_.id rfl
theorem ti60_zs : zszW ti60 = True := eq_true rfl
theorem ti60_zc : zc ti60 = [.v Value.nilFunc] := _root_.id rfl
theorem ty61 {K : TI → Prop} : @tyW Tryz.prog 61 ⟨K⟩ = K ti61 := ty_of tf61
theorem ti61_kd : ti61.kd = Kd.oth := _root_.id rfl
theorem ti61_agg : ti61.kd.agg = false := _root_.id rfl
theorem ti61_size : ti61.size = 1 := _root_.id rfl
theorem ti61_bytes : ti61.bytes = 8 := _root_.id rfl
theorem ti61_zs : zszW ti61 = True := eq_true rfl
theorem ti61_zc : zc ti61 = [.v Value.nilFunc] := _root_.id rfl
theorem ty62 {K : TI → Prop} : @tyW Tryz.prog 62 ⟨K⟩ = K ti62 := ty_of tf62
theorem ti62_kd : ti62.kd = Kd.oth := _root_.id rfl
theorem ti62_agg : ti62.kd.agg = false := _root_.id rfl
theorem ti62_size : ti62.size = 1 := _root_.id rfl
theorem ti62_bytes : ti62.bytes = 8 := _root_.id rfl
theorem ti62_zs : zszW ti62 = True := eq_true rfl
theorem ti62_zc : zc ti62 = [.v Value.nilFunc] := _root_.id rfl
theorem ty64 {K : TI → Prop} : @tyW Tryz.prog 64 ⟨K⟩ = K ti64 := ty_of tf64
theorem ti64_kd : ti64.kd = Kd.oth := _root_.id rfl
theorem ti64_agg : ti64.kd.agg = false := _root_.id rfl
theorem ti64_size : ti64.size = 1 := _root_.id rfl
theorem ti64_bytes : ti64.bytes = 8 := _root_.id rfl
theorem ti64_zs : zszW ti64 = True := eq_true rfl
theorem ti64_zc : zc ti64 = [.v Value.nilFunc] := _root_.id rfl
theorem ty65 {K : TI → Prop} : @tyW Tryz.prog 65 ⟨K⟩ = K ti65 := ty_of tf65
theorem ti65_kd : ti65.kd = Kd.oth := _root_.id rfl
theorem ti65_agg : ti65.kd.agg = false := _root_.id rfl
theorem ti65_size : ti65.size = 1 := _root_.id rfl
theorem ti65_bytes : ti65.bytes = 8 := _root_.id rfl
theorem ti65_zs : zszW ti65 = True := eq_true rfl
theorem ti65_zc : zc ti65 = [.v Value.nilFunc] := _root_.id rfl
theorem ty66 {K : TI → Prop} : @tyW Tryz.prog 66 ⟨K⟩ = K ti66 := ty_of tf66
theorem ti66_kd : ti66.kd = Kd.oth := _root_.id rfl
theorem ti66_agg : ti66.kd.agg = false := _root_.id rfl
theorem ti66_size : ti66.size = 1 := _root_.id rfl
theorem ti66_bytes : ti66.bytes = 8 := _root_.id rfl
theorem ti66_zs : zszW ti66 = True := eq_true rfl
theorem ti66_zc : zc ti66 = [.v Value.nilFunc] := _root_.id rfl
theorem ty67 {K : TI → Prop} : @tyW Tryz.prog 67 ⟨K⟩ = K ti67 := ty_of tf67
theorem ti67_kd : ti67.kd = Kd.oth := _root_.id rfl
theorem ti67_agg : ti67.kd.agg = false := _root_.id rfl
theorem ti67_size : ti67.size = 1 := _root_.id rfl
theorem ti67_bytes : ti67.bytes = 8 := _root_.id rfl
theorem ti67_zs : zszW ti67 = True := eq_true rfl
theorem ti67_zc : zc ti67 = [.v Value.nilFunc] := _root_.id rfl
theorem ty68 {K : TI → Prop} : @tyW Tryz.prog 68 ⟨K⟩ = K ti68 := ty_of tf68
theorem ti68_kd : ti68.kd = Kd.oth := _root_.id rfl
theorem ti68_agg : ti68.kd.agg = false := _root_.id rfl
theorem ti68_size : ti68.size = 1 := _root_.id rfl
theorem ti68_bytes : ti68.bytes = 8 := _root_.id rfl
theorem ti68_zs : zszW ti68 = True := eq_true rfl
theorem ti68_zc : zc ti68 = [.v Value.nilFunc] := _root_.id rfl
theorem ty69 {K : TI → Prop} : @tyW Tryz.prog 69 ⟨K⟩ = K ti69 := ty_of tf69
theorem ti69_kd : ti69.kd = Kd.oth := _root_.id rfl
theorem ti69_agg : ti69.kd.agg = false := _root_.id rfl
theorem ti69_size : ti69.size = 1 := _root_.id rfl
theorem ti69_bytes : ti69.bytes = 8 := _root_.id rfl
theorem ti69_zs : zszW ti69 = True := eq_true rfl
theorem ti69_zc : zc ti69 = [.v Value.nilFunc] := _root_.id rfl
theorem ty70 {K : TI → Prop} : @tyW Tryz.prog 70 ⟨K⟩ = K ti70 := ty_of tf70
theorem ti70_kd : ti70.kd = Kd.oth := _root_.id rfl
theorem ti70_agg : ti70.kd.agg = false := _root_.id rfl
theorem ti70_size : ti70.size = 1 := _root_.id rfl
theorem ti70_bytes : ti70.bytes = 8 := _root_.id rfl
theorem ti70_zs : zszW ti70 = True := eq_true rfl
theorem ti70_zc : zc ti70 = [.v Value.nilFunc] := _root_.id rfl
theorem ty71 {K : TI → Prop} : @tyW Tryz.prog 71 ⟨K⟩ = K ti71 := ty_of tf71
theorem ti71_kd : ti71.kd = Kd.stru [(0, 4), (1, 30), (2, 3)] := _root_.id rfl
theorem ti71_agg : ti71.kd.agg = true := _root_.id rfl
theorem ti71_size : ti71.size = 3 := _root_.id rfl
theorem ti71_bytes : ti71.bytes = 40 := _root_.id rfl
theorem ti71_zs : zszW ti71 = True := eq_true rfl
theorem ti71_zc : zc ti71 = [.v (Value.bool false), .v (Value.slice none 0 0), .v (Value.int IntKind.i64 0)] := _root_.id rfl
theorem fld71_0 {K : Nat → TI → Prop} : @fieldW Tryz.prog 71 0 ⟨K⟩ = K 0 ti4 := field_of (ti := ti71) (tf := ti4) (fo := (0, 4)) (fs := [(0, 4), (1, 30), (2, 3)]) tf71 rfl rfl tf4
theorem pl71_0 {K : Nat → Nat → Prop} : placeF Tryz.prog [(0, 4), (1, 30), (2, 3)] 0 K = K 0 1 := place_of (tf := ti4) (fo := (0, 4)) (fs := [(0, 4), (1, 30), (2, 3)]) rfl tf4
theorem fld71_1 {K : Nat → TI → Prop} : @fieldW Tryz.prog 71 1 ⟨K⟩ = K 1 ti30 := field_of (ti := ti71) (tf := ti30) (fo := (1, 30)) (fs := [(0, 4), (1, 30), (2, 3)]) tf71 rfl rfl tf30
theorem pl71_1 {K : Nat → Nat → Prop} : placeF Tryz.prog [(0, 4), (1, 30), (2, 3)] 1 K = K 1 1 := place_of (tf := ti30) (fo := (1, 30)) (fs := [(0, 4), (1, 30), (2, 3)]) rfl tf30
theorem fld71_2 {K : Nat → TI → Prop} : @fieldW Tryz.prog 71 2 ⟨K⟩ = K 2 ti3 := field_of (ti := ti71) (tf := ti3) (fo := (2, 3)) (fs := [(0, 4), (1, 30), (2, 3)]) tf71 rfl rfl tf3
theorem pl71_2 {K : Nat → Nat → Prop} : placeF Tryz.prog [(0, 4), (1, 30), (2, 3)] 2 K = K 2 1 := place_of (tf := ti3) (fo := (2, 3)) (fs := [(0, 4), (1, 30), (2, 3)]) rfl tf3
theorem fsok71 : ∀ f ∈ ([(0, 4), (1, 30), (2, 3)] : List (Nat × Nat)), (tyOf Tryz.prog f.2).isSome = true := by
  intro f hf
  simp only [List.mem_cons, List.not_mem_nil, or_false] at hf
  rcases hf with rfl | rfl | rfl
  · rw [tf4]; rfl
  · rw [tf30]; rfl
  · rw [tf3]; rfl
theorem bld71 {ps : List (Nat × AV)} {K : AV → Prop} : @buildW Tryz.prog 71 ps ⟨K⟩ = @fillW (placeF Tryz.prog [(0, 4), (1, 30), (2, 3)]) (zc ti71) ps ⟨fun cs => K (.ag cs)⟩ := build_of tf71 rfl fsok71
theorem ty72 {K : TI → Prop} : @tyW Tryz.prog 72 ⟨K⟩ = K ti72 := ty_of tf72
theorem ti72_kd : ti72.kd = Kd.stru [(0, 4), (1, 30), (2, 3)] := _root_.id rfl
theorem ti72_agg : ti72.kd.agg = true := _root_.id rfl
theorem ti72_size : ti72.size = 3 := _root_.id rfl
theorem ti72_bytes : ti72.bytes = 40 := _root_.id rfl
theorem ti72_zs : zszW ti72 = True := eq_true rfl
theorem ti72_zc : zc ti72 = [.v (Value.bool false), .v (Value.slice none 0 0), .v (Value.int IntKind.i64 0)] := _root_.id rfl
theorem fld72_0 {K : Nat → TI → Prop} : @fieldW Tryz.prog 72 0 ⟨K⟩ = K 0 ti4 := field_of (ti := ti72) (tf := ti4) (fo := (0, 4)) (fs := [(0, 4), (1, 30), (2, 3)]) tf72 rfl rfl tf4
theorem pl72_0 {K : Nat → Nat → Prop} : placeF Tryz.prog [(0, 4), (1, 30), (2, 3)] 0 K = K 0 1 := place_of (tf := ti4) (fo := (0, 4)) (fs := [(0, 4), (1, 30), (2, 3)]) rfl tf4
theorem fld72_1 {K : Nat → TI → Prop} : @fieldW Tryz.prog 72 1 ⟨K⟩ = K 1 ti30 := field_of (ti := ti72) (tf := ti30) (fo := (1, 30)) (fs := [(0, 4), (1, 30), (2, 3)]) tf72 rfl rfl tf30
theorem pl72_1 {K : Nat → Nat → Prop} : placeF Tryz.prog [(0, 4), (1, 30), (2, 3)] 1 K = K 1 1 := place_of (tf := ti30) (fo := (1, 30)) (fs := [(0, 4), (1, 30), (2, 3)]) rfl tf30
theorem fld72_2 {K : Nat → TI → Prop} : @fieldW Tryz.prog 72 2 ⟨K⟩ = K 2 ti3 := field_of (ti := ti72) (tf := ti3) (fo := (2, 3)) (fs := [(0, 4), (1, 30), (2, 3)]) tf72 rfl rfl tf3
theorem pl72_2 {K : Nat → Nat → Prop} : placeF Tryz.prog [(0, 4), (1, 30), (2, 3)] 2 K = K 2 1 := place_of (tf := ti3) (fo := (2, 3)) (fs := [(0, 4), (1, 30), (2, 3)]) rfl tf3
theorem fsok72 : ∀ f ∈ ([(0, 4), (1, 30), (2, 3)] : List (Nat × Nat)), (tyOf Tryz.prog f.2).isSome = true := by
  intro f hf
  simp only [List.mem_cons, List.not_mem_nil, or_false] at hf
  rcases hf with rfl | rfl | rfl
  · rw [tf4]; rfl
  · rw [tf30]; rfl
  · rw [tf3]; rfl
theorem bld72 {ps : List (Nat × AV)} {K : AV → Prop} : @buildW Tryz.prog 72 ps ⟨K⟩ = @fillW (placeF Tryz.prog [(0, 4), (1, 30), (2, 3)]) (zc ti72) ps ⟨fun cs => K (.ag cs)⟩ := build_of tf72 rfl fsok72
theorem ty73 {K : TI → Prop} : @tyW Tryz.prog 73 ⟨K⟩ = K ti73 := ty_of tf73
theorem ti73_kd : ti73.kd = Kd.oth := _root_.id rfl
theorem ti73_agg : ti73.kd.agg = false := _root_.id rfl
theorem ti73_size : ti73.size = 1 := _root_.id rfl
theorem ti73_bytes : ti73.bytes = 8 := _root_.id rfl
theorem ti73_zs : zszW ti73 = True := eq_true rfl
theorem ti73_zc : zc ti73 = [.v Value.nilFunc] := _root_.id rfl
theorem ty74 {K : TI → Prop} : @tyW Tryz.prog 74 ⟨K⟩ = K ti74 := ty_of tf74
theorem ti74_kd : ti74.kd = Kd.oth := _root_.id rfl
theorem ti74_agg : ti74.kd.agg = false := _root_.id rfl
theorem ti74_size : ti74.size = 1 := _root_.id rfl
theorem ti74_bytes : ti74.bytes = 8 := _root_.id rfl
theorem ti74_zs : zszW ti74 = True := eq_true rfl
theorem ti74_zc : zc ti74 = [.v Value.nilFunc] := _root_.id rfl
theorem ty75 {K : TI → Prop} : @tyW Tryz.prog 75 ⟨K⟩ = K ti75 := ty_of tf75
theorem ti75_kd : ti75.kd = Kd.oth := _root_.id rfl
theorem ti75_agg : ti75.kd.agg = false := _root_.id rfl
theorem ti75_size : ti75.size = 1 := _root_.id rfl
theorem ti75_bytes : ti75.bytes = 8 := _root_.id rfl
theorem ti75_zs : zszW ti75 = True := eq_true rfl
theorem ti75_zc : zc ti75 = [.v Value.nilFunc] := _root_.id rfl
theorem ty76 {K : TI → Prop} : @tyW Tryz.prog 76 ⟨K⟩ = K ti76 := ty_of tf76
theorem ti76_kd : ti76.kd = Kd.oth := _root_.id rfl
theorem ti76_agg : ti76.kd.agg = false := _root_.id rfl
theorem ti76_size : ti76.size = 1 := _root_.id rfl
theorem ti76_bytes : ti76.bytes = 8 := _root_.id rfl
theorem ti76_zs : zszW ti76 = True := eq_true rfl
theorem ti76_zc : zc ti76 = [.v Value.nilFunc] := _root_.id rfl
theorem ty78 {K : TI → Prop} : @tyW Tryz.prog 78 ⟨K⟩ = K ti78 := ty_of tf78
theorem ti78_kd : ti78.kd = Kd.oth := _root_.id rfl
theorem ti78_agg : ti78.kd.agg = false := _root_.id rfl
theorem ti78_size : ti78.size = 1 := _root_.id rfl
theorem ti78_bytes : ti78.bytes = 8 := _root_.id rfl
theorem ti78_zs : zszW ti78 = True := eq_true rfl
theorem ti78_zc : zc ti78 = [.v Value.nilFunc] := _root_.id rfl
theorem ty79 {K : TI → Prop} : @tyW Tryz.prog 79 ⟨K⟩ = K ti79 := ty_of tf79
theorem ti79_kd : ti79.kd = Kd.oth := _root_.id rfl
theorem ti79_agg : ti79.kd.agg = false := _root_.id rfl
theorem ti79_size : ti79.size = 1 := _root_.id rfl
theorem ti79_bytes : ti79.bytes = 8 := _root_.id rfl
theorem ti79_zs : zszW ti79 = True := eq_true rfl
theorem ti79_zc : zc ti79 = [.v Value.nilFunc] := _root_.id rfl
theorem ty80 {K : TI → Prop} : @tyW Tryz.prog 80 ⟨K⟩ = K ti80 := ty_of tf80
theorem ti80_kd : ti80.kd = Kd.oth := _root_.id rfl
theorem ti80_agg : ti80.kd.agg = false := _root_.id rfl
theorem ti80_size : ti80.size = 1 := _root_.id rfl
theorem ti80_bytes : ti80.bytes = 8 := _root_.id rfl
theorem ti80_zs : zszW ti80 = True := eq_true rfl
theorem ti80_zc : zc ti80 = [.v Value.nilFunc] := _root_.id rfl
theorem ty81 {K : TI → Prop} : @tyW Tryz.prog 81 ⟨K⟩ = K ti81 := ty_of tf81
theorem ti81_kd : ti81.kd = Kd.oth := _root_.id rfl
theorem ti81_agg : ti81.kd.agg = false := _root_.id rfl
theorem ti81_size : ti81.size = 1 := _root_.id rfl
theorem ti81_bytes : ti81.bytes = 8 := _root_.id rfl
theorem ti81_zs : zszW ti81 = True := eq_true rfl
theorem ti81_zc : zc ti81 = [.v Value.nilFunc] := _root_.id rfl
theorem ty82 {K : TI → Prop} : @tyW Tryz.prog 82 ⟨K⟩ = K ti82 := ty_of tf82
theorem ti82_kd : ti82.kd = Kd.oth := _root_.id rfl
theorem ti82_agg : ti82.kd.agg = false := _root_.id rfl
theorem ti82_size : ti82.size = 1 := _root_.id rfl
theorem ti82_bytes : ti82.bytes = 8 := _root_.id rfl
theorem ti82_zs : zszW ti82 = True := eq_true rfl
theorem ti82_zc : zc ti82 = [.v Value.nilFunc] := _root_.id rfl
theorem ty83 {K : TI → Prop} : @tyW Tryz.prog 83 ⟨K⟩ = K ti83 := ty_of tf83
theorem ti83_kd : ti83.kd = Kd.oth := _root_.id rfl
theorem ti83_agg : ti83.kd.agg = false := _root_.id rfl
theorem ti83_size : ti83.size = 1 := _root_.id rfl
theorem ti83_bytes : ti83.bytes = 8 := _root_.id rfl
theorem ti83_zs : zszW ti83 = True := eq_true rfl
theorem ti83_zc : zc ti83 = [.v Value.nilFunc] := _root_.id rfl
theorem ty84 {K : TI → Prop} : @tyW Tryz.prog 84 ⟨K⟩ = K ti84 := ty_of tf84
theorem ti84_kd : ti84.kd = Kd.oth := _root_.id rfl
theorem ti84_agg : ti84.kd.agg = false := _root_.id rfl
theorem ti84_size : ti84.size = 1 := _root_.id rfl
theorem ti84_bytes : ti84.bytes = 8 := _root_.id rfl
theorem ti84_zs : zszW ti84 = True := eq_true rfl
theorem ti84_zc : zc ti84 = [.v Value.nilFunc] := _root_.id rfl
theorem ty85 {K : TI → Prop} : @tyW Tryz.prog 85 ⟨K⟩ = K ti85 := ty_of tf85
theorem ti85_kd : ti85.kd = Kd.oth := _root_.id rfl
theorem ti85_agg : ti85.kd.agg = false := _root_.id rfl
theorem ti85_size : ti85.size = 1 := _root_.id rfl
theorem ti85_bytes : ti85.bytes = 8 := _root_.id rfl
theorem ti85_zs : zszW ti85 = True := eq_true rfl
theorem ti85_zc : zc ti85 = [.v Value.nilFunc] := _root_.id rfl
theorem ty86 {K : TI → Prop} : @tyW Tryz.prog 86 ⟨K⟩ = K ti86 := ty_of tf86
theorem ti86_kd : ti86.kd = Kd.oth := _root_.id rfl
theorem ti86_agg : ti86.kd.agg = false := _root_.id rfl
theorem ti86_size : ti86.size = 1 := _root_.id rfl
theorem ti86_bytes : ti86.bytes = 8 := _root_.id rfl
theorem ti86_zs : zszW ti86 = True := eq_true rfl
theorem ti86_zc : zc ti86 = [.v Value.nilFunc] := _root_.id rfl
theorem ty87 {K : TI → Prop} : @tyW Tryz.prog 87 ⟨K⟩ = K ti87 := ty_of tf87
theorem ti87_kd : ti87.kd = Kd.oth := _root_.id rfl
theorem ti87_agg : ti87.kd.agg = false := _root_.id rfl
theorem ti87_size : ti87.size = 1 := _root_.id rfl
theorem ti87_bytes : ti87.bytes = 8 := _root_.id rfl
theorem ti87_zs : zszW ti87 = True := eq_true rfl
theorem ti87_zc : zc ti87 = [.v Value.nilFunc] := _root_.id rfl
theorem ty88 {K : TI → Prop} : @tyW Tryz.prog 88 ⟨K⟩ = K ti88 := ty_of tf88
theorem ti88_kd : ti88.kd = Kd.oth := _root_.id rfl
theorem ti88_agg : ti88.kd.agg = false := _root_.id rfl
theorem ti88_size : ti88.size = 1 := _root_.id rfl
theorem ti88_bytes : ti88.bytes = 8 := _root_.id rfl
theorem ti88_zs : zszW ti88 = True := eq_true rfl
theorem ti88_zc : zc ti88 = [.v Value.nilFunc] := _root_.id rfl
theorem ty89 {K : TI → Prop} : @tyW Tryz.prog 89 ⟨K⟩ = K ti89 := ty_of tf89
theorem ti89_kd : ti89.kd = Kd.oth := _root_.id rfl
theorem ti89_agg : ti89.kd.agg = false := _root_.id rfl
theorem ti89_size : ti89.size = 1 := _root_.id rfl
theorem ti89_bytes : ti89.bytes = 8 := _root_.id rfl
theorem ti89_zs : zszW ti89 = True := eq_true rfl
theorem ti89_zc : zc ti89 = [.v Value.nilFunc] := _root_.id rfl
theorem ty90 {K : TI → Prop} : @tyW Tryz.prog 90 ⟨K⟩ = K ti90 := ty_of tf90
theorem ti90_kd : ti90.kd = Kd.oth := _root_.id rfl
theorem ti90_agg : ti90.kd.agg = false := _root_.id rfl
theorem ti90_size : ti90.size = 1 := _root_.id rfl
theorem ti90_bytes : ti90.bytes = 8 := _root_.id rfl
theorem ti90_zs : zszW ti90 = True := eq_true rfl
theorem ti90_zc : zc ti90 = [.v Value.nilFunc] := _root_.id rfl
theorem ty92 {K : TI → Prop} : @tyW Tryz.prog 92 ⟨K⟩ = K ti92 := ty_of tf92
theorem ti92_kd : ti92.kd = Kd.oth := _root_.id rfl
theorem ti92_agg : ti92.kd.agg = false := _root_.id rfl
theorem ti92_size : ti92.size = 1 := _root_.id rfl
theorem ti92_bytes : ti92.bytes = 8 := _root_.id rfl
theorem ti92_zs : zszW ti92 = True := eq_true rfl
theorem ti92_zc : zc ti92 = [.v Value.nilFunc] := _root_.id rfl
theorem ty93 {K : TI → Prop} : @tyW Tryz.prog 93 ⟨K⟩ = K ti93 := ty_of tf93
theorem ti93_kd : ti93.kd = Kd.oth := _root_.id rfl
theorem ti93_agg : ti93.kd.agg = false := _root_.id rfl
theorem ti93_size : ti93.size = 1 := _root_.id rfl
theorem ti93_bytes : ti93.bytes = 8 := _root_.id rfl
theorem ti93_zs : zszW ti93 = True := eq_true rfl
theorem ti93_zc : zc ti93 = [.v Value.nilFunc] := _root_.id rfl
theorem ty94 {K : TI → Prop} : @tyW Tryz.prog 94 ⟨K⟩ = K ti94 := ty_of tf94
theorem ti94_kd : ti94.kd = Kd.oth := _root_.id rfl
theorem ti94_agg : ti94.kd.agg = false := _root_.id rfl
theorem ti94_size : ti94.size = 1 := _root_.id rfl
theorem ti94_bytes : ti94.bytes = 8 := _root_.id rfl
theorem ti94_zs : zszW ti94 = True := eq_true rfl
theorem ti94_zc : zc ti94 = [.v Value.nilFunc] := _root_.id rfl
theorem ty95 {K : TI → Prop} : @tyW Tryz.prog 95 ⟨K⟩ = K ti95 := ty_of tf95
theorem ti95_kd : ti95.kd = Kd.stru [(0, 22), (1, 3), (2, 3)] := _root_.id rfl
theorem ti95_agg : ti95.kd.agg = true := _root_.id rfl
theorem ti95_size : ti95.size = 3 := _root_.id rfl
theorem ti95_bytes : ti95.bytes = 40 := _root_.id rfl
theorem ti95_zs : zszW ti95 = True := eq_true rfl
theorem ti95_zc : zc ti95 = [.v (Value.slice none 0 0), .v (Value.int IntKind.i64 0), .v (Value.int IntKind.i64 0)] := _root_.id rfl
theorem fld95_0 {K : Nat → TI → Prop} : @fieldW Tryz.prog 95 0 ⟨K⟩ = K 0 ti22 := field_of (ti := ti95) (tf := ti22) (fo := (0, 22)) (fs := [(0, 22), (1, 3), (2, 3)]) tf95 rfl rfl tf22
theorem pl95_0 {K : Nat → Nat → Prop} : placeF Tryz.prog [(0, 22), (1, 3), (2, 3)] 0 K = K 0 1 := place_of (tf := ti22) (fo := (0, 22)) (fs := [(0, 22), (1, 3), (2, 3)]) rfl tf22
theorem fld95_1 {K : Nat → TI → Prop} : @fieldW Tryz.prog 95 1 ⟨K⟩ = K 1 ti3 := field_of (ti := ti95) (tf := ti3) (fo := (1, 3)) (fs := [(0, 22), (1, 3), (2, 3)]) tf95 rfl rfl tf3
theorem pl95_1 {K : Nat → Nat → Prop} : placeF Tryz.prog [(0, 22), (1, 3), (2, 3)] 1 K = K 1 1 := place_of (tf := ti3) (fo := (1, 3)) (fs := [(0, 22), (1, 3), (2, 3)]) rfl tf3
theorem fld95_2 {K : Nat → TI → Prop} : @fieldW Tryz.prog 95 2 ⟨K⟩ = K 2 ti3 := field_of (ti := ti95) (tf := ti3) (fo := (2, 3)) (fs := [(0, 22), (1, 3), (2, 3)]) tf95 rfl rfl tf3
theorem pl95_2 {K : Nat → Nat → Prop} : placeF Tryz.prog [(0, 22), (1, 3), (2, 3)] 2 K = K 2 1 := place_of (tf := ti3) (fo := (2, 3)) (fs := [(0, 22), (1, 3), (2, 3)]) rfl tf3
theorem fsok95 : ∀ f ∈ ([(0, 22), (1, 3), (2, 3)] : List (Nat × Nat)), (tyOf Tryz.prog f.2).isSome = true := by
  intro f hf
  simp only [List.mem_cons, List.not_mem_nil, or_false] at hf
  rcases hf with rfl | rfl | rfl
  · rw [tf22]; rfl
  · rw [tf3]; rfl
  · rw [tf3]; rfl
theorem bld95 {ps : List (Nat × AV)} {K : AV → Prop} : @buildW Tryz.prog 95 ps ⟨K⟩ = @fillW (placeF Tryz.prog [(0, 22), (1, 3), (2, 3)]) (zc ti95) ps ⟨fun cs => K (.ag cs)⟩ := build_of tf95 rfl fsok95
theorem ty96 {K : TI → Prop} : @tyW Tryz.prog 96 ⟨K⟩ = K ti96 := ty_of tf96
theorem ti96_kd : ti96.kd = Kd.stru [(0, 22), (1, 3), (2, 3)] := _root_.id rfl
theorem ti96_agg : ti96.kd.agg = true := _root_.id rfl
theorem ti96_size : ti96.size = 3 := _root_.id rfl
theorem ti96_bytes : ti96.bytes = 40 := _root_.id rfl
theorem ti96_zs : zszW ti96 = True := eq_true rfl
theorem ti96_zc : zc ti96 = [.v (Value.slice none 0 0), .v (Value.int IntKind.i64 0), .v (Value.int IntKind.i64 0)] := _root_.id rfl
theorem fld96_0 {K : Nat → TI → Prop} : @fieldW Tryz.prog 96 0 ⟨K⟩ = K 0 ti22 := field_of (ti := ti96) (tf := ti22) (fo := (0, 22)) (fs := [(0, 22), (1, 3), (2, 3)]) tf96 rfl rfl tf22
theorem pl96_0 {K : Nat → Nat → Prop} : placeF Tryz.prog [(0, 22), (1, 3), (2, 3)] 0 K = K 0 1 := place_of (tf := ti22) (fo := (0, 22)) (fs := [(0, 22), (1, 3), (2, 3)]) rfl tf22
theorem fld96_1 {K : Nat → TI → Prop} : @fieldW Tryz.prog 96 1 ⟨K⟩ = K 1 ti3 := field_of (ti := ti96) (tf := ti3) (fo := (1, 3)) (fs := [(0, 22), (1, 3), (2, 3)]) tf96 rfl rfl tf3
theorem pl96_1 {K : Nat → Nat → Prop} : placeF Tryz.prog [(0, 22), (1, 3), (2, 3)] 1 K = K 1 1 := place_of (tf := ti3) (fo := (1, 3)) (fs := [(0, 22), (1, 3), (2, 3)]) rfl tf3
theorem fld96_2 {K : Nat → TI → Prop} : @fieldW Tryz.prog 96 2 ⟨K⟩ = K 2 ti3 := field_of (ti := ti96) (tf := ti3) (fo := (2, 3)) (fs := [(0, 22), (1, 3), (2, 3)]) tf96 rfl rfl tf3
theorem pl96_2 {K : Nat → Nat → Prop} : placeF Tryz.prog [(0, 22), (1, 3), (2, 3)] 2 K = K 2 1 := place_of (tf := ti3) (fo := (2, 3)) (fs := [(0, 22), (1, 3), (2, 3)]) rfl tf3
theorem fsok96 : ∀ f ∈ ([(0, 22), (1, 3), (2, 3)] : List (Nat × Nat)), (tyOf Tryz.prog f.2).isSome = true := by
  intro f hf
  simp only [List.mem_cons, List.not_mem_nil, or_false] at hf
  rcases hf with rfl | rfl | rfl
  · rw [tf22]; rfl
  · rw [tf3]; rfl
  · rw [tf3]; rfl
theorem bld96 {ps : List (Nat × AV)} {K : AV → Prop} : @buildW Tryz.prog 96 ps ⟨K⟩ = @fillW (placeF Tryz.prog [(0, 22), (1, 3), (2, 3)]) (zc ti96) ps ⟨fun cs => K (.ag cs)⟩ := build_of tf96 rfl fsok96
theorem ty97 {K : TI → Prop} : @tyW Tryz.prog 97 ⟨K⟩ = K ti97 := ty_of tf97
theorem ti97_kd : ti97.kd = Kd.oth := _root_.id rfl
theorem ti97_agg : ti97.kd.agg = false := _root_.id rfl
theorem ti97_size : ti97.size = 1 := _root_.id rfl
theorem ti97_bytes : ti97.bytes = 8 := _root_.id rfl
theorem ti97_zs : zszW ti97 = True := eq_true rfl
theorem ti97_zc : zc ti97 = [.v Value.nilFunc] := _root_.id rfl
theorem ty98 {K : TI → Prop} : @tyW Tryz.prog 98 ⟨K⟩ = K ti98 := ty_of tf98
theorem ti98_kd : ti98.kd = Kd.oth := _root_.id rfl
theorem ti98_agg : ti98.kd.agg = false := _root_.id rfl
theorem ti98_size : ti98.size = 1 := _root_.id rfl
theorem ti98_bytes : ti98.bytes = 8 := _root_.id rfl
theorem ti98_zs : zszW ti98 = True := eq_true rfl
theorem ti98_zc : zc ti98 = [.v Value.nilFunc] := _root_.id rfl
theorem ty99 {K : TI → Prop} : @tyW Tryz.prog 99 ⟨K⟩ = K ti99 := ty_of tf99
theorem ti99_kd : ti99.kd = Kd.oth := _root_.id rfl
theorem ti99_agg : ti99.kd.agg = false := _root_.id rfl
theorem ti99_size : ti99.size = 1 := _root_.id rfl
theorem ti99_bytes : ti99.bytes = 8 := _root_.id rfl
theorem ti99_zs : zszW ti99 = True := eq_true rfl
theorem ti99_zc : zc ti99 = [.v Value.nilFunc] := _root_.id rfl
theorem ty100 {K : TI → Prop} : @tyW Tryz.prog 100 ⟨K⟩ = K ti100 := ty_of tf100
theorem ti100_kd : ti100.kd = Kd.oth := _root_.id rfl
theorem ti100_agg : ti100.kd.agg = false := _root_.id rfl
theorem ti100_size : ti100.size = 1 := _root_.id rfl
theorem ti100_bytes : ti100.bytes = 8 := _root_.id rfl
theorem ti100_zs : zszW ti100 = True := eq_true rfl
theorem ti100_zc : zc ti100 = [.v Value.nilFunc] := _root_.id rfl
theorem ty101 {K : TI → Prop} : @tyW Tryz.prog 101 ⟨K⟩ = K ti101 := ty_of tf101
theorem ti101_kd : ti101.kd = Kd.oth := _root_.id rfl
theorem ti101_agg : ti101.kd.agg = false := _root_.id rfl
theorem ti101_size : ti101.size = 1 := _root_.id rfl
theorem ti101_bytes : ti101.bytes = 8 := _root_.id rfl
theorem ti101_zs : zszW ti101 = True := eq_true rfl
theorem ti101_zc : zc ti101 = [.v Value.nilFunc] := _root_.id rfl
theorem ty102 {K : TI → Prop} : @tyW Tryz.prog 102 ⟨K⟩ = K ti102 := ty_of tf102
theorem ti102_kd : ti102.kd = Kd.sli 26 := _root_.id rfl
theorem ti102_agg : ti102.kd.agg = false := _root_.id rfl
theorem ti102_size : ti102.size = 1 := _root_.id rfl
theorem ti102_bytes : ti102.bytes = 24 := _root_.id rfl
theorem ti102_zs : zszW ti102 = True := eq_true rfl
theorem ti102_zc : zc ti102 = [.v (Value.slice none 0 0)] := _root_.id rfl
theorem sli102 {K : TI → Prop} : @sliW Tryz.prog 102 ⟨K⟩ = K ti26 := sli_of tf102 rfl tf26
theorem ty103 {K : TI → Prop} : @tyW Tryz.prog 103 ⟨K⟩ = K ti103 := ty_of tf103
theorem ti103_kd : ti103.kd = Kd.oth := _root_.id rfl
theorem ti103_agg : ti103.kd.agg = false := _root_.id rfl
theorem ti103_size : ti103.size = 1 := _root_.id rfl
theorem ti103_bytes : ti103.bytes = 8 := _root_.id rfl
theorem ti103_zs : zszW ti103 = True := eq_true rfl
theorem ti103_zc : zc ti103 = [.v Value.nilFunc] := _root_.id rfl
theorem ty104 {K : TI → Prop} : @tyW Tryz.prog 104 ⟨K⟩ = K ti104 := ty_of tf104
theorem ti104_kd : ti104.kd = Kd.oth := _root_.id rfl
theorem ti104_agg : ti104.kd.agg = false := _root_.id rfl
theorem ti104_size : ti104.size = 1 := _root_.id rfl
theorem ti104_bytes : ti104.bytes = 8 := _root_.id rfl
theorem ti104_zs : zszW ti104 = True := eq_true rfl
theorem ti104_zc : zc ti104 = [.v Value.nilFunc] := _root_.id rfl
theorem ty106 {K : TI → Prop} : @tyW Tryz.prog 106 ⟨K⟩ = K ti106 := ty_of tf106
theorem ti106_kd : ti106.kd = Kd.oth := _root_.id rfl
theorem ti106_agg : ti106.kd.agg = false := _root_.id rfl
theorem ti106_size : ti106.size = 1 := _root_.id rfl
theorem ti106_bytes : ti106.bytes = 8 := _root_.id rfl
theorem ti106_zs : zszW ti106 = True := eq_true rfl
theorem ti106_zc : zc ti106 = [.v Value.nilFunc] := _root_.id rfl
theorem ty107 {K : TI → Prop} : @tyW Tryz.prog 107 ⟨K⟩ = K ti107 := ty_of tf107
theorem ti107_kd : ti107.kd = Kd.oth := _root_.id rfl
theorem ti107_agg : ti107.kd.agg = false := _root_.id rfl
theorem ti107_size : ti107.size = 1 := _root_.id rfl
theorem ti107_bytes : ti107.bytes = 8 := _root_.id rfl
theorem ti107_zs : zszW ti107 = True := eq_true rfl
theorem ti107_zc : zc ti107 = [.v Value.nilFunc] := _root_.id rfl
theorem ty108 {K : TI → Prop} : @tyW Tryz.prog 108 ⟨K⟩ = K ti108 := ty_of tf108
theorem ti108_kd : ti108.kd = Kd.oth := _root_.id rfl
theorem ti108_agg : ti108.kd.agg = false := _root_.id rfl
theorem ti108_size : ti108.size = 1 := _root_.id rfl
theorem ti108_bytes : ti108.bytes = 8 := _root_.id rfl
theorem ti108_zs : zszW ti108 = True := eq_true rfl
theorem ti108_zc : zc ti108 = [.v Value.nilFunc] := _root_.id rfl
theorem ty109 {K : TI → Prop} : @tyW Tryz.prog 109 ⟨K⟩ = K ti109 := ty_of tf109
theorem ti109_kd : ti109.kd = Kd.oth := _root_.id rfl
theorem ti109_agg : ti109.kd.agg = false := _root_.id rfl
theorem ti109_size : ti109.size = 1 := _root_.id rfl
theorem ti109_bytes : ti109.bytes = 8 := _root_.id rfl
theorem ti109_zs : zszW ti109 = True := eq_true rfl
theorem ti109_zc : zc ti109 = [.v Value.nilFunc] := _root_.id rfl
theorem ty110 {K : TI → Prop} : @tyW Tryz.prog 110 ⟨K⟩ = K ti110 := ty_of tf110
theorem ti110_kd : ti110.kd = Kd.oth := _root_.id rfl
theorem ti110_agg : ti110.kd.agg = false := _root_.id rfl
theorem ti110_size : ti110.size = 1 := _root_.id rfl
theorem ti110_bytes : ti110.bytes = 8 := _root_.id rfl
theorem ti110_zs : zszW ti110 = True := eq_true rfl
theorem ti110_zc : zc ti110 = [.v Value.nilFunc] := _root_.id rfl
theorem ty111 {K : TI → Prop} : @tyW Tryz.prog 111 ⟨K⟩ = K ti111 := ty_of tf111
theorem ti111_kd : ti111.kd = Kd.oth := _root_.id rfl
theorem ti111_agg : ti111.kd.agg = false := _root_.id rfl
theorem ti111_size : ti111.size = 1 := _root_.id rfl
theorem ti111_bytes : ti111.bytes = 8 := _root_.id rfl
theorem ti111_zs : zszW ti111 = True := eq_true rfl
theorem ti111_zc : zc ti111 = [.v Value.nilFunc] := _root_.id rfl
theorem ty112 {K : TI → Prop} : @tyW Tryz.prog 112 ⟨K⟩ = K ti112 := ty_of tf112
theorem ti112_kd : ti112.kd = Kd.oth := _root_.id rfl
theorem ti112_agg : ti112.kd.agg = false := _root_.id rfl
theorem ti112_size : ti112.size = 1 := _root_.id rfl
theorem ti112_bytes : ti112.bytes = 8 := _root_.id rfl
theorem ti112_zs : zszW ti112 = True := eq_true rfl
theorem ti112_zc : zc ti112 = [.v Value.nilFunc] := _root_.id rfl
theorem ty113 {K : TI → Prop} : @tyW Tryz.prog 113 ⟨K⟩ = K ti113 := ty_of tf113
theorem ti113_kd : ti113.kd = Kd.oth := _root_.id rfl
theorem ti113_agg : ti113.kd.agg = false := _root_.id rfl
theorem ti113_size : ti113.size = 1 := _root_.id rfl
theorem ti113_bytes : ti113.bytes = 8 := _root_.id rfl
theorem ti113_zs : zszW ti113 = True := eq_true rfl
theorem ti113_zc : zc ti113 = [.v Value.nilFunc] := _root_.id rfl
theorem ty114 {K : TI → Prop} : @tyW Tryz.prog 114 ⟨K⟩ = K ti114 := ty_of tf114
theorem ti114_kd : ti114.kd = Kd.oth := _root_.id rfl
theorem ti114_agg : ti114.kd.agg = false := _root_.id rfl
theorem ti114_size : ti114.size = 1 := _root_.id rfl
theorem ti114_bytes : ti114.bytes = 8 := _root_.id rfl
theorem ti114_zs : zszW ti114 = True := eq_true rfl
theorem ti114_zc : zc ti114 = [.v Value.nilFunc] := _root_.id rfl
theorem ty115 {K : TI → Prop} : @tyW Tryz.prog 115 ⟨K⟩ = K ti115 := ty_of tf115
theorem ti115_kd : ti115.kd = Kd.oth := _root_.id rfl
theorem ti115_agg : ti115.kd.agg = false := _root_.id rfl
theorem ti115_size : ti115.size = 1 := _root_.id rfl
theorem ti115_bytes : ti115.bytes = 8 := _root_.id rfl
theorem ti115_zs : zszW ti115 = True := eq_true rfl
theorem ti115_zc : zc ti115 = [.v Value.nilFunc] := _root_.id rfl
theorem ty116 {K : TI → Prop} : @tyW Tryz.prog 116 ⟨K⟩ = K ti116 := ty_of tf116
theorem ti116_kd : ti116.kd = Kd.oth := _root_.id rfl
theorem ti116_agg : ti116.kd.agg = false := _root_.id rfl
theorem ti116_size : ti116.size = 1 := _root_.id rfl
theorem ti116_bytes : ti116.bytes = 8 := _root_.id rfl
theorem ti116_zs : zszW ti116 = True := eq_true rfl
theorem ti116_zc : zc ti116 = [.v Value.nilFunc] := _root_.id rfl
theorem ty117 {K : TI → Prop} : @tyW Tryz.prog 117 ⟨K⟩ = K ti117 := ty_of tf117
theorem ti117_kd : ti117.kd = Kd.oth := _root_.id rfl
theorem ti117_agg : ti117.kd.agg = false := _root_.id rfl
theorem ti117_size : ti117.size = 1 := _root_.id rfl
theorem ti117_bytes : ti117.bytes = 8 := _root_.id rfl
theorem ti117_zs : zszW ti117 = True := eq_true rfl
theorem ti117_zc : zc ti117 = [.v Value.nilFunc] := _root_.id rfl
theorem ty118 {K : TI → Prop} : @tyW Tryz.prog 118 ⟨K⟩ = K ti118 := ty_of tf118
theorem ti118_kd : ti118.kd = Kd.oth := _root_.id rfl
theorem ti118_agg : ti118.kd.agg = false := _root_.id rfl
theorem ti118_size : ti118.size = 1 := _root_.id rfl
theorem ti118_bytes : ti118.bytes = 8 := _root_.id rfl
theorem ti118_zs : zszW ti118 = True := eq_true rfl
theorem ti118_zc : zc ti118 = [.v Value.nilFunc] := _root_.id rfl
theorem ty119 {K : TI → Prop} : @tyW Tryz.prog 119 ⟨K⟩ = K ti119 := ty_of tf119
theorem ti119_kd : ti119.kd = Kd.oth := _root_.id rfl
theorem ti119_agg : ti119.kd.agg = false := _root_.id rfl
theorem ti119_size : ti119.size = 1 := _root_.id rfl
theorem ti119_bytes : ti119.bytes = 8 := _root_.id rfl
theorem ti119_zs : zszW ti119 = True := eq_true rfl
theorem ti119_zc : zc ti119 = [.v Value.nilFunc] := _root_.id rfl
theorem ty121 {K : TI → Prop} : @tyW Tryz.prog 121 ⟨K⟩ = K ti121 := ty_of tf121
theorem ti121_kd : ti121.kd = Kd.oth := _root_.id rfl
theorem ti121_agg : ti121.kd.agg = false := _root_.id rfl
theorem ti121_size : ti121.size = 1 := _root_.id rfl
theorem ti121_bytes : ti121.bytes = 8 := _root_.id rfl
theorem ti121_zs : zszW ti121 = True := eq_true rfl
theorem ti121_zc : zc ti121 = [.v Value.nilFunc] := _root_.id rfl
theorem ty122 {K : TI → Prop} : @tyW Tryz.prog 122 ⟨K⟩ = K ti122 := ty_of tf122
theorem ti122_kd : ti122.kd = Kd.oth := _root_.id rfl
theorem ti122_agg : ti122.kd.agg = false := _root_.id rfl
theorem ti122_size : ti122.size = 1 := _root_.id rfl
theorem ti122_bytes : ti122.bytes = 8 := _root_.id rfl
theorem ti122_zs : zszW ti122 = True := eq_true rfl
theorem ti122_zc : zc ti122 = [.v Value.nilFunc] := _root_.id rfl
theorem ty123 {K : TI → Prop} : @tyW Tryz.prog 123 ⟨K⟩ = K ti123 := ty_of tf123
theorem ti123_kd : ti123.kd = Kd.oth := _root_.id rfl
theorem ti123_agg : ti123.kd.agg = false := _root_.id rfl
theorem ti123_size : ti123.size = 1 := _root_.id rfl
theorem ti123_bytes : ti123.bytes = 8 := _root_.id rfl
theorem ti123_zs : zszW ti123 = True := eq_true rfl
theorem ti123_zc : zc ti123 = [.v Value.nilFunc] := _root_.id rfl
theorem ty124 {K : TI → Prop} : @tyW Tryz.prog 124 ⟨K⟩ = K ti124 := ty_of tf124
theorem ti124_kd : ti124.kd = Kd.oth := _root_.id rfl
theorem ti124_agg : ti124.kd.agg = false := _root_.id rfl
theorem ti124_size : ti124.size = 1 := _root_.id rfl
theorem ti124_bytes : ti124.bytes = 8 := _root_.id rfl
theorem ti124_zs : zszW ti124 = True := eq_true rfl
theorem ti124_zc : zc ti124 = [.v Value.nilFunc] := _root_.id rfl
theorem ty125 {K : TI → Prop} : @tyW Tryz.prog 125 ⟨K⟩ = K ti125 := ty_of tf125
theorem ti125_kd : ti125.kd = Kd.oth := _root_.id rfl
theorem ti125_agg : ti125.kd.agg = false := _root_.id rfl
theorem ti125_size : ti125.size = 1 := _root_.id rfl
theorem ti125_bytes : ti125.bytes = 8 := _root_.id rfl
theorem ti125_zs : zszW ti125 = True := eq_true rfl
theorem ti125_zc : zc ti125 = [.v Value.nilFunc] := _root_.id rfl
theorem ty127 {K : TI → Prop} : @tyW Tryz.prog 127 ⟨K⟩ = K ti127 := ty_of tf127
theorem ti127_kd : ti127.kd = Kd.oth := _root_.id rfl
theorem ti127_agg : ti127.kd.agg = false := _root_.id rfl
theorem ti127_size : ti127.size = 1 := _root_.id rfl
theorem ti127_bytes : ti127.bytes = 8 := _root_.id rfl
theorem ti127_zs : zszW ti127 = True := eq_true rfl
theorem ti127_zc : zc ti127 = [.v Value.nilFunc] := _root_.id rfl
theorem ty129 {K : TI → Prop} : @tyW Tryz.prog 129 ⟨K⟩ = K ti129 := ty_of tf129
theorem ti129_kd : ti129.kd = Kd.oth := _root_.id rfl
theorem ti129_agg : ti129.kd.agg = false := _root_.id rfl
theorem ti129_size : ti129.size = 1 := _root_.id rfl
theorem ti129_bytes : ti129.bytes = 8 := _root_.id rfl
theorem ti129_zs : zszW ti129 = True := eq_true rfl
theorem ti129_zc : zc ti129 = [.v Value.nilFunc] := _root_.id rfl
theorem ty130 {K : TI → Prop} : @tyW Tryz.prog 130 ⟨K⟩ = K ti130 := ty_of tf130
theorem ti130_kd : ti130.kd = Kd.int IntKind.u64 := _root_.id rfl
theorem ti130_agg : ti130.kd.agg = false := _root_.id rfl
theorem ti130_size : ti130.size = 1 := _root_.id rfl
theorem ti130_bytes : ti130.bytes = 8 := _root_.id rfl
theorem ti130_zs : zszW ti130 = True := eq_true rfl
theorem ti130_zc : zc ti130 = [.v (Value.int IntKind.u64 0)] := _root_.id rfl
theorem ty131 {K : TI → Prop} : @tyW Tryz.prog 131 ⟨K⟩ = K ti131 := ty_of tf131
theorem ti131_kd : ti131.kd = Kd.oth := _root_.id rfl
theorem ti131_agg : ti131.kd.agg = false := _root_.id rfl
theorem ti131_size : ti131.size = 1 := _root_.id rfl
theorem ti131_bytes : ti131.bytes = 8 := _root_.id rfl
theorem ti131_zs : zszW ti131 = True := eq_true rfl
theorem ti131_zc : zc ti131 = [.v Value.nilFunc] := _root_.id rfl
theorem ty132 {K : TI → Prop} : @tyW Tryz.prog 132 ⟨K⟩ = K ti132 := ty_of tf132
theorem ti132_kd : ti132.kd = Kd.oth := _root_.id rfl
theorem ti132_agg : ti132.kd.agg = false := _root_.id rfl
theorem ti132_size : ti132.size = 1 := _root_.id rfl
theorem ti132_bytes : ti132.bytes = 8 := _root_.id rfl
theorem ti132_zs : zszW ti132 = True := eq_true rfl
theorem ti132_zc : zc ti132 = [.v Value.nilFunc] := _root_.id rfl
theorem ty133 {K : TI → Prop} : @tyW Tryz.prog 133 ⟨K⟩ = K ti133 := ty_of tf133
theorem ti133_kd : ti133.kd = Kd.oth := _root_.id rfl
theorem ti133_agg : ti133.kd.agg = false := _root_.id rfl
theorem ti133_size : ti133.size = 1 := _root_.id rfl
theorem ti133_bytes : ti133.bytes = 8 := _root_.id rfl
theorem ti133_zs : zszW ti133 = True := eq_true rfl
theorem ti133_zc : zc ti133 = [.v Value.nilFunc] := _root_.id rfl
theorem ty135 {K : TI → Prop} : @tyW Tryz.prog 135 ⟨K⟩ = K ti135 := ty_of tf135
theorem ti135_kd : ti135.kd = Kd.oth := _root_.id rfl
theorem ti135_agg : ti135.kd.agg = false := _root_.id rfl
theorem ti135_size : ti135.size = 1 := _root_.id rfl
theorem ti135_bytes : ti135.bytes = 8 := _root_.id rfl
theorem ti135_zs : zszW ti135 = True := eq_true rfl
theorem ti135_zc : zc ti135 = [.v Value.nilFunc] := _root_.id rfl
theorem ty136 {K : TI → Prop} : @tyW Tryz.prog 136 ⟨K⟩ = K ti136 := ty_of tf136
theorem ti136_kd : ti136.kd = Kd.oth := _root_.id rfl
theorem ti136_agg : ti136.kd.agg = false := _root_.id rfl
theorem ti136_size : ti136.size = 1 := _root_.id rfl
theorem ti136_bytes : ti136.bytes = 8 := _root_.id rfl
theorem ti136_zs : zszW ti136 = True := eq_true rfl
theorem ti136_zc : zc ti136 = [.v Value.nilFunc] := _root_.id rfl
theorem ty138 {K : TI → Prop} : @tyW Tryz.prog 138 ⟨K⟩ = K ti138 := ty_of tf138
theorem ti138_kd : ti138.kd = Kd.oth := _root_.id rfl
theorem ti138_agg : ti138.kd.agg = false := _root_.id rfl
theorem ti138_size : ti138.size = 1 := _root_.id rfl
theorem ti138_bytes : ti138.bytes = 8 := _root_.id rfl
theorem ti138_zs : zszW ti138 = True := eq_true rfl
theorem ti138_zc : zc ti138 = [.v Value.nilFunc] := _root_.id rfl
theorem ty139 {K : TI → Prop} : @tyW Tryz.prog 139 ⟨K⟩ = K ti139 := ty_of tf139
theorem ti139_kd : ti139.kd = Kd.oth := _root_.id rfl
theorem ti139_agg : ti139.kd.agg = false := _root_.id rfl
theorem ti139_size : ti139.size = 1 := _root_.id rfl
theorem ti139_bytes : ti139.bytes = 8 := _root_.id rfl
theorem ti139_zs : zszW ti139 = True := eq_true rfl
theorem ti139_zc : zc ti139 = [.v Value.nilFunc] := _root_.id rfl
theorem ty140 {K : TI → Prop} : @tyW Tryz.prog 140 ⟨K⟩ = K ti140 := ty_of tf140
theorem ti140_kd : ti140.kd = Kd.oth := _root_.id rfl
theorem ti140_agg : ti140.kd.agg = false := _root_.id rfl
theorem ti140_size : ti140.size = 1 := _root_.id rfl
theorem ti140_bytes : ti140.bytes = 8 := _root_.id rfl
theorem ti140_zs : zszW ti140 = True := eq_true rfl
theorem ti140_zc : zc ti140 = [.v Value.nilFunc] := _root_.id rfl
theorem ty141 {K : TI → Prop} : @tyW Tryz.prog 141 ⟨K⟩ = K ti141 := ty_of tf141
theorem ti141_kd : ti141.kd = Kd.oth := _root_.id rfl
theorem ti141_agg : ti141.kd.agg = false := _root_.id rfl
theorem ti141_size : ti141.size = 1 := _root_.id rfl
theorem ti141_bytes : ti141.bytes = 8 := _root_.id rfl
theorem ti141_zs : zszW ti141 = True := eq_true rfl
theorem ti141_zc : zc ti141 = [.v Value.nilFunc] := _root_.id rfl
theorem ty142 {K : TI → Prop} : @tyW Tryz.prog 142 ⟨K⟩ = K ti142 := ty_of tf142
theorem ti142_kd : ti142.kd = Kd.oth := _root_.id rfl
theorem ti142_agg : ti142.kd.agg = false := _root_.id rfl
theorem ti142_size : ti142.size = 1 := _root_.id rfl
theorem ti142_bytes : ti142.bytes = 8 := _root_.id rfl
theorem ti142_zs : zszW ti142 = True := eq_true rfl
theorem ti142_zc : zc ti142 = [.v Value.nilFunc] := _root_.id rfl
theorem ty143 {K : TI → Prop} : @tyW Tryz.prog 143 ⟨K⟩ = K ti143 := ty_of tf143
theorem ti143_kd : ti143.kd = Kd.oth := _root_.id rfl
theorem ti143_agg : ti143.kd.agg = false := _root_.id rfl
theorem ti143_size : ti143.size = 1 := _root_.id rfl
theorem ti143_bytes : ti143.bytes = 8 := _root_.id rfl
theorem ti143_zs : zszW ti143 = True := eq_true rfl
theorem ti143_zc : zc ti143 = [.v Value.nilFunc] := _root_.id rfl
theorem ty144 {K : TI → Prop} : @tyW Tryz.prog 144 ⟨K⟩ = K ti144 := ty_of tf144
theorem ti144_kd : ti144.kd = Kd.oth := _root_.id rfl
theorem ti144_agg : ti144.kd.agg = false := _root_.id rfl
theorem ti144_size : ti144.size = 1 := _root_.id rfl
theorem ti144_bytes : ti144.bytes = 8 := _root_.id rfl
theorem ti144_zs : zszW ti144 = True := eq_true rfl
theorem ti144_zc : zc ti144 = [.v Value.nilFunc] := _root_.id rfl
theorem ty145 {K : TI → Prop} : @tyW Tryz.prog 145 ⟨K⟩ = K ti145 := ty_of tf145
theorem ti145_kd : ti145.kd = Kd.oth := _root_.id rfl
theorem ti145_agg : ti145.kd.agg = false := _root_.id rfl
theorem ti145_size : ti145.size = 1 := _root_.id rfl
theorem ti145_bytes : ti145.bytes = 8 := _root_.id rfl
theorem ti145_zs : zszW ti145 = True := eq_true rfl
theorem ti145_zc : zc ti145 = [.v Value.nilFunc] := _root_.id rfl
theorem ty146 {K : TI → Prop} : @tyW Tryz.prog 146 ⟨K⟩ = K ti146 := ty_of tf146
theorem ti146_kd : ti146.kd = Kd.oth := _root_.id rfl
theorem ti146_agg : ti146.kd.agg = false := _root_.id rfl
theorem ti146_size : ti146.size = 1 := _root_.id rfl
theorem ti146_bytes : ti146.bytes = 8 := _root_.id rfl
theorem ti146_zs : zszW ti146 = True := eq_true rfl
theorem ti146_zc : zc ti146 = [.v Value.nilFunc] := _root_.id rfl
theorem ty147 {K : TI → Prop} : @tyW Tryz.prog 147 ⟨K⟩ = K ti147 := ty_of tf147
theorem ti147_kd : ti147.kd = Kd.oth := _root_.id rfl
theorem ti147_agg : ti147.kd.agg = false := _root_.id rfl
theorem ti147_size : ti147.size = 1 := _root_.id rfl
theorem ti147_bytes : ti147.bytes = 8 := _root_.id rfl
theorem ti147_zs : zszW ti147 = True := eq_true rfl
theorem ti147_zc : zc ti147 = [.v Value.nilFunc] := _root_.id rfl
theorem ty148 {K : TI → Prop} : @tyW Tryz.prog 148 ⟨K⟩ = K ti148 := ty_of tf148
theorem ti148_kd : ti148.kd = Kd.oth := _root_.id rfl
theorem ti148_agg : ti148.kd.agg = false := _root_.id rfl
theorem ti148_size : ti148.size = 1 := _root_.id rfl
theorem ti148_bytes : ti148.bytes = 8 := _root_.id rfl
theorem ti148_zs : zszW ti148 = True := eq_true rfl
theorem ti148_zc : zc ti148 = [.v Value.nilFunc] := _root_.id rfl
theorem ty150 {K : TI → Prop} : @tyW Tryz.prog 150 ⟨K⟩ = K ti150 := ty_of tf150
theorem ti150_kd : ti150.kd = Kd.oth := _root_.id rfl
theorem ti150_agg : ti150.kd.agg = false := _root_.id rfl
theorem ti150_size : ti150.size = 1 := _root_.id rfl
theorem ti150_bytes : ti150.bytes = 8 := _root_.id rfl
theorem ti150_zs : zszW ti150 = True := eq_true rfl
theorem ti150_zc : zc ti150 = [.v Value.nilFunc] := _root_.id rfl
theorem ty151 {K : TI → Prop} : @tyW Tryz.prog 151 ⟨K⟩ = K ti151 := ty_of tf151
theorem ti151_kd : ti151.kd = Kd.oth := _root_.id rfl
theorem ti151_agg : ti151.kd.agg = false := _root_.id rfl
theorem ti151_size : ti151.size = 1 := _root_.id rfl
theorem ti151_bytes : ti151.bytes = 8 := _root_.id rfl
theorem ti151_zs : zszW ti151 = True := eq_true rfl
theorem ti151_zc : zc ti151 = [.v Value.nilFunc] := _root_.id rfl
theorem ty152 {K : TI → Prop} : @tyW Tryz.prog 152 ⟨K⟩ = K ti152 := ty_of tf152
theorem ti152_kd : ti152.kd = Kd.oth := _root_.id rfl
theorem ti152_agg : ti152.kd.agg = false := _root_.id rfl
theorem ti152_size : ti152.size = 1 := _root_.id rfl
theorem ti152_bytes : ti152.bytes = 8 := _root_.id rfl
theorem ti152_zs : zszW ti152 = True := eq_true rfl
theorem ti152_zc : zc ti152 = [.v Value.nilFunc] := _root_.id rfl
theorem ty153 {K : TI → Prop} : @tyW Tryz.prog 153 ⟨K⟩ = K ti153 := ty_of tf153
theorem ti153_kd : ti153.kd = Kd.oth := _root_.id rfl
theorem ti153_agg : ti153.kd.agg = false := _root_.id rfl
theorem ti153_size : ti153.size = 1 := _root_.id rfl
theorem ti153_bytes : ti153.bytes = 8 := _root_.id rfl
theorem ti153_zs : zszW ti153 = True := eq_true rfl
theorem ti153_zc : zc ti153 = [.v Value.nilFunc] := _root_.id rfl
theorem ty154 {K : TI → Prop} : @tyW Tryz.prog 154 ⟨K⟩ = K ti154 := ty_of tf154
theorem ti154_kd : ti154.kd = Kd.int IntKind.u32 := _root_.id rfl
theorem ti154_agg : ti154.kd.agg = false := _root_.id rfl
theorem ti154_size : ti154.size = 1 := _root_.id rfl
theorem ti154_bytes : ti154.bytes = 4 := _root_.id rfl
theorem ti154_zs : zszW ti154 = True := eq_true rfl
theorem ti154_zc : zc ti154 = [.v (Value.int IntKind.u32 0)] := _root_.id rfl
theorem ty155 {K : TI → Prop} : @tyW Tryz.prog 155 ⟨K⟩ = K ti155 := ty_of tf155
theorem ti155_kd : ti155.kd = Kd.oth := _root_.id rfl
theorem ti155_agg : ti155.kd.agg = false := _root_.id rfl
theorem ti155_size : ti155.size = 1 := _root_.id rfl
theorem ti155_bytes : ti155.bytes = 8 := _root_.id rfl
theorem ti155_zs : zszW ti155 = True := eq_true rfl
theorem ti155_zc : zc ti155 = [.v Value.nilFunc] := _root_.id rfl
theorem ty156 {K : TI → Prop} : @tyW Tryz.prog 156 ⟨K⟩ = K ti156 := ty_of tf156
theorem ti156_kd : ti156.kd = Kd.int IntKind.u64 := _root_.id rfl
theorem ti156_agg : ti156.kd.agg = false := _root_.id rfl
theorem ti156_size : ti156.size = 1 := _root_.id rfl
theorem ti156_bytes : ti156.bytes = 8 := _root_.id rfl
theorem ti156_zs : zszW ti156 = True := eq_true rfl
theorem ti156_zc : zc ti156 = [.v (Value.int IntKind.u64 0)] := _root_.id rfl
theorem ty157 {K : TI → Prop} : @tyW Tryz.prog 157 ⟨K⟩ = K ti157 := ty_of tf157
theorem ti157_kd : ti157.kd = Kd.oth := _root_.id rfl
theorem ti157_agg : ti157.kd.agg = false := _root_.id rfl
theorem ti157_size : ti157.size = 1 := _root_.id rfl
theorem ti157_bytes : ti157.bytes = 8 := _root_.id rfl
theorem ti157_zs : zszW ti157 = True := eq_true rfl
theorem ti157_zc : zc ti157 = [.v Value.nilFunc] := _root_.id rfl
theorem ty159 {K : TI → Prop} : @tyW Tryz.prog 159 ⟨K⟩ = K ti159 := ty_of tf159
theorem ti159_kd : ti159.kd = Kd.oth := _root_.id rfl
theorem ti159_agg : ti159.kd.agg = false := _root_.id rfl
theorem ti159_size : ti159.size = 1 := _root_.id rfl
theorem ti159_bytes : ti159.bytes = 8 := _root_.id rfl
theorem ti159_zs : zszW ti159 = True := eq_true rfl
theorem ti159_zc : zc ti159 = [.v Value.nilFunc] := _root_.id rfl
theorem ty160 {K : TI → Prop} : @tyW Tryz.prog 160 ⟨K⟩ = K ti160 := ty_of tf160
theorem ti160_kd : ti160.kd = Kd.oth := _root_.id rfl
theorem ti160_agg : ti160.kd.agg = false := _root_.id rfl
theorem ti160_size : ti160.size = 1 := _root_.id rfl
theorem ti160_bytes : ti160.bytes = 8 := _root_.id rfl
theorem ti160_zs : zszW ti160 = True := eq_true rfl
theorem ti160_zc : zc ti160 = [.v Value.nilFunc] := _root_.id rfl
theorem ty161 {K : TI → Prop} : @tyW Tryz.prog 161 ⟨K⟩ = K ti161 := ty_of tf161
theorem ti161_kd : ti161.kd = Kd.oth := _root_.id rfl
theorem ti161_agg : ti161.kd.agg = false := _root_.id rfl
theorem ti161_size : ti161.size = 1 := _root_.id rfl
theorem ti161_bytes : ti161.bytes = 8 := _root_.id rfl
theorem ti161_zs : zszW ti161 = True := eq_true rfl
theorem ti161_zc : zc ti161 = [.v Value.nilFunc] := _root_.id rfl
theorem ty162 {K : TI → Prop} : @tyW Tryz.prog 162 ⟨K⟩ = K ti162 := ty_of tf162
theorem ti162_kd : ti162.kd = Kd.oth := _root_.id rfl
theorem ti162_agg : ti162.kd.agg = false := _root_.id rfl
theorem ti162_size : ti162.size = 1 := _root_.id rfl
theorem ti162_bytes : ti162.bytes = 8 := _root_.id rfl
theorem ti162_zs : zszW ti162 = True := eq_true rfl
theorem ti162_zc : zc ti162 = [.v Value.nilFunc] := _root_.id rfl
theorem ty165 {K : TI → Prop} : @tyW Tryz.prog 165 ⟨K⟩ = K ti165 := ty_of tf165
theorem ti165_kd : ti165.kd = Kd.oth := _root_.id rfl
theorem ti165_agg : ti165.kd.agg = false := _root_.id rfl
theorem ti165_size : ti165.size = 1 := _root_.id rfl
theorem ti165_bytes : ti165.bytes = 8 := _root_.id rfl
theorem ti165_zs : zszW ti165 = True := eq_true rfl
theorem ti165_zc : zc ti165 = [.v Value.nilFunc] := _root_.id rfl
theorem ty166 {K : TI → Prop} : @tyW Tryz.prog 166 ⟨K⟩ = K ti166 := ty_of tf166
theorem ti166_kd : ti166.kd = Kd.oth := _root_.id rfl
theorem ti166_agg : ti166.kd.agg = false := _root_.id rfl
theorem ti166_size : ti166.size = 1 := _root_.id rfl
theorem ti166_bytes : ti166.bytes = 8 := _root_.id rfl
theorem ti166_zs : zszW ti166 = True := eq_true rfl
theorem ti166_zc : zc ti166 = [.v Value.nilFunc] := _root_.id rfl
theorem ty170 {K : TI → Prop} : @tyW Tryz.prog 170 ⟨K⟩ = K ti170 := ty_of tf170
theorem ti170_kd : ti170.kd = Kd.stru [(0, 169)] := _root_.id rfl
theorem ti170_agg : ti170.kd.agg = true := _root_.id rfl
theorem ti170_size : ti170.size = 0 := _root_.id rfl
theorem ti170_bytes : ti170.bytes = 0 := _root_.id rfl
theorem ti170_zs : zszW ti170 = True := eq_true rfl
theorem ti170_zc : zc ti170 = [] := _root_.id rfl
theorem ty171 {K : TI → Prop} : @tyW Tryz.prog 171 ⟨K⟩ = K ti171 := ty_of tf171
theorem ti171_kd : ti171.kd = Kd.stru [(0, 169)] := _root_.id rfl
theorem ti171_agg : ti171.kd.agg = true := _root_.id rfl
theorem ti171_size : ti171.size = 0 := _root_.id rfl
theorem ti171_bytes : ti171.bytes = 0 := _root_.id rfl
theorem ti171_zs : zszW ti171 = True := eq_true rfl
theorem ti171_zc : zc ti171 = [] := _root_.id rfl
theorem ty172 {K : TI → Prop} : @tyW Tryz.prog 172 ⟨K⟩ = K ti172 := ty_of tf172
theorem ti172_kd : ti172.kd = Kd.int IntKind.u8 := _root_.id rfl
theorem ti172_agg : ti172.kd.agg = false := _root_.id rfl
theorem ti172_size : ti172.size = 1 := _root_.id rfl
theorem ti172_bytes : ti172.bytes = 1 := _root_.id rfl
theorem ti172_zs : zszW ti172 = True := eq_true rfl
theorem ti172_zc : zc ti172 = [.v (Value.int IntKind.u8 0)] := _root_.id rfl
theorem ty173 {K : TI → Prop} : @tyW Tryz.prog 173 ⟨K⟩ = K ti173 := ty_of tf173
theorem ti173_kd : ti173.kd = Kd.int IntKind.u8 := _root_.id rfl
theorem ti173_agg : ti173.kd.agg = false := _root_.id rfl
theorem ti173_size : ti173.size = 1 := _root_.id rfl
theorem ti173_bytes : ti173.bytes = 1 := _root_.id rfl
theorem ti173_zs : zszW ti173 = True := eq_true rfl
theorem ti173_zc : zc ti173 = [.v (Value.int IntKind.u8 0)] := _root_.id rfl
theorem ty174 {K : TI → Prop} : @tyW Tryz.prog 174 ⟨K⟩ = K ti174 := ty_of tf174
theorem ti174_kd : ti174.kd = Kd.oth := _root_.id rfl
theorem ti174_agg : ti174.kd.agg = false := _root_.id rfl
theorem ti174_size : ti174.size = 1 := _root_.id rfl
theorem ti174_bytes : ti174.bytes = 8 := _root_.id rfl
theorem ti174_zs : zszW ti174 = True := eq_true rfl
theorem ti174_zc : zc ti174 = [.v Value.nilFunc] := _root_.id rfl
theorem ty176 {K : TI → Prop} : @tyW Tryz.prog 176 ⟨K⟩ = K ti176 := ty_of tf176
theorem ti176_kd : ti176.kd = Kd.int IntKind.i32 := _root_.id rfl
theorem ti176_agg : ti176.kd.agg = false := _root_.id rfl
theorem ti176_size : ti176.size = 1 := _root_.id rfl
theorem ti176_bytes : ti176.bytes = 4 := _root_.id rfl
theorem ti176_zs : zszW ti176 = True := eq_true rfl
theorem ti176_zc : zc ti176 = [.v (Value.int IntKind.i32 0)] := _root_.id rfl
theorem ty177 {K : TI → Prop} : @tyW Tryz.prog 177 ⟨K⟩ = K ti177 := ty_of tf177
theorem ti177_kd : ti177.kd = Kd.int IntKind.i32 := _root_.id rfl
theorem ti177_agg : ti177.kd.agg = false := _root_.id rfl
theorem ti177_size : ti177.size = 1 := _root_.id rfl
theorem ti177_bytes : ti177.bytes = 4 := _root_.id rfl
theorem ti177_zs : zszW ti177 = True := eq_true rfl
theorem ti177_zc : zc ti177 = [.v (Value.int IntKind.i32 0)] := _root_.id rfl
theorem ty180 {K : TI → Prop} : @tyW Tryz.prog 180 ⟨K⟩ = K ti180 := ty_of tf180
theorem ti180_kd : ti180.kd = Kd.oth := _root_.id rfl
theorem ti180_agg : ti180.kd.agg = false := _root_.id rfl
theorem ti180_size : ti180.size = 1 := _root_.id rfl
theorem ti180_bytes : ti180.bytes = 8 := _root_.id rfl
theorem ti180_zs : zszW ti180 = True := eq_true rfl
theorem ti180_zc : zc ti180 = [.v Value.nilFunc] := _root_.id rfl
theorem fok2 : fnOk Tryz.prog 2 = True := eq_true ⟨_, Tryz.func2, of_decide_eq_false (by kernel_rfl), rfl⟩
theorem fok3 : fnOk Tryz.prog 3 = True := eq_true ⟨_, Tryz.func3, of_decide_eq_false (by kernel_rfl), rfl⟩
theorem fok4 : fnOk Tryz.prog 4 = True := eq_true ⟨_, Tryz.func4, of_decide_eq_false (by kernel_rfl), rfl⟩
theorem fok5 : fnOk Tryz.prog 5 = True := eq_true ⟨_, Tryz.func5, of_decide_eq_false (by kernel_rfl), rfl⟩
theorem fok6 : fnOk Tryz.prog 6 = True := eq_true ⟨_, Tryz.func6, of_decide_eq_false (by kernel_rfl), rfl⟩
theorem fok7 : fnOk Tryz.prog 7 = True := eq_true ⟨_, Tryz.func7, of_decide_eq_false (by kernel_rfl), rfl⟩
theorem fok8 : fnOk Tryz.prog 8 = True := eq_true ⟨_, Tryz.func8, of_decide_eq_false (by kernel_rfl), rfl⟩
theorem fok9 : fnOk Tryz.prog 9 = True := eq_true ⟨_, Tryz.func9, of_decide_eq_false (by kernel_rfl), rfl⟩
theorem fok10 : fnOk Tryz.prog 10 = True := eq_true ⟨_, Tryz.func10, of_decide_eq_false (by kernel_rfl), rfl⟩
theorem fok11 : fnOk Tryz.prog 11 = True := eq_true ⟨_, Tryz.func11, of_decide_eq_false (by kernel_rfl), rfl⟩
theorem fok12 : fnOk Tryz.prog 12 = True := eq_true ⟨_, Tryz.func12, of_decide_eq_false (by kernel_rfl), rfl⟩
theorem fok13 : fnOk Tryz.prog 13 = True := eq_true ⟨_, Tryz.func13, of_decide_eq_false (by kernel_rfl), rfl⟩
theorem fok14 : fnOk Tryz.prog 14 = True := eq_true ⟨_, Tryz.func14, of_decide_eq_false (by kernel_rfl), rfl⟩
theorem fok15 : fnOk Tryz.prog 15 = True := eq_true ⟨_, Tryz.func15, of_decide_eq_false (by kernel_rfl), rfl⟩
theorem fok16 : fnOk Tryz.prog 16 = True := eq_true ⟨_, Tryz.func16, of_decide_eq_false (by kernel_rfl), rfl⟩
theorem fok17 : fnOk Tryz.prog 17 = True := eq_true ⟨_, Tryz.func17, of_decide_eq_false (by kernel_rfl), rfl⟩
theorem fok18 : fnOk Tryz.prog 18 = True := eq_true ⟨_, Tryz.func18, of_decide_eq_false (by kernel_rfl), rfl⟩
theorem fok19 : fnOk Tryz.prog 19 = True := eq_true ⟨_, Tryz.func19, of_decide_eq_false (by kernel_rfl), rfl⟩
theorem fok20 : fnOk Tryz.prog 20 = True := eq_true ⟨_, Tryz.func20, of_decide_eq_false (by kernel_rfl), rfl⟩
theorem fok21 : fnOk Tryz.prog 21 = True := eq_true ⟨_, Tryz.func21, of_decide_eq_false (by kernel_rfl), rfl⟩
theorem fok22 : fnOk Tryz.prog 22 = True := eq_true ⟨_, Tryz.func22, of_decide_eq_false (by kernel_rfl), rfl⟩
theorem fok23 : fnOk Tryz.prog 23 = True := eq_true ⟨_, Tryz.func23, of_decide_eq_false (by kernel_rfl), rfl⟩
theorem fok24 : fnOk Tryz.prog 24 = True := eq_true ⟨_, Tryz.func24, of_decide_eq_false (by kernel_rfl), rfl⟩
theorem fok25 : fnOk Tryz.prog 25 = True := eq_true ⟨_, Tryz.func25, of_decide_eq_false (by kernel_rfl), rfl⟩
theorem fok26 : fnOk Tryz.prog 26 = True := eq_true ⟨_, Tryz.func26, of_decide_eq_false (by kernel_rfl), rfl⟩
theorem fok27 : fnOk Tryz.prog 27 = True := eq_true ⟨_, Tryz.func27, of_decide_eq_false (by kernel_rfl), rfl⟩
theorem fok28 : fnOk Tryz.prog 28 = True := eq_true ⟨_, Tryz.func28, of_decide_eq_false (by kernel_rfl), rfl⟩
theorem fok29 : fnOk Tryz.prog 29 = True := eq_true ⟨_, Tryz.func29, of_decide_eq_false (by kernel_rfl), rfl⟩
theorem fok30 : fnOk Tryz.prog 30 = True := eq_true ⟨_, Tryz.func30, of_decide_eq_false (by kernel_rfl), rfl⟩
theorem fok31 : fnOk Tryz.prog 31 = True := eq_true ⟨_, Tryz.func31, of_decide_eq_false (by kernel_rfl), rfl⟩
theorem fok32 : fnOk Tryz.prog 32 = True := eq_true ⟨_, Tryz.func32, of_decide_eq_false (by kernel_rfl), rfl⟩
theorem fok33 : fnOk Tryz.prog 33 = True := eq_true ⟨_, Tryz.func33, of_decide_eq_false (by kernel_rfl), rfl⟩
theorem fok34 : fnOk Tryz.prog 34 = True := eq_true ⟨_, Tryz.func34, of_decide_eq_false (by kernel_rfl), rfl⟩
theorem fok35 : fnOk Tryz.prog 35 = True := eq_true ⟨_, Tryz.func35, of_decide_eq_false (by kernel_rfl), rfl⟩
theorem fok36 : fnOk Tryz.prog 36 = True := eq_true ⟨_, Tryz.func36, of_decide_eq_false (by kernel_rfl), rfl⟩
theorem fok37 : fnOk Tryz.prog 37 = True := eq_true ⟨_, Tryz.func37, of_decide_eq_false (by kernel_rfl), rfl⟩
theorem fok38 : fnOk Tryz.prog 38 = True := eq_true ⟨_, Tryz.func38, of_decide_eq_false (by kernel_rfl), rfl⟩
theorem fok39 : fnOk Tryz.prog 39 = True := eq_true ⟨_, Tryz.func39, of_decide_eq_false (by kernel_rfl), rfl⟩
theorem fok40 : fnOk Tryz.prog 40 = True := eq_true ⟨_, Tryz.func40, of_decide_eq_false (by kernel_rfl), rfl⟩
theorem fok41 : fnOk Tryz.prog 41 = True := eq_true ⟨_, Tryz.func41, of_decide_eq_false (by kernel_rfl), rfl⟩
theorem fok42 : fnOk Tryz.prog 42 = True := eq_true ⟨_, Tryz.func42, of_decide_eq_false (by kernel_rfl), rfl⟩
theorem fok43 : fnOk Tryz.prog 43 = True := eq_true ⟨_, Tryz.func43, of_decide_eq_false (by kernel_rfl), rfl⟩
theorem fok44 : fnOk Tryz.prog 44 = True := eq_true ⟨_, Tryz.func44, of_decide_eq_false (by kernel_rfl), rfl⟩
theorem fok45 : fnOk Tryz.prog 45 = True := eq_true ⟨_, Tryz.func45, of_decide_eq_false (by kernel_rfl), rfl⟩
theorem fok46 : fnOk Tryz.prog 46 = True := eq_true ⟨_, Tryz.func46, of_decide_eq_false (by kernel_rfl), rfl⟩
theorem fok47 : fnOk Tryz.prog 47 = True := eq_true ⟨_, Tryz.func47, of_decide_eq_false (by kernel_rfl), rfl⟩
theorem fok48 : fnOk Tryz.prog 48 = True := eq_true ⟨_, Tryz.func48, of_decide_eq_false (by kernel_rfl), rfl⟩
theorem fok49 : fnOk Tryz.prog 49 = True := eq_true ⟨_, Tryz.func49, of_decide_eq_false (by kernel_rfl), rfl⟩
theorem fok50 : fnOk Tryz.prog 50 = True := eq_true ⟨_, Tryz.func50, of_decide_eq_false (by kernel_rfl), rfl⟩
theorem fok51 : fnOk Tryz.prog 51 = True := eq_true ⟨_, Tryz.func51, of_decide_eq_false (by kernel_rfl), rfl⟩
theorem fok52 : fnOk Tryz.prog 52 = True := eq_true ⟨_, Tryz.func52, of_decide_eq_false (by kernel_rfl), rfl⟩
theorem fok53 : fnOk Tryz.prog 53 = True := eq_true ⟨_, Tryz.func53, of_decide_eq_false (by kernel_rfl), rfl⟩
theorem fok54 : fnOk Tryz.prog 54 = True := eq_true ⟨_, Tryz.func54, of_decide_eq_false (by kernel_rfl), rfl⟩
theorem fok55 : fnOk Tryz.prog 55 = True := eq_true ⟨_, Tryz.func55, of_decide_eq_false (by kernel_rfl), rfl⟩
theorem fok56 : fnOk Tryz.prog 56 = True := eq_true ⟨_, Tryz.func56, of_decide_eq_false (by kernel_rfl), rfl⟩
theorem fok57 : fnOk Tryz.prog 57 = True := eq_true ⟨_, Tryz.func57, of_decide_eq_false (by kernel_rfl), rfl⟩
theorem fok58 : fnOk Tryz.prog 58 = True := eq_true ⟨_, Tryz.func58, of_decide_eq_false (by kernel_rfl), rfl⟩
theorem fok59 : fnOk Tryz.prog 59 = True := eq_true ⟨_, Tryz.func59, of_decide_eq_false (by kernel_rfl), rfl⟩
theorem fok60 : fnOk Tryz.prog 60 = True := eq_true ⟨_, Tryz.func60, of_decide_eq_false (by kernel_rfl), rfl⟩
theorem fok61 : fnOk Tryz.prog 61 = True := eq_true ⟨_, Tryz.func61, of_decide_eq_false (by kernel_rfl), rfl⟩
theorem fok62 : fnOk Tryz.prog 62 = True := eq_true ⟨_, Tryz.func62, of_decide_eq_false (by kernel_rfl), rfl⟩
theorem fok63 : fnOk Tryz.prog 63 = True := eq_true ⟨_, Tryz.func63, of_decide_eq_false (by kernel_rfl), rfl⟩
theorem fok64 : fnOk Tryz.prog 64 = True := eq_true ⟨_, Tryz.func64, of_decide_eq_false (by kernel_rfl), rfl⟩
theorem fok65 : fnOk Tryz.prog 65 = True := eq_true ⟨_, Tryz.func65, of_decide_eq_false (by kernel_rfl), rfl⟩
theorem fok66 : fnOk Tryz.prog 66 = True := eq_true ⟨_, Tryz.func66, of_decide_eq_false (by kernel_rfl), rfl⟩
theorem fok67 : fnOk Tryz.prog 67 = True := eq_true ⟨_, Tryz.func67, of_decide_eq_false (by kernel_rfl), rfl⟩
theorem fok68 : fnOk Tryz.prog 68 = True := eq_true ⟨_, Tryz.func68, of_decide_eq_false (by kernel_rfl), rfl⟩
theorem fok69 : fnOk Tryz.prog 69 = True := eq_true ⟨_, Tryz.func69, of_decide_eq_false (by kernel_rfl), rfl⟩
theorem fok70 : fnOk Tryz.prog 70 = True := eq_true ⟨_, Tryz.func70, of_decide_eq_false (by kernel_rfl), rfl⟩
theorem fok71 : fnOk Tryz.prog 71 = True := eq_true ⟨_, Tryz.func71, of_decide_eq_false (by kernel_rfl), rfl⟩
theorem fok72 : fnOk Tryz.prog 72 = True := eq_true ⟨_, Tryz.func72, of_decide_eq_false (by kernel_rfl), rfl⟩
theorem fok73 : fnOk Tryz.prog 73 = True := eq_true ⟨_, Tryz.func73, of_decide_eq_false (by kernel_rfl), rfl⟩
theorem fok74 : fnOk Tryz.prog 74 = True := eq_true ⟨_, Tryz.func74, of_decide_eq_false (by kernel_rfl), rfl⟩
theorem fok75 : fnOk Tryz.prog 75 = True := eq_true ⟨_, Tryz.func75, of_decide_eq_false (by kernel_rfl), rfl⟩
theorem fok76 : fnOk Tryz.prog 76 = True := eq_true ⟨_, Tryz.func76, of_decide_eq_false (by kernel_rfl), rfl⟩
theorem fok77 : fnOk Tryz.prog 77 = True := eq_true ⟨_, Tryz.func77, of_decide_eq_false (by kernel_rfl), rfl⟩
theorem fok78 : fnOk Tryz.prog 78 = True := eq_true ⟨_, Tryz.func78, of_decide_eq_false (by kernel_rfl), rfl⟩
theorem fok79 : fnOk Tryz.prog 79 = True := eq_true ⟨_, Tryz.func79, of_decide_eq_false (by kernel_rfl), rfl⟩
theorem fok80 : fnOk Tryz.prog 80 = True := eq_true ⟨_, Tryz.func80, of_decide_eq_false (by kernel_rfl), rfl⟩
theorem fok81 : fnOk Tryz.prog 81 = True := eq_true ⟨_, Tryz.func81, of_decide_eq_false (by kernel_rfl), rfl⟩
theorem fok82 : fnOk Tryz.prog 82 = True := eq_true ⟨_, Tryz.func82, of_decide_eq_false (by kernel_rfl), rfl⟩
theorem fok83 : fnOk Tryz.prog 83 = True := eq_true ⟨_, Tryz.func83, of_decide_eq_false (by kernel_rfl), rfl⟩
theorem fok84 : fnOk Tryz.prog 84 = True := eq_true ⟨_, Tryz.func84, of_decide_eq_false (by kernel_rfl), rfl⟩
theorem fok85 : fnOk Tryz.prog 85 = True := eq_true ⟨_, Tryz.func85, of_decide_eq_false (by kernel_rfl), rfl⟩
theorem fok86 : fnOk Tryz.prog 86 = True := eq_true ⟨_, Tryz.func86, of_decide_eq_false (by kernel_rfl), rfl⟩
theorem fok87 : fnOk Tryz.prog 87 = True := eq_true ⟨_, Tryz.func87, of_decide_eq_false (by kernel_rfl), rfl⟩
theorem fok88 : fnOk Tryz.prog 88 = True := eq_true ⟨_, Tryz.func88, of_decide_eq_false (by kernel_rfl), rfl⟩
theorem fok89 : fnOk Tryz.prog 89 = True := eq_true ⟨_, Tryz.func89, of_decide_eq_false (by kernel_rfl), rfl⟩
theorem fok90 : fnOk Tryz.prog 90 = True := eq_true ⟨_, Tryz.func90, of_decide_eq_false (by kernel_rfl), rfl⟩
theorem fok91 : fnOk Tryz.prog 91 = True := eq_true ⟨_, Tryz.func91, of_decide_eq_false (by kernel_rfl), rfl⟩
theorem fok92 : fnOk Tryz.prog 92 = True := eq_true ⟨_, Tryz.func92, of_decide_eq_false (by kernel_rfl), rfl⟩
theorem fok93 : fnOk Tryz.prog 93 = True := eq_true ⟨_, Tryz.func93, of_decide_eq_false (by kernel_rfl), rfl⟩
theorem fok94 : fnOk Tryz.prog 94 = True := eq_true ⟨_, Tryz.func94, of_decide_eq_false (by kernel_rfl), rfl⟩
theorem fok95 : fnOk Tryz.prog 95 = True := eq_true ⟨_, Tryz.func95, of_decide_eq_false (by kernel_rfl), rfl⟩
theorem fok96 : fnOk Tryz.prog 96 = True := eq_true ⟨_, Tryz.func96, of_decide_eq_false (by kernel_rfl), rfl⟩
theorem fok97 : fnOk Tryz.prog 97 = True := eq_true ⟨_, Tryz.func97, of_decide_eq_false (by kernel_rfl), rfl⟩
theorem fok98 : fnOk Tryz.prog 98 = True := eq_true ⟨_, Tryz.func98, of_decide_eq_false (by kernel_rfl), rfl⟩
theorem fok99 : fnOk Tryz.prog 99 = True := eq_true ⟨_, Tryz.func99, of_decide_eq_false (by kernel_rfl), rfl⟩
theorem fok100 : fnOk Tryz.prog 100 = True := eq_true ⟨_, Tryz.func100, of_decide_eq_false (by kernel_rfl), rfl⟩
theorem fok101 : fnOk Tryz.prog 101 = True := eq_true ⟨_, Tryz.func101, of_decide_eq_false (by kernel_rfl), rfl⟩
theorem fok102 : fnOk Tryz.prog 102 = True := eq_true ⟨_, Tryz.func102, of_decide_eq_false (by kernel_rfl), rfl⟩
theorem fok103 : fnOk Tryz.prog 103 = True := eq_true ⟨_, Tryz.func103, of_decide_eq_false (by kernel_rfl), rfl⟩
theorem fok104 : fnOk Tryz.prog 104 = True := eq_true ⟨_, Tryz.func104, of_decide_eq_false (by kernel_rfl), rfl⟩
theorem fok105 : fnOk Tryz.prog 105 = True := eq_true ⟨_, Tryz.func105, of_decide_eq_false (by kernel_rfl), rfl⟩
theorem fok106 : fnOk Tryz.prog 106 = True := eq_true ⟨_, Tryz.func106, of_decide_eq_false (by kernel_rfl), rfl⟩
theorem fok107 : fnOk Tryz.prog 107 = True := eq_true ⟨_, Tryz.func107, of_decide_eq_false (by kernel_rfl), rfl⟩
theorem fok108 : fnOk Tryz.prog 108 = True := eq_true ⟨_, Tryz.func108, of_decide_eq_false (by kernel_rfl), rfl⟩
theorem fok109 : fnOk Tryz.prog 109 = True := eq_true ⟨_, Tryz.func109, of_decide_eq_false (by kernel_rfl), rfl⟩
theorem fok110 : fnOk Tryz.prog 110 = True := eq_true ⟨_, Tryz.func110, of_decide_eq_false (by kernel_rfl), rfl⟩
theorem fok111 : fnOk Tryz.prog 111 = True := eq_true ⟨_, Tryz.func111, of_decide_eq_false (by kernel_rfl), rfl⟩
theorem fok112 : fnOk Tryz.prog 112 = True := eq_true ⟨_, Tryz.func112, of_decide_eq_false (by kernel_rfl), rfl⟩
theorem fok113 : fnOk Tryz.prog 113 = True := eq_true ⟨_, Tryz.func113, of_decide_eq_false (by kernel_rfl), rfl⟩
theorem fok114 : fnOk Tryz.prog 114 = True := eq_true ⟨_, Tryz.func114, of_decide_eq_false (by kernel_rfl), rfl⟩
theorem fok115 : fnOk Tryz.prog 115 = True := eq_true ⟨_, Tryz.func115, of_decide_eq_false (by kernel_rfl), rfl⟩
theorem fok116 : fnOk Tryz.prog 116 = True := eq_true ⟨_, Tryz.func116, of_decide_eq_false (by kernel_rfl), rfl⟩
theorem fok117 : fnOk Tryz.prog 117 = True := eq_true ⟨_, Tryz.func117, of_decide_eq_false (by kernel_rfl), rfl⟩
theorem fok118 : fnOk Tryz.prog 118 = True := eq_true ⟨_, Tryz.func118, of_decide_eq_false (by kernel_rfl), rfl⟩
theorem fok119 : fnOk Tryz.prog 119 = True := eq_true ⟨_, Tryz.func119, of_decide_eq_false (by kernel_rfl), rfl⟩
theorem fok120 : fnOk Tryz.prog 120 = True := eq_true ⟨_, Tryz.func120, of_decide_eq_false (by kernel_rfl), rfl⟩
theorem fok121 : fnOk Tryz.prog 121 = True := eq_true ⟨_, Tryz.func121, of_decide_eq_false (by kernel_rfl), rfl⟩
theorem fok122 : fnOk Tryz.prog 122 = True := eq_true ⟨_, Tryz.func122, of_decide_eq_false (by kernel_rfl), rfl⟩
theorem fok123 : fnOk Tryz.prog 123 = True := eq_true ⟨_, Tryz.func123, of_decide_eq_false (by kernel_rfl), rfl⟩
theorem fok124 : fnOk Tryz.prog 124 = True := eq_true ⟨_, Tryz.func124, of_decide_eq_false (by kernel_rfl), rfl⟩
theorem fok125 : fnOk Tryz.prog 125 = True := eq_true ⟨_, Tryz.func125, of_decide_eq_false (by kernel_rfl), rfl⟩
theorem fok126 : fnOk Tryz.prog 126 = True := eq_true ⟨_, Tryz.func126, of_decide_eq_false (by kernel_rfl), rfl⟩
theorem fok127 : fnOk Tryz.prog 127 = True := eq_true ⟨_, Tryz.func127, of_decide_eq_false (by kernel_rfl), rfl⟩
theorem fok128 : fnOk Tryz.prog 128 = True := eq_true ⟨_, Tryz.func128, of_decide_eq_false (by kernel_rfl), rfl⟩
theorem fok129 : fnOk Tryz.prog 129 = True := eq_true ⟨_, Tryz.func129, of_decide_eq_false (by kernel_rfl), rfl⟩
theorem fok130 : fnOk Tryz.prog 130 = True := eq_true ⟨_, Tryz.func130, of_decide_eq_false (by kernel_rfl), rfl⟩
theorem fok131 : fnOk Tryz.prog 131 = True := eq_true ⟨_, Tryz.func131, of_decide_eq_false (by kernel_rfl), rfl⟩
theorem fok132 : fnOk Tryz.prog 132 = True := eq_true ⟨_, Tryz.func132, of_decide_eq_false (by kernel_rfl), rfl⟩
theorem fok133 : fnOk Tryz.prog 133 = True := eq_true ⟨_, Tryz.func133, of_decide_eq_false (by kernel_rfl), rfl⟩
theorem fok134 : fnOk Tryz.prog 134 = True := eq_true ⟨_, Tryz.func134, of_decide_eq_false (by kernel_rfl), rfl⟩
theorem fok135 : fnOk Tryz.prog 135 = True := eq_true ⟨_, Tryz.func135, of_decide_eq_false (by kernel_rfl), rfl⟩
theorem fok136 : fnOk Tryz.prog 136 = True := eq_true ⟨_, Tryz.func136, of_decide_eq_false (by kernel_rfl), rfl⟩
theorem fok137 : fnOk Tryz.prog 137 = True := eq_true ⟨_, Tryz.func137, of_decide_eq_false (by kernel_rfl), rfl⟩
theorem fok138 : fnOk Tryz.prog 138 = True := eq_true ⟨_, Tryz.func138, of_decide_eq_false (by kernel_rfl), rfl⟩
theorem fok139 : fnOk Tryz.prog 139 = True := eq_true ⟨_, Tryz.func139, of_decide_eq_false (by kernel_rfl), rfl⟩
theorem fok140 : fnOk Tryz.prog 140 = True := eq_true ⟨_, Tryz.func140, of_decide_eq_false (by kernel_rfl), rfl⟩
theorem fok141 : fnOk Tryz.prog 141 = True := eq_true ⟨_, Tryz.func141, of_decide_eq_false (by kernel_rfl), rfl⟩
theorem fok142 : fnOk Tryz.prog 142 = True := eq_true ⟨_, Tryz.func142, of_decide_eq_false (by kernel_rfl), rfl⟩
theorem fok143 : fnOk Tryz.prog 143 = True := eq_true ⟨_, Tryz.func143, of_decide_eq_false (by kernel_rfl), rfl⟩
theorem fok144 : fnOk Tryz.prog 144 = True := eq_true ⟨_, Tryz.func144, of_decide_eq_false (by kernel_rfl), rfl⟩
theorem fok145 : fnOk Tryz.prog 145 = True := eq_true ⟨_, Tryz.func145, of_decide_eq_false (by kernel_rfl), rfl⟩
theorem fok146 : fnOk Tryz.prog 146 = True := eq_true ⟨_, Tryz.func146, of_decide_eq_false (by kernel_rfl), rfl⟩
theorem fok147 : fnOk Tryz.prog 147 = True := eq_true ⟨_, Tryz.func147, of_decide_eq_false (by kernel_rfl), rfl⟩
theorem fok148 : fnOk Tryz.prog 148 = True := eq_true ⟨_, Tryz.func148, of_decide_eq_false (by kernel_rfl), rfl⟩
theorem fok149 : fnOk Tryz.prog 149 = True := eq_true ⟨_, Tryz.func149, of_decide_eq_false (by kernel_rfl), rfl⟩
theorem fok150 : fnOk Tryz.prog 150 = True := eq_true ⟨_, Tryz.func150, of_decide_eq_false (by kernel_rfl), rfl⟩
theorem fok151 : fnOk Tryz.prog 151 = True := eq_true ⟨_, Tryz.func151, of_decide_eq_false (by kernel_rfl), rfl⟩
theorem fok152 : fnOk Tryz.prog 152 = True := eq_true ⟨_, Tryz.func152, of_decide_eq_false (by kernel_rfl), rfl⟩
theorem fok153 : fnOk Tryz.prog 153 = True := eq_true ⟨_, Tryz.func153, of_decide_eq_false (by kernel_rfl), rfl⟩
theorem fok154 : fnOk Tryz.prog 154 = True := eq_true ⟨_, Tryz.func154, of_decide_eq_false (by kernel_rfl), rfl⟩
theorem fok155 : fnOk Tryz.prog 155 = True := eq_true ⟨_, Tryz.func155, of_decide_eq_false (by kernel_rfl), rfl⟩
theorem fok156 : fnOk Tryz.prog 156 = True := eq_true ⟨_, Tryz.func156, of_decide_eq_false (by kernel_rfl), rfl⟩
theorem fok157 : fnOk Tryz.prog 157 = True := eq_true ⟨_, Tryz.func157, of_decide_eq_false (by kernel_rfl), rfl⟩
theorem fok158 : fnOk Tryz.prog 158 = True := eq_true ⟨_, Tryz.func158, of_decide_eq_false (by kernel_rfl), rfl⟩
theorem fok159 : fnOk Tryz.prog 159 = True := eq_true ⟨_, Tryz.func159, of_decide_eq_false (by kernel_rfl), rfl⟩
theorem fok160 : fnOk Tryz.prog 160 = True := eq_true ⟨_, Tryz.func160, of_decide_eq_false (by kernel_rfl), rfl⟩
theorem fok161 : fnOk Tryz.prog 161 = True := eq_true ⟨_, Tryz.func161, of_decide_eq_false (by kernel_rfl), rfl⟩
theorem fok162 : fnOk Tryz.prog 162 = True := eq_true ⟨_, Tryz.func162, of_decide_eq_false (by kernel_rfl), rfl⟩
theorem fok163 : fnOk Tryz.prog 163 = True := eq_true ⟨_, Tryz.func163, of_decide_eq_false (by kernel_rfl), rfl⟩
theorem fok164 : fnOk Tryz.prog 164 = True := eq_true ⟨_, Tryz.func164, of_decide_eq_false (by kernel_rfl), rfl⟩
theorem fok165 : fnOk Tryz.prog 165 = True := eq_true ⟨_, Tryz.func165, of_decide_eq_false (by kernel_rfl), rfl⟩
theorem fok166 : fnOk Tryz.prog 166 = True := eq_true ⟨_, Tryz.func166, of_decide_eq_false (by kernel_rfl), rfl⟩

attribute [go_sem] ty1 ti1_kd ti1_agg ti1_size ti1_bytes ti1_zs ti1_zc ty2 ti2_kd ti2_agg
attribute [go_sem] ti2_size ti2_bytes ti2_zs ti2_zc ty3 ti3_kd ti3_agg ti3_size ti3_bytes ti3_zs
attribute [go_sem] ti3_zc ty4 ti4_kd ti4_agg ti4_size ti4_bytes ti4_zs ti4_zc ty5 ti5_kd
attribute [go_sem] ti5_agg ti5_size ti5_bytes ti5_zs ti5_zc ty6 ti6_kd ti6_agg ti6_size ti6_bytes
attribute [go_sem] ti6_zs ti6_zc ty7 ti7_kd ti7_agg ti7_size ti7_bytes ti7_zs ti7_zc fld7_0
attribute [go_sem] pl7_0 fld7_1 pl7_1 fld7_2 pl7_2 fld7_3 pl7_3 bld7 ty8 ti8_kd
attribute [go_sem] ti8_agg ti8_size ti8_bytes ti8_zs ti8_zc fld8_0 pl8_0 fld8_1 pl8_1 fld8_2
attribute [go_sem] pl8_2 fld8_3 pl8_3 bld8 ty9 ti9_kd ti9_agg ti9_size ti9_bytes ti9_zs
attribute [go_sem] ti9_zc ty10 ti10_kd ti10_agg ti10_size ti10_bytes ti10_zs ti10_zc ty11 ti11_kd
attribute [go_sem] ti11_agg ti11_size ti11_bytes ti11_zs ti11_zc ty12 ti12_kd ti12_agg ti12_size ti12_bytes
attribute [go_sem] ti12_zs ti12_zc ty21 ti21_kd ti21_agg ti21_size ti21_bytes ti21_zs ti21_zc ty22
attribute [go_sem] ti22_kd ti22_agg ti22_size ti22_bytes ti22_zs ti22_zc sli22 ty24 ti24_kd ti24_agg
attribute [go_sem] ti24_size ti24_bytes ti24_zs ti24_zc ty25 ti25_kd ti25_agg ti25_size ti25_bytes ti25_zs
attribute [go_sem] ti25_zc fld25_0 pl25_0 fld25_1 pl25_1 fld25_2 pl25_2 fld25_3 pl25_3 bld25
attribute [go_sem] ty26 ti26_kd ti26_agg ti26_size ti26_bytes ti26_zs ti26_zc fld26_0 pl26_0 fld26_1
attribute [go_sem] pl26_1 fld26_2 pl26_2 fld26_3 pl26_3 bld26 ty28 ti28_kd ti28_agg ti28_size
attribute [go_sem] ti28_bytes ti28_zs ti28_zc ty29 ti29_kd ti29_agg ti29_size ti29_bytes ti29_zs ti29_zc
attribute [go_sem] ty30 ti30_kd ti30_agg ti30_size ti30_bytes ti30_zs ti30_zc sli30 ty31 ti31_kd
attribute [go_sem] ti31_agg ti31_size ti31_bytes ti31_zs ti31_zc fld31_0 pl31_0 bld31 ty32 ti32_kd
attribute [go_sem] ti32_agg ti32_size ti32_bytes ti32_zs ti32_zc fld32_0 pl32_0 bld32 ty33 ti33_kd
attribute [go_sem] ti33_agg ti33_size ti33_bytes ti33_zs ti33_zc fld33_0 pl33_0 fld33_1 pl33_1 bld33
attribute [go_sem] ty34 ti34_kd ti34_agg ti34_size ti34_bytes ti34_zs ti34_zc fld34_0 pl34_0 fld34_1
attribute [go_sem] pl34_1 bld34 ty36 ti36_kd ti36_agg ti36_size ti36_bytes ti36_zs ti36_zc ty37
attribute [go_sem] ti37_kd ti37_agg ti37_size ti37_bytes ti37_zs ti37_zc ty38 ti38_kd ti38_agg ti38_size
attribute [go_sem] ti38_bytes ti38_zs ti38_zc ty39 ti39_kd ti39_agg ti39_size ti39_bytes ti39_zs ti39_zc
attribute [go_sem] fld39_0 pl39_0 fld39_1 pl39_1 bld39 ty40 ti40_kd ti40_agg ti40_size ti40_bytes
attribute [go_sem] ti40_zs ti40_zc fld40_0 pl40_0 fld40_1 pl40_1 bld40 ty42 ti42_kd ti42_agg
attribute [go_sem] ti42_size ti42_bytes ti42_zs ti42_zc ty44 ti44_kd ti44_agg ti44_size ti44_bytes ti44_zs
attribute [go_sem] ti44_zc ty45 ti45_kd ti45_agg ti45_size ti45_bytes ti45_zs ti45_zc ty46 ti46_kd
attribute [go_sem] ti46_agg ti46_size ti46_bytes ti46_zs ti46_zc ty47 ti47_kd ti47_agg ti47_size ti47_bytes
attribute [go_sem] ti47_zs ti47_zc ty48 ti48_kd ti48_agg ti48_size ti48_bytes ti48_zs ti48_zc ty49
attribute [go_sem] ti49_kd ti49_agg ti49_size ti49_bytes ti49_zs ti49_zc ty50 ti50_kd ti50_agg ti50_size
attribute [go_sem] ti50_bytes ti50_zs ti50_zc ty52 ti52_kd ti52_agg ti52_size ti52_bytes ti52_zs ti52_zc
attribute [go_sem] ty53 ti53_kd ti53_agg ti53_size ti53_bytes ti53_zs ti53_zc ty54 ti54_kd ti54_agg
attribute [go_sem] ti54_size ti54_bytes ti54_zs ti54_zc ty55 ti55_kd ti55_agg ti55_size ti55_bytes ti55_zs
attribute [go_sem] ti55_zc ty57 ti57_kd ti57_agg ti57_size ti57_bytes ti57_zs ti57_zc ty58 ti58_kd
attribute [go_sem] ti58_agg ti58_size ti58_bytes ti58_zs ti58_zc ty60 ti60_kd ti60_agg ti60_size ti60_bytes
attribute [go_sem] ti60_zs ti60_zc ty61 ti61_kd ti61_agg ti61_size ti61_bytes ti61_zs ti61_zc ty62
attribute [go_sem] ti62_kd ti62_agg ti62_size ti62_bytes ti62_zs ti62_zc ty64 ti64_kd ti64_agg ti64_size
attribute [go_sem] ti64_bytes ti64_zs ti64_zc ty65 ti65_kd ti65_agg ti65_size ti65_bytes ti65_zs ti65_zc
attribute [go_sem] ty66 ti66_kd ti66_agg ti66_size ti66_bytes ti66_zs ti66_zc ty67 ti67_kd ti67_agg
attribute [go_sem] ti67_size ti67_bytes ti67_zs ti67_zc ty68 ti68_kd ti68_agg ti68_size ti68_bytes ti68_zs
attribute [go_sem] ti68_zc ty69 ti69_kd ti69_agg ti69_size ti69_bytes ti69_zs ti69_zc ty70 ti70_kd
attribute [go_sem] ti70_agg ti70_size ti70_bytes ti70_zs ti70_zc ty71 ti71_kd ti71_agg ti71_size ti71_bytes
attribute [go_sem] ti71_zs ti71_zc fld71_0 pl71_0 fld71_1 pl71_1 fld71_2 pl71_2 bld71 ty72
attribute [go_sem] ti72_kd ti72_agg ti72_size ti72_bytes ti72_zs ti72_zc fld72_0 pl72_0 fld72_1 pl72_1
attribute [go_sem] fld72_2 pl72_2 bld72 ty73 ti73_kd ti73_agg ti73_size ti73_bytes ti73_zs ti73_zc
attribute [go_sem] ty74 ti74_kd ti74_agg ti74_size ti74_bytes ti74_zs ti74_zc ty75 ti75_kd ti75_agg
attribute [go_sem] ti75_size ti75_bytes ti75_zs ti75_zc ty76 ti76_kd ti76_agg ti76_size ti76_bytes ti76_zs
attribute [go_sem] ti76_zc ty78 ti78_kd ti78_agg ti78_size ti78_bytes ti78_zs ti78_zc ty79 ti79_kd
attribute [go_sem] ti79_agg ti79_size ti79_bytes ti79_zs ti79_zc ty80 ti80_kd ti80_agg ti80_size ti80_bytes
attribute [go_sem] ti80_zs ti80_zc ty81 ti81_kd ti81_agg ti81_size ti81_bytes ti81_zs ti81_zc ty82
attribute [go_sem] ti82_kd ti82_agg ti82_size ti82_bytes ti82_zs ti82_zc ty83 ti83_kd ti83_agg ti83_size
attribute [go_sem] ti83_bytes ti83_zs ti83_zc ty84 ti84_kd ti84_agg ti84_size ti84_bytes ti84_zs ti84_zc
attribute [go_sem] ty85 ti85_kd ti85_agg ti85_size ti85_bytes ti85_zs ti85_zc ty86 ti86_kd ti86_agg
attribute [go_sem] ti86_size ti86_bytes ti86_zs ti86_zc ty87 ti87_kd ti87_agg ti87_size ti87_bytes ti87_zs
attribute [go_sem] ti87_zc ty88 ti88_kd ti88_agg ti88_size ti88_bytes ti88_zs ti88_zc ty89 ti89_kd
attribute [go_sem] ti89_agg ti89_size ti89_bytes ti89_zs ti89_zc ty90 ti90_kd ti90_agg ti90_size ti90_bytes
attribute [go_sem] ti90_zs ti90_zc ty92 ti92_kd ti92_agg ti92_size ti92_bytes ti92_zs ti92_zc ty93
attribute [go_sem] ti93_kd ti93_agg ti93_size ti93_bytes ti93_zs ti93_zc ty94 ti94_kd ti94_agg ti94_size
attribute [go_sem] ti94_bytes ti94_zs ti94_zc ty95 ti95_kd ti95_agg ti95_size ti95_bytes ti95_zs ti95_zc
attribute [go_sem] fld95_0 pl95_0 fld95_1 pl95_1 fld95_2 pl95_2 bld95 ty96 ti96_kd ti96_agg
attribute [go_sem] ti96_size ti96_bytes ti96_zs ti96_zc fld96_0 pl96_0 fld96_1 pl96_1 fld96_2 pl96_2
attribute [go_sem] bld96 ty97 ti97_kd ti97_agg ti97_size ti97_bytes ti97_zs ti97_zc ty98 ti98_kd
attribute [go_sem] ti98_agg ti98_size ti98_bytes ti98_zs ti98_zc ty99 ti99_kd ti99_agg ti99_size ti99_bytes
attribute [go_sem] ti99_zs ti99_zc ty100 ti100_kd ti100_agg ti100_size ti100_bytes ti100_zs ti100_zc ty101
attribute [go_sem] ti101_kd ti101_agg ti101_size ti101_bytes ti101_zs ti101_zc ty102 ti102_kd ti102_agg ti102_size
attribute [go_sem] ti102_bytes ti102_zs ti102_zc sli102 ty103 ti103_kd ti103_agg ti103_size ti103_bytes ti103_zs
attribute [go_sem] ti103_zc ty104 ti104_kd ti104_agg ti104_size ti104_bytes ti104_zs ti104_zc ty106 ti106_kd
attribute [go_sem] ti106_agg ti106_size ti106_bytes ti106_zs ti106_zc ty107 ti107_kd ti107_agg ti107_size ti107_bytes
attribute [go_sem] ti107_zs ti107_zc ty108 ti108_kd ti108_agg ti108_size ti108_bytes ti108_zs ti108_zc ty109
attribute [go_sem] ti109_kd ti109_agg ti109_size ti109_bytes ti109_zs ti109_zc ty110 ti110_kd ti110_agg ti110_size
attribute [go_sem] ti110_bytes ti110_zs ti110_zc ty111 ti111_kd ti111_agg ti111_size ti111_bytes ti111_zs ti111_zc
attribute [go_sem] ty112 ti112_kd ti112_agg ti112_size ti112_bytes ti112_zs ti112_zc ty113 ti113_kd ti113_agg
attribute [go_sem] ti113_size ti113_bytes ti113_zs ti113_zc ty114 ti114_kd ti114_agg ti114_size ti114_bytes ti114_zs
attribute [go_sem] ti114_zc ty115 ti115_kd ti115_agg ti115_size ti115_bytes ti115_zs ti115_zc ty116 ti116_kd
attribute [go_sem] ti116_agg ti116_size ti116_bytes ti116_zs ti116_zc ty117 ti117_kd ti117_agg ti117_size ti117_bytes
attribute [go_sem] ti117_zs ti117_zc ty118 ti118_kd ti118_agg ti118_size ti118_bytes ti118_zs ti118_zc ty119
attribute [go_sem] ti119_kd ti119_agg ti119_size ti119_bytes ti119_zs ti119_zc ty121 ti121_kd ti121_agg ti121_size
attribute [go_sem] ti121_bytes ti121_zs ti121_zc ty122 ti122_kd ti122_agg ti122_size ti122_bytes ti122_zs ti122_zc
attribute [go_sem] ty123 ti123_kd ti123_agg ti123_size ti123_bytes ti123_zs ti123_zc ty124 ti124_kd ti124_agg
attribute [go_sem] ti124_size ti124_bytes ti124_zs ti124_zc ty125 ti125_kd ti125_agg ti125_size ti125_bytes ti125_zs
attribute [go_sem] ti125_zc ty127 ti127_kd ti127_agg ti127_size ti127_bytes ti127_zs ti127_zc ty129 ti129_kd
attribute [go_sem] ti129_agg ti129_size ti129_bytes ti129_zs ti129_zc ty130 ti130_kd ti130_agg ti130_size ti130_bytes
attribute [go_sem] ti130_zs ti130_zc ty131 ti131_kd ti131_agg ti131_size ti131_bytes ti131_zs ti131_zc ty132
attribute [go_sem] ti132_kd ti132_agg ti132_size ti132_bytes ti132_zs ti132_zc ty133 ti133_kd ti133_agg ti133_size
attribute [go_sem] ti133_bytes ti133_zs ti133_zc ty135 ti135_kd ti135_agg ti135_size ti135_bytes ti135_zs ti135_zc
attribute [go_sem] ty136 ti136_kd ti136_agg ti136_size ti136_bytes ti136_zs ti136_zc ty138 ti138_kd ti138_agg
attribute [go_sem] ti138_size ti138_bytes ti138_zs ti138_zc ty139 ti139_kd ti139_agg ti139_size ti139_bytes ti139_zs
attribute [go_sem] ti139_zc ty140 ti140_kd ti140_agg ti140_size ti140_bytes ti140_zs ti140_zc ty141 ti141_kd
attribute [go_sem] ti141_agg ti141_size ti141_bytes ti141_zs ti141_zc ty142 ti142_kd ti142_agg ti142_size ti142_bytes
attribute [go_sem] ti142_zs ti142_zc ty143 ti143_kd ti143_agg ti143_size ti143_bytes ti143_zs ti143_zc ty144
attribute [go_sem] ti144_kd ti144_agg ti144_size ti144_bytes ti144_zs ti144_zc ty145 ti145_kd ti145_agg ti145_size
attribute [go_sem] ti145_bytes ti145_zs ti145_zc ty146 ti146_kd ti146_agg ti146_size ti146_bytes ti146_zs ti146_zc
attribute [go_sem] ty147 ti147_kd ti147_agg ti147_size ti147_bytes ti147_zs ti147_zc ty148 ti148_kd ti148_agg
attribute [go_sem] ti148_size ti148_bytes ti148_zs ti148_zc ty150 ti150_kd ti150_agg ti150_size ti150_bytes ti150_zs
attribute [go_sem] ti150_zc ty151 ti151_kd ti151_agg ti151_size ti151_bytes ti151_zs ti151_zc ty152 ti152_kd
attribute [go_sem] ti152_agg ti152_size ti152_bytes ti152_zs ti152_zc ty153 ti153_kd ti153_agg ti153_size ti153_bytes
attribute [go_sem] ti153_zs ti153_zc ty154 ti154_kd ti154_agg ti154_size ti154_bytes ti154_zs ti154_zc ty155
attribute [go_sem] ti155_kd ti155_agg ti155_size ti155_bytes ti155_zs ti155_zc ty156 ti156_kd ti156_agg ti156_size
attribute [go_sem] ti156_bytes ti156_zs ti156_zc ty157 ti157_kd ti157_agg ti157_size ti157_bytes ti157_zs ti157_zc
attribute [go_sem] ty159 ti159_kd ti159_agg ti159_size ti159_bytes ti159_zs ti159_zc ty160 ti160_kd ti160_agg
attribute [go_sem] ti160_size ti160_bytes ti160_zs ti160_zc ty161 ti161_kd ti161_agg ti161_size ti161_bytes ti161_zs
attribute [go_sem] ti161_zc ty162 ti162_kd ti162_agg ti162_size ti162_bytes ti162_zs ti162_zc ty165 ti165_kd
attribute [go_sem] ti165_agg ti165_size ti165_bytes ti165_zs ti165_zc ty166 ti166_kd ti166_agg ti166_size ti166_bytes
attribute [go_sem] ti166_zs ti166_zc ty170 ti170_kd ti170_agg ti170_size ti170_bytes ti170_zs ti170_zc ty171
attribute [go_sem] ti171_kd ti171_agg ti171_size ti171_bytes ti171_zs ti171_zc ty172 ti172_kd ti172_agg ti172_size
attribute [go_sem] ti172_bytes ti172_zs ti172_zc ty173 ti173_kd ti173_agg ti173_size ti173_bytes ti173_zs ti173_zc
attribute [go_sem] ty174 ti174_kd ti174_agg ti174_size ti174_bytes ti174_zs ti174_zc ty176 ti176_kd ti176_agg
attribute [go_sem] ti176_size ti176_bytes ti176_zs ti176_zc ty177 ti177_kd ti177_agg ti177_size ti177_bytes ti177_zs
attribute [go_sem] ti177_zc ty180 ti180_kd ti180_agg ti180_size ti180_bytes ti180_zs ti180_zc fok2 fok3
attribute [go_sem] fok4 fok5 fok6 fok7 fok8 fok9 fok10 fok11 fok12 fok13
attribute [go_sem] fok14 fok15 fok16 fok17 fok18 fok19 fok20 fok21 fok22 fok23
attribute [go_sem] fok24 fok25 fok26 fok27 fok28 fok29 fok30 fok31 fok32 fok33
attribute [go_sem] fok34 fok35 fok36 fok37 fok38 fok39 fok40 fok41 fok42 fok43
attribute [go_sem] fok44 fok45 fok46 fok47 fok48 fok49 fok50 fok51 fok52 fok53
attribute [go_sem] fok54 fok55 fok56 fok57 fok58 fok59 fok60 fok61 fok62 fok63
attribute [go_sem] fok64 fok65 fok66 fok67 fok68 fok69 fok70 fok71 fok72 fok73
attribute [go_sem] fok74 fok75 fok76 fok77 fok78 fok79 fok80 fok81 fok82 fok83
attribute [go_sem] fok84 fok85 fok86 fok87 fok88 fok89 fok90 fok91 fok92 fok93
attribute [go_sem] fok94 fok95 fok96 fok97 fok98 fok99 fok100 fok101 fok102 fok103
attribute [go_sem] fok104 fok105 fok106 fok107 fok108 fok109 fok110 fok111 fok112 fok113
attribute [go_sem] fok114 fok115 fok116 fok117 fok118 fok119 fok120 fok121 fok122 fok123
attribute [go_sem] fok124 fok125 fok126 fok127 fok128 fok129 fok130 fok131 fok132 fok133
attribute [go_sem] fok134 fok135 fok136 fok137 fok138 fok139 fok140 fok141 fok142 fok143
attribute [go_sem] fok144 fok145 fok146 fok147 fok148 fok149 fok150 fok151 fok152 fok153
attribute [go_sem] fok154 fok155 fok156 fok157 fok158 fok159 fok160 fok161 fok162 fok163
attribute [go_sem] fok164 fok165 fok166
end Go.Ab
namespace Go.Ab
open Go Go.Proofs
set_option linter.unusedVariables false
set_option linter.unusedSimpArgs false

set_option maxRecDepth 100000 in
theorem con_digitOf (U V : List Int) (j : Nat) (hU : gd U) (hV : gd V) (lU : U.length ≤ 2000000) (h2 : 2 ≤ V.length) (hj : j + V.length < U.length) (hv1 : 32768 ≤ V.getD (V.length - 1) 0) (hW : vl (U.drop j) < 65536 * vl V) :
    Con Tryz.prog 159 true [.sl U.length (ints U), .sl V.length (ints V), .v (.int .i64 j)] [] (fun r hs bs => ∃ q : Int, r = .v (.int .i64 q) ∧ hs = [] ∧ bs = [] ∧ (0 ≤ q ∧ q < 65536) ∧ vl (U.drop j) < (q + 1) * vl V ∧ q * vl V < vl (U.drop j) + vl V) := by
  refine Con.of_aw Tryz.func159 rfl Tryz.ntmps159 (by simp) (by simp) (by simp) (W.sound ?_)
  show @W Tryz.prog 76 ⟨_⟩ ⟨fun x σ => @retW _ _ _ ⟨_⟩ _ ⟨_⟩ x σ⟩ _ _
  have hDl : V.length < (U.drop j).length := by simp; omega
  have hz := vl_above (gd_drop hU j) hV hDl hW
  have hw := vl_win hDl h2 hz
  have hvv := vl_top2 h2
  rw [getD_drop0, getD_drop0, getD_drop0] at hw
  have hx0 := vl_nonneg (gd_take (gd_drop hU j) (V.length - 2))
  have hx1 := vl_lt (gd_take (gd_drop hU j) (V.length - 2))
  have hy0 := vl_nonneg (gd_take hV (V.length - 2))
  have hy1 := vl_lt (gd_take hV (V.length - 2))
  rw [List.length_take, Nat.min_eq_left (by omega)] at hx1 hy1
  have gu0 := gd_getD hU (j + V.length)
  have gu1 := gd_getD hU (j + (V.length - 1))
  have gu2 := gd_getD hU (j + (V.length - 2))
  have gv1 := gd_getD hV (V.length - 1)
  have gv2 := gd_getD hV (V.length - 2)
  have htop := kn_top hw hvv ⟨hx0, hx1⟩ ⟨hy0, hy1⟩ gu2.1 gu1.1 gv2.2 hW
  have e0 : ((j : Int) + (V.length : Int)).toNat = j + V.length := by omega
  have e1 : ((j : Int) + (V.length : Int) - 1).toNat = j + (V.length - 1) := by omega
  have e2 : ((j : Int) + (V.length : Int) - 2).toNat = j + (V.length - 2) := by omega
  have f1 : ((V.length : Int) - 1).toNat = V.length - 1 := by omega
  have f2 : ((V.length : Int) - 2).toNat = V.length - 2 := by omega
  simp (disch := omega) only [go_sem]
  refine draw_of rfl [⟨0, [], []⟩, ⟨1, [], []⟩, ⟨2, [], []⟩, ⟨3, [], []⟩, ⟨4, [], []⟩, ⟨5, [], []⟩, ⟨6, [], []⟩, ⟨7, [5], []⟩, ⟨8, [5], []⟩, ⟨9, [5], []⟩, ⟨10, [5], []⟩, ⟨11, [5], []⟩, ⟨12, [5], []⟩, ⟨13, [5], []⟩, ⟨14, [], []⟩, ⟨15, [], []⟩] (by kernel_rfl) ?_
  simp (disch := omega) only [go_sem, e0, e1]
  generalize hu0 : U.getD (j + V.length) 0 = u0 at *
  generalize hu1 : U.getD (j + (V.length - 1)) 0 = u1 at *
  generalize hu2 : U.getD (j + (V.length - 2)) 0 = u2 at *
  refine ⟨by omega, by omega, by omega, by omega, ?_⟩
  refine draw_of rfl [⟨0, [], []⟩, ⟨1, [], []⟩, ⟨2, [], []⟩, ⟨3, [], []⟩, ⟨4, [], []⟩, ⟨5, [], []⟩, ⟨6, [], []⟩, ⟨7, [5], []⟩, ⟨8, [5], []⟩, ⟨9, [5], []⟩, ⟨10, [5], []⟩, ⟨11, [5], []⟩, ⟨12, [5], []⟩, ⟨13, [5], []⟩, ⟨14, [12], []⟩, ⟨15, [], []⟩] (by kernel_rfl) ?_
  simp (disch := omega) only [go_sem, f1]
  generalize hvv1 : V.getD (V.length - 1) 0 = v1 at *
  generalize hvv2 : V.getD (V.length - 2) 0 = v2 at *
  generalize htt : u0 * 65536 + u1 = top at *
  refine ⟨by omega, by omega, by omega, by omega, by omega, by omega, ?_⟩
  have hq0 : 0 ≤ top / v1 := Int.ediv_nonneg (by omega) (by omega)
  have hq1 : top / v1 ≤ 65537 := by
    have : top / v1 < 65538 := Int.ediv_lt_of_lt_mul (by omega) (by omega)
    omega
  have hr0 := Int.emod_nonneg top (show v1 ≠ 0 by omega)
  have hr1 := Int.emod_lt_of_pos top (show 0 < v1 by omega)
  have hqr := Int.emod_add_mul_ediv top v1
  have hini := kn_init hw hvv ⟨hx0, hx1⟩ ⟨hy0, hy1⟩ gu2 gv2.1 hq0 (show top < (top / v1 + 1) * v1 by rw [Int.add_mul, Int.mul_comm (top / v1)]; omega)
  have hqr' : top / v1 * v1 + top % v1 = top := by rw [Int.mul_comm]; omega
  generalize top / v1 = q0 at *
  generalize top % v1 = r0 at *
  refine loop_intro (fun x : Int × Int => [(0, .sl U.length (ints U)), (1, .sl V.length (ints V)), (2, .v (.int .i64 j)), (7, .v (.int .i64 V.length)), (9, .v (.int .i64 x.1)), (10, .v (.int .i64 x.2))])
    (fun _ => []) (fun x => (0 ≤ x.1 ∧ x.1 ≤ 65537) ∧ (0 ≤ x.2 ∧ x.2 < 65536) ∧ x.1 * v1 + x.2 = top ∧ vl (U.drop j) < (x.1 + 1) * vl V) (fun x => x.1.toNat) (q0, r0) ⟨⟨hq0, hq1⟩, ⟨hr0, by omega⟩, hqr', hini⟩
    (Le.lst [] _ _ rfl (by simp (disch := omega) only [go_sem]; try omega) (by simp (disch := omega) only [go_sem])) ?_
  rintro ⟨q, r⟩ ⟨hq, hr, hqr2, hlt⟩
  dsimp only at hq hr hqr2 hlt ⊢
  have hqv : 0 ≤ q * v2 ∧ q * v2 ≤ 65537 * 65535 := ⟨Int.mul_nonneg hq.1 gv2.1, Int.mul_le_mul hq.2 (by omega) gv2.1 (by omega)⟩
  simp (disch := omega) only [go_sem]
  refine draw_of rfl [⟨0, [], []⟩, ⟨1, [], []⟩, ⟨2, [], []⟩, ⟨3, [], []⟩, ⟨4, [], []⟩, ⟨5, [], []⟩, ⟨6, [], []⟩, ⟨7, [], []⟩, ⟨8, [], []⟩, ⟨9, [], []⟩, ⟨10, [8], []⟩, ⟨11, [8], []⟩, ⟨12, [8], []⟩, ⟨13, [8], []⟩, ⟨14, [8], []⟩, ⟨15, [8], []⟩, ⟨16, [8], []⟩, ⟨17, [8], []⟩, ⟨18, [8], []⟩, ⟨19, [8], []⟩, ⟨20, [], []⟩, ⟨21, [], []⟩] (by kernel_rfl) ?_
  simp (disch := omega) only [go_sem]
  refine ifW_not (fun h1 => ?_) (fun h1 => ?_)
  · simp (disch := omega) only [go_sem, h1, e2, f2, hu2, hvv2]
    refine ⟨by omega, by omega, by omega, by omega, ifW_dec (fun h2 => ?_) (fun h2 => ?_)⟩
    · simp (disch := omega) only [go_sem, h2, f1, hvv1]
      have hst := kn_step hw hvv ⟨hx0, hx1⟩ ⟨hy0, hy1⟩ hW gv2.1 (by omega) hq.1 hqr2 (.inr h2)
      have hqp : 0 < q := by
        rcases (by omega : 0 < q ∨ q = 0) with h | h
        · exact h
        · subst h; omega
      have hm : (q - 1) * v1 + (r + v1) = top := by rw [Int.sub_mul]; omega
      refine ⟨by omega, by omega, ifW_dec (fun h3 => ?_) (fun h3 => ?_)⟩
      · simp (disch := omega) only [go_sem, h3]
        have h4 : q - 1 < 65536 := by
          rcases (by omega : q - 1 < 65536 ∨ 65536 ≤ q - 1) with h | h
          · exact h
          · have := Int.mul_le_mul_of_nonneg_right h (show 0 ≤ v1 by omega)
            omega
        have h5 : (q - 1) * v2 ≤ (r + v1) * 65536 + u2 := by
          have : (q - 1) * v2 ≤ 65535 * 65535 := Int.mul_le_mul (by omega) (by omega) gv2.1 (by omega)
          omega
        have h6 := kn_exit hw hvv ⟨hx0, hx1⟩ ⟨hy0, hy1⟩ gv2.1 (by omega) ⟨by omega, h4⟩ hm h5
        exact fin_valc (by simp (disch := omega) only [go_sem]) (by simp (disch := omega) only [go_sem]) ⟨q - 1, rfl, rfl, rfl, ⟨by omega, h4⟩, by rw [show q - 1 + 1 = q by omega]; exact hst, h6⟩
      · simp (disch := omega) only [go_sem, h3]
        refine next_intro (q - 1, r + v1) [] ⟨by show 0 ≤ q - 1 ∧ q - 1 ≤ 65537; omega, by show 0 ≤ r + v1 ∧ r + v1 < 65536; omega, hm, by show _ < (q - 1 + 1) * vl V; rw [show q - 1 + 1 = q by omega]; exact hst⟩ (by show (q - 1).toNat < q.toNat; omega) rfl (by simp (disch := omega) only [go_sem]; try omega) (by simp (disch := omega) only [go_sem])

    · simp (disch := omega) only [go_sem, h2]
      have h6 := kn_exit hw hvv ⟨hx0, hx1⟩ ⟨hy0, hy1⟩ gv2.1 (by omega) ⟨hq.1, by omega⟩ hqr2 (by omega)
      exact fin_valc (by simp (disch := omega) only [go_sem]) (by simp (disch := omega) only [go_sem]) ⟨q, rfl, rfl, rfl, ⟨hq.1, by omega⟩, hlt, h6⟩
  · simp (disch := omega) only [go_sem, h1, f1, hvv1]
    have hst := kn_step hw hvv ⟨hx0, hx1⟩ ⟨hy0, hy1⟩ hW gv2.1 (by omega) hq.1 hqr2 (.inl h1)
    have hqp : 0 < q := by omega
    have hm : (q - 1) * v1 + (r + v1) = top := by rw [Int.sub_mul]; omega
    refine ⟨by omega, by omega, ifW_dec (fun h3 => ?_) (fun h3 => ?_)⟩
    · simp (disch := omega) only [go_sem, h3]
      have h4 : q - 1 < 65536 := by
        rcases (by omega : q - 1 < 65536 ∨ 65536 ≤ q - 1) with h | h
        · exact h
        · have := Int.mul_le_mul_of_nonneg_right h (show 0 ≤ v1 by omega)
          omega
      have h5 : (q - 1) * v2 ≤ (r + v1) * 65536 + u2 := by
        have : (q - 1) * v2 ≤ 65535 * 65535 := Int.mul_le_mul (by omega) (by omega) gv2.1 (by omega)
        omega
      have h6 := kn_exit hw hvv ⟨hx0, hx1⟩ ⟨hy0, hy1⟩ gv2.1 (by omega) ⟨by omega, h4⟩ hm h5
      exact fin_valc (by simp (disch := omega) only [go_sem]) (by simp (disch := omega) only [go_sem]) ⟨q - 1, rfl, rfl, rfl, ⟨by omega, h4⟩, by rw [show q - 1 + 1 = q by omega]; exact hst, h6⟩
    · simp (disch := omega) only [go_sem, h3]
      refine next_intro (q - 1, r + v1) [] ⟨by show 0 ≤ q - 1 ∧ q - 1 ≤ 65537; omega, by show 0 ≤ r + v1 ∧ r + v1 < 65536; omega, hm, by show _ < (q - 1 + 1) * vl V; rw [show q - 1 + 1 = q by omega]; exact hst⟩ (by show (q - 1).toNat < q.toNat; omega) rfl (by simp (disch := omega) only [go_sem]; try omega) (by simp (disch := omega) only [go_sem])
end Go.Ab
namespace Go.Ab
open Go Go.Proofs
set_option linter.unusedVariables false
set_option linter.unusedSimpArgs false

theorem con_takeAway (U V : List Int) (j : Nat) (q : Int) (hU : gd U) (hV : gd V) (lU : U.length ≤ 2000000) (hj : j + V.length < U.length) (hq : 0 ≤ q ∧ q < 65536) :
    Con Tryz.prog 160 false [.rf 10000000 0 U.length, .sl V.length (ints V), .v (.int .i64 j), .v (.int .i64 q)] [.own 1 (ints U)]
      (fun r hs bs => ∃ (U' : List Int) (bo : Int), r = .v (.bool (decide (U.getD (j + V.length) 0 - bo < 0))) ∧ hs = [] ∧ bs = [.own 1 (ints (U'.set (j + V.length) (U.getD (j + V.length) 0 - bo)))] ∧
        U'.length = U.length ∧ gd U' ∧ (0 ≤ bo ∧ bo < 65536) ∧ (∀ t, t < j ∨ j + V.length ≤ t → U'.getD t 0 = U.getD t 0) ∧ vl U' - 65536 ^ (j + V.length) * bo = vl U - 65536 ^ j * (q * vl V)) := by
  refine Con.of_aw Tryz.func160 rfl Tryz.ntmps160 (by simp) (by simp) (by simp) (W.sound ?_)
  show @W Tryz.prog 68 ⟨_⟩ ⟨fun x σ => @retW _ _ _ ⟨_⟩ _ ⟨_⟩ x σ⟩ _ _
  simp (disch := omega) only [go_sem]
  refine loop_intro (fun x : Nat × List Int × Int => [(0, .rf 10000000 0 U.length), (1, .sl V.length (ints V)), (2, .v (.int .i64 j)), (3, .v (.int .i64 q)), (9, .v (.int .i64 x.2.2)), (13, .sl V.length (ints V)), (14, .v (.int .i64 V.length)), (15, .v (.int .i64 x.1))])
    (fun x => [(10000000, .own 1 (ints x.2.1))])
    (fun x => x.1 ≤ V.length ∧ x.2.1.length = U.length ∧ gd x.2.1 ∧ (0 ≤ x.2.2 ∧ x.2.2 < 65536) ∧ (∀ t, t < j ∨ j + x.1 ≤ t → x.2.1.getD t 0 = U.getD t 0) ∧ vl x.2.1 - 65536 ^ (j + x.1) * x.2.2 = vl U - 65536 ^ j * (q * vl (V.take x.1)))
    (fun x => V.length - x.1) (0, U, 0) ⟨by simp, rfl, hU, by simp, fun _ _ => rfl, by simp [vl]⟩
    (Le.lst [] _ _ rfl (by simp (disch := omega) only [go_sem]; try omega) (by simp (disch := omega) only [go_sem])) ?_
  rintro ⟨i, U1, bo⟩ ⟨hi, hl1, hg1, hbo, hsame, hval⟩
  dsimp only at hi hl1 hg1 hbo hsame hval ⊢
  simp (disch := omega) only [go_sem]
  refine ifW_dec (fun h1 => ?_) (fun h1 => ?_)
  · have hx := gd_getD hV i
    have hu := gd_getD hg1 (j + i)
    have hqx : 0 ≤ q * V.getD i 0 ∧ q * V.getD i 0 ≤ 65535 * 65535 := ⟨Int.mul_nonneg hq.1 hx.1, Int.mul_le_mul (by omega) (by omega) hx.1 (by omega)⟩
    have e1 : ((j : Int) + (i : Int)).toNat = j + i := by omega
    have hstep : ∀ d b : Int, d - 65536 * b = U1.getD (j + i) 0 - q * V.getD i 0 - bo → vl (U1.set (j + i) d) - 65536 ^ (j + (i + 1)) * b = vl U - 65536 ^ j * (q * vl (V.take (i + 1))) := by
      intro d b hd
      rw [vl_set (by omega), vl_take_any, ← Nat.add_assoc, Int.pow_succ]
      have e3 : (65536 : Int) ^ (j + i) = 65536 ^ j * 65536 ^ i := Int.pow_add _ _ _
      rw [e3] at hval ⊢
      generalize (65536 : Int) ^ i = Pi at *
      generalize (65536 : Int) ^ j = Pj at *
      grind
    have hsm : ∀ d : Int, ∀ t, t < j ∨ j + (i + 1) ≤ t → (U1.set (j + i) d).getD t 0 = U.getD t 0 := fun d t ht => by
      rw [getD_set (by omega), if_neg (by omega)]; exact hsame t (by omega)
    simp (disch := omega) only [go_sem, h1, e1]
    refine ⟨by omega, by omega, by omega, by omega, ifW_dec (fun h2 => ?_) (fun h2 => ?_)⟩
    · simp (disch := omega) only [go_sem, h2, e1]
      generalize hb : (0 - (U1.getD (j + i) 0 - q * V.getD i 0 - bo) + 65536 - 1) / 65536 = b
      refine ⟨by omega, by omega, next_intro (i + 1, U1.set (j + i) (U1.getD (j + i) 0 - q * V.getD i 0 - bo + b * 65536), b) [] ⟨by show i + 1 ≤ _; omega, by simp [hl1], gd_set hg1 (by omega), by show 0 ≤ b ∧ b < 65536; omega, hsm _, hstep (U1.getD (j + i) 0 - q * V.getD i 0 - bo + b * 65536) b (by omega)⟩
        (by show V.length - (i + 1) < V.length - i; omega) rfl (by simp (disch := omega) only [go_sem]; try omega) (by simp (disch := omega) only [go_sem])⟩
    · simp (disch := omega) only [go_sem, h2, e1]
      refine ⟨by omega, by omega, next_intro (i + 1, U1.set (j + i) (U1.getD (j + i) 0 - q * V.getD i 0 - bo), 0) [] ⟨by show i + 1 ≤ _; omega, by simp [hl1], gd_set hg1 (by omega), by simp, hsm _, hstep (U1.getD (j + i) 0 - q * V.getD i 0 - bo) 0 (by omega)⟩
        (by show V.length - (i + 1) < V.length - i; omega) rfl (by simp (disch := omega) only [go_sem]; try omega) (by simp (disch := omega) only [go_sem])⟩
  · have hiA : i = V.length := by omega
    subst hiA
    rw [List.take_length] at hval
    have e1 : ((j : Int) + (V.length : Int)).toNat = j + V.length := by omega
    have hu := gd_getD hg1 (j + V.length)
    have es := hsame (j + V.length) (by omega)
    have eg : (U1.set (j + V.length) (U.getD (j + V.length) 0 - bo)).getD (j + V.length) 0 = U.getD (j + V.length) 0 - bo := by rw [getD_set (by omega), if_pos rfl]
    simp (disch := omega) only [go_sem, h1, e1, es]
    refine ⟨by omega, by omega, by omega, by omega, by omega, by simp; omega, ?_⟩
    simp (disch := omega) only [go_sem, eg]
    refine fin_intro [] [] [.own 1 (ints (U1.set (j + V.length) (U.getD (j + V.length) 0 - bo)))] [.v (.bool (decide (U.getD (j + V.length) 0 - bo < 0)))] rfl (by simp (disch := omega) only [go_sem]) (by simp (disch := omega) only [go_sem]) (by simp) (by simp) ⟨U1, bo, rfl, rfl, rfl, hl1, hg1, hbo, hsame, hval⟩

theorem con_addBack (U V : List Int) (j : Nat) (hU : ∀ t, t ≠ j + V.length → 0 ≤ U.getD t 0 ∧ U.getD t 0 < 65536) (hUt : -65536 ≤ U.getD (j + V.length) 0 ∧ U.getD (j + V.length) 0 < 65536) (hV : gd V) (lU : U.length ≤ 2000000) (hj : j + V.length < U.length) :
    Con Tryz.prog 161 false [.rf 10000000 0 U.length, .sl V.length (ints V), .v (.int .i64 j)] [.own 1 (ints U)]
      (fun r hs bs => ∃ (U' : List Int), r = .tu [] ∧ hs = [] ∧ bs = [.own 1 (ints U')] ∧
        U'.length = U.length ∧ (∀ t, t ≠ j + V.length → 0 ≤ U'.getD t 0 ∧ U'.getD t 0 < 65536) ∧ (∀ t, t < j ∨ j + V.length < t → U'.getD t 0 = U.getD t 0) ∧ vl U' = vl U + 65536 ^ j * vl V) := by
  refine Con.of_aw Tryz.func161 rfl Tryz.ntmps161 (by simp) (by simp) (by simp) (W.sound ?_)
  show @W Tryz.prog 46 ⟨_⟩ ⟨fun x σ => @retW _ _ _ ⟨_⟩ _ ⟨_⟩ x σ⟩ _ _
  simp (disch := omega) only [go_sem]
  refine loop_intro (fun x : Nat × List Int × Int => [(0, .rf 10000000 0 U.length), (1, .sl V.length (ints V)), (2, .v (.int .i64 j)), (6, .v (.int .i64 x.2.2)), (9, .sl V.length (ints V)), (10, .v (.int .i64 V.length)), (11, .v (.int .i64 x.1))])
    (fun x => [(10000000, .own 1 (ints x.2.1))])
    (fun x => x.1 ≤ V.length ∧ x.2.1.length = U.length ∧ (∀ t, t ≠ j + V.length → 0 ≤ x.2.1.getD t 0 ∧ x.2.1.getD t 0 < 65536) ∧ (0 ≤ x.2.2 ∧ x.2.2 ≤ 1) ∧ (∀ t, t < j ∨ j + x.1 ≤ t → x.2.1.getD t 0 = U.getD t 0) ∧ vl x.2.1 + 65536 ^ (j + x.1) * x.2.2 = vl U + 65536 ^ j * vl (V.take x.1))
    (fun x => V.length - x.1) (0, U, 0) ⟨by simp, rfl, hU, by simp, fun _ _ => rfl, by simp [vl]⟩
    (Le.lst [] _ _ rfl (by simp (disch := omega) only [go_sem]; try omega) (by simp (disch := omega) only [go_sem])) ?_
  rintro ⟨i, U1, cy⟩ ⟨hi, hl1, hg1, hcy, hsame, hval⟩
  dsimp only at hi hl1 hg1 hcy hsame hval ⊢
  simp (disch := omega) only [go_sem]
  refine ifW_dec (fun h1 => ?_) (fun h1 => ?_)
  · have hx := gd_getD hV i
    have hu := hg1 (j + i) (by omega)
    have e1 : ((j : Int) + (i : Int)).toNat = j + i := by omega
    simp (disch := omega) only [go_sem, h1, e1]
    generalize hb : cy + (U1.getD (j + i) 0 + V.getD i 0) = b
    have hg2 : ∀ t, t ≠ j + V.length → 0 ≤ (U1.set (j + i) (b % 65536)).getD t 0 ∧ (U1.set (j + i) (b % 65536)).getD t 0 < 65536 := fun t ht => by
      rw [getD_set (by omega)]
      split
      · omega
      · exact hg1 t ht
    refine ⟨by omega, by omega, by omega, by omega, by omega, by omega, next_intro (i + 1, U1.set (j + i) (b % 65536), b / 65536) [] ⟨by show i + 1 ≤ _; omega, by simp [hl1], hg2, by show 0 ≤ b / 65536 ∧ b / 65536 ≤ 1; omega, fun t ht => ?_, ?_⟩
      (by show V.length - (i + 1) < V.length - i; omega) rfl (by simp (disch := omega) only [go_sem]; try omega) (by simp (disch := omega) only [go_sem])⟩
    · show (U1.set (j + i) (b % 65536)).getD t 0 = _
      have ht : t < j ∨ j + (i + 1) ≤ t := ht
      rw [getD_set (by omega), if_neg (by omega)]; exact hsame t (by omega)
    · show vl (U1.set (j + i) (b % 65536)) + 65536 ^ (j + (i + 1)) * (b / 65536) = vl U + 65536 ^ j * vl (V.take (i + 1))
      rw [vl_set (by omega), vl_take_any, ← Nat.add_assoc, Int.pow_succ]
      have e3 : (65536 : Int) ^ (j + i) = 65536 ^ j * 65536 ^ i := Int.pow_add _ _ _
      have e4 : b % 65536 + 65536 * (b / 65536) = b := Int.emod_add_mul_ediv b 65536
      rw [e3] at hval ⊢
      generalize (65536 : Int) ^ i = Pi at *
      generalize (65536 : Int) ^ j = Pj at *
      grind
  · have hiA : i = V.length := by omega
    subst hiA
    rw [List.take_length] at hval
    have e1 : ((j : Int) + (V.length : Int)).toNat = j + V.length := by omega
    have es := hsame (j + V.length) (by omega)
    simp (disch := omega) only [go_sem, h1, e1, es]
    refine ⟨by omega, by omega, by omega, by omega, ?_⟩
    refine fin_intro [] [] [.own 1 (ints (U1.set (j + V.length) (U.getD (j + V.length) 0 + cy)))] [] rfl (by simp (disch := omega) only [go_sem]) (by simp (disch := omega) only [go_sem]) (by simp) (by simp) ⟨_, rfl, rfl, rfl, by simp [hl1], fun t ht => ?_, fun t ht => ?_, ?_⟩
    · rw [getD_set (by omega), if_neg ht]; exact hg1 t ht
    · rw [getD_set (by omega), if_neg (by omega)]; exact hsame t (by omega)
    · rw [vl_set (by omega), es]
      generalize (65536 : Int) ^ (j + V.length) = Pj at *
      grind
end Go.Ab
namespace Go.Ab
open Go Go.Proofs
set_option linter.unusedVariables false
set_option linter.unusedSimpArgs false

theorem con_trim (xs : List Int) (hl : xs.length ≤ 2 ^ 40) : Con Tryz.prog 88 false [.rf 10000000 0 xs.length] [.own 1 (ints xs)] (fun r hs bs => r = .rf 10000000 0 (cutZ xs).length ∧ hs = [] ∧ bs = [.own 1 (ints xs)]) := by
  refine Con.of_aw Tryz.func88 rfl Tryz.ntmps88 (by simp) (by simp) (by simp) (W.sound ?_)
  show @W Tryz.prog 21 ⟨_⟩ ⟨fun x σ => @retW _ _ _ ⟨_⟩ _ ⟨_⟩ x σ⟩ _ _
  simp (disch := omega) only [go_sem]
  refine loop_intro (fun m : Nat => [(0, .rf 10000000 0 m)]) (fun _ => [(10000000, .own 1 (ints xs))]) (fun m => m ≤ xs.length ∧ cutZ (xs.take m) = cutZ xs) id xs.length ⟨Nat.le_refl _, by simp⟩
    (Le.lst [] _ _ rfl (by simp (disch := omega) only [go_sem]; try omega) (by simp (disch := omega) only [go_sem])) ?_
  intro m ⟨hm, hx⟩
  have hmx : ∀ k, k + 1 = m → xs.take m = xs.take k ++ [xs.getD k 0] := fun k hk => by rw [← hk]; exact take_succ' (by omega)
  simp (disch := omega) only [go_sem]
  refine ifW_dec (fun h1 => ?_) (fun h1 => ?_)
  · obtain ⟨k, rfl⟩ : ∃ k, m = k + 1 := ⟨m - 1, by omega⟩
    have e1 : ((k + 1 : Nat) : Int) - 1 = (k : Nat) := by omega
    rw [hmx k rfl] at hx
    simp (disch := omega) only [go_sem, h1, e1]
    refine ⟨by omega, by omega, ifW_dec (fun h2 => ?_) (fun h2 => ?_)⟩
    · simp (disch := omega) only [go_sem, h2, e1]
      rw [h2, cutZ_zero] at hx
      refine ⟨by omega, next_intro k [] ⟨by omega, hx⟩ (by show k < k + 1; omega) rfl (by simp (disch := omega) only [go_sem]; try omega) (by simp (disch := omega) only [go_sem])⟩
    · simp (disch := omega) only [go_sem, h2]
      refine fin_intro [] [] [.own 1 (ints xs)] [.rf 10000000 0 (k + 1)] rfl (by simp (disch := omega) only [go_sem]) (by simp (disch := omega) only [go_sem]) (by simp) (by simp) ⟨?_, rfl, rfl⟩
      rw [cutZ_ne _ h2, ← hmx k rfl] at hx
      rw [← hx, List.length_take, Nat.min_eq_left hm]; rfl
  · simp (disch := omega) only [go_sem, h1]
    refine fin_intro [] [] [.own 1 (ints xs)] [.rf 10000000 0 m] rfl (by simp (disch := omega) only [go_sem]) (by simp (disch := omega) only [go_sem]) (by simp) (by simp) ⟨?_, rfl, rfl⟩
    have : m = 0 := by omega
    subst this
    rw [← hx]; rfl
end Go.Ab
namespace Go.Ab
open Go Go.Proofs
set_option linter.unusedVariables false
set_option linter.unusedSimpArgs false

theorem mul_lim {x y : Int} (hx : 0 ≤ x ∧ x < 65536) (hy : 0 ≤ y ∧ y < 65536) : 0 ≤ x * y ∧ x * y ≤ 4294836225 := by
  have h1 := Int.mul_nonneg hx.1 hy.1
  have h2 : x * y ≤ 65535 * 65535 := Int.mul_le_mul (by omega) (by omega) hy.1 (by omega)
  omega

end Go.Ab
namespace Go.Ab
open Go Go.Proofs
set_option linter.unusedVariables false
set_option linter.unusedSimpArgs false

theorem con_small (cl : Bool) (n : Nat) (hn : n < 2 ^ 63) : Con Tryz.prog 63 cl [.v (.int .i64 n)] [] (numR (lim n)) := by
  refine Con.of_aw Tryz.func63 rfl Tryz.ntmps63 (by simp) (by simp) (by simp) (W.sound ?_)
  show @W Tryz.prog 14 ⟨_⟩ ⟨fun x σ => @retW _ _ _ ⟨_⟩ _ ⟨_⟩ x σ⟩ _ _
  simp (disch := omega) only [go_sem]
  refine loop_intro (fun x : Nat × List Int => [(0, .v (.int .i64 x.1)), (3, .rf 1 0 x.2.length)]) (fun x => [(1, .own 1 (ints x.2))]) (fun x => x.1 < 2 ^ 63 ∧ x.2 ++ lim x.1 = lim n) (fun x => x.1) (n, []) ⟨hn, rfl⟩
    ((Le.ghost 3 1 1 (by simp (disch := omega) only [go_sem]) (by simp (disch := omega) only [go_sem])).trans (Le.lst [] _ _ rfl (by simp (disch := omega) only [go_sem]) (by simp (disch := omega) only [go_sem]))) ?_
  rintro ⟨k, l⟩ ⟨hk, hl⟩
  dsimp only at hk hl ⊢
  have hlen : l.length ≤ 4 := by
    have h1 := congrArg List.length hl
    have h2 := lim_len (n := n) (k := 4) |>.2 (by omega)
    rw [List.length_append] at h1; omega
  simp (disch := omega) only [go_sem]
  refine ifW_dec (fun h1 => ?_) (fun h1 => ?_)
  · simp (disch := omega) only [go_sem, h1]
    have hk0 : k ≠ 0 := by omega
    refine ⟨by omega, next_intro (k / 65536, l ++ [(k : Int) % 65536]) [(1, 140000000)] ⟨by show k / 65536 < 2 ^ 63; omega, ?_⟩ (by show k / 65536 < k; omega) rfl (by simp (disch := omega) only [go_sem, List.length_append]; omega) (by simp (disch := omega) only [go_sem])⟩
    rw [lim_pos hk0] at hl
    rw [← hl, List.append_assoc]; rfl
  · simp (disch := omega) only [go_sem, h1]
    have hk0 : k = 0 := by omega
    subst hk0
    rw [lim_zero, List.append_nil] at hl
    subst hl
    refine fin_intro [(0, 1)] [.own 1 (ints (lim n ++ []))] [] [.rf 0 0 (lim n).length] rfl (by simp (disch := omega) only [go_sem]) (by simp (disch := omega) only [go_sem]) (by simp) (by intro _; simp [tupA, AV.pu, AV.pu.puL, Ob.pu, pu_ints]) (.inr ⟨[], rfl, rfl⟩)
end Go.Ab
namespace Go.Ab
open Go Go.Proofs
set_option linter.unusedVariables false
set_option linter.unusedSimpArgs false

theorem pow_le_15 (k : Nat) (h : k < 16) : (0 : Int) < 2 ^ k ∧ (2 : Int) ^ k ≤ 32768 := by
  have : ∀ k, k < 16 → (0 : Int) < 2 ^ k ∧ (2 : Int) ^ k ≤ 32768 := by decide
  exact this k h

theorem mul_shift {x : Int} (hx : 0 ≤ x ∧ x < 65536) {k : Nat} (hk : k < 16) : 0 ≤ x * 2 ^ k ∧ x * 2 ^ k ≤ 2147450880 := by
  obtain ⟨h1, h2⟩ := pow_le_15 k hk
  have h3 := Int.mul_nonneg hx.1 (Int.le_of_lt h1)
  have h4 : x * 2 ^ k ≤ 65535 * 32768 := Int.mul_le_mul (by omega) h2 (by omega) (by omega)
  omega

theorem pow_split (k : Nat) : (65536 : Int) ^ (k / 16) * 2 ^ (k % 16) = 2 ^ k := by
  have e : (65536 : Int) = 2 ^ 16 := by decide
  rw [e, ← Int.pow_mul, ← Int.pow_add, Nat.div_add_mod]

theorem con_up (cl : Bool) (A : List Int) (k : Nat) (hA : gd A) (lA : A.length ≤ 1000000) (hk : k ≤ 100000000) :
    Con Tryz.prog 46 cl [.sl A.length (ints A), .v (.int .i64 k)] [] (numR (lim (vl A * 2 ^ k).toNat)) := by
  refine Con.of_aw Tryz.func46 rfl Tryz.ntmps46 (by simp) (by simp) (by simp) (W.sound ?_)
  show @W Tryz.prog 46 ⟨_⟩ ⟨fun x σ => @retW _ _ _ ⟨_⟩ _ ⟨_⟩ x σ⟩ _ _
  simp (disch := omega) only [go_sem]
  refine ifW_dec (fun h0 => ?_) (fun h0 => ?_)
  · simp (disch := omega) only [go_sem, h0]
    have : A = [] := List.length_eq_zero_iff.1 (by omega)
    subst this
    refine fin_intro [] [] [] [.v (.slice none 0 0)] rfl (by simp (disch := omega) only [go_sem]) (by simp (disch := omega) only [go_sem]) (by simp) (by intro _; simp [tupA, AV.pu, AV.pu.puL, Ob.pu, pu_ints]) (.inl ⟨by simp [vl, lim_zero], rfl, rfl⟩)
  · simp (disch := omega) only [go_sem, h0]
    refine ⟨by omega, ?_⟩
    have e16 : ((k : Int) / 16).toNat = k / 16 := by omega
    refine loop_intro (fun x : Nat × List Int × Int => [(1, .v (.int .i64 k)), (5, .rf 1 0 x.2.1.length), (6, .v (.int .i64 x.2.2)), (21, .sl A.length (ints A)), (22, .v (.int .i64 A.length)), (23, .v (.int .i64 x.1))])
      (fun x => [(1, .own 1 (ints x.2.1))])
      (fun x => x.1 ≤ A.length ∧ x.2.1.length = k / 16 + x.1 ∧ gd x.2.1 ∧ (0 ≤ x.2.2 ∧ x.2.2 < 65536) ∧ vl x.2.1 + 65536 ^ (k / 16 + x.1) * x.2.2 = 65536 ^ (k / 16) * 2 ^ (k % 16) * vl (A.take x.1))
      (fun x => A.length - x.1) (0, List.replicate (k / 16) 0, 0) ⟨by simp, by simp, gd_replicate _, by simp, by simp [vl, vl_replicate]⟩
      (Le.lst [(1, 220000000)] _ _ rfl (by simp (disch := omega) only [go_sem, List.length_replicate, e16]) (by simp (disch := omega) only [go_sem, e16])) ?_
    rintro ⟨i, out, cy⟩ ⟨hi, hol, hog, hcy, hov⟩
    dsimp only at hi hol hog hcy hov ⊢
    simp (disch := omega) only [go_sem]
    refine ifW_dec (fun h1 => ?_) (fun h1 => ?_)
    · have hx := gd_getD hA i
      have hxs := mul_shift hx (show k % 16 < 16 by omega)
      have em : min ((k : Int) % 16).toNat 64 = k % 16 := by omega
      simp (disch := omega) only [go_sem, h1, em]
      generalize hq : cy + A.getD i 0 * 2 ^ (k % 16) = q
      refine ⟨by omega, by omega, by omega, by omega, next_intro (i + 1, out ++ [q % 65536], q / 65536) [(1, 390000000)] ⟨by show i + 1 ≤ _; omega, by simp [hol]; omega, gd_append.2 ⟨hog, gd_one.2 (by omega)⟩, by show 0 ≤ q / 65536 ∧ q / 65536 < 65536; omega, ?_⟩ (by show A.length - (i + 1) < A.length - i; omega) rfl (by simp (disch := omega) only [go_sem, List.length_append]; try omega) (by simp (disch := omega) only [go_sem])⟩
      show vl (out ++ [q % 65536]) + 65536 ^ (k / 16 + (i + 1)) * (q / 65536) = 65536 ^ (k / 16) * 2 ^ (k % 16) * vl (A.take (i + 1))
      rw [vl_snoc, vl_take_any, hol, ← Nat.add_assoc, Int.pow_succ]
      have e3 : q % 65536 + 65536 * (q / 65536) = q := Int.emod_add_mul_ediv q 65536
      rw [Int.pow_add] at hov ⊢
      generalize (65536 : Int) ^ i = Pi at *
      generalize (65536 : Int) ^ (k / 16) = Pk at *
      generalize (2 : Int) ^ (k % 16) = Pm at *
      grind
    · simp (disch := omega) only [go_sem, h1]
      have hiA : i = A.length := by omega
      subst hiA
      rw [List.take_length, pow_split] at hov
      have hov2 : vl (out ++ [cy]) = vl A * 2 ^ k := by rw [vl_snoc, hol, hov]; grind
      have hog2 : gd (out ++ [cy]) := gd_append.2 ⟨hog, gd_one.2 hcy⟩
      refine ⟨by omega, ?_⟩
      have hl2 : out.length + 1 = (out ++ [cy]).length := by simp
      rw [hl2]
      refine call_lend false [460000000] (con_trim (out ++ [cy]) (by simp; omega)) (by simp (disch := omega) only [go_sem]) (by simp (disch := omega) only [go_sem]) rfl (lend_cons (z := 1) (cs := ints (out ++ [cy])) (by simp (disch := omega) only [go_sem]) (by simp (disch := omega) only [go_sem])) (by intro n hn; exact ⟨_, List.mem_singleton.2 rfl, by rw [List.mem_singleton.1 hn]; rfl⟩) ?_
      rintro r hs bs ⟨rfl, rfl, rfl⟩ _
      refine ⟨by simp [freeN], ?_⟩
      simp (disch := omega) only [go_sem]
      obtain ⟨z, hz⟩ := cutZ_pre (out ++ [cy])
      have hc := cutZ_lim hog2
      rw [hov2] at hc
      rw [hc] at hz ⊢
      refine fin_intro [(0, 460000000)] [.own 1 (ints (out ++ [cy]))] [] [.rf 0 0 (lim (vl A * 2 ^ k).toNat).length] rfl (by simp (disch := omega) only [go_sem]) (by simp (disch := omega) only [go_sem]) (by simp) (by intro _; simp [tupA, AV.pu, AV.pu.puL, Ob.pu, pu_ints]) (.inr ⟨List.replicate z 0, rfl, by rw [← hz]⟩)
end Go.Ab
