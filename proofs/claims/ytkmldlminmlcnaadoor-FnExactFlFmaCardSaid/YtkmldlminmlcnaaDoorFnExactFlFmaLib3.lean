/- What the proof of this claim stands on: the walks of the functions and the plain laws, part 3. -/
import Derived.Test.YtkmldlminmlcnaaDoorFnExactFlFmaLib2
import Derived.Carry
import Derived.ChangeSlices
import Derived.Test.YtkmldlminmlcnaaDoorProg
import Derived.KernelRfl
import Derived.Shelf.Spec.TrailingZeros
import Derived.Shelf.Small.Bits
import Derived.Shelf.Strconv.Itoa0
namespace Go.Ab
open Go
set_option linter.unusedVariables false

mutual
theorem ren_id : ∀ a : AV, a.ren (fun m => m) = a
  | .un | .v _ | .sl _ _ | .fp _ _ | .rf _ _ _ | .pt _ _ => rfl
  | .ag cs => by simp only [AV.ren, renL_id cs]
  | .tu cs => by simp only [AV.ren, renL_id cs]
  | .fn _ cs => by simp only [AV.ren, renL_id cs]
theorem renL_id : ∀ cs : List AV, renL (fun m => m) cs = cs
  | [] => rfl
  | a :: r => by simp only [renL, ren_id a, renL_id r]
end

section
variable {P : Program} {N : Nat} {Q : Exit → St → Prop} {e : Nat → AV} {h : Nat → Ob}

theorem leL_self : ∀ {l : List AV}, AllL (memK []) l → leL [] [] l l
  | [], _ => trivial
  | a :: r, hl => by
    rw [allL_cons] at hl
    exact ⟨⟨ren_id a, hl.1⟩, leL_self hl.2⟩

/-- The end of a function that hands back values alone. -/
theorem fin_val {post : AV → List Ob → List Ob → Prop} {l : List AV} (hl : AllL (memK []) l) (hp : post (tupA l) [] []) : @finW N false 0 ⟨post⟩ ⟨e⟩ l h :=
  fin_intro [] [] [] l rfl (leL_self hl) trivial (by simp) (by simp) hp

theorem fin_valc {post : AV → List Ob → List Ob → Prop} {l : List AV} (hl : AllL (memK []) l) (hu : AV.pu.puL l) (hp : post (tupA l) [] []) : @finW N true 0 ⟨post⟩ ⟨e⟩ l h := by
  refine fin_intro [] [] [] l rfl (leL_self hl) trivial (by simp) (fun _ => ⟨by simp, by simp, ?_⟩) hp
  unfold tupA; split
  · exact hu.1
  · exact hu

theorem ifW_nb {b : Bool} {A B : Prop} (ha : b = false → A) (hb : b = true → B) : @ifW (!b) ⟨A⟩ ⟨B⟩ := ⟨fun h => ha (by simpa using h), fun h => hb (by simpa using h)⟩

theorem pu_nil : AV.pu.puL [] = True := by simp [AV.pu.puL]
theorem pu_cons {a : AV} {r : List AV} : AV.pu.puL (a :: r) = (a.pu ∧ AV.pu.puL r) := by simp [AV.pu.puL]
theorem pu_v {x : Value} : AV.pu (.v x) = True := by simp [AV.pu]
theorem pu_ag {cs : List AV} : AV.pu (.ag cs) = AV.pu.puL cs := by simp [AV.pu]
theorem snap_tu {k : Nat} {cs : List AV} : snap h (k + 1) (.tu cs) = .tu (cs.map (snap h k)) := _root_.id rfl

/-- The answer, in values. -/
def isA (a : AV) : AV → List Ob → List Ob → Prop := fun r hs bs => r = a ∧ hs = [] ∧ bs = []

theorem isA_mk {a : AV} : isA a a [] [] := ⟨rfl, rfl, rfl⟩

/-- The answer, with what is new in it given to nobody who would write there. -/
def frzR (a : AV) : AV → List Ob → List Ob → Prop := fun r hs bs => snap (rhp hs []) 6 r = a

theorem Con.frzA {f : FuncId} {args : List AV} {a : AV} (h : Con P f false args [] (frzR a)) : Con P f false args [] (isA a) :=
  h.frz.mono fun r hs bs ⟨h1, h2, r0, hs0, h3, h4⟩ => ⟨by rw [h4]; exact h3, h1, h2⟩

theorem rhp_zero {a : Ob} {hs : List Ob} : rhp (a :: hs) [] 0 = a := by simp [rhp]
theorem rhp_one {a b : Ob} {hs : List Ob} : rhp (a :: b :: hs) [] 1 = b := by simp [rhp]
theorem snap_num {hp : Nat → Ob} {k m n : Nat} {l zs : List Int} (h : hp m = .own 1 (ints (l ++ zs))) (hn : l.length = n) : snap hp (k + 2) (.rf m 0 n) = .sl n (ints l) := by
  subst hn
  simp only [snap_rf, h]
  rw [ints_cut, List.drop_zero, Nat.mul_one, List.take_left' rfl, snap_ints]

/-- A new number. -/
def natR (m : Nat) : AV → List Ob → List Ob → Prop := fun r hs bs =>
  (m = 0 ∧ r = .ag [.v (.slice none 0 0)] ∧ hs = []) ∨ ∃ zs, r = .ag [.rf 0 0 (lim m).length] ∧ hs = [.own 1 (ints (lim m ++ zs))]

theorem Con.natF {f : FuncId} {args : List AV} {m : Nat} (h : Con P f false args [] (natR m)) : Con P f false args [] (isA (.ag [.sl (lim m).length (ints (lim m))])) :=
  Con.frzA <| h.mono fun r hs bs h => by
    rcases h with ⟨rfl, rfl, rfl⟩ | ⟨zs, rfl, rfl⟩
    · show snap _ 6 _ = _
      rw [lim_zero]; rfl
    · show snap _ 6 _ = _
      rw [snap_ag, List.map_cons, List.map_nil, snap_num (k := 3) (l := lim m) (zs := zs) rhp_zero rfl]

/-- A function of the library: of values alone. -/
theorem Con.scalar {f : FuncId} {cl : Bool} {xs : List Value} {y : Value} (h : ∀ w, Gd w → Calls P f ⟨xs⟩ w fun e w' => e = .returned y ∧ w' = w) : Con P f cl (xs.map .v) [] (isA (.v y)) := by
  intro R ι w vs h1 h2 h3 h4 h5
  have hvs : vs = ⟨xs⟩ := by
    obtain ⟨g1, g2⟩ := h2
    apply Array.ext'
    apply List.ext_getElem
    · simpa using g1
    · intro i i1 i2
      have := g2 i (by simpa using i2)
      simp only [List.getElem_map] at this
      have := this.v_inv
      rw [Array.getD_eq_getD_getElem?, Array.getElem?_eq_getElem (by simpa using i1)] at this
      simpa using this
  subst hvs
  refine (h w h5.1).mono ?_
  rintro e w' ⟨rfl, rfl⟩
  have hnil : ∀ m, rhp [] [] m = .free := fun m => by simp [rhp]
  refine ⟨y, .v y, [], [], fun _ => False, ι, rfl, ⟨rfl, rfl, rfl⟩, Ext.refl _ _, fun _ h => h.elim, fun _ h => h.elim, .fr _ _ (.v _), by simp [AV.All], fun m _ => ?_, fun m _ => ?_, fun m z cs B e => ?_, fun m m' z z' cs cs' B B' e => ?_, fun m z cs e => ?_, fun m z cs B _ e => ?_, rfl, fun m _ => rfl, fun i hi => by simp at hi⟩
  · rw [hnil]; trivial
  · rw [hnil]; trivial
  all_goals (rw [hnil] at e; cases e)

end

theorem cut_z {cs : List AV} {o : Nat} : cut cs o 0 = [] := by simp [cut]
attribute [go_sem] Bool.not_not cut_z snap_tu pu_nil pu_cons pu_v pu_ag
end Go.Ab
namespace Go.Ab
open Go
set_option linter.unusedVariables false

/-- Rows of things of several cells. -/
def rowA {X : Type} (f : X → List AV) (l : List X) : List AV := (l.map f).flatten

section
variable {X : Type} {f : X → List AV} {z : Nat} {l : List X}

theorem row_nil : rowA f [] = [] := by simp [rowA]
theorem row_cons {x : X} : rowA f (x :: l) = f x ++ rowA f l := by simp [rowA]
theorem row_len (hz : ∀ x, (f x).length = z) : (rowA f l).length = l.length * z := by
  induction l with
  | nil => simp [rowA]
  | cons x r ih => rw [row_cons, List.length_append, hz, ih, List.length_cons, Nat.add_mul, Nat.one_mul, Nat.add_comm]
theorem row_drop (hz : ∀ x, (f x).length = z) (i : Nat) : (rowA f l).drop (i * z) = rowA f (l.drop i) := by
  induction l generalizing i with
  | nil => simp [rowA]
  | cons x r ih =>
    cases i with
    | zero => simp
    | succ i =>
      rw [row_cons, List.drop_succ_cons, ← ih, Nat.add_mul, Nat.one_mul, Nat.add_comm, ← List.drop_drop, List.drop_left' (hz x)]
theorem row_take (hz : ∀ x, (f x).length = z) (i : Nat) : (rowA f l).take (i * z) = rowA f (l.take i) := by
  induction l generalizing i with
  | nil => simp [rowA]
  | cons x r ih =>
    cases i with
    | zero => simp [row_nil]
    | succ i =>
      rw [row_cons, List.take_succ_cons, row_cons, ← ih, Nat.add_mul, Nat.one_mul, Nat.add_comm, ← hz x, List.take_length_add_append]
theorem row_cut (hz : ∀ x, (f x).length = z) (o n : Nat) : cut (rowA f l) (o * z) (n * z) = rowA f ((l.drop o).take n) := by
  rw [cut, row_drop hz, row_take hz]
theorem row_get (hz : ∀ x, (f x).length = z) {i : Nat} (hi : i < l.length) (d : X) : cut (rowA f l) (i * z) z = f (l.getD i d) := by
  have h := row_cut (l := l) hz i 1
  rw [Nat.one_mul] at h
  have e : (l.drop i).take 1 = [l.getD i d] := by
    rw [List.drop_eq_getElem_cons hi, List.getD_eq_getElem?_getD, List.getElem?_eq_getElem hi]; rfl
  rw [h, e, row_cons, row_nil, List.append_nil]
theorem load_row {h : Nat → Ob} {sz o : Nat} {K : AV → Prop} : @loadW true sz h (.fp (rowA f l) o) ⟨K⟩ = (o + sz ≤ (rowA f l).length ∧ K (.ag (cut (rowA f l) o sz))) := _root_.id rfl
end

/-- A float, as it stands in memory. -/
structure FlV where
  k : Int
  s : Bool
  m : Int
  e : Int

def FlV.cs (x : FlV) : List AV := [.v (.int .i64 x.k), .v (.bool x.s), .v (.int .i64 x.m), .v (.int .i64 x.e)]
theorem fl_cs4 (x : FlV) : x.cs.length = 4 := rfl
theorem fl_ren {ρ : Nat → Nat} (x : FlV) : renL ρ x.cs = x.cs := rfl
theorem fl_snap {hp : Nat → Ob} {k : Nat} (x : FlV) : x.cs.map (snap hp (k + 1)) = x.cs := rfl
theorem fls_len {l : List FlV} : (rowA FlV.cs l).length = l.length * 4 := row_len fl_cs4
attribute [go_sem] load_row fls_len fl_ren fl_snap
end Go.Ab
namespace Go.Ab
open Go

theorem bhp_nil (m : Nat) : bhp [] m = .free := by unfold bhp; split <;> simp

/-- From a contract to a walk: called with nothing lent. -/
theorem Con.enter {P : Program} {f : FuncId} {cl : Bool} {args : List AV} {x : Value} (h : Con P f cl args [] (isA (.v x))) (R : Nat → Prop) (w : World) (vs : Array Value)
    (hlt : ∀ b, R b → b < w.heap.size) (hr : RepA R (fun _ => none) w vs args) (ha : AllL (fun m => bhp [] m ≠ .free) args) (hg : Gd w) :
    Calls P f vs w fun e w' => e = .returned x ∧ Ext (fun _ => False) w w' := by
  have hno : ∀ b, ¬ OwnB (bhp []) (fun _ => none) b := fun b ⟨nm, z, cs, B, e, _⟩ => by rw [bhp_nil] at e; cases e
  have hh : HpOk R (fun _ => none) w (bhp []) :=
    ⟨fun nm => (by rw [bhp_nil]; trivial), fun nm z cs B e => absurd e (by rw [bhp_nil]; simp), fun nm nm' z z' cs cs' B B' e => absurd e (by rw [bhp_nil]; simp), fun nm z cs e => absurd e (by rw [bhp_nil]; simp)⟩
  refine (h R (fun _ => none) w vs hlt hr ha hh ⟨hg, fun g l _ => hno g⟩).mono ?_
  rintro e w' ⟨y, r, hs, bs', R', ι', rfl, ⟨rfl, rfl, rfl⟩, hf⟩
  refine ⟨?_, hf.ext.os, hf.ext.tape, hf.ext.output, hf.ext.size, fun b hb _ => hf.ext.block b hb (hno b)⟩
  cases hf.rep with
  | fr _ _ h => cases h; rfl

theorem Ext.kept {w w' : World} (h : Ext (fun _ => False) w w') (may : MemPlace → Prop) : w.keptBut w' may := by
  refine ⟨h.os, h.output, fun i hi => ?_⟩
  rw [h.block i hi (fun h => h)]
  cases w.heap[i]? with
  | none => trivial
  | some o => cases o with
    | cells c t fr => exact ⟨rfl, rfl, rfl, fun _ _ => rfl⟩
    | map es cl => exact .inr ⟨rfl, rfl⟩
    | _ => rfl

theorem Ext.below {w w' : World} (h : Ext (fun _ => False) w w') : RowKit.Below w.heap.size w w' := ⟨h.os, h.tape, h.output, h.size, fun k hk => h.block k hk (fun h => h)⟩

/-- What was read reads so again. -/
theorem Ext.trod {H : Type} {enc : TypeId × Value → H} {P : Program} {t : TypeId} {W W' : World} (hw : Ext (fun _ => False) W W') (hl : laidOutB P = true) (hr : P.readableRec t = true) (hrow : t < P.types.size) {v : Value} {d : DataW H} {ps : List MemPlace}
    (h : DataW.Trod enc P W 0 (fun _ => true) true t v d ps) (hlt : ∀ x ∈ ps, x.block < W.heap.size) : DataW.Trod enc P W' 0 (fun b => decide (b < W.heap.size)) true t v d ps :=
  RowKit.Below.trod hl hr hrow h hw.below hlt

theorem cell_blk {w : World} {a : Addr} {v : Value} (h : w.cell? a = some v) : a.block < w.heap.size := by
  rcases Nat.lt_or_ge a.block w.heap.size with h' | h'
  · exact h'
  · simp [World.cell?, Array.getElem?_eq_none h'] at h

theorem rep_v {R : Nat → Prop} {ι : Nat → Option Blk} {w : World} (x : Value) : Rep R ι w x (.v x) := .fr _ _ (.v x)
theorem frep_four {R : Nat → Prop} {w : World} (x y z t : Value) : FRep R w (.agg #[x, y, z, t]) (.ag [.v x, .v y, .v z, .v t]) :=
  .ag _ _ rfl (fun i h => match i, h with
    | 0, _ => .v x
    | 1, _ => .v y
    | 2, _ => .v z
    | 3, _ => .v t)

end Go.Ab
namespace Go.Ab
open Go Go.Proofs

def ti1 : TI := ⟨Kd.oth, 1, 8, Value.nilFunc⟩
def ti2 : TI := ⟨Kd.int IntKind.i64, 1, 8, Value.int IntKind.i64 0⟩
theorem tf2 : tyOf Tryd.prog 2 = some ti2 := by kernel_rfl
def ti3 : TI := ⟨Kd.int IntKind.i64, 1, 8, Value.int IntKind.i64 0⟩
theorem tf3 : tyOf Tryd.prog 3 = some ti3 := by kernel_rfl
def ti4 : TI := ⟨Kd.bool, 1, 1, Value.bool false⟩
theorem tf4 : tyOf Tryd.prog 4 = some ti4 := by kernel_rfl
def ti5 : TI := ⟨Kd.int IntKind.u8, 1, 1, Value.int IntKind.u8 0⟩
def ti6 : TI := ⟨Kd.int IntKind.u8, 1, 1, Value.int IntKind.u8 0⟩
theorem tf6 : tyOf Tryd.prog 6 = some ti6 := by kernel_rfl
def ti7 : TI := ⟨Kd.stru [(0, 2), (1, 3), (2, 4), (3, 6)], 4, 24, Value.agg ⟨[Value.int IntKind.i64 0, Value.int IntKind.i64 0, Value.bool false, Value.int IntKind.u8 0]⟩⟩
def ti8 : TI := ⟨Kd.stru [(0, 2), (1, 3), (2, 4), (3, 6)], 4, 24, Value.agg ⟨[Value.int IntKind.i64 0, Value.int IntKind.i64 0, Value.bool false, Value.int IntKind.u8 0]⟩⟩
def ti9 : TI := ⟨Kd.str, 1, 16, Value.string { data := ⟨[]⟩ }⟩
def ti10 : TI := ⟨Kd.str, 1, 16, Value.string { data := ⟨[]⟩ }⟩
def ti11 : TI := ⟨Kd.str, 1, 16, Value.string { data := ⟨[]⟩ }⟩
def ti12 : TI := ⟨Kd.int IntKind.u64, 1, 8, Value.int IntKind.u64 0⟩
def ti21 : TI := ⟨Kd.int IntKind.i32, 1, 4, Value.int IntKind.i32 0⟩
def ti22 : TI := ⟨Kd.stru [(0, 3), (1, 4), (2, 3), (3, 3)], 4, 32, Value.agg ⟨[Value.int IntKind.i64 0, Value.bool false, Value.int IntKind.i64 0, Value.int IntKind.i64 0]⟩⟩
def ti23 : TI := ⟨Kd.stru [(0, 3), (1, 4), (2, 3), (3, 3)], 4, 32, Value.agg ⟨[Value.int IntKind.i64 0, Value.bool false, Value.int IntKind.i64 0, Value.int IntKind.i64 0]⟩⟩
theorem tf23 : tyOf Tryd.prog 23 = some ti23 := by kernel_rfl
def ti24 : TI := ⟨Kd.stru [(0, 3), (1, 4), (2, 3), (3, 3)], 4, 32, Value.agg ⟨[Value.int IntKind.i64 0, Value.bool false, Value.int IntKind.i64 0, Value.int IntKind.i64 0]⟩⟩
theorem tf24 : tyOf Tryd.prog 24 = some ti24 := by kernel_rfl
def ti26 : TI := ⟨Kd.oth, 1, 8, Value.nilFunc⟩
def ti27 : TI := ⟨Kd.oth, 1, 8, Value.nilFunc⟩
def ti28 : TI := ⟨Kd.oth, 1, 8, Value.nilFunc⟩
def ti29 : TI := ⟨Kd.oth, 1, 8, Value.nilFunc⟩
def ti30 : TI := ⟨Kd.oth, 1, 8, Value.nilFunc⟩
def ti31 : TI := ⟨Kd.oth, 1, 8, Value.nilFunc⟩
def ti32 : TI := ⟨Kd.sli 3, 1, 24, Value.slice none 0 0⟩
theorem tf32 : tyOf Tryd.prog 32 = some ti32 := by kernel_rfl
def ti33 : TI := ⟨Kd.stru [(0, 32)], 1, 24, Value.agg ⟨[Value.slice none 0 0]⟩⟩
def ti34 : TI := ⟨Kd.stru [(0, 32)], 1, 24, Value.agg ⟨[Value.slice none 0 0]⟩⟩
def ti35 : TI := ⟨Kd.stru [(0, 4), (1, 34), (2, 3)], 3, 40, Value.agg ⟨[Value.bool false, Value.slice none 0 0, Value.int IntKind.i64 0]⟩⟩
def ti36 : TI := ⟨Kd.stru [(0, 4), (1, 34), (2, 3)], 3, 40, Value.agg ⟨[Value.bool false, Value.slice none 0 0, Value.int IntKind.i64 0]⟩⟩
def ti37 : TI := ⟨Kd.oth, 1, 8, Value.nilFunc⟩
def ti39 : TI := ⟨Kd.oth, 1, 8, Value.nilFunc⟩
def ti40 : TI := ⟨Kd.stru [(0, 32)], 1, 24, Value.agg ⟨[Value.slice none 0 0]⟩⟩
theorem tf40 : tyOf Tryd.prog 40 = some ti40 := by kernel_rfl
def ti41 : TI := ⟨Kd.stru [(0, 4), (1, 40), (2, 3)], 3, 40, Value.agg ⟨[Value.bool false, Value.slice none 0 0, Value.int IntKind.i64 0]⟩⟩
def ti42 : TI := ⟨Kd.stru [(0, 4), (1, 40), (2, 3)], 3, 40, Value.agg ⟨[Value.bool false, Value.slice none 0 0, Value.int IntKind.i64 0]⟩⟩
def ti43 : TI := ⟨Kd.oth, 1, 8, Value.nilFunc⟩
def ti44 : TI := ⟨Kd.oth, 1, 8, Value.nilFunc⟩
def ti45 : TI := ⟨Kd.oth, 1, 8, Value.nilFunc⟩
def ti46 : TI := ⟨Kd.sli 5, 1, 24, Value.slice none 0 0⟩
def ti47 : TI := ⟨Kd.oth, 1, 8, Value.nilFunc⟩
def ti49 : TI := ⟨Kd.oth, 1, 8, Value.nilFunc⟩
def ti50 : TI := ⟨Kd.oth, 1, 8, Value.nilFunc⟩
def ti51 : TI := ⟨Kd.oth, 1, 8, Value.nilFunc⟩
theorem tf51 : tyOf Tryd.prog 51 = some ti51 := by kernel_rfl
def ti52 : TI := ⟨Kd.oth, 1, 8, Value.nilFunc⟩
def ti53 : TI := ⟨Kd.oth, 1, 8, Value.nilFunc⟩
def ti54 : TI := ⟨Kd.oth, 1, 8, Value.nilFunc⟩
def ti55 : TI := ⟨Kd.oth, 1, 8, Value.nilFunc⟩
def ti56 : TI := ⟨Kd.oth, 1, 8, Value.nilFunc⟩
def ti57 : TI := ⟨Kd.oth, 1, 8, Value.nilFunc⟩
def ti58 : TI := ⟨Kd.stru [(0, 4), (1, 40)], 2, 32, Value.agg ⟨[Value.bool false, Value.slice none 0 0]⟩⟩
def ti59 : TI := ⟨Kd.stru [(0, 4), (1, 40)], 2, 32, Value.agg ⟨[Value.bool false, Value.slice none 0 0]⟩⟩
theorem tf59 : tyOf Tryd.prog 59 = some ti59 := by kernel_rfl
def ti60 : TI := ⟨Kd.stru [(0, 59), (2, 3)], 3, 40, Value.agg ⟨[Value.bool false, Value.slice none 0 0, Value.int IntKind.i64 0]⟩⟩
def ti61 : TI := ⟨Kd.stru [(0, 59), (2, 3)], 3, 40, Value.agg ⟨[Value.bool false, Value.slice none 0 0, Value.int IntKind.i64 0]⟩⟩
theorem tf61 : tyOf Tryd.prog 61 = some ti61 := by kernel_rfl
def ti62 : TI := ⟨Kd.oth, 1, 8, Value.nilFunc⟩
def ti63 : TI := ⟨Kd.oth, 1, 8, Value.nilFunc⟩
def ti64 : TI := ⟨Kd.oth, 1, 8, Value.nilFunc⟩
def ti65 : TI := ⟨Kd.stru [(0, 4), (1, 32), (2, 3)], 3, 40, Value.agg ⟨[Value.bool false, Value.slice none 0 0, Value.int IntKind.i64 0]⟩⟩
def ti66 : TI := ⟨Kd.stru [(0, 4), (1, 32), (2, 3)], 3, 40, Value.agg ⟨[Value.bool false, Value.slice none 0 0, Value.int IntKind.i64 0]⟩⟩
theorem tf66 : tyOf Tryd.prog 66 = some ti66 := by kernel_rfl
def ti67 : TI := ⟨Kd.oth, 1, 8, Value.nilFunc⟩
def ti68 : TI := ⟨Kd.oth, 1, 8, Value.nilFunc⟩
def ti69 : TI := ⟨Kd.oth, 1, 8, Value.nilFunc⟩
def ti70 : TI := ⟨Kd.oth, 1, 8, Value.nilFunc⟩
def ti71 : TI := ⟨Kd.oth, 1, 8, Value.nilFunc⟩
def ti72 : TI := ⟨Kd.oth, 1, 8, Value.nilFunc⟩
def ti73 : TI := ⟨Kd.oth, 1, 8, Value.nilFunc⟩
def ti74 : TI := ⟨Kd.oth, 1, 8, Value.nilFunc⟩
def ti75 : TI := ⟨Kd.oth, 1, 8, Value.nilFunc⟩
def ti76 : TI := ⟨Kd.oth, 1, 8, Value.nilFunc⟩
def ti77 : TI := ⟨Kd.oth, 1, 8, Value.nilFunc⟩
def ti79 : TI := ⟨Kd.oth, 1, 8, Value.nilFunc⟩
def ti81 : TI := ⟨Kd.oth, 1, 8, Value.nilFunc⟩
def ti82 : TI := ⟨Kd.oth, 1, 8, Value.nilFunc⟩
def ti83 : TI := ⟨Kd.sli 24, 1, 24, Value.slice none 0 0⟩
theorem tf83 : tyOf Tryd.prog 83 = some ti83 := by kernel_rfl
def ti84 : TI := ⟨Kd.oth, 1, 8, Value.nilFunc⟩
def ti85 : TI := ⟨Kd.oth, 1, 8, Value.nilFunc⟩
def ti87 : TI := ⟨Kd.oth, 1, 8, Value.nilFunc⟩
def ti88 : TI := ⟨Kd.oth, 1, 8, Value.nilFunc⟩
def ti89 : TI := ⟨Kd.oth, 1, 8, Value.nilFunc⟩
def ti90 : TI := ⟨Kd.oth, 1, 8, Value.nilFunc⟩
def ti92 : TI := ⟨Kd.oth, 1, 8, Value.nilFunc⟩
def ti93 : TI := ⟨Kd.oth, 1, 8, Value.nilFunc⟩
def ti94 : TI := ⟨Kd.oth, 1, 8, Value.nilFunc⟩
def ti95 : TI := ⟨Kd.oth, 1, 8, Value.nilFunc⟩
def ti96 : TI := ⟨Kd.oth, 1, 8, Value.nilFunc⟩
def ti97 : TI := ⟨Kd.oth, 1, 8, Value.nilFunc⟩
def ti98 : TI := ⟨Kd.oth, 1, 8, Value.nilFunc⟩
def ti100 : TI := ⟨Kd.oth, 1, 8, Value.nilFunc⟩
def ti102 : TI := ⟨Kd.oth, 1, 8, Value.nilFunc⟩
def ti103 : TI := ⟨Kd.oth, 1, 8, Value.nilFunc⟩
def ti104 : TI := ⟨Kd.oth, 1, 8, Value.nilFunc⟩
def ti106 : TI := ⟨Kd.oth, 1, 8, Value.nilFunc⟩
def ti107 : TI := ⟨Kd.oth, 1, 8, Value.nilFunc⟩
def ti108 : TI := ⟨Kd.oth, 1, 8, Value.nilFunc⟩
def ti109 : TI := ⟨Kd.oth, 1, 8, Value.nilFunc⟩
def ti111 : TI := ⟨Kd.oth, 1, 8, Value.nilFunc⟩
def ti113 : TI := ⟨Kd.oth, 1, 8, Value.nilFunc⟩
def ti114 : TI := ⟨Kd.oth, 1, 8, Value.nilFunc⟩
def ti115 : TI := ⟨Kd.oth, 1, 8, Value.nilFunc⟩
def ti116 : TI := ⟨Kd.oth, 1, 8, Value.nilFunc⟩
def ti118 : TI := ⟨Kd.oth, 1, 8, Value.nilFunc⟩
def ti120 : TI := ⟨Kd.oth, 1, 8, Value.nilFunc⟩
def ti121 : TI := ⟨Kd.oth, 1, 8, Value.nilFunc⟩
def ti122 : TI := ⟨Kd.oth, 1, 8, Value.nilFunc⟩
def ti123 : TI := ⟨Kd.stru [(0, 46), (1, 3), (2, 3)], 3, 40, Value.agg ⟨[Value.slice none 0 0, Value.int IntKind.i64 0, Value.int IntKind.i64 0]⟩⟩
def ti124 : TI := ⟨Kd.stru [(0, 46), (1, 3), (2, 3)], 3, 40, Value.agg ⟨[Value.slice none 0 0, Value.int IntKind.i64 0, Value.int IntKind.i64 0]⟩⟩
def ti125 : TI := ⟨Kd.oth, 1, 8, Value.nilFunc⟩
def ti126 : TI := ⟨Kd.oth, 1, 8, Value.nilFunc⟩
def ti127 : TI := ⟨Kd.oth, 1, 8, Value.nilFunc⟩
def ti128 : TI := ⟨Kd.oth, 1, 8, Value.nilFunc⟩
def ti129 : TI := ⟨Kd.oth, 1, 8, Value.nilFunc⟩
def ti130 : TI := ⟨Kd.oth, 1, 8, Value.nilFunc⟩
def ti131 : TI := ⟨Kd.oth, 1, 8, Value.nilFunc⟩
def ti132 : TI := ⟨Kd.oth, 1, 8, Value.nilFunc⟩
def ti133 : TI := ⟨Kd.oth, 1, 8, Value.nilFunc⟩
def ti134 : TI := ⟨Kd.oth, 1, 8, Value.nilFunc⟩
def ti135 : TI := ⟨Kd.oth, 1, 8, Value.nilFunc⟩
def ti136 : TI := ⟨Kd.oth, 1, 8, Value.nilFunc⟩
def ti137 : TI := ⟨Kd.oth, 1, 8, Value.nilFunc⟩
def ti138 : TI := ⟨Kd.oth, 1, 8, Value.nilFunc⟩
def ti140 : TI := ⟨Kd.oth, 1, 8, Value.nilFunc⟩
def ti141 : TI := ⟨Kd.oth, 1, 8, Value.nilFunc⟩
def ti142 : TI := ⟨Kd.oth, 1, 8, Value.nilFunc⟩
def ti143 : TI := ⟨Kd.oth, 1, 8, Value.nilFunc⟩
def ti144 : TI := ⟨Kd.oth, 1, 8, Value.nilFunc⟩
def ti145 : TI := ⟨Kd.oth, 1, 8, Value.nilFunc⟩
def ti146 : TI := ⟨Kd.oth, 1, 8, Value.nilFunc⟩
def ti147 : TI := ⟨Kd.int IntKind.u64, 1, 8, Value.int IntKind.u64 0⟩
theorem tf147 : tyOf Tryd.prog 147 = some ti147 := by kernel_rfl
def ti149 : TI := ⟨Kd.oth, 1, 8, Value.nilFunc⟩
def ti150 : TI := ⟨Kd.oth, 1, 8, Value.nilFunc⟩
def ti151 : TI := ⟨Kd.oth, 1, 8, Value.nilFunc⟩
def ti152 : TI := ⟨Kd.oth, 1, 8, Value.nilFunc⟩
def ti153 : TI := ⟨Kd.int IntKind.u32, 1, 4, Value.int IntKind.u32 0⟩
def ti154 : TI := ⟨Kd.oth, 1, 8, Value.nilFunc⟩
def ti155 : TI := ⟨Kd.int IntKind.u64, 1, 8, Value.int IntKind.u64 0⟩
def ti157 : TI := ⟨Kd.oth, 1, 8, Value.nilFunc⟩
def ti158 : TI := ⟨Kd.oth, 1, 8, Value.nilFunc⟩
def ti159 : TI := ⟨Kd.oth, 1, 8, Value.nilFunc⟩
def ti160 : TI := ⟨Kd.oth, 1, 8, Value.nilFunc⟩
def ti161 : TI := ⟨Kd.oth, 1, 8, Value.nilFunc⟩
def ti162 : TI := ⟨Kd.oth, 1, 8, Value.nilFunc⟩
def ti163 : TI := ⟨Kd.oth, 1, 8, Value.nilFunc⟩
def ti166 : TI := ⟨Kd.oth, 1, 8, Value.nilFunc⟩
def ti170 : TI := ⟨Kd.stru [(0, 169)], 0, 0, Value.agg ⟨[]⟩⟩
def ti171 : TI := ⟨Kd.stru [(0, 169)], 0, 0, Value.agg ⟨[]⟩⟩
def ti172 : TI := ⟨Kd.int IntKind.u8, 1, 1, Value.int IntKind.u8 0⟩
def ti173 : TI := ⟨Kd.int IntKind.u8, 1, 1, Value.int IntKind.u8 0⟩
def ti174 : TI := ⟨Kd.oth, 1, 8, Value.nilFunc⟩
def ti176 : TI := ⟨Kd.int IntKind.i32, 1, 4, Value.int IntKind.i32 0⟩
def ti177 : TI := ⟨Kd.int IntKind.i32, 1, 4, Value.int IntKind.i32 0⟩
def ti180 : TI := ⟨Kd.oth, 1, 8, Value.nilFunc⟩
theorem ty3 {K : TI → Prop} : @tyW Tryd.prog 3 ⟨K⟩ = K ti3 := ty_of tf3
theorem ti3_kd : ti3.kd = Kd.int IntKind.i64 := _root_.id rfl
theorem ti3_size : ti3.size = 1 := _root_.id rfl
theorem ti3_bytes : ti3.bytes = 8 := _root_.id rfl
theorem ti3_zs : zszW ti3 = True := eq_true rfl
theorem ti3_zc : zc ti3 = [.v (Value.int IntKind.i64 0)] := _root_.id rfl
theorem ty4 {K : TI → Prop} : @tyW Tryd.prog 4 ⟨K⟩ = K ti4 := ty_of tf4
theorem ti4_kd : ti4.kd = Kd.bool := _root_.id rfl
theorem ti4_size : ti4.size = 1 := _root_.id rfl
theorem fsok7 : ∀ f ∈ ([(0, 2), (1, 3), (2, 4), (3, 6)] : List (Nat × Nat)), (tyOf Tryd.prog f.2).isSome = true := by
  intro f hf
  simp only [List.mem_cons, List.not_mem_nil, or_false] at hf
  rcases hf with rfl | rfl | rfl | rfl
  · rw [tf2]; rfl
  · rw [tf3]; rfl
  · rw [tf4]; rfl
  · rw [tf6]; rfl
theorem pl22_0 {K : Nat → Nat → Prop} : placeF Tryd.prog [(0, 3), (1, 4), (2, 3), (3, 3)] 0 K = K 0 1 := place_of (tf := ti3) (fo := (0, 3)) (fs := [(0, 3), (1, 4), (2, 3), (3, 3)]) rfl tf3
theorem pl22_1 {K : Nat → Nat → Prop} : placeF Tryd.prog [(0, 3), (1, 4), (2, 3), (3, 3)] 1 K = K 1 1 := place_of (tf := ti4) (fo := (1, 4)) (fs := [(0, 3), (1, 4), (2, 3), (3, 3)]) rfl tf4
theorem pl22_2 {K : Nat → Nat → Prop} : placeF Tryd.prog [(0, 3), (1, 4), (2, 3), (3, 3)] 2 K = K 2 1 := place_of (tf := ti3) (fo := (2, 3)) (fs := [(0, 3), (1, 4), (2, 3), (3, 3)]) rfl tf3
theorem pl22_3 {K : Nat → Nat → Prop} : placeF Tryd.prog [(0, 3), (1, 4), (2, 3), (3, 3)] 3 K = K 3 1 := place_of (tf := ti3) (fo := (3, 3)) (fs := [(0, 3), (1, 4), (2, 3), (3, 3)]) rfl tf3
theorem ty23 {K : TI → Prop} : @tyW Tryd.prog 23 ⟨K⟩ = K ti23 := ty_of tf23
theorem ti23_kd : ti23.kd = Kd.stru [(0, 3), (1, 4), (2, 3), (3, 3)] := _root_.id rfl
theorem ti23_size : ti23.size = 4 := _root_.id rfl
theorem fld23_0 {K : Nat → TI → Prop} : @fieldW Tryd.prog 23 0 ⟨K⟩ = K 0 ti3 := field_of (ti := ti23) (tf := ti3) (fo := (0, 3)) (fs := [(0, 3), (1, 4), (2, 3), (3, 3)]) tf23 rfl rfl tf3
theorem fld23_1 {K : Nat → TI → Prop} : @fieldW Tryd.prog 23 1 ⟨K⟩ = K 1 ti4 := field_of (ti := ti23) (tf := ti4) (fo := (1, 4)) (fs := [(0, 3), (1, 4), (2, 3), (3, 3)]) tf23 rfl rfl tf4
theorem fld23_2 {K : Nat → TI → Prop} : @fieldW Tryd.prog 23 2 ⟨K⟩ = K 2 ti3 := field_of (ti := ti23) (tf := ti3) (fo := (2, 3)) (fs := [(0, 3), (1, 4), (2, 3), (3, 3)]) tf23 rfl rfl tf3
theorem fld23_3 {K : Nat → TI → Prop} : @fieldW Tryd.prog 23 3 ⟨K⟩ = K 3 ti3 := field_of (ti := ti23) (tf := ti3) (fo := (3, 3)) (fs := [(0, 3), (1, 4), (2, 3), (3, 3)]) tf23 rfl rfl tf3
theorem ty24 {K : TI → Prop} : @tyW Tryd.prog 24 ⟨K⟩ = K ti24 := ty_of tf24
theorem ti24_kd : ti24.kd = Kd.stru [(0, 3), (1, 4), (2, 3), (3, 3)] := _root_.id rfl
theorem ti24_size : ti24.size = 4 := _root_.id rfl
theorem ti24_zs : zszW ti24 = True := eq_true rfl
theorem ti24_zc : zc ti24 = [.v (Value.int IntKind.i64 0), .v (Value.bool false), .v (Value.int IntKind.i64 0), .v (Value.int IntKind.i64 0)] := _root_.id rfl
theorem fld24_0 {K : Nat → TI → Prop} : @fieldW Tryd.prog 24 0 ⟨K⟩ = K 0 ti3 := field_of (ti := ti24) (tf := ti3) (fo := (0, 3)) (fs := [(0, 3), (1, 4), (2, 3), (3, 3)]) tf24 rfl rfl tf3
theorem fld24_1 {K : Nat → TI → Prop} : @fieldW Tryd.prog 24 1 ⟨K⟩ = K 1 ti4 := field_of (ti := ti24) (tf := ti4) (fo := (1, 4)) (fs := [(0, 3), (1, 4), (2, 3), (3, 3)]) tf24 rfl rfl tf4
theorem fld24_2 {K : Nat → TI → Prop} : @fieldW Tryd.prog 24 2 ⟨K⟩ = K 2 ti3 := field_of (ti := ti24) (tf := ti3) (fo := (2, 3)) (fs := [(0, 3), (1, 4), (2, 3), (3, 3)]) tf24 rfl rfl tf3
theorem fld24_3 {K : Nat → TI → Prop} : @fieldW Tryd.prog 24 3 ⟨K⟩ = K 3 ti3 := field_of (ti := ti24) (tf := ti3) (fo := (3, 3)) (fs := [(0, 3), (1, 4), (2, 3), (3, 3)]) tf24 rfl rfl tf3
theorem fsok24 : ∀ f ∈ ([(0, 3), (1, 4), (2, 3), (3, 3)] : List (Nat × Nat)), (tyOf Tryd.prog f.2).isSome = true := by
  intro f hf
  simp only [List.mem_cons, List.not_mem_nil, or_false] at hf
  rcases hf with rfl | rfl | rfl | rfl
  · rw [tf3]; rfl
  · rw [tf4]; rfl
  · rw [tf3]; rfl
  · rw [tf3]; rfl
theorem bld24 {ps : List (Nat × AV)} {K : AV → Prop} : @buildW Tryd.prog 24 ps ⟨K⟩ = @fillW (placeF Tryd.prog [(0, 3), (1, 4), (2, 3), (3, 3)]) (zc ti24) ps ⟨fun cs => K (.ag cs)⟩ := build_of tf24 rfl fsok24
theorem ty32 {K : TI → Prop} : @tyW Tryd.prog 32 ⟨K⟩ = K ti32 := ty_of tf32
theorem ti32_kd : ti32.kd = Kd.sli 3 := _root_.id rfl
theorem ti32_size : ti32.size = 1 := _root_.id rfl
theorem sli32 {K : TI → Prop} : @sliW Tryd.prog 32 ⟨K⟩ = K ti3 := sli_of tf32 rfl tf3
theorem pl33_0 {K : Nat → Nat → Prop} : placeF Tryd.prog [(0, 32)] 0 K = K 0 1 := place_of (tf := ti32) (fo := (0, 32)) (fs := [(0, 32)]) rfl tf32
theorem ty40 {K : TI → Prop} : @tyW Tryd.prog 40 ⟨K⟩ = K ti40 := ty_of tf40
theorem ti40_kd : ti40.kd = Kd.stru [(0, 32)] := _root_.id rfl
theorem ti40_size : ti40.size = 1 := _root_.id rfl
theorem ti40_zc : zc ti40 = [.v (Value.slice none 0 0)] := _root_.id rfl
theorem fld40_0 {K : Nat → TI → Prop} : @fieldW Tryd.prog 40 0 ⟨K⟩ = K 0 ti32 := field_of (ti := ti40) (tf := ti32) (fo := (0, 32)) (fs := [(0, 32)]) tf40 rfl rfl tf32
theorem fsok40 : ∀ f ∈ ([(0, 32)] : List (Nat × Nat)), (tyOf Tryd.prog f.2).isSome = true := by
  intro f hf
  simp only [List.mem_cons, List.not_mem_nil, or_false] at hf
  subst hf; rw [tf32]; rfl
theorem bld40 {ps : List (Nat × AV)} {K : AV → Prop} : @buildW Tryd.prog 40 ps ⟨K⟩ = @fillW (placeF Tryd.prog [(0, 32)]) (zc ti40) ps ⟨fun cs => K (.ag cs)⟩ := build_of tf40 rfl fsok40
theorem ty51 {K : TI → Prop} : @tyW Tryd.prog 51 ⟨K⟩ = K ti51 := ty_of tf51
theorem ti51_kd : ti51.kd = Kd.oth := _root_.id rfl
theorem ti51_size : ti51.size = 1 := _root_.id rfl
theorem pl58_0 {K : Nat → Nat → Prop} : placeF Tryd.prog [(0, 4), (1, 40)] 0 K = K 0 1 := place_of (tf := ti4) (fo := (0, 4)) (fs := [(0, 4), (1, 40)]) rfl tf4
theorem pl58_1 {K : Nat → Nat → Prop} : placeF Tryd.prog [(0, 4), (1, 40)] 1 K = K 1 1 := place_of (tf := ti40) (fo := (1, 40)) (fs := [(0, 4), (1, 40)]) rfl tf40
theorem ty59 {K : TI → Prop} : @tyW Tryd.prog 59 ⟨K⟩ = K ti59 := ty_of tf59
theorem ti59_kd : ti59.kd = Kd.stru [(0, 4), (1, 40)] := _root_.id rfl
theorem ti59_size : ti59.size = 2 := _root_.id rfl
theorem ti59_zc : zc ti59 = [.v (Value.bool false), .v (Value.slice none 0 0)] := _root_.id rfl
theorem fld59_0 {K : Nat → TI → Prop} : @fieldW Tryd.prog 59 0 ⟨K⟩ = K 0 ti4 := field_of (ti := ti59) (tf := ti4) (fo := (0, 4)) (fs := [(0, 4), (1, 40)]) tf59 rfl rfl tf4
theorem fld59_1 {K : Nat → TI → Prop} : @fieldW Tryd.prog 59 1 ⟨K⟩ = K 1 ti40 := field_of (ti := ti59) (tf := ti40) (fo := (1, 40)) (fs := [(0, 4), (1, 40)]) tf59 rfl rfl tf40
theorem fsok59 : ∀ f ∈ ([(0, 4), (1, 40)] : List (Nat × Nat)), (tyOf Tryd.prog f.2).isSome = true := by
  intro f hf
  simp only [List.mem_cons, List.not_mem_nil, or_false] at hf
  rcases hf with rfl | rfl
  · rw [tf4]; rfl
  · rw [tf40]; rfl
theorem bld59 {ps : List (Nat × AV)} {K : AV → Prop} : @buildW Tryd.prog 59 ps ⟨K⟩ = @fillW (placeF Tryd.prog [(0, 4), (1, 40)]) (zc ti59) ps ⟨fun cs => K (.ag cs)⟩ := build_of tf59 rfl fsok59
theorem pl60_0 {K : Nat → Nat → Prop} : placeF Tryd.prog [(0, 59), (2, 3)] 0 K = K 0 2 := place_of (tf := ti59) (fo := (0, 59)) (fs := [(0, 59), (2, 3)]) rfl tf59
theorem pl60_1 {K : Nat → Nat → Prop} : placeF Tryd.prog [(0, 59), (2, 3)] 1 K = K 2 1 := place_of (tf := ti3) (fo := (2, 3)) (fs := [(0, 59), (2, 3)]) rfl tf3
theorem ty61 {K : TI → Prop} : @tyW Tryd.prog 61 ⟨K⟩ = K ti61 := ty_of tf61
theorem ti61_kd : ti61.kd = Kd.stru [(0, 59), (2, 3)] := _root_.id rfl
theorem ti61_size : ti61.size = 3 := _root_.id rfl
theorem ti61_zc : zc ti61 = [.v (Value.bool false), .v (Value.slice none 0 0), .v (Value.int IntKind.i64 0)] := _root_.id rfl
theorem fld61_0 {K : Nat → TI → Prop} : @fieldW Tryd.prog 61 0 ⟨K⟩ = K 0 ti59 := field_of (ti := ti61) (tf := ti59) (fo := (0, 59)) (fs := [(0, 59), (2, 3)]) tf61 rfl rfl tf59
theorem fld61_1 {K : Nat → TI → Prop} : @fieldW Tryd.prog 61 1 ⟨K⟩ = K 2 ti3 := field_of (ti := ti61) (tf := ti3) (fo := (2, 3)) (fs := [(0, 59), (2, 3)]) tf61 rfl rfl tf3
theorem fsok61 : ∀ f ∈ ([(0, 59), (2, 3)] : List (Nat × Nat)), (tyOf Tryd.prog f.2).isSome = true := by
  intro f hf
  simp only [List.mem_cons, List.not_mem_nil, or_false] at hf
  rcases hf with rfl | rfl
  · rw [tf59]; rfl
  · rw [tf3]; rfl
theorem bld61 {ps : List (Nat × AV)} {K : AV → Prop} : @buildW Tryd.prog 61 ps ⟨K⟩ = @fillW (placeF Tryd.prog [(0, 59), (2, 3)]) (zc ti61) ps ⟨fun cs => K (.ag cs)⟩ := build_of tf61 rfl fsok61
theorem pl65_0 {K : Nat → Nat → Prop} : placeF Tryd.prog [(0, 4), (1, 32), (2, 3)] 0 K = K 0 1 := place_of (tf := ti4) (fo := (0, 4)) (fs := [(0, 4), (1, 32), (2, 3)]) rfl tf4
theorem pl65_1 {K : Nat → Nat → Prop} : placeF Tryd.prog [(0, 4), (1, 32), (2, 3)] 1 K = K 1 1 := place_of (tf := ti32) (fo := (1, 32)) (fs := [(0, 4), (1, 32), (2, 3)]) rfl tf32
theorem pl65_2 {K : Nat → Nat → Prop} : placeF Tryd.prog [(0, 4), (1, 32), (2, 3)] 2 K = K 2 1 := place_of (tf := ti3) (fo := (2, 3)) (fs := [(0, 4), (1, 32), (2, 3)]) rfl tf3
theorem ty66 {K : TI → Prop} : @tyW Tryd.prog 66 ⟨K⟩ = K ti66 := ty_of tf66
theorem ti66_kd : ti66.kd = Kd.stru [(0, 4), (1, 32), (2, 3)] := _root_.id rfl
theorem ti66_size : ti66.size = 3 := _root_.id rfl
theorem ti66_zc : zc ti66 = [.v (Value.bool false), .v (Value.slice none 0 0), .v (Value.int IntKind.i64 0)] := _root_.id rfl
theorem fld66_0 {K : Nat → TI → Prop} : @fieldW Tryd.prog 66 0 ⟨K⟩ = K 0 ti4 := field_of (ti := ti66) (tf := ti4) (fo := (0, 4)) (fs := [(0, 4), (1, 32), (2, 3)]) tf66 rfl rfl tf4
theorem fld66_1 {K : Nat → TI → Prop} : @fieldW Tryd.prog 66 1 ⟨K⟩ = K 1 ti32 := field_of (ti := ti66) (tf := ti32) (fo := (1, 32)) (fs := [(0, 4), (1, 32), (2, 3)]) tf66 rfl rfl tf32
theorem fld66_2 {K : Nat → TI → Prop} : @fieldW Tryd.prog 66 2 ⟨K⟩ = K 2 ti3 := field_of (ti := ti66) (tf := ti3) (fo := (2, 3)) (fs := [(0, 4), (1, 32), (2, 3)]) tf66 rfl rfl tf3
theorem fsok66 : ∀ f ∈ ([(0, 4), (1, 32), (2, 3)] : List (Nat × Nat)), (tyOf Tryd.prog f.2).isSome = true := by
  intro f hf
  simp only [List.mem_cons, List.not_mem_nil, or_false] at hf
  rcases hf with rfl | rfl | rfl
  · rw [tf4]; rfl
  · rw [tf32]; rfl
  · rw [tf3]; rfl
theorem bld66 {ps : List (Nat × AV)} {K : AV → Prop} : @buildW Tryd.prog 66 ps ⟨K⟩ = @fillW (placeF Tryd.prog [(0, 4), (1, 32), (2, 3)]) (zc ti66) ps ⟨fun cs => K (.ag cs)⟩ := build_of tf66 rfl fsok66
theorem ty83 {K : TI → Prop} : @tyW Tryd.prog 83 ⟨K⟩ = K ti83 := ty_of tf83
theorem ti83_kd : ti83.kd = Kd.sli 24 := _root_.id rfl
theorem sli83 {K : TI → Prop} : @sliW Tryd.prog 83 ⟨K⟩ = K ti24 := sli_of tf83 rfl tf24
theorem ty147 {K : TI → Prop} : @tyW Tryd.prog 147 ⟨K⟩ = K ti147 := ty_of tf147
theorem ti147_kd : ti147.kd = Kd.int IntKind.u64 := _root_.id rfl
theorem fok9 : fnOk Tryd.prog 9 = True := eq_true ⟨_, Tryd.func9, of_decide_eq_false (by kernel_rfl), rfl⟩
theorem fok11 : fnOk Tryd.prog 11 = True := eq_true ⟨_, Tryd.func11, of_decide_eq_false (by kernel_rfl), rfl⟩
theorem fok14 : fnOk Tryd.prog 14 = True := eq_true ⟨_, Tryd.func14, of_decide_eq_false (by kernel_rfl), rfl⟩
theorem fok15 : fnOk Tryd.prog 15 = True := eq_true ⟨_, Tryd.func15, of_decide_eq_false (by kernel_rfl), rfl⟩
theorem fok25 : fnOk Tryd.prog 25 = True := eq_true ⟨_, Tryd.func25, of_decide_eq_false (by kernel_rfl), rfl⟩
theorem fok26 : fnOk Tryd.prog 26 = True := eq_true ⟨_, Tryd.func26, of_decide_eq_false (by kernel_rfl), rfl⟩
theorem fok27 : fnOk Tryd.prog 27 = True := eq_true ⟨_, Tryd.func27, of_decide_eq_false (by kernel_rfl), rfl⟩
theorem fok28 : fnOk Tryd.prog 28 = True := eq_true ⟨_, Tryd.func28, of_decide_eq_false (by kernel_rfl), rfl⟩
theorem fok29 : fnOk Tryd.prog 29 = True := eq_true ⟨_, Tryd.func29, of_decide_eq_false (by kernel_rfl), rfl⟩
theorem fok30 : fnOk Tryd.prog 30 = True := eq_true ⟨_, Tryd.func30, of_decide_eq_false (by kernel_rfl), rfl⟩
theorem fok31 : fnOk Tryd.prog 31 = True := eq_true ⟨_, Tryd.func31, of_decide_eq_false (by kernel_rfl), rfl⟩
theorem fok34 : fnOk Tryd.prog 34 = True := eq_true ⟨_, Tryd.func34, of_decide_eq_false (by kernel_rfl), rfl⟩
theorem fok35 : fnOk Tryd.prog 35 = True := eq_true ⟨_, Tryd.func35, of_decide_eq_false (by kernel_rfl), rfl⟩
theorem fok36 : fnOk Tryd.prog 36 = True := eq_true ⟨_, Tryd.func36, of_decide_eq_false (by kernel_rfl), rfl⟩
theorem fok37 : fnOk Tryd.prog 37 = True := eq_true ⟨_, Tryd.func37, of_decide_eq_false (by kernel_rfl), rfl⟩
theorem fok38 : fnOk Tryd.prog 38 = True := eq_true ⟨_, Tryd.func38, of_decide_eq_false (by kernel_rfl), rfl⟩
theorem fok39 : fnOk Tryd.prog 39 = True := eq_true ⟨_, Tryd.func39, of_decide_eq_false (by kernel_rfl), rfl⟩
theorem fok40 : fnOk Tryd.prog 40 = True := eq_true ⟨_, Tryd.func40, of_decide_eq_false (by kernel_rfl), rfl⟩
theorem fok41 : fnOk Tryd.prog 41 = True := eq_true ⟨_, Tryd.func41, of_decide_eq_false (by kernel_rfl), rfl⟩
theorem fok42 : fnOk Tryd.prog 42 = True := eq_true ⟨_, Tryd.func42, of_decide_eq_false (by kernel_rfl), rfl⟩
theorem fok43 : fnOk Tryd.prog 43 = True := eq_true ⟨_, Tryd.func43, of_decide_eq_false (by kernel_rfl), rfl⟩
theorem fok44 : fnOk Tryd.prog 44 = True := eq_true ⟨_, Tryd.func44, of_decide_eq_false (by kernel_rfl), rfl⟩
theorem fok45 : fnOk Tryd.prog 45 = True := eq_true ⟨_, Tryd.func45, of_decide_eq_false (by kernel_rfl), rfl⟩
theorem fok48 : fnOk Tryd.prog 48 = True := eq_true ⟨_, Tryd.func48, of_decide_eq_false (by kernel_rfl), rfl⟩
theorem fok52 : fnOk Tryd.prog 52 = True := eq_true ⟨_, Tryd.func52, of_decide_eq_false (by kernel_rfl), rfl⟩
theorem fok59 : fnOk Tryd.prog 59 = True := eq_true ⟨_, Tryd.func59, of_decide_eq_false (by kernel_rfl), rfl⟩
theorem fok60 : fnOk Tryd.prog 60 = True := eq_true ⟨_, Tryd.func60, of_decide_eq_false (by kernel_rfl), rfl⟩
theorem fok61 : fnOk Tryd.prog 61 = True := eq_true ⟨_, Tryd.func61, of_decide_eq_false (by kernel_rfl), rfl⟩
theorem fok62 : fnOk Tryd.prog 62 = True := eq_true ⟨_, Tryd.func62, of_decide_eq_false (by kernel_rfl), rfl⟩
theorem fok63 : fnOk Tryd.prog 63 = True := eq_true ⟨_, Tryd.func63, of_decide_eq_false (by kernel_rfl), rfl⟩
theorem fok64 : fnOk Tryd.prog 64 = True := eq_true ⟨_, Tryd.func64, of_decide_eq_false (by kernel_rfl), rfl⟩
theorem fok65 : fnOk Tryd.prog 65 = True := eq_true ⟨_, Tryd.func65, of_decide_eq_false (by kernel_rfl), rfl⟩
theorem fok66 : fnOk Tryd.prog 66 = True := eq_true ⟨_, Tryd.func66, of_decide_eq_false (by kernel_rfl), rfl⟩
theorem fok67 : fnOk Tryd.prog 67 = True := eq_true ⟨_, Tryd.func67, of_decide_eq_false (by kernel_rfl), rfl⟩
theorem fok68 : fnOk Tryd.prog 68 = True := eq_true ⟨_, Tryd.func68, of_decide_eq_false (by kernel_rfl), rfl⟩
theorem fok69 : fnOk Tryd.prog 69 = True := eq_true ⟨_, Tryd.func69, of_decide_eq_false (by kernel_rfl), rfl⟩
theorem fok70 : fnOk Tryd.prog 70 = True := eq_true ⟨_, Tryd.func70, of_decide_eq_false (by kernel_rfl), rfl⟩
theorem fok71 : fnOk Tryd.prog 71 = True := eq_true ⟨_, Tryd.func71, of_decide_eq_false (by kernel_rfl), rfl⟩
theorem fok72 : fnOk Tryd.prog 72 = True := eq_true ⟨_, Tryd.func72, of_decide_eq_false (by kernel_rfl), rfl⟩
theorem fok73 : fnOk Tryd.prog 73 = True := eq_true ⟨_, Tryd.func73, of_decide_eq_false (by kernel_rfl), rfl⟩
theorem fok74 : fnOk Tryd.prog 74 = True := eq_true ⟨_, Tryd.func74, of_decide_eq_false (by kernel_rfl), rfl⟩
theorem fok75 : fnOk Tryd.prog 75 = True := eq_true ⟨_, Tryd.func75, of_decide_eq_false (by kernel_rfl), rfl⟩
theorem fok76 : fnOk Tryd.prog 76 = True := eq_true ⟨_, Tryd.func76, of_decide_eq_false (by kernel_rfl), rfl⟩
theorem fok77 : fnOk Tryd.prog 77 = True := eq_true ⟨_, Tryd.func77, of_decide_eq_false (by kernel_rfl), rfl⟩
theorem fok78 : fnOk Tryd.prog 78 = True := eq_true ⟨_, Tryd.func78, of_decide_eq_false (by kernel_rfl), rfl⟩
theorem fok79 : fnOk Tryd.prog 79 = True := eq_true ⟨_, Tryd.func79, of_decide_eq_false (by kernel_rfl), rfl⟩
theorem fok80 : fnOk Tryd.prog 80 = True := eq_true ⟨_, Tryd.func80, of_decide_eq_false (by kernel_rfl), rfl⟩
theorem fok81 : fnOk Tryd.prog 81 = True := eq_true ⟨_, Tryd.func81, of_decide_eq_false (by kernel_rfl), rfl⟩
theorem fok82 : fnOk Tryd.prog 82 = True := eq_true ⟨_, Tryd.func82, of_decide_eq_false (by kernel_rfl), rfl⟩
theorem fok83 : fnOk Tryd.prog 83 = True := eq_true ⟨_, Tryd.func83, of_decide_eq_false (by kernel_rfl), rfl⟩
theorem fok86 : fnOk Tryd.prog 86 = True := eq_true ⟨_, Tryd.func86, of_decide_eq_false (by kernel_rfl), rfl⟩
theorem fok91 : fnOk Tryd.prog 91 = True := eq_true ⟨_, Tryd.func91, of_decide_eq_false (by kernel_rfl), rfl⟩
theorem fok92 : fnOk Tryd.prog 92 = True := eq_true ⟨_, Tryd.func92, of_decide_eq_false (by kernel_rfl), rfl⟩
theorem fok102 : fnOk Tryd.prog 102 = True := eq_true ⟨_, Tryd.func102, of_decide_eq_false (by kernel_rfl), rfl⟩
theorem fok103 : fnOk Tryd.prog 103 = True := eq_true ⟨_, Tryd.func103, of_decide_eq_false (by kernel_rfl), rfl⟩
theorem fok104 : fnOk Tryd.prog 104 = True := eq_true ⟨_, Tryd.func104, of_decide_eq_false (by kernel_rfl), rfl⟩
theorem fok105 : fnOk Tryd.prog 105 = True := eq_true ⟨_, Tryd.func105, of_decide_eq_false (by kernel_rfl), rfl⟩
theorem fok106 : fnOk Tryd.prog 106 = True := eq_true ⟨_, Tryd.func106, of_decide_eq_false (by kernel_rfl), rfl⟩
theorem fok107 : fnOk Tryd.prog 107 = True := eq_true ⟨_, Tryd.func107, of_decide_eq_false (by kernel_rfl), rfl⟩
theorem fok108 : fnOk Tryd.prog 108 = True := eq_true ⟨_, Tryd.func108, of_decide_eq_false (by kernel_rfl), rfl⟩
theorem fok109 : fnOk Tryd.prog 109 = True := eq_true ⟨_, Tryd.func109, of_decide_eq_false (by kernel_rfl), rfl⟩
theorem fok110 : fnOk Tryd.prog 110 = True := eq_true ⟨_, Tryd.func110, of_decide_eq_false (by kernel_rfl), rfl⟩
theorem fok111 : fnOk Tryd.prog 111 = True := eq_true ⟨_, Tryd.func111, of_decide_eq_false (by kernel_rfl), rfl⟩
theorem fok112 : fnOk Tryd.prog 112 = True := eq_true ⟨_, Tryd.func112, of_decide_eq_false (by kernel_rfl), rfl⟩
theorem fok113 : fnOk Tryd.prog 113 = True := eq_true ⟨_, Tryd.func113, of_decide_eq_false (by kernel_rfl), rfl⟩
theorem fok114 : fnOk Tryd.prog 114 = True := eq_true ⟨_, Tryd.func114, of_decide_eq_false (by kernel_rfl), rfl⟩
theorem fok115 : fnOk Tryd.prog 115 = True := eq_true ⟨_, Tryd.func115, of_decide_eq_false (by kernel_rfl), rfl⟩
theorem fok116 : fnOk Tryd.prog 116 = True := eq_true ⟨_, Tryd.func116, of_decide_eq_false (by kernel_rfl), rfl⟩
theorem fok117 : fnOk Tryd.prog 117 = True := eq_true ⟨_, Tryd.func117, of_decide_eq_false (by kernel_rfl), rfl⟩
theorem fok118 : fnOk Tryd.prog 118 = True := eq_true ⟨_, Tryd.func118, of_decide_eq_false (by kernel_rfl), rfl⟩
theorem fok119 : fnOk Tryd.prog 119 = True := eq_true ⟨_, Tryd.func119, of_decide_eq_false (by kernel_rfl), rfl⟩
theorem fok120 : fnOk Tryd.prog 120 = True := eq_true ⟨_, Tryd.func120, of_decide_eq_false (by kernel_rfl), rfl⟩
theorem fok121 : fnOk Tryd.prog 121 = True := eq_true ⟨_, Tryd.func121, of_decide_eq_false (by kernel_rfl), rfl⟩
theorem fok132 : fnOk Tryd.prog 132 = True := eq_true ⟨_, Tryd.func132, of_decide_eq_false (by kernel_rfl), rfl⟩
theorem fok133 : fnOk Tryd.prog 133 = True := eq_true ⟨_, Tryd.func133, of_decide_eq_false (by kernel_rfl), rfl⟩
theorem fok134 : fnOk Tryd.prog 134 = True := eq_true ⟨_, Tryd.func134, of_decide_eq_false (by kernel_rfl), rfl⟩
theorem fok135 : fnOk Tryd.prog 135 = True := eq_true ⟨_, Tryd.func135, of_decide_eq_false (by kernel_rfl), rfl⟩
theorem fok136 : fnOk Tryd.prog 136 = True := eq_true ⟨_, Tryd.func136, of_decide_eq_false (by kernel_rfl), rfl⟩
theorem fok137 : fnOk Tryd.prog 137 = True := eq_true ⟨_, Tryd.func137, of_decide_eq_false (by kernel_rfl), rfl⟩
theorem fok138 : fnOk Tryd.prog 138 = True := eq_true ⟨_, Tryd.func138, of_decide_eq_false (by kernel_rfl), rfl⟩
theorem fok145 : fnOk Tryd.prog 145 = True := eq_true ⟨_, Tryd.func145, of_decide_eq_false (by kernel_rfl), rfl⟩
theorem fok146 : fnOk Tryd.prog 146 = True := eq_true ⟨_, Tryd.func146, of_decide_eq_false (by kernel_rfl), rfl⟩
theorem fok148 : fnOk Tryd.prog 148 = True := eq_true ⟨_, Tryd.func148, of_decide_eq_false (by kernel_rfl), rfl⟩
theorem fok149 : fnOk Tryd.prog 149 = True := eq_true ⟨_, Tryd.func149, of_decide_eq_false (by kernel_rfl), rfl⟩
theorem fok150 : fnOk Tryd.prog 150 = True := eq_true ⟨_, Tryd.func150, of_decide_eq_false (by kernel_rfl), rfl⟩
theorem fok151 : fnOk Tryd.prog 151 = True := eq_true ⟨_, Tryd.func151, of_decide_eq_false (by kernel_rfl), rfl⟩
theorem fok155 : fnOk Tryd.prog 155 = True := eq_true ⟨_, Tryd.func155, of_decide_eq_false (by kernel_rfl), rfl⟩
theorem fok156 : fnOk Tryd.prog 156 = True := eq_true ⟨_, Tryd.func156, of_decide_eq_false (by kernel_rfl), rfl⟩
theorem fok157 : fnOk Tryd.prog 157 = True := eq_true ⟨_, Tryd.func157, of_decide_eq_false (by kernel_rfl), rfl⟩
theorem fok158 : fnOk Tryd.prog 158 = True := eq_true ⟨_, Tryd.func158, of_decide_eq_false (by kernel_rfl), rfl⟩
theorem fok159 : fnOk Tryd.prog 159 = True := eq_true ⟨_, Tryd.func159, of_decide_eq_false (by kernel_rfl), rfl⟩

attribute [go_sem] ty3 ti3_kd ti3_size ti3_bytes ti3_zs
attribute [go_sem] ti3_zc ty4 ti4_kd ti4_size
attribute [go_sem] pl22_0 pl22_1
attribute [go_sem] pl22_2 pl22_3 ty23 ti23_kd ti23_size
attribute [go_sem] fld23_0 fld23_1 fld23_2 fld23_3
attribute [go_sem] ty24 ti24_kd ti24_size ti24_zs ti24_zc fld24_0
attribute [go_sem] fld24_1 fld24_2 fld24_3 bld24
attribute [go_sem] ty32
attribute [go_sem] ti32_kd ti32_size sli32
attribute [go_sem] pl33_0
attribute [go_sem] ty40
attribute [go_sem] ti40_kd ti40_size ti40_zc fld40_0 bld40
attribute [go_sem] ty51 ti51_kd
attribute [go_sem] ti51_size
attribute [go_sem] pl58_0 pl58_1 ty59 ti59_kd
attribute [go_sem] ti59_size ti59_zc fld59_0 fld59_1 bld59
attribute [go_sem] pl60_0
attribute [go_sem] pl60_1 ty61 ti61_kd ti61_size ti61_zc fld61_0
attribute [go_sem] fld61_1 bld61
attribute [go_sem] pl65_0 pl65_1 pl65_2 ty66
attribute [go_sem] ti66_kd ti66_size ti66_zc fld66_0 fld66_1
attribute [go_sem] fld66_2 bld66
attribute [go_sem] ty83 ti83_kd sli83
attribute [go_sem] ty147 ti147_kd
attribute [go_sem] fok9
attribute [go_sem] fok11 fok14 fok15
attribute [go_sem] fok25 fok26 fok27 fok28 fok29
attribute [go_sem] fok30 fok31 fok34 fok35 fok36 fok37 fok38 fok39
attribute [go_sem] fok40 fok41 fok42 fok43 fok44 fok45 fok48
attribute [go_sem] fok52 fok59
attribute [go_sem] fok60 fok61 fok62 fok63 fok64 fok65 fok66 fok67 fok68 fok69
attribute [go_sem] fok70 fok71 fok72 fok73 fok74 fok75 fok76 fok77 fok78 fok79
attribute [go_sem] fok80 fok81 fok82 fok83 fok86
attribute [go_sem] fok91 fok92
attribute [go_sem] fok102 fok103 fok104 fok105 fok106 fok107 fok108 fok109
attribute [go_sem] fok110 fok111 fok112 fok113 fok114 fok115 fok116 fok117 fok118 fok119
attribute [go_sem] fok120 fok121
attribute [go_sem] fok132 fok133 fok134 fok135 fok136 fok137 fok138
attribute [go_sem] fok145 fok146 fok148 fok149
attribute [go_sem] fok150 fok151 fok155 fok156 fok157 fok158 fok159
end Go.Ab
namespace Go.Ab
open Go Go.Proofs
set_option linter.unusedVariables false
set_option linter.unusedSimpArgs false

theorem con_eqFl (k1 : Int) (s1 : Bool) (m1 e1 : Int) : Con Tryd.prog 11 true [.ag [.v (.int .i64 (k1)), .v (.bool (s1)), .v (.int .i64 (m1)), .v (.int .i64 (e1))], .ag [.v (.int .i64 (k1)), .v (.bool (s1)), .v (.int .i64 (m1)), .v (.int .i64 (e1))]] [] (isA (.v (.bool true))) := by
  refine Con.of_aw Tryd.func11 rfl Tryd.ntmps11 (by simp) (by simp) (by simp) (W.sound ?_)
  show @W Tryd.prog 25 ⟨_⟩ ⟨fun x σ => @retW _ _ _ ⟨_⟩ _ ⟨_⟩ x σ⟩ _ _
  simp (disch := omega) only [go_sem]
  have e : (s1 != s1) = false := by cases s1 <;> rfl
  simp (disch := omega) only [go_sem, e]
  exact fin_valc (by simp (disch := omega) only [go_sem]) (by simp (disch := omega) only [go_sem]) isA_mk

end Go.Ab
namespace Go.Ab
open Go Go.Proofs
set_option linter.unusedVariables false
set_option linter.unusedSimpArgs false

theorem con_toFl (k1 : Int) (s1 : Bool) (m1 e1 : Int) : Con Tryd.prog 9 false [.ag [.v (.int .i64 (k1)), .v (.bool (s1)), .v (.int .i64 (m1)), .v (.int .i64 (e1))]] [] (isA (.ag [.v (.int .i64 (k1)), .v (.bool (s1)), .v (.int .i64 (m1)), .v (.int .i64 (e1))])) := by
  refine Con.frzA ?_
  refine Con.of_aw Tryd.func9 rfl Tryd.ntmps9 (by simp) (by simp) (by simp) (W.sound ?_)
  show @W Tryd.prog 17 ⟨_⟩ ⟨fun x σ => @retW _ _ _ ⟨_⟩ _ ⟨_⟩ x σ⟩ _ _
  simp (disch := omega) only [go_sem]
  refine fin_val (by simp (disch := omega) only [go_sem]) ?_
  show snap _ 6 _ = _
  simp (disch := omega) only [go_sem]

end Go.Ab
namespace Go.Ab
set_option linter.unusedVariables false

theorem lim_get (m i : Nat) : (lim m).getD i 0 = ((m / 65536 ^ i % 65536 : Nat) : Int) := by
  induction i generalizing m with
  | zero =>
    by_cases h : m = 0
    · subst h; rw [lim_zero]; rfl
    · rw [lim_pos h, List.getD_cons_zero]; simp
  | succ i ih =>
    by_cases h : m = 0
    · subst h; rw [lim_zero]; simp
    · rw [lim_pos h, List.getD_cons_succ, ih, Nat.div_div_eq_div_mul, Nat.pow_succ, Nat.mul_comm]

/-! ### Bits -/
def bl (n : Nat) : Nat := if n = 0 then 0 else Nat.log2 n + 1

theorem bl_le {n k : Nat} : bl n ≤ k ↔ n < 2 ^ k := by
  unfold bl
  by_cases h : n = 0
  · subst h; simp; exact Nat.pow_pos (by omega)
  · rw [if_neg h, ← Nat.log2_lt h]; omega

theorem bl_lt (n : Nat) : n < 2 ^ bl n := bl_le.1 (Nat.le_refl _)
theorem bl_ge {n : Nat} (h : n ≠ 0) : 2 ^ (bl n - 1) ≤ n := by
  rcases Nat.lt_or_ge n (2 ^ (bl n - 1)) with h1 | h1
  · have h2 := bl_le.2 h1
    have : bl n ≠ 0 := fun e => by unfold bl at e; rw [if_neg h] at e; omega
    omega
  · exact h1
theorem bl_zero : bl 0 = 0 := rfl
theorem bl_pos {n : Nat} (h : n ≠ 0) : 0 < bl n := by unfold bl; rw [if_neg h]; omega
theorem bl_mono {a b : Nat} (h : a ≤ b) : bl a ≤ bl b := bl_le.2 (Nat.lt_of_le_of_lt h (bl_lt b))
theorem bl_eq {n k : Nat} (h1 : 2 ^ k ≤ n) (h2 : n < 2 ^ (k + 1)) : bl n = k + 1 := by
  have h3 := bl_le.2 h2
  have h4 : ¬ bl n ≤ k := fun h => by have := bl_le.1 h; omega
  omega
theorem bl_mul_pow {n : Nat} (h : n ≠ 0) (k : Nat) : bl (n * 2 ^ k) = bl n + k := by
  have h1 := bl_ge h
  have h2 := bl_lt n
  have h3 := bl_pos h
  have e : bl n + k = (bl n - 1 + k) + 1 := by omega
  rw [e]
  refine bl_eq ?_ ?_
  · rw [Nat.pow_add]; exact Nat.mul_le_mul_right _ h1
  · rw [show bl n - 1 + k + 1 = bl n + k by omega, Nat.pow_add]; exact Nat.mul_lt_mul_of_pos_right h2 (Nat.pow_pos (by omega))
theorem bl_div {n k : Nat} (h : 2 ^ k ≤ n) : bl n = k + bl (n / 2 ^ k) := by
  have hp : 0 < 2 ^ k := Nat.pow_pos (by omega)
  have hq : n / 2 ^ k ≠ 0 := by have := Nat.div_pos h hp; omega
  have h1 := bl_ge hq
  have h2 := bl_lt (n / 2 ^ k)
  have h3 := bl_pos hq
  have e : k + bl (n / 2 ^ k) = (k + (bl (n / 2 ^ k) - 1)) + 1 := by omega
  rw [e]
  refine bl_eq ?_ ?_
  · rw [Nat.pow_add, Nat.mul_comm]; exact (Nat.le_div_iff_mul_le hp).1 h1
  · rw [show k + (bl (n / 2 ^ k) - 1) + 1 = k + bl (n / 2 ^ k) by omega, Nat.pow_add, Nat.mul_comm]; exact (Nat.div_lt_iff_lt_mul hp).1 h2

theorem pow16 (k : Nat) : (65536 : Nat) ^ k = 2 ^ (16 * k) := by rw [Nat.pow_mul]

theorem bl_lim {m : Nat} (h : m ≠ 0) : bl m = 16 * ((lim m).length - 1) + bl (m / 65536 ^ ((lim m).length - 1)) := by
  rw [pow16]; exact bl_div (by rw [← pow16]; exact lim_ge h)

theorem bl_dbl {x : Nat} (h : x ≠ 0) : bl x = bl (x / 2) + 1 := by
  by_cases h1 : x / 2 = 0
  · have : x = 1 := by omega
    subst this; rfl
  · have h2 := bl_ge h1
    have h3 := bl_lt (x / 2)
    have h4 := bl_pos h1
    refine bl_eq ?_ ?_
    · obtain ⟨k, hk⟩ : ∃ k, bl (x / 2) = k + 1 := ⟨bl (x / 2) - 1, by omega⟩
      rw [hk] at h2 ⊢; rw [Nat.add_sub_cancel] at h2; rw [Nat.pow_succ]; omega
    · rw [Nat.pow_succ]; omega

theorem len_top {m : Nat} (h : m ≠ 0) : 0 < m / 65536 ^ ((lim m).length - 1) ∧ m / 65536 ^ ((lim m).length - 1) < 65536 := by
  have hp : 0 < 65536 ^ ((lim m).length - 1) := Nat.pow_pos (by omega)
  have h2 := lim_lt m
  have h3 : (lim m).length ≠ 0 := fun e => h (lim_eq_nil.1 (List.length_eq_zero_iff.1 e))
  refine ⟨Nat.div_pos (lim_ge h) hp, (Nat.div_lt_iff_lt_mul hp).2 ?_⟩
  rw [Nat.mul_comm, ← Nat.pow_succ, Nat.succ_eq_add_one, show (lim m).length - 1 + 1 = (lim m).length by omega]; exact h2

/-- The number of zeros at the low end; 0 for 0. -/
def tz (n : Nat) : Nat := if n = 0 then 0 else if n % 2 = 1 then 0 else tz (n / 2) + 1
termination_by n

theorem tz_zero : tz 0 = 0 := by rw [tz]; simp
theorem tz_mk (k a : Nat) : tz (2 ^ k * (2 * a + 1)) = k := by
  induction k with
  | zero => rw [tz, if_neg (by omega), if_pos (by omega)]
  | succ k ih =>
    have h : 0 < 2 ^ k * (2 * a + 1) := Nat.mul_pos (Nat.pow_pos (by omega)) (by omega)
    have e : 2 ^ (k + 1) * (2 * a + 1) = 2 * (2 ^ k * (2 * a + 1)) := by rw [Nat.pow_succ]; grind
    rw [tz, e, if_neg (by omega), if_neg (by omega), show 2 * (2 ^ k * (2 * a + 1)) / 2 = 2 ^ k * (2 * a + 1) by omega, ih]
theorem tz_spec {n : Nat} (h : n ≠ 0) : ∃ a, n = 2 ^ tz n * (2 * a + 1) := by
  induction n using Nat.strongRecOn with
  | _ n ih =>
    rw [tz, if_neg h]
    by_cases h1 : n % 2 = 1
    · rw [if_pos h1]; exact ⟨n / 2, by simp; omega⟩
    · rw [if_neg h1]
      obtain ⟨a, ha⟩ := ih (n / 2) (by omega) (by omega)
      refine ⟨a, ?_⟩
      rw [Nat.pow_succ]
      have : n = 2 * (n / 2) := by omega
      rw [this, ha]
      have e : 2 * (2 ^ tz (n / 2) * (2 * a + 1)) / 2 = 2 ^ tz (n / 2) * (2 * a + 1) := by omega
      rw [e, tz_mk]; grind
theorem tz_uniq {n k a : Nat} (h : n = 2 ^ k * (2 * a + 1)) : tz n = k := by rw [h, tz_mk]
theorem tz_mul_pow {n : Nat} (h : n ≠ 0) (k : Nat) : tz (n * 2 ^ k) = tz n + k := by
  obtain ⟨a, ha⟩ := tz_spec h
  refine tz_uniq (a := a) ?_
  conv => lhs; rw [ha]
  rw [Nat.pow_add]; grind
theorem tz_lt_bl {n : Nat} (h : n ≠ 0) : tz n < bl n := by
  obtain ⟨a, ha⟩ := tz_spec h
  have h1 := bl_lt n
  rcases Nat.lt_or_ge (tz n) (bl n) with h2 | h2
  · exact h2
  · have h3 : 2 ^ bl n ≤ 2 ^ tz n := Nat.pow_le_pow_right (by omega) h2
    have h4 : 2 ^ tz n * 1 ≤ 2 ^ tz n * (2 * a + 1) := Nat.mul_le_mul_left _ (by omega)
    omega
theorem odd_part {n : Nat} (h : n ≠ 0) : n / 2 ^ tz n % 2 = 1 ∧ n / 2 ^ tz n * 2 ^ tz n = n := by
  obtain ⟨a, ha⟩ := tz_spec h
  have hp : 0 < 2 ^ tz n := Nat.pow_pos (by omega)
  have e : n / 2 ^ tz n = 2 * a + 1 := by
    conv => lhs; lhs; rw [ha]
    exact Nat.mul_div_cancel_left _ hp
  rw [e]
  exact ⟨by omega, by rw [Nat.mul_comm]; exact ha.symm⟩

theorem bit_div (m i : Nat) : m / 65536 ^ (i / 16) % 65536 / 2 ^ (i % 16) % 2 = m / 2 ^ i % 2 := by
  have e : m / 2 ^ i = m / 65536 ^ (i / 16) / 2 ^ (i % 16) := by
    rw [Nat.div_div_eq_div_mul, pow16, ← Nat.pow_add, Nat.div_add_mod]
  rw [e]
  generalize m / 65536 ^ (i / 16) = x
  have hs : i % 16 < 16 := by omega
  generalize i % 16 = s at *
  have h16 : (65536 : Nat) = 2 ^ s * (2 * 2 ^ (15 - s)) := by
    rw [Nat.mul_left_comm, ← Nat.pow_add, show s + (15 - s) = 15 by omega]
  rw [h16]
  have hp : 0 < 2 ^ s := Nat.pow_pos (by omega)
  rw [Nat.mod_mul_right_div_self]
  rw [Nat.mod_mul_right_mod]

/-! ### Comparison -/
def cmpI (a b : Int) : Int := if a < b then -1 else if b < a then 1 else 0

theorem vl_lt_of {A B : List Int} (hA : gd A) (hB : gd B) {i : Nat} (hi : i < A.length) (hl : A.length = B.length) (hd : A.drop (i + 1) = B.drop (i + 1)) (hlt : A.getD i 0 < B.getD i 0) : vl A < vl B := by
  have ha := vl_take_drop A i (by omega)
  have hb := vl_take_drop B i (by omega)
  have h1 := vl_lt (gd_take hA i)
  have h2 := vl_nonneg (gd_take hB i)
  rw [List.length_take, Nat.min_eq_left (by omega)] at h1
  rw [vl_drop hi] at ha
  rw [vl_drop (by omega), ← hd] at hb
  have hp : (0 : Int) < 65536 ^ i := Int.pow_pos (by omega)
  generalize (65536 : Int) ^ i = p at *
  generalize vl (A.drop (i + 1)) = D at *
  have h3 : p * 1 ≤ p * (B.getD i 0 - A.getD i 0) := Int.mul_le_mul_of_nonneg_left (by omega) (by omega)
  have e1 : p * (A.getD i 0 + 65536 * D) = p * A.getD i 0 + p * (65536 * D) := Int.mul_add _ _ _
  have e2 : p * (B.getD i 0 + 65536 * D) = p * B.getD i 0 + p * (65536 * D) := Int.mul_add _ _ _
  rw [Int.mul_sub] at h3
  omega

theorem lim_lt_of {a b : Nat} (h : (lim a).length < (lim b).length) : a < b := by
  rcases Nat.lt_or_ge a b with h1 | h1
  · exact h1
  · have := lim_mono h1; omega

theorem drop_eq_of {A B : List Int} {k : Nat} (hl : A.length = B.length) (hk : k ≤ A.length) (h : ∀ j, k ≤ j → A.getD j 0 = B.getD j 0) : A.drop k = B.drop k := by
  apply List.ext_getElem
  · simp [hl]
  · intro i h1 h2
    have h3 := h (k + i) (by omega)
    simp only [List.length_drop] at h1 h2
    rw [List.getD_eq_getElem?_getD, List.getD_eq_getElem?_getD, List.getElem?_eq_getElem (by omega), List.getElem?_eq_getElem (by omega)] at h3
    simpa using h3

end Go.Ab
namespace Go.Ab
set_option linter.unusedVariables false

/-! ### The digit of a quotient -/
section
variable {p x y u2 top v2 v1 q r W v : Int}

theorem kn_init (hW : W = x + p * (u2 + 65536 * top)) (hv : v = y + p * (v2 + 65536 * v1)) (hx : 0 ≤ x ∧ x < p) (hy : 0 ≤ y ∧ y < p) (hu : 0 ≤ u2 ∧ u2 < 65536) (hv2 : 0 ≤ v2) (hq : 0 ≤ q)
    (ht : top < (q + 1) * v1) : W < (q + 1) * v := by
  have h1 : u2 + 65536 * top + 1 ≤ 65536 * ((q + 1) * v1) := by omega
  have h2 := Int.mul_le_mul_of_nonneg_left h1 (show 0 ≤ p by omega)
  have h3 : 0 ≤ (q + 1) * y := Int.mul_nonneg (by omega) hy.1
  have h4 : 0 ≤ p * ((q + 1) * v2) := Int.mul_nonneg (by omega) (Int.mul_nonneg (by omega) hv2)
  have e1 : (q + 1) * v = (q + 1) * y + p * ((q + 1) * v2) + p * (65536 * ((q + 1) * v1)) := by rw [hv]; grind
  have e2 : p * (u2 + 65536 * top + 1) = p * (u2 + 65536 * top) + p := by grind
  omega

theorem kn_step (hW : W = x + p * (u2 + 65536 * top)) (hv : v = y + p * (v2 + 65536 * v1)) (hx : 0 ≤ x ∧ x < p) (hy : 0 ≤ y ∧ y < p) (hWB : W < 65536 * v) (hv2 : 0 ≤ v2) (hv1 : 0 ≤ v1) (hq : 0 ≤ q)
    (hr : q * v1 + r = top) (hc : 65536 ≤ q ∨ r * 65536 + u2 < q * v2) : W < q * v := by
  have hv0 : 0 ≤ v := by
    have := Int.mul_nonneg (show 0 ≤ p by omega) (show 0 ≤ v2 + 65536 * v1 by omega)
    omega
  rcases hc with h | h
  · have := Int.mul_le_mul_of_nonneg_right h hv0
    omega
  · have h1 : u2 + 65536 * top + 1 ≤ q * v2 + 65536 * (q * v1) := by omega
    have h2 := Int.mul_le_mul_of_nonneg_left h1 (show 0 ≤ p by omega)
    have h3 : 0 ≤ q * y := Int.mul_nonneg hq hy.1
    have e1 : q * v = q * y + p * (q * v2 + 65536 * (q * v1)) := by rw [hv]; grind
    have e2 : p * (u2 + 65536 * top + 1) = p * (u2 + 65536 * top) + p := by grind
    omega

theorem kn_exit (hW : W = x + p * (u2 + 65536 * top)) (hv : v = y + p * (v2 + 65536 * v1)) (hx : 0 ≤ x ∧ x < p) (hy : 0 ≤ y ∧ y < p) (hv2 : 0 ≤ v2) (hv1 : 1 ≤ v1) (hq : 0 ≤ q ∧ q < 65536)
    (hr : q * v1 + r = top) (hc : q * v2 ≤ r * 65536 + u2) : q * v < W + v := by
  have h1 : q * v2 + 65536 * (q * v1) ≤ u2 + 65536 * top := by omega
  have h2 := Int.mul_le_mul_of_nonneg_left h1 (show 0 ≤ p by omega)
  have h3 : q * y ≤ 65535 * p := Int.mul_le_mul (by omega) (by omega) hy.1 (by omega)
  have e1 : q * v = q * y + p * (q * v2 + 65536 * (q * v1)) := by rw [hv]; grind
  have h4 : p * 65536 ≤ p * (v2 + 65536 * v1) := Int.mul_le_mul_of_nonneg_left (by omega) (by omega)
  omega

theorem kn_top {u0 u1 : Int} (hW : W = x + p * (u2 + 65536 * (u0 * 65536 + u1))) (hv : v = y + p * (v2 + 65536 * v1)) (hx : 0 ≤ x ∧ x < p) (hy : 0 ≤ y ∧ y < p) (hu2 : 0 ≤ u2) (hu1 : 0 ≤ u1) (hv2 : v2 < 65536)
    (hWB : W < 65536 * v) : u0 ≤ v1 := by
  rcases (by omega : v1 < u0 ∨ u0 ≤ v1) with h | h
  · exfalso
    have h1 : 65536 * (v2 + 65536 * v1 + 1) ≤ u2 + 65536 * (u0 * 65536 + u1) := by omega
    have h2 := Int.mul_le_mul_of_nonneg_left h1 (show 0 ≤ p by omega)
    have e1 : p * (65536 * (v2 + 65536 * v1 + 1)) = 65536 * (p * (v2 + 65536 * v1)) + 65536 * p := by grind
    omega
  · exact h
end

/-- The window of a dividend. -/
theorem vl_win {D : List Int} {n : Nat} (hn : n < D.length) (h2 : 2 ≤ n) (hz : vl (D.drop (n + 1)) = 0) :
    vl D = vl (D.take (n - 2)) + 65536 ^ (n - 2) * (D.getD (n - 2) 0 + 65536 * (D.getD n 0 * 65536 + D.getD (n - 1) 0)) := by
  rw [vl_take_drop D (n - 2) (by omega), vl_drop (i := n - 2) (by omega), show n - 2 + 1 = n - 1 by omega, vl_drop (i := n - 1) (by omega), show n - 1 + 1 = n by omega, vl_drop (i := n) (by omega), hz]
  grind

theorem vl_top2 {V : List Int} (h2 : 2 ≤ V.length) : vl V = vl (V.take (V.length - 2)) + 65536 ^ (V.length - 2) * (V.getD (V.length - 2) 0 + 65536 * V.getD (V.length - 1) 0) := by
  rw [vl_take_drop V (V.length - 2) (by omega), vl_drop (i := V.length - 2) (by omega), show V.length - 2 + 1 = V.length - 1 by omega, vl_drop (i := V.length - 1) (by omega), show V.length - 1 + 1 = V.length by omega, List.drop_length]
  have : vl [] = 0 := rfl
  rw [this]
  have e : V.take (V.length - 2) = V.take (V.length - 2) := rfl
  grind

/-- What lies above the window is nothing. -/
theorem vl_above {D V : List Int} (hD : gd D) (hV : gd V) (hn : V.length < D.length) (h : vl D < 65536 * vl V) : vl (D.drop (V.length + 1)) = 0 := by
  have h1 := vl_take_drop D (V.length + 1) (by omega)
  have h2 := vl_nonneg (gd_take hD (V.length + 1))
  have h3 := vl_nonneg (gd_drop hD (V.length + 1))
  have h4 := vl_lt hV
  rw [Int.pow_succ] at h1
  generalize vl (D.drop (V.length + 1)) = z at *
  have hp : (0 : Int) < 65536 ^ V.length := Int.pow_pos (by omega)
  generalize (65536 : Int) ^ V.length = p at *
  rcases (by omega : 0 < z ∨ z ≤ 0) with h5 | h5
  · exfalso
    have : p * 65536 * 1 ≤ p * 65536 * z := Int.mul_le_mul_of_nonneg_left (by omega) (by omega)
    omega
  · omega

end Go.Ab
namespace Go.Ab
set_option linter.unusedVariables false

theorem getD_set {l : List Int} {i : Nat} {x : Int} (h : i < l.length) (t : Nat) : (l.set i x).getD t 0 = if t = i then x else l.getD t 0 := by
  rw [List.getD_eq_getElem?_getD, List.getD_eq_getElem?_getD, List.getElem?_set]
  by_cases e : i = t
  · subst e; simp [h]
  · rw [if_neg e, if_neg (fun h => e h.symm)]

theorem getD_drop0 {l : List Int} {i j : Nat} : (l.drop i).getD j 0 = l.getD (i + j) 0 := by
  rw [List.getD_eq_getElem?_getD, List.getD_eq_getElem?_getD, List.getElem?_drop]

theorem take_same {A B : List Int} {j : Nat} (hl : A.length = B.length) (h : ∀ t, t < j → A.getD t 0 = B.getD t 0) : A.take j = B.take j := by
  apply List.ext_getElem
  · simp [hl]
  · intro i h1 h2
    simp only [List.length_take] at h1 h2
    have h3 := h i (by omega)
    rw [List.getD_eq_getElem?_getD, List.getD_eq_getElem?_getD, List.getElem?_eq_getElem (by omega), List.getElem?_eq_getElem (by omega)] at h3
    simpa using h3

theorem drop_same {A B : List Int} {j : Nat} (hl : A.length = B.length) (h : ∀ t, j ≤ t → A.getD t 0 = B.getD t 0) : A.drop j = B.drop j := by
  rcases Nat.lt_or_ge A.length j with h1 | h1
  · rw [List.drop_of_length_le (by omega), List.drop_of_length_le (by omega)]
  · exact drop_eq_of hl h1 h

theorem drop_val {A B : List Int} {j : Nat} {c : Int} (hj : j ≤ A.length) (hl : A.length = B.length) (ht : A.take j = B.take j) (h : vl A = vl B + 65536 ^ j * c) : vl (A.drop j) = vl (B.drop j) + c := by
  have h1 := vl_take_drop A j hj
  have h2 := vl_take_drop B j (by omega)
  rw [ht] at h1
  have hp : (0 : Int) < 65536 ^ j := Int.pow_pos (by omega)
  generalize (65536 : Int) ^ j = p at *
  have : p * vl (A.drop j) = p * (vl (B.drop j) + c) := by rw [Int.mul_add]; omega
  exact Int.eq_of_mul_eq_mul_left (by omega) this

theorem gd_of {l : List Int} (h : ∀ t, 0 ≤ l.getD t 0 ∧ l.getD t 0 < 65536) : gd l := fun x hx => by
  obtain ⟨i, hi, rfl⟩ := List.getElem_of_mem hx
  have := h i
  rwa [List.getD_eq_getElem?_getD, List.getElem?_eq_getElem hi] at this

/-- A window whose upper limb alone may be anything. -/
theorem win_top {D : List Int} {n : Nat} (hn : n < D.length) (hg : ∀ t, t ≠ n → 0 ≤ D.getD t 0 ∧ D.getD t 0 < 65536) (hz : vl (D.drop (n + 1)) = 0) :
    ∃ low, 0 ≤ low ∧ low < 65536 ^ n ∧ vl D = low + 65536 ^ n * D.getD n 0 := by
  refine ⟨vl (D.take n), ?_, ?_, ?_⟩
  · refine vl_nonneg (gd_of fun t => ?_)
    rw [List.getD_eq_getElem?_getD, List.getElem?_take]
    by_cases h : t < n
    · rw [if_pos h, ← List.getD_eq_getElem?_getD]; exact hg t (by omega)
    · rw [if_neg h]; simp
  · have := vl_lt (l := D.take n) (gd_of fun t => by
      rw [List.getD_eq_getElem?_getD, List.getElem?_take]
      by_cases h : t < n
      · rw [if_pos h, ← List.getD_eq_getElem?_getD]; exact hg t (by omega)
      · rw [if_neg h]; simp)
    rwa [List.length_take, Nat.min_eq_left (by omega)] at this
  · rw [vl_take_drop D n (by omega), vl_drop hn, hz]; simp

theorem win_sign {n : Nat} {low top x : Int} (h0 : 0 ≤ low) (h1 : low < 65536 ^ n) (h : x = low + 65536 ^ n * top) : (top < 0 ↔ x < 0) ∧ (0 ≤ x → x < 65536 ^ n → top = 0) ∧ (-65536 ^ n < x → -1 ≤ top) := by
  have hp : (0 : Int) < 65536 ^ n := Int.pow_pos (by omega)
  generalize (65536 : Int) ^ n = p at *
  have k1 : top ≤ -1 → p * top ≤ -p := fun g => by
    have := Int.mul_le_mul_of_nonneg_left g (show 0 ≤ p by omega)
    omega
  have k2 : top ≤ -2 → p * top ≤ -2 * p := fun g => by
    have := Int.mul_le_mul_of_nonneg_left g (show 0 ≤ p by omega)
    omega
  have k3 : 1 ≤ top → p ≤ p * top := fun g => by
    have := Int.mul_le_mul_of_nonneg_left g (show 0 ≤ p by omega)
    omega
  have k4 : top = 0 → p * top = 0 := fun g => by rw [g]; simp
  refine ⟨⟨fun g => ?_, fun g => ?_⟩, fun g1 g2 => ?_, fun g => ?_⟩
  · have := k1 (by omega); omega
  · rcases (by omega : top < 0 ∨ top = 0 ∨ 1 ≤ top) with h | h | h
    · exact h
    · have := k4 h; omega
    · have := k3 h; omega
  · rcases (by omega : top ≤ -1 ∨ top = 0 ∨ 1 ≤ top) with h | h | h
    · have := k1 h; omega
    · exact h
    · have := k3 h; omega
  · rcases (by omega : top ≤ -2 ∨ -1 ≤ top) with h | h
    · have := k2 h; omega
    · exact h

/-- A divisor, shifted so that its upper bit is set. -/
theorem norm_div {b : Nat} (hb : b ≠ 0) (s : Nat) (hs : s = 16 - bl (b / 65536 ^ ((lim b).length - 1))) :
    s < 16 ∧ (lim (b * 2 ^ s)).length = (lim b).length ∧ 32768 ≤ (lim (b * 2 ^ s)).getD ((lim b).length - 1) 0 ∧ 32768 * 65536 ^ ((lim b).length - 1) ≤ b * 2 ^ s := by
  have h1 := len_top hb
  have h2 := bl_lim hb
  have hl : (lim b).length ≠ 0 := fun e => hb (lim_eq_nil.1 (List.length_eq_zero_iff.1 e))
  generalize hq : b / 65536 ^ ((lim b).length - 1) = q at *
  have hq0 : q ≠ 0 := by omega
  have h3 : bl q ≤ 16 := bl_le.2 (by omega)
  have h4 := bl_pos hq0
  have h5 := bl_mul_pow hb s
  have h6 : bl (b * 2 ^ s) = 16 * (lim b).length := by omega
  have h7 := bl_lt (b * 2 ^ s)
  rw [h6, ← pow16] at h7
  have h8 : b * 2 ^ s ≠ 0 := by have : 0 < 2 ^ s := Nat.pow_pos (by omega); have := Nat.mul_pos (show 0 < b by omega) this; omega
  have h9 := bl_ge h8
  rw [h6] at h9
  have h10 : 2 ^ (16 * (lim b).length - 1) = 32768 * 65536 ^ ((lim b).length - 1) := by
    rw [show 16 * (lim b).length - 1 = 15 + 16 * ((lim b).length - 1) by omega, Nat.pow_add, ← pow16]
  rw [h10] at h9
  have hp : 0 < 65536 ^ ((lim b).length - 1) := Nat.pow_pos (by omega)
  have hlen : (lim (b * 2 ^ s)).length = (lim b).length := by
    have g1 := lim_len.2 h7
    rcases Nat.lt_or_ge (lim (b * 2 ^ s)).length (lim b).length with g | g
    · have g2 : b * 2 ^ s < 65536 ^ ((lim b).length - 1) := lim_len.1 (by omega)
      omega
    · omega
  refine ⟨by omega, hlen, ?_, h9⟩
  rw [lim_get]
  have g1 : 32768 ≤ b * 2 ^ s / 65536 ^ ((lim b).length - 1) := (Nat.le_div_iff_mul_le hp).2 h9
  have g2 : b * 2 ^ s / 65536 ^ ((lim b).length - 1) < 65536 := by
    refine (Nat.div_lt_iff_lt_mul hp).2 ?_
    rw [Nat.mul_comm 65536, ← Nat.pow_succ, Nat.succ_eq_add_one, show (lim b).length - 1 + 1 = (lim b).length by omega]; exact h7
  rw [Nat.mod_eq_of_lt g2]; omega

theorem vl_div {D : List Int} (hD : gd D) {i : Nat} (hi : i ≤ D.length) : vl D / 65536 ^ i = vl (D.drop i) := by
  have hP : (0 : Int) < 65536 ^ i := Int.pow_pos (by omega)
  have h1 := vl_nonneg (gd_take hD i)
  have h2 := vl_lt (gd_take hD i)
  rw [List.length_take, Nat.min_eq_left hi] at h2
  rw [vl_take_drop D i hi, Int.add_mul_ediv_left _ _ (by omega), Int.ediv_eq_zero_of_lt h1 h2]; omega

theorem lim_up_len (a : Nat) {s : Nat} (hs : s < 16) : (lim (a * 2 ^ s)).length ≤ (lim a).length + 1 := by
  refine lim_len.2 ?_
  have h1 := lim_lt a
  have h2 : 2 ^ s ≤ 2 ^ 16 := Nat.pow_le_pow_right (by omega) (by omega)
  have h3 : 0 < 2 ^ s := Nat.pow_pos (by omega)
  rw [Nat.pow_succ]
  calc a * 2 ^ s < 65536 ^ (lim a).length * 2 ^ s := Nat.mul_lt_mul_of_pos_right h1 h3
    _ ≤ 65536 ^ (lim a).length * 65536 := Nat.mul_le_mul_left _ h2

theorem lim_up_ge (a : Nat) (s : Nat) : (lim a).length ≤ (lim (a * 2 ^ s)).length := lim_mono (Nat.le_mul_of_pos_right _ (Nat.pow_pos (by omega)))

/-- The first window is below the divisor. -/
theorem first_win {a b s : Nat} {U : List Int} (hU : gd U) (hl : (lim b).length ≤ (lim a).length) (hb : 0 < (lim b).length) (hs : s < 16) (hUl : U.length = (lim a).length + 1) (hv : vl U = ((a * 2 ^ s : Nat) : Int)) (hge : 32768 * 65536 ^ ((lim b).length - 1) ≤ b * 2 ^ s) :
    vl (U.drop ((lim a).length - (lim b).length + 1)) < ((b * 2 ^ s : Nat) : Int) := by
  have h1 := vl_div hU (i := (lim a).length - (lim b).length + 1) (by omega)
  rw [← h1, hv]
  have h2 := lim_lt a
  have h3 : 2 ^ s ≤ 2 ^ 15 := Nat.pow_le_pow_right (by omega) (by omega)
  have h4 : 0 < 2 ^ s := Nat.pow_pos (by omega)
  have h5 : a * 2 ^ s / 65536 ^ ((lim a).length - (lim b).length + 1) < b * 2 ^ s := by
    refine Nat.lt_of_lt_of_le ?_ hge
    refine (Nat.div_lt_iff_lt_mul (Nat.pow_pos (by omega))).2 ?_
    rw [Nat.mul_assoc, ← Nat.pow_add, show (lim b).length - 1 + ((lim a).length - (lim b).length + 1) = (lim a).length by omega, Nat.mul_comm]
    calc 2 ^ s * a < 2 ^ s * 65536 ^ (lim a).length := Nat.mul_lt_mul_of_pos_left h2 h4
      _ ≤ 32768 * 65536 ^ (lim a).length := Nat.mul_le_mul_right _ h3
  have e : (((a * 2 ^ s : Nat) : Int) / 65536 ^ ((lim a).length - (lim b).length + 1)) = ((a * 2 ^ s / 65536 ^ ((lim a).length - (lim b).length + 1) : Nat) : Int) := by
    rw [Int.natCast_ediv, Int.natCast_pow]; rfl
  rw [e]; omega

theorem lim_ne {n : Nat} (h : n ≠ 0) : 0 < (lim n).length := by
  rcases Nat.eq_zero_or_pos (lim n).length with e | e
  · exact absurd (lim_eq_nil.1 (List.length_eq_zero_iff.1 e)) h
  · exact e


theorem take_step {U V U' : List Int} {j : Nat} {q bo : Int} (gU : gd U) (gV : gd V) (hj : j + V.length < U.length) (hW : vl (U.drop j) < 65536 * vl V) (hq1 : vl (U.drop j) < (q + 1) * vl V) (hq2 : q * vl V < vl (U.drop j) + vl V)
    (hl : U'.length = U.length) (gU' : gd U') (hs : ∀ t, t < j ∨ j + V.length ≤ t → U'.getD t 0 = U.getD t 0) (hv : vl U' - 65536 ^ (j + V.length) * bo = vl U - 65536 ^ j * (q * vl V)) (T : List Int) (hT : T = U'.set (j + V.length) (U.getD (j + V.length) 0 - bo)) :
    T.length = U.length ∧ vl T = vl U - 65536 ^ j * (q * vl V) ∧ vl (T.drop j) = vl (U.drop j) - q * vl V ∧ T.getD (j + V.length) 0 = U.getD (j + V.length) 0 - bo ∧ vl (T.drop (j + V.length + 1)) = 0 ∧
    (¬ U.getD (j + V.length) 0 - bo < 0 → gd T ∧ q * vl V ≤ vl (U.drop j)) ∧ (U.getD (j + V.length) 0 - bo < 0 → (-1 ≤ U.getD (j + V.length) 0 - bo ∧ vl (U.drop j) < q * vl V) ∧ ∀ t, t ≠ j + V.length → 0 ≤ T.getD t 0 ∧ T.getD t 0 < 65536) := by
  have hlT : T.length = U.length := by rw [hT]; simp [hl]
  have hg : ∀ t, T.getD t 0 = if t = j + V.length then U.getD (j + V.length) 0 - bo else U'.getD t 0 := fun t => by rw [hT, getD_set (by omega)]
  have es := hs (j + V.length) (by omega)
  have hvT : vl T = vl U + 65536 ^ j * (-(q * vl V)) := by
    rw [hT, vl_set (by omega), es]
    rw [Int.mul_sub, Int.mul_sub, Int.mul_neg]
    omega
  have htk : T.take j = U.take j := take_same hlT fun t ht => by rw [hg, if_neg (by omega)]; exact hs t (by omega)
  have hwT := drop_val (by omega) hlT htk hvT
  have hab : vl (T.drop (j + V.length + 1)) = 0 := by
    have h1 : T.drop (j + V.length + 1) = U.drop (j + V.length + 1) := drop_same hlT fun t ht => by rw [hg, if_neg (by omega)]; exact hs t (by omega)
    have h2 := vl_above (D := U.drop j) (gd_drop gU j) gV (by simp; omega) hW
    rw [List.drop_drop] at h2
    rw [h1]; exact h2
  have hgood : ∀ t, t ≠ j + V.length → 0 ≤ T.getD t 0 ∧ T.getD t 0 < 65536 := fun t ht => by rw [hg, if_neg ht]; exact gd_getD gU' t
  have htop : T.getD (j + V.length) 0 = U.getD (j + V.length) 0 - bo := by rw [hg, if_pos rfl]
  obtain ⟨low, l0, l1, l2⟩ := win_top (D := T.drop j) (n := V.length) (by simp; omega) (fun t ht => by rw [getD_drop0]; exact hgood _ (by omega)) (by rw [List.drop_drop]; exact hab)
  rw [getD_drop0, htop] at l2
  obtain ⟨s1, s2, s3⟩ := win_sign l0 l1 l2
  have hV := vl_lt gV
  rw [Int.add_mul] at hq1
  refine ⟨hlT, by rw [hvT, Int.mul_neg]; omega, by omega, htop, hab, fun h => ⟨gd_of fun t => ?_, ?_⟩, fun h => ⟨⟨s3 (by omega), ?_⟩, hgood⟩⟩
  · by_cases e : t = j + V.length
    · subst e
      have := s2 (by have := s1; omega) (by omega)
      rw [htop]; omega
    · exact hgood t e
  · have := s1; omega
  · have := s1; omega

theorem back_step {T V T' : List Int} {j : Nat} (gV : gd V) (hj : j + V.length < T.length) (hl : T'.length = T.length) (hg : ∀ t, t ≠ j + V.length → 0 ≤ T'.getD t 0 ∧ T'.getD t 0 < 65536)
    (hs : ∀ t, t < j ∨ j + V.length < t → T'.getD t 0 = T.getD t 0) (hab : vl (T.drop (j + V.length + 1)) = 0) (hv : vl T' = vl T + 65536 ^ j * vl V) (h0 : 0 ≤ vl (T.drop j) + vl V) (h1 : vl (T.drop j) < 0) :
    gd T' ∧ vl (T'.drop j) = vl (T.drop j) + vl V := by
  have htk : T'.take j = T.take j := take_same hl fun t ht => hs t (by omega)
  have hw := drop_val (by omega) hl htk hv
  have hab' : vl (T'.drop (j + V.length + 1)) = 0 := by
    rw [drop_same hl fun t ht => hs t (by omega)]; exact hab
  obtain ⟨low, l0, l1, l2⟩ := win_top (D := T'.drop j) (n := V.length) (by simp; omega) (fun t ht => by rw [getD_drop0]; exact hg _ (by omega)) (by rw [List.drop_drop]; exact hab')
  rw [getD_drop0] at l2
  obtain ⟨s1, s2, s3⟩ := win_sign l0 l1 l2
  have hV := vl_lt gV
  refine ⟨gd_of fun t => ?_, hw⟩
  by_cases e : t = j + V.length
  · subst e; have := s2 (by omega) (by omega); omega
  · exact hg t e

theorem set_drop_val {O : List Int} {j : Nat} (hj : j < O.length) (x : Int) : vl ((O.set j x).drop j) = x + 65536 * vl (O.drop (j + 1)) := by
  rw [vl_drop (by simpa using hj), getD_set hj, if_pos rfl]
  congr 2
  exact congrArg vl (drop_same (by simp) fun t ht => by rw [getD_set hj, if_neg (by omega)])

theorem div_norm {a b P u o : Nat} (hP : 0 < P) (hb : 0 < b) (h : u + b * P * o = a * P) (hu : u < b * P) : o = a / b ∧ u = a % b * P := by
  have h1 : (a * P) / (b * P) = o := by
    rw [← h, Nat.add_mul_div_left _ _ (by omega), Nat.div_eq_of_lt hu]; omega
  have h2 : (a * P) % (b * P) = u := by
    rw [← h, Nat.add_mul_mod_self_left, Nat.mod_eq_of_lt hu]
  rw [Nat.mul_div_mul_right _ _ hP] at h1
  rw [Nat.mul_mod_mul_right] at h2
  exact ⟨h1.symm, h2.symm⟩

end Go.Ab
namespace Go.Ab
set_option linter.unusedVariables false

theorem len_bl {m B : Nat} (h : bl m ≤ B) : (lim m).length ≤ B / 16 + 1 := by
  refine lim_len.2 ?_
  rw [pow16]
  exact Nat.lt_of_lt_of_le (bl_le.1 h) (Nat.pow_le_pow_right (by omega) (by omega))
theorem bl_up (m k : Nat) : bl (m * 2 ^ k) ≤ bl m + k := by
  by_cases h : m = 0
  · subst h; simp [bl_zero]
  · rw [bl_mul_pow h]; omega
theorem bl_len {m : Nat} : bl m ≤ 16 * (lim m).length := by
  refine bl_le.2 ?_
  rw [← pow16]; exact lim_lt m
theorem bl_divle (m k : Nat) : bl (m / k) ≤ bl m := bl_mono (Nat.div_le_self _ _)
theorem bl_succ (m : Nat) : bl (m + 1) ≤ bl m + 1 := by
  refine bl_le.2 ?_
  have := bl_lt m
  rw [Nat.pow_succ]; omega
theorem bl_mulle (a b : Nat) : bl (a * b) ≤ bl a + bl b := by
  refine bl_le.2 ?_
  rw [Nat.pow_add]
  have h1 := bl_lt a
  have h2 := bl_lt b
  rcases Nat.eq_zero_or_pos b with h | h
  · subst h; simp; exact Nat.mul_pos (Nat.pow_pos (by omega)) (Nat.pow_pos (by omega))
  · exact Nat.mul_lt_mul_of_lt_of_le h1 (Nat.le_of_lt h2) (Nat.pow_pos (by omega))

/-- Whether a magnitude is rounded away from 0. -/
def rup (neg odd : Bool) (half mode : Int) : Bool :=
  if mode = 2 then !neg else if mode = 3 then neg else if mode = 0 then (decide (0 < half) || (decide (half = 0) && odd)) else if mode = 4 then decide (0 ≤ half) else false

/-- A quotient, rounded to an integer. -/
def rq (neg : Bool) (a b : Nat) (mode : Int) : Nat :=
  if a % b = 0 then a / b else if rup neg (decide (a / b % 2 = 1)) (cmpI ((a % b * 2 : Nat) : Int) (b : Int)) mode then a / b + 1 else a / b

theorem rq_le (neg : Bool) (a b : Nat) (mode : Int) : rq neg a b mode ≤ a / b + 1 := by
  unfold rq; split
  · omega
  · split <;> omega

/-- The one form of a number: an odd magnitude, or 0. -/
def oM (m : Nat) : Nat := m / 2 ^ tz m
def oE (m : Nat) (e : Int) : Int := if m = 0 then 0 else e + tz m
def oS (s : Bool) (m : Nat) : Bool := if m = 0 then false else s

theorem oM_zero : oM 0 = 0 := by simp [oM]
theorem oM_eq_zero {m : Nat} : oM m = 0 ↔ m = 0 := by
  constructor
  · intro h
    rcases Nat.eq_zero_or_pos m with h0 | h0
    · exact h0
    · have := (odd_part (n := m) (by omega)).1
      unfold oM at h; omega
  · rintro rfl; exact oM_zero
theorem oM_le (m : Nat) : oM m ≤ m := Nat.div_le_self _ _
theorem oM_mul {m : Nat} : oM m * 2 ^ tz m = m := by
  by_cases h : m = 0
  · subst h; simp [oM]
  · exact (odd_part h).2
theorem bl_oM {m : Nat} (h : m ≠ 0) : bl (oM m) + tz m = bl m := by
  have h1 := bl_mul_pow (n := oM m) (fun e => h (oM_eq_zero.1 e)) (tz m)
  rw [oM_mul] at h1; omega

end Go.Ab
namespace Go.Ab
set_option linter.unusedVariables false

theorem bl_next {q : Nat} {n : Nat} (hn : 1 ≤ n) (h : bl q ≤ n) : bl (q + 1) ≤ n + tz (q + 1) := by
  have h1 := bl_le.1 h
  rcases (by omega : q + 1 < 2 ^ n ∨ q + 1 = 2 ^ n) with h2 | h2
  · have := bl_le.2 h2; omega
  · have h3 : tz (q + 1) = n := tz_uniq (a := 0) (by omega)
    have h4 : bl (q + 1) ≤ n + 1 := bl_le.2 (by rw [h2, Nat.pow_succ]; have := Nat.pow_pos (n := n) (show 0 < 2 by omega); omega)
    omega

theorem bl_shr (m k : Nat) : bl (m / 2 ^ k) ≤ bl m - k := by
  rcases Nat.lt_or_ge m (2 ^ k) with h | h
  · rw [Nat.div_eq_of_lt h, bl_zero]; omega
  · have := bl_div h; omega

/-- A number that is rounded to 53 bits has a float's form. -/
theorem rnd_form {s : Bool} {m k : Nat} {mode : Int} (h : bl m ≤ 53 + k) : bl (rq s m (2 ^ k) mode) ≤ 53 + tz (rq s m (2 ^ k) mode) := by
  have h1 : bl (m / 2 ^ k) ≤ 53 := by have := bl_shr m k; omega
  have h2 := bl_next (by omega) h1
  unfold rq
  split
  · omega
  · split
    · exact h2
    · omega

/-- Is a row of limbs a number in its one form? -/
def natB (xs : List Int) : Bool := decide (xs.length ≤ 100) && (xs.all (fun x => decide (0 ≤ x) && decide (x ≤ 65535)) && (decide (xs.length = 0) || decide (xs.getD (xs.length - 1) 0 ≠ 0)))
/-- Is a whole number in its one form? -/
def wholeB (s : Bool) (xs : List Int) : Bool := natB xs && !(s && decide (xs.length = 0))
/-- Is a dyadic number in its one form? -/
def dyB (s : Bool) (xs : List Int) (e : Int) : Bool :=
  wholeB s xs && ((decide (-3000 ≤ e) && decide (e ≤ 3000)) && (decide ((vl xs).toNat % 2 = 1) || (decide (xs.length = 0) && decide (e = 0))))

end Go.Ab
namespace Go.Ab
open Go Go.Proofs
set_option linter.unusedVariables false
set_option linter.unusedSimpArgs false

theorem con_l2norm (cl : Bool) (xs : List Int) (m : Nat) (hl : xs.length ≤ 2 ^ 39) (hx : gd xs) (hv : vl xs = (m : Int)) : Con Tryd.prog 112 cl [.sl xs.length (ints xs)] [] (natR m) := by
  refine Con.of_aw Tryd.func112 rfl Tryd.ntmps112 (by simp) (by simp) (by simp) (W.sound ?_)
  show @W Tryd.prog 24 ⟨_⟩ ⟨fun x σ => @retW _ _ _ ⟨_⟩ _ ⟨_⟩ x σ⟩ _ _
  simp (disch := omega) only [go_sem]
  have hcz : cutZ xs = lim m := by rw [cutZ_lim hx, hv, Int.toNat_natCast]
  refine loop_intro (fun k : Nat => [(0, .sl xs.length (ints xs)), (2, .pt 40000000 0), (3, .v (.int .i64 k))]) (fun _ => [(40000000, .own 0 [.v (.slice none 0 0)])]) (fun k => k ≤ xs.length ∧ cutZ (xs.take k) = cutZ xs) id xs.length ⟨Nat.le_refl _, by simp⟩
    (Le.lst [] _ _ rfl (by simp (disch := omega) only [go_sem]) (by simp (disch := omega) only [go_sem])) ?_
  intro k ⟨hk, hc⟩
  have hkx : ∀ j, j + 1 = k → xs.take k = xs.take j ++ [xs.getD j 0] := fun j hj => by rw [← hj]; exact take_succ' (by omega)
  simp (disch := omega) only [go_sem]
  refine ifW_dec (fun h1 => ?_) (fun h1 => ?_)
  · obtain ⟨j, rfl⟩ : ∃ j, k = j + 1 := ⟨k - 1, by omega⟩
    have e1 : ((j + 1 : Nat) : Int) - 1 = (j : Nat) := by omega
    rw [hkx j rfl] at hc
    simp (disch := omega) only [go_sem, h1, e1]
    refine ⟨by omega, by omega, ifW_dec (fun h2 => ?_) (fun h2 => ?_)⟩
    · simp (disch := omega) only [go_sem, h2, e1]
      rw [h2, cutZ_zero] at hc
      exact next_intro j [] ⟨by omega, hc⟩ (by show j < j + 1; omega) rfl (by simp (disch := omega) only [go_sem]; try omega) (by simp (disch := omega) only [go_sem])
    · rw [cutZ_ne _ h2, ← hkx j rfl, hcz] at hc
      have hlm : j + 1 = (lim m).length := by rw [← hc, List.length_take]; omega
      have e0 : (((j + 1 : Nat) : Int) - 0).toNat = (lim m).length := by omega
      rw [hlm] at hc
      simp (disch := omega) only [go_sem, h2, e0, hc]
      refine ⟨by omega, by omega, ?_⟩
      refine fin_intro [(0, 240000000)] [.own 1 (ints (lim m))] [] [.ag [.rf 0 0 (lim m).length]] rfl (by simp (disch := omega) only [go_sem]) (by simp (disch := omega) only [go_sem]) (by simp) (by intro _; simp [tupA, AV.pu, AV.pu.puL, Ob.pu, pu_ints]) (.inr ⟨[], rfl, by rw [List.append_nil]⟩)
  · have hlm : k = (lim m).length := by
      have : k = 0 := by omega
      rw [← hcz, ← hc, this]; rfl
    subst hlm
    have hc : xs.take (lim m).length = lim m := by
      have : lim m = [] := List.length_eq_zero_iff.1 (by omega)
      rw [this]; simp
    have e0 : (((lim m).length : Int) - 0).toNat = (lim m).length := by omega
    simp (disch := omega) only [go_sem, h1, e0, hc]
    refine ⟨by omega, by omega, ?_⟩
    refine fin_intro [(0, 240000000)] [.own 1 (ints (lim m))] [] [.ag [.rf 0 0 (lim m).length]] rfl (by simp (disch := omega) only [go_sem]) (by simp (disch := omega) only [go_sem]) (by simp) (by intro _; simp [tupA, AV.pu, AV.pu.puL, Ob.pu, pu_ints]) (.inr ⟨[], rfl, by rw [List.append_nil]⟩)

theorem con_l2of (cl : Bool) (n : Nat) (hn : n < 2 ^ 63) : Con Tryd.prog 72 cl [.v (.int .i64 n)] [] (natR n) := by
  refine Con.of_aw Tryd.func72 rfl Tryd.ntmps72 (by simp) (by simp) (by simp) (W.sound ?_)
  show @W Tryd.prog 15 ⟨_⟩ ⟨fun x σ => @retW _ _ _ ⟨_⟩ _ ⟨_⟩ x σ⟩ _ _
  simp (disch := omega) only [go_sem]
  refine loop_intro (fun x : Nat × List Int => [(0, .v (.int .i64 x.1)), (2, .pt 2 0), (3, .rf 1 0 x.2.length)]) (fun x => [(1, .own 1 (ints x.2)), (2, .own 0 [.v (.slice none 0 0)])]) (fun x => x.1 < 2 ^ 63 ∧ x.2 ++ lim x.1 = lim n) (fun x => x.1) (n, []) ⟨hn, rfl⟩
    ((Le.ghost 3 1 1 (by simp (disch := omega) only [go_sem]) (by simp (disch := omega) only [go_sem])).trans (Le.lst [(2, 40000000)] _ _ rfl (by simp (disch := omega) only [go_sem]) (by simp (disch := omega) only [go_sem]))) ?_
  rintro ⟨k, l⟩ ⟨hk, hl⟩
  dsimp only at hk hl ⊢
  have hlen : l.length ≤ 4 := by
    have h1 := congrArg List.length hl
    have h2 := lim_len (n := n) (k := 4) |>.2 (by omega)
    rw [List.length_append] at h1; omega
  simp (disch := omega) only [go_sem]
  refine ifW_dec (fun h1 => ?_) (fun h1 => ?_)
  · simp (disch := omega) only [go_sem, h1]
    have hk0 : k ≠ 0 := by omega
    refine ⟨by omega, next_intro (k / 65536, l ++ [(k : Int) % 65536]) [(1, 120000000)] ⟨by show k / 65536 < 2 ^ 63; omega, ?_⟩ (by show k / 65536 < k; omega) rfl (by simp (disch := omega) only [go_sem, List.length_append]; try omega) (by simp (disch := omega) only [go_sem])⟩
    rw [lim_pos hk0] at hl
    rw [← hl, List.append_assoc]; rfl
  · simp (disch := omega) only [go_sem, h1]
    have hk0 : k = 0 := by omega
    subst hk0
    rw [lim_zero, List.append_nil] at hl
    subst hl
    refine fin_intro [(0, 1)] [.own 1 (ints (lim n ++ []))] [] [.ag [.rf 0 0 (lim n).length]] rfl (by simp (disch := omega) only [go_sem]) (by simp (disch := omega) only [go_sem]) (by simp) (by intro _; simp [tupA, AV.pu, AV.pu.puL, Ob.pu, pu_ints]) (.inr ⟨[], rfl, rfl⟩)
end Go.Ab
namespace Go.Ab
open Go Go.Proofs
set_option linter.unusedVariables false
set_option linter.unusedSimpArgs false

theorem con_trim (xs : List Int) (hl : xs.length ≤ 2 ^ 40) : Con Tryd.prog 113 false [.rf 10000000 0 xs.length] [.own 1 (ints xs)] (fun r hs bs => r = .rf 10000000 0 (cutZ xs).length ∧ hs = [] ∧ bs = [.own 1 (ints xs)]) := by
  refine Con.of_aw Tryd.func113 rfl Tryd.ntmps113 (by simp) (by simp) (by simp) (W.sound ?_)
  show @W Tryd.prog 21 ⟨_⟩ ⟨fun x σ => @retW _ _ _ ⟨_⟩ _ ⟨_⟩ x σ⟩ _ _
  simp (disch := omega) only [go_sem]
  refine loop_intro (fun m : Nat => [(0, .rf 10000000 0 m)]) (fun _ => [(10000000, .own 1 (ints xs))]) (fun m => m ≤ xs.length ∧ cutZ (xs.take m) = cutZ xs) id xs.length ⟨Nat.le_refl _, by simp⟩
    (Le.lst [] _ _ rfl (by simp (disch := omega) only [go_sem]; try omega) (by simp (disch := omega) only [go_sem])) ?_
  intro m ⟨hm, hx⟩
  have hmx : ∀ k, k + 1 = m → xs.take m = xs.take k ++ [xs.getD k 0] := fun k hk => by rw [← hk]; exact take_succ' (by omega)
  simp (disch := omega) only [go_sem]
  refine ifW_dec (fun h1 => ?_) (fun h1 => ?_)
  · obtain ⟨k, rfl⟩ : ∃ k, m = k + 1 := ⟨m - 1, by omega⟩
    have e1 : ((k + 1 : Nat) : Int) - 1 = (k : Nat) := by omega
    rw [hmx k rfl] at hx
    simp (disch := omega) only [go_sem, h1, e1]
    refine ⟨by omega, by omega, ifW_dec (fun h2 => ?_) (fun h2 => ?_)⟩
    · simp (disch := omega) only [go_sem, h2, e1]
      rw [h2, cutZ_zero] at hx
      refine ⟨by omega, next_intro k [] ⟨by omega, hx⟩ (by show k < k + 1; omega) rfl (by simp (disch := omega) only [go_sem]; try omega) (by simp (disch := omega) only [go_sem])⟩
    · simp (disch := omega) only [go_sem, h2]
      refine fin_intro [] [] [.own 1 (ints xs)] [.rf 10000000 0 (k + 1)] rfl (by simp (disch := omega) only [go_sem]) (by simp (disch := omega) only [go_sem]) (by simp) (by simp) ⟨?_, rfl, rfl⟩
      rw [cutZ_ne _ h2, ← hmx k rfl] at hx
      rw [← hx, List.length_take, Nat.min_eq_left hm]; rfl
  · simp (disch := omega) only [go_sem, h1]
    refine fin_intro [] [] [.own 1 (ints xs)] [.rf 10000000 0 m] rfl (by simp (disch := omega) only [go_sem]) (by simp (disch := omega) only [go_sem]) (by simp) (by simp) ⟨?_, rfl, rfl⟩
    have : m = 0 := by omega
    subst this
    rw [← hx]; rfl
end Go.Ab
namespace Go.Ab
open Go Go.Proofs
set_option linter.unusedVariables false
set_option linter.unusedSimpArgs false

theorem mul_lim {x y : Int} (hx : 0 ≤ x ∧ x < 65536) (hy : 0 ≤ y ∧ y < 65536) : 0 ≤ x * y ∧ x * y ≤ 4294836225 := by
  have h1 := Int.mul_nonneg hx.1 hy.1
  have h2 : x * y ≤ 65535 * 65535 := Int.mul_le_mul (by omega) (by omega) hy.1 (by omega)
  omega

theorem con_times (cl : Bool) (A B : List Int) (hA : gd A) (hB : gd B) (lA : A.length ≤ 1000000) (lB : B.length ≤ 1000000) :
    Con Tryd.prog 75 cl [.sl A.length (ints A), .sl B.length (ints B)] [] (numR (lim (vl A * vl B).toNat)) := by
  refine Con.of_aw Tryd.func75 rfl Tryd.ntmps75 (by simp) (by simp) (by simp) (W.sound ?_)
  show @W Tryd.prog 63 ⟨_⟩ ⟨fun x σ => @retW _ _ _ ⟨_⟩ _ ⟨_⟩ x σ⟩ _ _
  simp (disch := omega) only [go_sem]
  refine ⟨⟨by omega, by omega, by omega⟩, ?_⟩
  refine loop_intro (fun x : Nat × List Int => [(1, .sl B.length (ints B)), (5, .rf 180000000 0 (A.length + B.length)), (17, .sl A.length (ints A)), (18, .v (.int .i64 A.length)), (19, .v (.int .i64 x.1))])
    (fun x => [(180000000, .own 1 (ints x.2))])
    (fun x => x.1 ≤ A.length ∧ x.2.length = A.length + B.length ∧ gd x.2 ∧ vl x.2 = vl (A.take x.1) * vl B ∧ ∀ j, x.1 + B.length ≤ j → x.2.getD j 0 = 0)
    (fun x => A.length - x.1) (0, List.replicate (A.length + B.length) 0) ⟨by simp, by simp, gd_replicate _, by simp [vl_replicate, vl], fun j _ => by
      rw [List.getD_eq_getElem?_getD, List.getElem?_replicate]; split <;> rfl⟩
    (Le.lst [] _ _ rfl (by simp (disch := omega) only [go_sem]; try omega) (by simp (disch := omega) only [go_sem, show ((A.length : Int) + (B.length : Int)).toNat = A.length + B.length by omega])) ?_
  rintro ⟨i, out⟩ ⟨hi, hol, hog, hov, hoz⟩
  dsimp only at hi hol hog hov hoz ⊢
  simp (disch := omega) only [go_sem]
  refine ifW_dec (fun h1 => ?_) (fun h1 => ?_)
  · have hx := gd_getD hA i
    simp (disch := omega) only [go_sem, h1]
    refine ⟨by omega, by omega, ?_⟩
    refine loop_intro (fun x : Nat × List Int × Int => [(1, .sl B.length (ints B)), (5, .rf 180000000 0 (A.length + B.length)), (17, .sl A.length (ints A)), (18, .v (.int .i64 A.length)), (19, .v (.int .i64 i)), (6, .v (.int .i64 i)),
        (7, .v (.int .i64 (A.getD i 0))), (8, .v (.int .i64 x.2.2)), (24, .sl B.length (ints B)), (25, .v (.int .i64 B.length)), (26, .v (.int .i64 x.1))])
      (fun x => [(180000000, .own 1 (ints x.2.1))])
      (fun x => x.1 ≤ B.length ∧ x.2.1.length = A.length + B.length ∧ gd x.2.1 ∧ (0 ≤ x.2.2 ∧ x.2.2 < 65536) ∧ vl x.2.1 + 65536 ^ (i + x.1) * x.2.2 = vl out + 65536 ^ i * (A.getD i 0 * vl (B.take x.1)) ∧ ∀ j, i + B.length ≤ j → x.2.1.getD j 0 = 0)
      (fun x => B.length - x.1) (0, out, 0) ⟨by simp, hol, hog, by simp, by simp [vl], hoz⟩
      (Le.lst [] _ _ rfl (by simp (disch := omega) only [go_sem]; try omega) (by simp (disch := omega) only [go_sem])) ?_
    rintro ⟨j, o2, cy⟩ ⟨hj, hol2, hog2, hcy, hov2, hoz2⟩
    dsimp only at hj hol2 hog2 hcy hov2 hoz2 ⊢
    simp (disch := omega) only [go_sem]
    refine ifW_dec (fun h2 => ?_) (fun h2 => ?_)
    · have hy := gd_getD hB j
      have ho := gd_getD hog2 (i + j)
      have hxy := mul_lim hx hy
      have e1 : ((i : Int) + (j : Int)).toNat = i + j := by omega
      simp (disch := omega) only [go_sem, h2, e1]
      generalize hq : cy + (o2.getD (i + j) 0 + A.getD i 0 * B.getD j 0) = q
      refine ⟨by omega, by omega, by omega, by omega, by omega, by omega, next_intro (j + 1, o2.set (i + j) (q % 65536), q / 65536) [] ⟨by show j + 1 ≤ _; omega, by simp [hol2], gd_set hog2 (by omega), by show 0 ≤ q / 65536 ∧ q / 65536 < 65536; omega, ?_, fun k hk => ?_⟩
        (by show B.length - (j + 1) < B.length - j; omega) rfl (by simp (disch := omega) only [go_sem]; try omega) (by simp (disch := omega) only [go_sem])⟩
      · show vl (o2.set (i + j) (q % 65536)) + 65536 ^ (i + (j + 1)) * (q / 65536) = vl out + 65536 ^ i * (A.getD i 0 * vl (B.take (j + 1)))
        rw [vl_set (by omega), vl_take_succ (by omega), ← Nat.add_assoc, Int.pow_succ]
        have e2 : (65536 : Int) ^ (i + j) = 65536 ^ i * 65536 ^ j := Int.pow_add _ _ _
        have e3 : q % 65536 + 65536 * (q / 65536) = q := Int.emod_add_mul_ediv q 65536
        rw [e2] at hov2 ⊢
        generalize (65536 : Int) ^ i = Pi at *
        generalize (65536 : Int) ^ j = Pj at *
        grind
      · show (o2.set (i + j) (q % 65536)).getD k 0 = 0
        rw [List.getD_eq_getElem?_getD, List.getElem?_set_ne (by omega), ← List.getD_eq_getElem?_getD]
        exact hoz2 k hk
    · simp (disch := omega) only [go_sem, h2]
      have e1 : ((i : Int) + (B.length : Int)).toNat = i + B.length := by omega
      have hjB : j = B.length := by omega
      subst hjB
      rw [List.take_length] at hov2
      simp (disch := omega) only [go_sem, e1]
      refine ⟨by omega, by omega, next_intro (i + 1, o2.set (i + B.length) cy) [] ⟨by show i + 1 ≤ _; omega, by simp [hol2], gd_set hog2 hcy, ?_, fun k hk => ?_⟩ (by show A.length - (i + 1) < A.length - i; omega) rfl (by simp (disch := omega) only [go_sem]; try omega) (by simp (disch := omega) only [go_sem])⟩
      · show vl (o2.set (i + B.length) cy) = vl (A.take (i + 1)) * vl B
        rw [vl_set (by omega), hoz2 _ (Nat.le_refl _), vl_take_succ (by omega)]
        generalize (65536 : Int) ^ i = Pi at *
        grind
      · show (o2.set (i + B.length) cy).getD k 0 = 0
        rw [List.getD_eq_getElem?_getD, List.getElem?_set_ne (by show i + B.length ≠ k; omega), ← List.getD_eq_getElem?_getD]
        exact hoz2 k (by omega)
  · simp (disch := omega) only [go_sem, h1]
    have hiA : i = A.length := by omega
    subst hiA
    rw [List.take_length] at hov
    refine call_lend false [180000000] (con_trim out (by omega)) (by rw [← hol]; simp (disch := omega) only [go_sem]) (by simp (disch := omega) only [go_sem]) rfl (lend_cons (z := 1) (cs := ints out) (by simp (disch := omega) only [go_sem]) (by simp (disch := omega) only [go_sem])) (by intro n hn; exact ⟨_, List.mem_singleton.2 rfl, by rw [List.mem_singleton.1 hn]; rfl⟩) ?_
    rintro r hs bs ⟨rfl, rfl, rfl⟩ _
    refine ⟨by simp [freeN], ?_⟩
    simp (disch := omega) only [go_sem]
    obtain ⟨z, hz⟩ := cutZ_pre out
    have hc := cutZ_lim hog
    rw [hov] at hc
    rw [hc] at hz ⊢
    refine fin_intro [(0, 180000000)] [.own 1 (ints out)] [] [.rf 0 0 (lim (vl A * vl B).toNat).length] rfl (by simp (disch := omega) only [go_sem]) (by simp (disch := omega) only [go_sem]) (by simp) (by intro _; simp [tupA, AV.pu, AV.pu.puL, Ob.pu, pu_ints]) (.inr ⟨List.replicate z 0, rfl, by rw [← hz]⟩)
end Go.Ab
namespace Go.Ab
open Go Go.Proofs
set_option linter.unusedVariables false
set_option linter.unusedSimpArgs false

set_option maxRecDepth 100000 in
theorem con_l2add (cl : Bool) (a b : Nat) (la : (lim a).length ≤ 2000000) (lb : (lim b).length ≤ 2000000) : Con Tryd.prog 107 cl [.ag [.sl (lim (a)).length (ints (lim (a)))], .ag [.sl (lim (b)).length (ints (lim (b)))]] [] (natR (a + b)) := by
  refine Con.of_aw Tryd.func107 rfl Tryd.ntmps107 (by simp) (by simp) (by simp) (W.sound ?_)
  show @W Tryd.prog 61 ⟨_⟩ ⟨fun x σ => @retW _ _ _ ⟨_⟩ _ ⟨_⟩ x σ⟩ _ _
  simp (disch := omega) only [go_sem]
  have hA := gd_lim a
  have hB := gd_lim b
  refine loop_intro (fun x : Nat × List Int × Int => [(2, .pt 3 0), (3, .pt 4 0), (4, .pt 2 0), (5, .rf 1 0 x.2.1.length), (6, .v (.int .i64 x.2.2)), (7, .v (.int .i64 x.1))])
    (fun x => [(1, .own 1 (ints x.2.1)), (2, .own 0 [.v (.slice none 0 0)]), (3, .own 0 [.sl (lim (a)).length (ints (lim (a)))]), (4, .own 0 [.sl (lim (b)).length (ints (lim (b)))])])
    (fun x => x.1 ≤ max (lim a).length (lim b).length + 1 ∧ x.2.1.length = x.1 ∧ gd x.2.1 ∧ (0 ≤ x.2.2 ∧ x.2.2 ≤ 1) ∧ vl x.2.1 + 65536 ^ x.1 * x.2.2 = vl ((lim a).take x.1) + vl ((lim b).take x.1) ∧ (max (lim a).length (lim b).length < x.1 → x.2.2 = 0))
    (fun x => 2 * (max (lim a).length (lim b).length - x.1) + x.2.2.toNat) (0, [], 0) ⟨by simp, rfl, gd_nil, by simp, by simp [vl], fun h => rfl⟩
    ((Le.ghost 5 1 1 (by simp (disch := omega) only [go_sem]) (by simp (disch := omega) only [go_sem])).trans (Le.lst [(2, 60000000), (3, 40000000), (4, 50000000)] _ _ rfl (by simp (disch := omega) only [go_sem]) (by simp (disch := omega) only [go_sem]))) ?_
  rintro ⟨i, out, cy⟩ ⟨hi, hol, hog, hcy, hov, hcz⟩
  dsimp only at hi hol hog hcy hov hcz ⊢
  have hx := gd_getD hA i
  have hy := gd_getD hB i
  have hxz : ¬ (i : Int) < (lim a).length → (lim a).getD i 0 = 0 := fun h => by rw [List.getD_eq_getElem?_getD, List.getElem?_eq_none (by omega)]; rfl
  have hyz : ¬ (i : Int) < (lim b).length → (lim b).getD i 0 = 0 := fun h => by rw [List.getD_eq_getElem?_getD, List.getElem?_eq_none (by omega)]; rfl
  have hstep : ∀ q : Int, q = cy + (lim a).getD i 0 + (lim b).getD i 0 → vl (out ++ [q % 65536]) + 65536 ^ (i + 1) * (q / 65536) = vl ((lim a).take (i + 1)) + vl ((lim b).take (i + 1)) := by
    intro q hq
    rw [vl_snoc, vl_take_any, vl_take_any, hol, Int.pow_succ]
    have e3 : q % 65536 + 65536 * (q / 65536) = q := Int.emod_add_mul_ediv q 65536
    generalize (65536 : Int) ^ i = Pi at *
    grind
  have key : ∀ q : Int, q = cy + (lim a).getD i 0 + (lim b).getD i 0 → (i : Int) < (lim a).length ∨ (i : Int) < (lim b).length ∨ 0 < cy →
      ((i + 1 ≤ max (lim a).length (lim b).length + 1 ∧ (out ++ [q % 65536]).length = i + 1 ∧ gd (out ++ [q % 65536]) ∧ (0 ≤ q / 65536 ∧ q / 65536 ≤ 1) ∧ vl (out ++ [q % 65536]) + 65536 ^ (i + 1) * (q / 65536) = vl ((lim a).take (i + 1)) + vl ((lim b).take (i + 1)) ∧ (max (lim a).length (lim b).length < i + 1 → q / 65536 = 0)) ∧
      2 * (max (lim a).length (lim b).length - (i + 1)) + (q / 65536).toNat < 2 * (max (lim a).length (lim b).length - i) + cy.toNat) := by
    intro q hq hc
    have hle : i ≤ max (lim a).length (lim b).length := by
      rcases Nat.lt_or_ge (max (lim a).length (lim b).length) i with h | h
      · have := hcz h; omega
      · exact h
    have hbig : max (lim a).length (lim b).length < i + 1 → q / 65536 = 0 := fun h => by
      have := hxz (by omega)
      have := hyz (by omega)
      omega
    refine ⟨⟨by omega, by simp [hol], gd_append.2 ⟨hog, gd_one.2 (by omega)⟩, by omega, hstep q hq, hbig⟩, ?_⟩
    by_cases hm : max (lim a).length (lim b).length < i + 1
    · have := hbig hm; omega
    · omega
  by_cases h1 : (i : Int) < (lim a).length <;> by_cases h2 : (i : Int) < (lim b).length
  · simp (disch := omega) only [go_sem, h1, h2]
    obtain ⟨k1, k2⟩ := key _ rfl (.inl h1)
    refine ⟨by omega, by omega, by omega, by omega, by omega, next_intro (i + 1, out ++ [(cy + (lim a).getD i 0 + (lim b).getD i 0) % 65536], (cy + (lim a).getD i 0 + (lim b).getD i 0) / 65536) [(1, 580000000)] k1 k2 rfl (by simp (disch := omega) only [go_sem, List.length_append]; try omega) (by simp (disch := omega) only [go_sem])⟩
  · simp (disch := omega) only [go_sem, h1, h2]
    have e0 : cy + (lim a).getD i 0 = cy + (lim a).getD i 0 + (lim b).getD i 0 := by rw [hyz h2]; omega
    obtain ⟨k1, k2⟩ := key (cy + (lim a).getD i 0) e0 (.inl h1)
    refine ⟨by omega, by omega, by omega, next_intro (i + 1, out ++ [(cy + (lim a).getD i 0) % 65536], (cy + (lim a).getD i 0) / 65536) [(1, 580000000)] k1 k2 rfl (by simp (disch := omega) only [go_sem, List.length_append]; try omega) (by simp (disch := omega) only [go_sem])⟩
  · simp (disch := omega) only [go_sem, h1, h2]
    have e0 : cy + (lim b).getD i 0 = cy + (lim a).getD i 0 + (lim b).getD i 0 := by rw [hxz h1]; omega
    obtain ⟨k1, k2⟩ := key (cy + (lim b).getD i 0) e0 (.inr (.inl h2))
    refine ⟨by omega, by omega, by omega, next_intro (i + 1, out ++ [(cy + (lim b).getD i 0) % 65536], (cy + (lim b).getD i 0) / 65536) [(1, 580000000)] k1 k2 rfl (by simp (disch := omega) only [go_sem, List.length_append]; try omega) (by simp (disch := omega) only [go_sem])⟩
  · by_cases h3 : 0 < cy
    · simp (disch := omega) only [go_sem, h1, h2, h3]
      have e0 : cy = cy + (lim a).getD i 0 + (lim b).getD i 0 := by rw [hxz h1, hyz h2]; omega
      obtain ⟨k1, k2⟩ := key cy e0 (.inr (.inr h3))
      refine ⟨by omega, next_intro (i + 1, out ++ [cy % 65536], cy / 65536) [(1, 580000000)] k1 k2 rfl (by simp (disch := omega) only [go_sem, List.length_append]; try omega) (by simp (disch := omega) only [go_sem])⟩
    · have hcy0 : cy = 0 := by omega
      have hov2 : vl out = ((a + b : Nat) : Int) := by
        rw [List.take_of_length_le (by omega), List.take_of_length_le (by omega), vl_lim, vl_lim, hcy0] at hov
        simp at hov; omega
      simp (disch := omega) only [go_sem, h1, h2, h3]
      refine call_closed (con_l2norm true out (a + b) (by omega) hog hov2) (by simp (disch := omega) only [go_sem]) ?_
      rintro r hs (⟨h0, rfl, rfl⟩ | ⟨zs, rfl, rfl⟩)
      · refine ⟨⟨by simp, by simp (disch := omega) only [go_sem]⟩, ?_⟩
        simp (disch := omega) only [go_sem]
        refine fin_intro [] [] [] [.ag [.v (.slice none 0 0)]] rfl (by simp (disch := omega) only [go_sem]) (by simp (disch := omega) only [go_sem]) (by simp) (by intro _; simp [tupA, AV.pu, AV.pu.puL, Ob.pu, pu_ints]) (.inl ⟨h0, rfl, rfl⟩)
      · refine ⟨⟨by simp, by simp (disch := omega) only [go_sem]⟩, ?_⟩
        simp (disch := omega) only [go_sem]
        refine fin_intro [(0, 620000000)] [.own 1 (ints (lim (a + b) ++ zs))] [] [.ag [.rf 0 0 (lim (a + b)).length]] rfl (by simp (disch := omega) only [go_sem]) (by simp (disch := omega) only [go_sem]) (by simp) (by intro _; simp [tupA, AV.pu, AV.pu.puL, Ob.pu, pu_ints]) (.inr ⟨zs, rfl, rfl⟩)
end Go.Ab
namespace Go.Ab
open Go Go.Proofs
set_option linter.unusedVariables false
set_option linter.unusedSimpArgs false

set_option maxRecDepth 100000 in
theorem con_l2mulL (cl : Bool) (A : List Int) (hA : gd A) (b : Nat) (lA : A.length ≤ 1000000) (lB : (lim b).length ≤ 1000000) (m : Nat) (hm : vl A * (b : Int) = (m : Int)) :
    Con Tryd.prog 108 cl [.ag [.sl A.length (ints A)], .ag [.sl (lim (b)).length (ints (lim (b)))]] [] (natR m) := by
  refine Con.of_aw Tryd.func108 rfl Tryd.ntmps108 (by simp) (by simp) (by simp) (W.sound ?_)
  show @W Tryd.prog 80 ⟨_⟩ ⟨fun x σ => @retW _ _ _ ⟨_⟩ _ ⟨_⟩ x σ⟩ _ _
  have hvb := vl_lim b
  have hB := gd_lim b
  generalize lim b = B at *
  simp (disch := omega) only [go_sem]
  refine ⟨by omega, ?_⟩
  refine loop_intro (fun x : Nat × List Int => [(2, .pt 0 0), (3, .pt 1 0), (4, .pt 2 0), (5, .rf 3 0 (A.length + B.length)), (6, .v (.int .i64 x.1))])
    (fun x => [(0, .own 0 [.sl A.length (ints A)]), (1, .own 0 [.sl B.length (ints B)]), (2, .own 0 [.v (.slice none 0 0)]), (3, .own 1 (ints x.2))])
    (fun x => x.1 ≤ A.length ∧ x.2.length = A.length + B.length ∧ gd x.2 ∧ vl x.2 = vl (A.take x.1) * vl B ∧ ∀ j, x.1 + B.length ≤ j → x.2.getD j 0 = 0)
    (fun x => A.length - x.1) (0, List.replicate (A.length + B.length) 0) ⟨by simp, by simp, gd_replicate _, by simp [vl_replicate, vl], fun j _ => by
      rw [List.getD_eq_getElem?_getD, List.getElem?_replicate]; split <;> rfl⟩
    (Le.lst [(0, 40000000), (1, 50000000), (2, 60000000), (3, 190000000)] _ _ rfl (by simp (disch := omega) only [go_sem]; try omega) (by simp (disch := omega) only [go_sem, show ((A.length : Int) + (B.length : Int)).toNat = A.length + B.length by omega])) ?_
  rintro ⟨i, out⟩ ⟨hi, hol, hog, hov, hoz⟩
  dsimp only at hi hol hog hov hoz ⊢
  simp (disch := omega) only [go_sem]
  refine ifW_dec (fun h1 => ?_) (fun h1 => ?_)
  · have hx := gd_getD hA i
    simp (disch := omega) only [go_sem, h1]
    refine loop_intro (fun x : Nat × List Int × Int => [(2, .pt 0 0), (3, .pt 1 0), (4, .pt 2 0), (5, .rf 3 0 (A.length + B.length)), (6, .v (.int .i64 i)), (7, .v (.int .i64 x.2.2)), (8, .v (.int .i64 x.1))])
      (fun x => [(0, .own 0 [.sl A.length (ints A)]), (1, .own 0 [.sl B.length (ints B)]), (2, .own 0 [.v (.slice none 0 0)]), (3, .own 1 (ints x.2.1))])
      (fun x => x.1 ≤ B.length ∧ x.2.1.length = A.length + B.length ∧ gd x.2.1 ∧ (0 ≤ x.2.2 ∧ x.2.2 < 65536) ∧ vl x.2.1 + 65536 ^ (i + x.1) * x.2.2 = vl out + 65536 ^ i * (A.getD i 0 * vl (B.take x.1)) ∧ ∀ j, i + B.length ≤ j → x.2.1.getD j 0 = 0)
      (fun x => B.length - x.1) (0, out, 0) ⟨by simp, hol, hog, by simp, by simp [vl], hoz⟩
      (Le.lst [] _ _ rfl (by simp (disch := omega) only [go_sem]; try omega) (by simp (disch := omega) only [go_sem])) ?_
    rintro ⟨j, o2, cy⟩ ⟨hj, hol2, hog2, hcy, hov2, hoz2⟩
    dsimp only at hj hol2 hog2 hcy hov2 hoz2 ⊢
    simp (disch := omega) only [go_sem]
    refine ifW_dec (fun h2 => ?_) (fun h2 => ?_)
    · have hy := gd_getD hB j
      have ho := gd_getD hog2 (i + j)
      have hxy := mul_lim hx hy
      have e1 : ((i : Int) + (j : Int)).toNat = i + j := by omega
      simp (disch := omega) only [go_sem, h2]
      refine draw_of rfl [⟨0, [], []⟩, ⟨1, [], []⟩, ⟨2, [], []⟩, ⟨3, [], []⟩, ⟨4, [], []⟩, ⟨5, [], []⟩, ⟨6, [5], []⟩, ⟨7, [5], []⟩, ⟨8, [5, 7], []⟩, ⟨9, [5], []⟩, ⟨10, [5], []⟩, ⟨11, [5, 7, 10], []⟩, ⟨12, [5, 7, 10], []⟩, ⟨13, [5, 7, 10, 12], []⟩, ⟨14, [5, 7, 10], []⟩, ⟨15, [5, 7, 10], []⟩, ⟨16, [5], []⟩, ⟨17, [], []⟩, ⟨18, [5, 7, 10, 12, 15], []⟩, ⟨19, [], []⟩, ⟨20, [], []⟩] (by kernel_rfl) ?_
      simp (disch := omega) only [go_sem, e1]
      generalize hq : o2.getD (i + j) 0 + A.getD i 0 * B.getD j 0 + cy = q
      refine ⟨by omega, by omega, by omega, by omega, by omega, by omega, by omega, by omega, next_intro (j + 1, o2.set (i + j) (q % 65536), q / 65536) [] ⟨by show j + 1 ≤ _; omega, by simp [hol2], gd_set hog2 (by omega), by show 0 ≤ q / 65536 ∧ q / 65536 < 65536; omega, ?_, fun k hk => ?_⟩
        (by show B.length - (j + 1) < B.length - j; omega) rfl (by simp (disch := omega) only [go_sem]; try omega) (by simp (disch := omega) only [go_sem])⟩
      · show vl (o2.set (i + j) (q % 65536)) + 65536 ^ (i + (j + 1)) * (q / 65536) = vl out + 65536 ^ i * (A.getD i 0 * vl (B.take (j + 1)))
        rw [vl_set (by omega), vl_take_succ (by omega), ← Nat.add_assoc, Int.pow_succ]
        have e2 : (65536 : Int) ^ (i + j) = 65536 ^ i * 65536 ^ j := Int.pow_add _ _ _
        have e3 : q % 65536 + 65536 * (q / 65536) = q := Int.emod_add_mul_ediv q 65536
        rw [e2] at hov2 ⊢
        generalize (65536 : Int) ^ i = Pi at *
        generalize (65536 : Int) ^ j = Pj at *
        grind
      · show (o2.set (i + j) (q % 65536)).getD k 0 = 0
        rw [List.getD_eq_getElem?_getD, List.getElem?_set_ne (by omega), ← List.getD_eq_getElem?_getD]
        exact hoz2 k hk
    · simp (disch := omega) only [go_sem, h2]
      have e1 : ((i : Int) + (B.length : Int)).toNat = i + B.length := by omega
      have hjB : j = B.length := by omega
      subst hjB
      rw [List.take_length] at hov2
      have hz := hoz2 (i + B.length) (Nat.le_refl _)
      refine draw_of rfl [⟨0, [], []⟩, ⟨1, [], []⟩, ⟨2, [], []⟩, ⟨3, [], []⟩, ⟨4, [], []⟩, ⟨5, [], []⟩, ⟨6, [3], []⟩, ⟨7, [3], []⟩, ⟨8, [3], []⟩, ⟨9, [3], []⟩, ⟨10, [3], []⟩, ⟨11, [3], []⟩, ⟨12, [3], []⟩, ⟨13, [3], []⟩, ⟨14, [3, 9, 13], []⟩, ⟨15, [3], []⟩, ⟨16, [], []⟩, ⟨17, [], []⟩] (by kernel_rfl) ?_
      simp (disch := omega) only [go_sem, e1, hz]
      have e0 : (0 : Int) + cy = cy := by omega
      refine ⟨by omega, by omega, by omega, by omega, next_intro (i + 1, o2.set (i + B.length) cy) [] ⟨by show i + 1 ≤ _; omega, by simp [hol2], gd_set hog2 hcy, ?_, fun k hk => ?_⟩ (by show A.length - (i + 1) < A.length - i; omega) rfl (by simp (disch := omega) only [go_sem]; try omega) (by simp (disch := omega) only [go_sem, e0])⟩
      · show vl (o2.set (i + B.length) cy) = vl (A.take (i + 1)) * vl B
        rw [vl_set (by omega), hz, vl_take_succ (by omega)]
        generalize (65536 : Int) ^ i = Pi at *
        grind
      · show (o2.set (i + B.length) cy).getD k 0 = 0
        rw [List.getD_eq_getElem?_getD, List.getElem?_set_ne (by show i + B.length ≠ k; omega), ← List.getD_eq_getElem?_getD]
        exact hoz2 k (by omega)
  · simp (disch := omega) only [go_sem, h1]
    have hiA : i = A.length := by omega
    subst hiA
    rw [List.take_length, hvb, hm] at hov
    rw [← hol]
    refine call_closed (con_l2norm true (out) (m) (by omega) (hog) (hov)) (by simp (disch := omega) only [go_sem]) ?_
    rintro r hs (⟨h0, rfl, rfl⟩ | ⟨zs, rfl, rfl⟩)
    · refine ⟨⟨by simp, by simp (disch := omega) only [go_sem]⟩, ?_⟩
      simp (disch := omega) only [go_sem]
      refine fin_intro [] [] [] [.ag [.v (.slice none 0 0)]] rfl (by simp (disch := omega) only [go_sem]) (by simp (disch := omega) only [go_sem]) (by simp) (by intro _; simp [tupA, AV.pu, AV.pu.puL, Ob.pu, pu_ints]) (.inl ⟨h0, rfl, rfl⟩)
    · refine ⟨⟨by simp, by simp (disch := omega) only [go_sem]⟩, ?_⟩
      simp (disch := omega) only [go_sem]
      refine fin_intro [(0, 810000000)] [.own 1 (ints (lim (m) ++ zs))] [] [.ag [.rf 0 0 (lim (m)).length]] rfl (by simp (disch := omega) only [go_sem]) (by simp (disch := omega) only [go_sem]) (by simp) (by intro _; simp [tupA, AV.pu, AV.pu.puL, Ob.pu, pu_ints]) (.inr ⟨zs, rfl, rfl⟩)

theorem con_l2mul (cl : Bool) (a b : Nat) (la : (lim a).length ≤ 1000000) (lb : (lim b).length ≤ 1000000) : Con Tryd.prog 108 cl [.ag [.sl (lim (a)).length (ints (lim (a)))], .ag [.sl (lim (b)).length (ints (lim (b)))]] [] (natR (a * b)) :=
  con_l2mulL cl (lim a) (gd_lim a) b la lb (a * b) (by rw [vl_lim, Int.natCast_mul])
end Go.Ab
namespace Go.Ab
open Go Go.Proofs
set_option linter.unusedVariables false
set_option linter.unusedSimpArgs false

theorem pow_le_15 (k : Nat) (h : k < 16) : (0 : Int) < 2 ^ k ∧ (2 : Int) ^ k ≤ 32768 := by
  have : ∀ k, k < 16 → (0 : Int) < 2 ^ k ∧ (2 : Int) ^ k ≤ 32768 := by decide
  exact this k h

theorem mul_shift {x : Int} (hx : 0 ≤ x ∧ x < 65536) {k : Nat} (hk : k < 16) : 0 ≤ x * 2 ^ k ∧ x * 2 ^ k ≤ 2147450880 := by
  obtain ⟨h1, h2⟩ := pow_le_15 k hk
  have h3 := Int.mul_nonneg hx.1 (Int.le_of_lt h1)
  have h4 : x * 2 ^ k ≤ 65535 * 32768 := Int.mul_le_mul (by omega) h2 (by omega) (by omega)
  omega

theorem pow_split (k : Nat) : (65536 : Int) ^ (k / 16) * 2 ^ (k % 16) = 2 ^ k := by
  have e : (65536 : Int) = 2 ^ 16 := by decide
  rw [e, ← Int.pow_mul, ← Int.pow_add, Nat.div_add_mod]

theorem con_up (cl : Bool) (A : List Int) (k : Nat) (hA : gd A) (lA : A.length ≤ 1000000) (hk : k ≤ 100000000) :
    Con Tryd.prog 114 cl [.sl A.length (ints A), .v (.int .i64 k)] [] (numR (lim (vl A * 2 ^ k).toNat)) := by
  refine Con.of_aw Tryd.func114 rfl Tryd.ntmps114 (by simp) (by simp) (by simp) (W.sound ?_)
  show @W Tryd.prog 46 ⟨_⟩ ⟨fun x σ => @retW _ _ _ ⟨_⟩ _ ⟨_⟩ x σ⟩ _ _
  simp (disch := omega) only [go_sem]
  refine ifW_dec (fun h0 => ?_) (fun h0 => ?_)
  · simp (disch := omega) only [go_sem, h0]
    have : A = [] := List.length_eq_zero_iff.1 (by omega)
    subst this
    refine fin_intro [] [] [] [.v (.slice none 0 0)] rfl (by simp (disch := omega) only [go_sem]) (by simp (disch := omega) only [go_sem]) (by simp) (by intro _; simp [tupA, AV.pu, AV.pu.puL, Ob.pu, pu_ints]) (.inl ⟨by simp [vl, lim_zero], rfl, rfl⟩)
  · simp (disch := omega) only [go_sem, h0]
    refine ⟨by omega, ?_⟩
    have e16 : ((k : Int) / 16).toNat = k / 16 := by omega
    refine loop_intro (fun x : Nat × List Int × Int => [(1, .v (.int .i64 k)), (5, .rf 1 0 x.2.1.length), (6, .v (.int .i64 x.2.2)), (21, .sl A.length (ints A)), (22, .v (.int .i64 A.length)), (23, .v (.int .i64 x.1))])
      (fun x => [(1, .own 1 (ints x.2.1))])
      (fun x => x.1 ≤ A.length ∧ x.2.1.length = k / 16 + x.1 ∧ gd x.2.1 ∧ (0 ≤ x.2.2 ∧ x.2.2 < 65536) ∧ vl x.2.1 + 65536 ^ (k / 16 + x.1) * x.2.2 = 65536 ^ (k / 16) * 2 ^ (k % 16) * vl (A.take x.1))
      (fun x => A.length - x.1) (0, List.replicate (k / 16) 0, 0) ⟨by simp, by simp, gd_replicate _, by simp, by simp [vl, vl_replicate]⟩
      (Le.lst [(1, 220000000)] _ _ rfl (by simp (disch := omega) only [go_sem, List.length_replicate, e16]) (by simp (disch := omega) only [go_sem, e16])) ?_
    rintro ⟨i, out, cy⟩ ⟨hi, hol, hog, hcy, hov⟩
    dsimp only at hi hol hog hcy hov ⊢
    simp (disch := omega) only [go_sem]
    refine ifW_dec (fun h1 => ?_) (fun h1 => ?_)
    · have hx := gd_getD hA i
      have hxs := mul_shift hx (show k % 16 < 16 by omega)
      have em : min ((k : Int) % 16).toNat 64 = k % 16 := by omega
      simp (disch := omega) only [go_sem, h1, em]
      generalize hq : cy + A.getD i 0 * 2 ^ (k % 16) = q
      refine ⟨by omega, by omega, by omega, by omega, next_intro (i + 1, out ++ [q % 65536], q / 65536) [(1, 390000000)] ⟨by show i + 1 ≤ _; omega, by simp [hol]; omega, gd_append.2 ⟨hog, gd_one.2 (by omega)⟩, by show 0 ≤ q / 65536 ∧ q / 65536 < 65536; omega, ?_⟩ (by show A.length - (i + 1) < A.length - i; omega) rfl (by simp (disch := omega) only [go_sem, List.length_append]; try omega) (by simp (disch := omega) only [go_sem])⟩
      show vl (out ++ [q % 65536]) + 65536 ^ (k / 16 + (i + 1)) * (q / 65536) = 65536 ^ (k / 16) * 2 ^ (k % 16) * vl (A.take (i + 1))
      rw [vl_snoc, vl_take_any, hol, ← Nat.add_assoc, Int.pow_succ]
      have e3 : q % 65536 + 65536 * (q / 65536) = q := Int.emod_add_mul_ediv q 65536
      rw [Int.pow_add] at hov ⊢
      generalize (65536 : Int) ^ i = Pi at *
      generalize (65536 : Int) ^ (k / 16) = Pk at *
      generalize (2 : Int) ^ (k % 16) = Pm at *
      grind
    · simp (disch := omega) only [go_sem, h1]
      have hiA : i = A.length := by omega
      subst hiA
      rw [List.take_length, pow_split] at hov
      have hov2 : vl (out ++ [cy]) = vl A * 2 ^ k := by rw [vl_snoc, hol, hov]; grind
      have hog2 : gd (out ++ [cy]) := gd_append.2 ⟨hog, gd_one.2 hcy⟩
      refine ⟨by omega, ?_⟩
      have hl2 : out.length + 1 = (out ++ [cy]).length := by simp
      rw [hl2]
      refine call_lend false [460000000] (con_trim (out ++ [cy]) (by simp; omega)) (by simp (disch := omega) only [go_sem]) (by simp (disch := omega) only [go_sem]) rfl (lend_cons (z := 1) (cs := ints (out ++ [cy])) (by simp (disch := omega) only [go_sem]) (by simp (disch := omega) only [go_sem])) (by intro n hn; exact ⟨_, List.mem_singleton.2 rfl, by rw [List.mem_singleton.1 hn]; rfl⟩) ?_
      rintro r hs bs ⟨rfl, rfl, rfl⟩ _
      refine ⟨by simp [freeN], ?_⟩
      simp (disch := omega) only [go_sem]
      obtain ⟨z, hz⟩ := cutZ_pre (out ++ [cy])
      have hc := cutZ_lim hog2
      rw [hov2] at hc
      rw [hc] at hz ⊢
      refine fin_intro [(0, 460000000)] [.own 1 (ints (out ++ [cy]))] [] [.rf 0 0 (lim (vl A * 2 ^ k).toNat).length] rfl (by simp (disch := omega) only [go_sem]) (by simp (disch := omega) only [go_sem]) (by simp) (by intro _; simp [tupA, AV.pu, AV.pu.puL, Ob.pu, pu_ints]) (.inr ⟨List.replicate z 0, rfl, by rw [← hz]⟩)
end Go.Ab
namespace Go.Ab
open Go Go.Proofs
set_option linter.unusedVariables false
set_option linter.unusedSimpArgs false

theorem drop_set {l : List Int} {i : Nat} (h : i < l.length) (z : Int) : (l.set i z).drop i = z :: l.drop (i + 1) := by
  rw [List.drop_eq_getElem_cons (by simpa using h)]
  simp [List.drop_set]

theorem con_divs (cl : Bool) (A : List Int) (d : Nat) (hA : gd A) (lA : A.length ≤ 1000000) (hd : 0 < d) (hd2 : d < 65536) :
    Con Tryd.prog 92 cl [.sl A.length (ints A), .v (.int .i64 d)] [] (fun r hs bs => ∃ zs, r = .tu [.rf 0 0 (lim (vl A / d).toNat).length, .v (.int .i64 (vl A % d))] ∧ hs = [.own 1 (ints (lim (vl A / d).toNat ++ zs))]) := by
  refine Con.of_aw Tryd.func92 rfl Tryd.ntmps92 (by simp) (by simp) (by simp) (W.sound ?_)
  show @W Tryd.prog 38 ⟨_⟩ ⟨fun x σ => @retW _ _ _ ⟨_⟩ _ ⟨_⟩ x σ⟩ _ _
  simp (disch := omega) only [go_sem]
  refine ⟨by omega, ?_⟩
  refine loop_intro (fun x : Nat × List Int × Int => [(0, .sl A.length (ints A)), (1, .v (.int .i64 d)), (6, .rf 130000000 0 A.length), (7, .v (.int .i64 x.2.2)), (8, .v (.int .i64 ((x.1 : Int) - 1)))])
    (fun x => [(130000000, .own 1 (ints x.2.1))])
    (fun x => x.1 ≤ A.length ∧ x.2.1.length = A.length ∧ gd x.2.1 ∧ x.2.2 = vl (A.drop x.1) % d ∧ vl (x.2.1.drop x.1) = vl (A.drop x.1) / d)
    (fun x => x.1) (A.length, List.replicate A.length 0, 0) ⟨by simp, by simp, gd_replicate _, by simp [vl], by simp [vl]⟩
    (Le.lst [] _ _ rfl (by simp (disch := omega) only [go_sem]; try omega) (by simp (disch := omega) only [go_sem])) ?_
  rintro ⟨m, out, rest⟩ ⟨hm, hol, hog, hr, hov⟩
  dsimp only at hm hol hog hr hov ⊢
  simp (disch := omega) only [go_sem]
  refine ifW_dec (fun h1 => ?_) (fun h1 => ?_)
  · obtain ⟨i, rfl⟩ : ∃ i, m = i + 1 := ⟨m - 1, by omega⟩
    have e1 : ((i + 1 : Nat) : Int) - 1 = (i : Nat) := by omega
    have hx := gd_getD hA i
    have hr2 : 0 ≤ rest ∧ rest < d := by rw [hr]; exact ⟨Int.emod_nonneg _ (by omega), Int.emod_lt_of_pos _ (by omega)⟩
    generalize hq : rest * 65536 + A.getD i 0 = q
    have hq0 : 0 ≤ q := by omega
    have hqd : 0 ≤ q / d ∧ q / d < 65536 := ⟨Int.ediv_nonneg hq0 (by omega), Int.ediv_lt_of_lt_mul (by omega) (by omega)⟩
    have hqm : 0 ≤ q % d ∧ q % d < d := ⟨Int.emod_nonneg _ (by omega), Int.emod_lt_of_pos _ (by omega)⟩
    simp (disch := omega) only [go_sem, h1, e1, hq]
    refine ⟨by omega, by omega, by omega, by omega, by omega, by omega, next_intro (i, out.set i (q / d), q % d) [] ⟨by show i ≤ _; omega, by simp [hol], gd_set hog hqd, ?_, ?_⟩ (by show i < i + 1; omega) rfl (by simp (disch := omega) only [go_sem]) (by simp (disch := omega) only [go_sem])⟩
    · show q % d = vl (A.drop i) % d
      rw [vl_drop (l := A) (i := i) (by omega), ← hq, hr]
      have h3 := Int.emod_add_mul_ediv (vl (A.drop (i + 1))) d
      rw [show A.getD i 0 + 65536 * vl (A.drop (i + 1)) = vl (A.drop (i + 1)) % d * 65536 + A.getD i 0 + d * (65536 * (vl (A.drop (i + 1)) / d)) by grind, Int.add_mul_emod_self_left]
    · show vl ((out.set i (q / d)).drop i) = vl (A.drop i) / d
      rw [drop_set (by omega), vl, hov, vl_drop (l := A) (i := i) (by omega), ← hq, hr]
      have h3 := Int.emod_add_mul_ediv (vl (A.drop (i + 1))) d
      rw [show A.getD i 0 + 65536 * vl (A.drop (i + 1)) = vl (A.drop (i + 1)) % d * 65536 + A.getD i 0 + d * (65536 * (vl (A.drop (i + 1)) / d)) by grind, Int.add_mul_ediv_left _ _ (by omega)]
  · simp (disch := omega) only [go_sem, h1]
    have : m = 0 := by omega
    subst this
    rw [List.drop_zero, List.drop_zero] at hov
    rw [List.drop_zero] at hr
    rw [← hol]
    refine call_lend false [130000000] (con_trim out (by omega)) (by simp (disch := omega) only [go_sem]) (by simp (disch := omega) only [go_sem]) rfl (lend_cons (z := 1) (cs := ints out) (by simp (disch := omega) only [go_sem]) (by simp (disch := omega) only [go_sem])) (by intro n hn; exact ⟨_, List.mem_singleton.2 rfl, by rw [List.mem_singleton.1 hn]; rfl⟩) ?_
    rintro r hs bs ⟨rfl, rfl, rfl⟩ _
    refine ⟨by simp [freeN], ?_⟩
    simp (disch := omega) only [go_sem]
    obtain ⟨z, hz⟩ := cutZ_pre out
    have hc := cutZ_lim hog
    rw [hov] at hc
    rw [hc] at hz ⊢
    rw [hr]
    refine fin_intro [(0, 130000000)] [.own 1 (ints out)] [] [.rf 0 0 (lim (vl A / d).toNat).length, .v (.int .i64 (vl A % d))] rfl (by simp (disch := omega) only [go_sem]) (by simp (disch := omega) only [go_sem]) (by simp) (by intro _; simp [tupA, AV.pu, AV.pu.puL, Ob.pu, pu_ints]) ⟨List.replicate z 0, rfl, by rw [← hz]⟩
end Go.Ab
namespace Go.Ab
open Go Go.Proofs
set_option linter.unusedVariables false
set_option linter.unusedSimpArgs false

/-- A quotient by a small number, and the rest. -/
def natR2 (m : Nat) (r0 : Int) : AV → List Ob → List Ob → Prop := fun r hs bs =>
  (m = 0 ∧ r = .tu [.ag [.v (.slice none 0 0)], .v (.int .i64 r0)] ∧ hs = []) ∨ ∃ zs, r = .tu [.ag [.rf 0 0 (lim m).length], .v (.int .i64 r0)] ∧ hs = [.own 1 (ints (lim m ++ zs))]

theorem Con.natF2 {P : Program} {f : FuncId} {args : List AV} {m : Nat} {r0 : Int} (h : Con P f false args [] (natR2 m r0)) : Con P f false args [] (isA (.tu [.ag [.sl (lim (m)).length (ints (lim (m)))], .v (.int .i64 r0)])) :=
  Con.frzA <| h.mono fun r hs bs h => by
    rcases h with ⟨rfl, rfl, rfl⟩ | ⟨zs, rfl, rfl⟩
    · show snap _ 6 _ = _
      rw [lim_zero]; rfl
    · show snap _ 6 _ = _
      rw [snap_tu, List.map_cons, List.map_cons, List.map_nil, snap_ag, List.map_cons, List.map_nil, snap_num (k := 2) (l := lim m) (zs := zs) rhp_zero rfl]
      rfl

theorem con_l2smallL (cl : Bool) (A : List Int) (d : Nat) (hA : gd A) (lA : A.length ≤ 1000000) (hd : 0 < d) (hd2 : d < 65536) (m : Nat) (hm : vl A / (d : Int) = (m : Int)) :
    Con Tryd.prog 86 cl [.ag [.sl A.length (ints A)], .v (.int .i64 d)] [] (natR2 m (vl A % d)) := by
  refine Con.of_aw Tryd.func86 rfl Tryd.ntmps86 (by simp) (by simp) (by simp) (W.sound ?_)
  show @W Tryd.prog 42 ⟨_⟩ ⟨fun x σ => @retW _ _ _ ⟨_⟩ _ ⟨_⟩ x σ⟩ _ _
  simp (disch := omega) only [go_sem]
  refine ⟨by omega, ?_⟩
  refine loop_intro (fun x : Nat × List Int × Int => [(1, .v (.int .i64 d)), (2, .pt 0 0), (4, .pt 1 0), (6, .rf 2 0 A.length), (7, .v (.int .i64 x.2.2)), (8, .v (.int .i64 ((x.1 : Int) - 1)))])
    (fun x => [(0, .own 0 [.sl A.length (ints A)]), (1, .own 0 [.v (.slice none 0 0)]), (2, .own 1 (ints x.2.1))])
    (fun x => x.1 ≤ A.length ∧ x.2.1.length = A.length ∧ gd x.2.1 ∧ x.2.2 = vl (A.drop x.1) % d ∧ vl (x.2.1.drop x.1) = vl (A.drop x.1) / d)
    (fun x => x.1) (A.length, List.replicate A.length 0, 0) ⟨Nat.le_refl _, by simp, gd_replicate _, by simp [vl], by simp [vl]⟩
    (Le.lst [(0, 40000000), (1, 60000000), (2, 150000000)] _ _ rfl (by simp (disch := omega) only [go_sem, List.length_replicate]; try omega) (by simp (disch := omega) only [go_sem])) ?_
  rintro ⟨k, out, rest⟩ ⟨hk, hol, hog, hr, hov⟩
  dsimp only at hk hol hog hr hov ⊢
  have hr0 : 0 ≤ rest ∧ rest < d := by rw [hr]; exact ⟨Int.emod_nonneg _ (by omega), Int.emod_lt_of_pos _ (by omega)⟩
  simp (disch := omega) only [go_sem]
  refine ifW_dec (fun h1 => ?_) (fun h1 => ?_)
  · obtain ⟨i, rfl⟩ : ∃ i, k = i + 1 := ⟨k - 1, by omega⟩
    have ei : ((i + 1 : Nat) : Int) - 1 = (i : Nat) := by omega
    have hx := gd_getD hA i
    have hq6 : 0 ≤ (rest * 65536 + A.getD i 0) / d ∧ (rest * 65536 + A.getD i 0) / d < 65536 := by
      refine ⟨Int.ediv_nonneg (by omega) (by omega), Int.ediv_lt_of_lt_mul (by omega) ?_⟩
      have : rest + 1 ≤ (d : Int) := by omega
      have := Int.mul_le_mul_of_nonneg_left this (show (0 : Int) ≤ 65536 by omega)
      omega
    simp (disch := omega) only [go_sem, h1, ei]
    generalize hq : rest * 65536 + A.getD i 0 = q at *
    refine ⟨by omega, by omega, by omega, by omega, by omega, by omega, next_intro (i, out.set i (q / d), q % d) [] ⟨by show i ≤ _; omega, by simp [hol], gd_set hog hq6, ?_, ?_⟩ (by show i < i + 1; omega) rfl (by simp (disch := omega) only [go_sem]; try omega) (by simp (disch := omega) only [go_sem])⟩
    · show q % d = vl (A.drop i) % d
      rw [vl_drop (l := A) (i := i) (by omega), ← hq, hr]
      have h3 := Int.emod_add_mul_ediv (vl (A.drop (i + 1))) d
      rw [show A.getD i 0 + 65536 * vl (A.drop (i + 1)) = vl (A.drop (i + 1)) % d * 65536 + A.getD i 0 + d * (65536 * (vl (A.drop (i + 1)) / d)) by grind, Int.add_mul_emod_self_left]
    · show vl ((out.set i (q / d)).drop i) = vl (A.drop i) / d
      rw [drop_set (by omega), vl, hov, vl_drop (l := A) (i := i) (by omega), ← hq, hr]
      have h3 := Int.emod_add_mul_ediv (vl (A.drop (i + 1))) d
      rw [show A.getD i 0 + 65536 * vl (A.drop (i + 1)) = vl (A.drop (i + 1)) % d * 65536 + A.getD i 0 + d * (65536 * (vl (A.drop (i + 1)) / d)) by grind, Int.add_mul_ediv_left _ _ (by omega)]
  · simp (disch := omega) only [go_sem, h1]
    have : k = 0 := by omega
    subst this
    rw [List.drop_zero, List.drop_zero, hm] at hov
    rw [List.drop_zero] at hr
    rw [← hol]
    refine call_closed (con_l2norm true out m (by omega) hog hov) (by simp (disch := omega) only [go_sem]) ?_
    rintro r hs (⟨h0, rfl, rfl⟩ | ⟨zs, rfl, rfl⟩)
    · refine ⟨⟨by simp, by simp (disch := omega) only [go_sem]⟩, ?_⟩
      simp (disch := omega) only [go_sem]
      rw [hr]
      refine fin_intro [] [] [] [.ag [.v (.slice none 0 0)], .v (.int .i64 (vl A % d))] rfl (by simp (disch := omega) only [go_sem]) (by simp (disch := omega) only [go_sem]) (by simp) (by intro _; simp [tupA, AV.pu, AV.pu.puL, Ob.pu, pu_ints]) (.inl ⟨h0, rfl, rfl⟩)
    · refine ⟨⟨by simp, by simp (disch := omega) only [go_sem]⟩, ?_⟩
      simp (disch := omega) only [go_sem]
      rw [hr]
      refine fin_intro [(0, 420000000)] [.own 1 (ints (lim m ++ zs))] [] [.ag [.rf 0 0 (lim m).length], .v (.int .i64 (vl A % d))] rfl (by simp (disch := omega) only [go_sem]) (by simp (disch := omega) only [go_sem]) (by simp) (by intro _; simp [tupA, AV.pu, AV.pu.puL, Ob.pu, pu_ints]) (.inr ⟨zs, rfl, rfl⟩)

/-! ### Shifts -/
theorem shl_one {k : Nat} (hk : k < 16) : IntKind.i64.wrap (1 * 2 ^ (min ((k : Int)).toNat 64)) = ((2 ^ k : Nat) : Int) := by
  have e : min ((k : Int)).toNat 64 = k := by omega
  rw [e, Int.one_mul]
  have h := pow_le_15 k hk
  rw [wrap_id (by omega) (by omega), Int.natCast_pow]; rfl

theorem con_l2shl (cl : Bool) (a k : Nat) (la : (lim a).length ≤ 400000) (hk : k ≤ 5000000) : Con Tryd.prog 66 cl [.ag [.sl (lim (a)).length (ints (lim (a)))], .v (.int .i64 k)] [] (natR (a * 2 ^ k)) := by
  refine Con.of_aw Tryd.func66 rfl Tryd.ntmps66 (by simp) (by simp) (by simp) (W.sound ?_)
  show @W Tryd.prog 22 ⟨_⟩ ⟨fun x σ => @retW _ _ _ ⟨_⟩ _ ⟨_⟩ x σ⟩ _ _
  have hz : ((lim a).length : Int) = 0 → a = 0 := fun h => lim_eq_nil.1 (List.length_eq_zero_iff.1 (by omega))
  have hvA := vl_lim a
  have gA := gd_lim a
  generalize hLA : lim a = A at *
  simp (disch := omega) only [go_sem]
  refine ifW_dec (fun h1 => ?_) (fun h1 => ?_)
  · simp (disch := omega) only [go_sem, h1]
    have h0 := hz h1
    subst h0
    refine fin_intro [] [] [] [.ag [.v (.slice none 0 0)]] rfl (by simp (disch := omega) only [go_sem]) (by simp (disch := omega) only [go_sem]) (by simp) (by intro _; simp [tupA, AV.pu, AV.pu.puL, Ob.pu, pu_ints]) (.inl ⟨by simp, rfl, rfl⟩)
  · simp (disch := omega) only [go_sem, h1]
    refine draw_of rfl [⟨0, [], []⟩, ⟨1, [], []⟩, ⟨3, [], []⟩, ⟨4, [], []⟩, ⟨7, [4], []⟩, ⟨8, [4], []⟩, ⟨9, [4], []⟩, ⟨2, [4], []⟩, ⟨5, [], []⟩, ⟨6, [], []⟩, ⟨10, [], []⟩, ⟨11, [], []⟩, ⟨12, [], []⟩] (by kernel_rfl) ?_
    have e16 : ((k : Int) / 16).toNat = k / 16 := by omega
    have e17 : (k : Int) % 16 = ((k % 16 : Nat) : Int) := by omega
    have es : IntKind.i64.wrap (1 * 2 ^ (min ((k : Int) % 16).toNat 64)) = ((2 ^ (k % 16) : Nat) : Int) := by rw [e17]; exact shl_one (by omega)
    have hp15 : 2 ^ (k % 16) ≤ 2 ^ 15 := Nat.pow_le_pow_right (by omega) (by omega)
    have ecut : (List.replicate (k / 16) (0 : Int)).take (k / 16) = List.replicate (k / 16) 0 := List.take_of_length_le (by simp)
    simp (disch := omega) only [go_sem, e16, ecut, es]
    refine ⟨by omega, by omega, by simp; omega, ?_⟩
    refine call_open ((con_l2of false (2 ^ (k % 16)) (by omega)).natF) (by simp (disch := omega) only [go_sem]) ?_
    rintro r hs ⟨rfl, rfl, _⟩
    refine ⟨by simp [freeN], ?_⟩
    simp (disch := omega) only [go_sem]
    have hvA2 : vl (List.replicate (k / 16) 0 ++ A) * ((2 ^ (k % 16) : Nat) : Int) = ((a * 2 ^ k : Nat) : Int) := by
      rw [vl_append, vl_replicate, hvA, List.length_replicate]
      have h2 : a * 2 ^ k = 65536 ^ (k / 16) * a * 2 ^ (k % 16) := by
        have : 2 ^ k = 65536 ^ (k / 16) * 2 ^ (k % 16) := by rw [pow16, ← Nat.pow_add, Nat.div_add_mod]
        rw [this]; grind
      rw [h2, Int.natCast_mul, Int.natCast_mul, Int.natCast_pow]
      simp
    have gA2 : gd (List.replicate (k / 16) 0 ++ A) := gd_append.2 ⟨gd_replicate _, gA⟩
    have lA2 : (List.replicate (k / 16) (0 : Int) ++ A).length = k / 16 + A.length := by simp
    have et : (List.replicate (k / 16) (0 : Int) ++ A).take (k / 16 + A.length) = List.replicate (k / 16) 0 ++ A := List.take_of_length_le (by simp)
    have l2s : (lim (2 ^ (k % 16))).length ≤ 1000000 := by
      have := len_bl (m := 2 ^ (k % 16)) (B := 16) (bl_le.2 (by omega)); omega
    refine call_closed (con_l2mulL true (List.replicate (k / 16) 0 ++ A) gA2 (2 ^ (k % 16)) (by omega) l2s (a * 2 ^ k) hvA2) (by simp (disch := omega) only [go_sem, lA2, et]) ?_
    rintro r hs (⟨h0, rfl, rfl⟩ | ⟨zs, rfl, rfl⟩)
    · refine ⟨⟨by simp, by simp (disch := omega) only [go_sem]⟩, ?_⟩
      simp (disch := omega) only [go_sem]
      refine fin_intro [] [] [] [.ag [.v (.slice none 0 0)]] rfl (by simp (disch := omega) only [go_sem]) (by simp (disch := omega) only [go_sem]) (by simp) (by intro _; simp [tupA, AV.pu, AV.pu.puL, Ob.pu, pu_ints]) (.inl ⟨h0, rfl, rfl⟩)
    · refine ⟨⟨by simp, by simp (disch := omega) only [go_sem]⟩, ?_⟩
      simp (disch := omega) only [go_sem]
      refine fin_intro [(0, 230000000)] [.own 1 (ints (lim (a * 2 ^ k) ++ zs))] [] [.ag [.rf 0 0 (lim (a * 2 ^ k)).length]] rfl (by simp (disch := omega) only [go_sem]) (by simp (disch := omega) only [go_sem]) (by simp) (by intro _; simp [tupA, AV.pu, AV.pu.puL, Ob.pu, pu_ints]) (.inr ⟨zs, rfl, rfl⟩)
end Go.Ab
namespace Go.Ab
open Go Go.Proofs
set_option linter.unusedVariables false
set_option linter.unusedSimpArgs false

theorem con_l2shr (a k : Nat) (la : (lim a).length ≤ 1000000) (hk : k ≤ 100000000) : Con Tryd.prog 105 false [.ag [.sl (lim (a)).length (ints (lim (a)))], .v (.int .i64 k)] [] (isA (.ag [.sl (lim (a / 2 ^ k)).length (ints (lim (a / 2 ^ k)))])) := by
  refine Con.frzA ?_
  refine Con.of_aw Tryd.func105 rfl Tryd.ntmps105 (by simp) (by simp) (by simp) (W.sound ?_)
  show @W Tryd.prog 28 ⟨_⟩ ⟨fun x σ => @retW _ _ _ ⟨_⟩ _ ⟨_⟩ x σ⟩ _ _
  simp (disch := omega) only [go_sem]
  refine ifW_dec (fun h1 => ?_) (fun h1 => ?_)
  · simp (disch := omega) only [go_sem, h1]
    have h0 : a / 2 ^ k = 0 := by
      refine Nat.div_eq_of_lt (Nat.lt_of_lt_of_le (lim_lt a) ?_)
      rw [pow16]; exact Nat.pow_le_pow_right (by omega) (by omega)
    rw [h0, lim_zero]
    refine fin_val (by simp (disch := omega) only [go_sem]) ?_
    show snap _ 6 _ = _
    simp (disch := omega) only [go_sem]
  · simp (disch := omega) only [go_sem, h1]
    refine draw_of rfl [⟨0, [], []⟩, ⟨1, [], []⟩, ⟨2, [1], []⟩, ⟨3, [1], []⟩, ⟨4, [], []⟩, ⟨5, [], []⟩, ⟨6, [1, 4], []⟩, ⟨7, [1, 4], []⟩, ⟨8, [1, 4], []⟩, ⟨13, [1, 4], []⟩, ⟨9, [], [70000000]⟩, ⟨10, [], [70000000]⟩, ⟨11, [], [70000000]⟩, ⟨12, [], [70000000]⟩, ⟨14, [], []⟩, ⟨15, [], []⟩] (by kernel_rfl) ?_
    have e16 : ((k : Int) / 16).toNat = k / 16 := by omega
    have e17 : (k : Int) % 16 = ((k % 16 : Nat) : Int) := by omega
    have e18 : (((lim a).length : Int) - (k : Int) / 16).toNat = ((lim a).drop (k / 16)).length := by simp; omega
    have es : IntKind.i64.wrap (1 * 2 ^ (min ((k : Int) % 16).toNat 64)) = ((2 ^ (k % 16) : Nat) : Int) := by rw [e17]; exact shl_one (by omega)
    have hp15 : 2 ^ (k % 16) ≤ 2 ^ 15 := Nat.pow_le_pow_right (by omega) (by omega)
    have hp0 : 0 < 2 ^ (k % 16) := Nat.pow_pos (by omega)
    have hvD := vl_div (gd_lim a) (i := k / 16) (by omega)
    have gD := gd_drop (gd_lim a) (k / 16)
    have hlD : ((lim a).drop (k / 16)).length ≤ 1000000 := by simp; omega
    have hm : vl ((lim a).drop (k / 16)) / ((2 ^ (k % 16) : Nat) : Int) = ((a / 2 ^ k : Nat) : Int) := by
      rw [← hvD, vl_lim]
      have : a / 2 ^ k = a / 65536 ^ (k / 16) / 2 ^ (k % 16) := by rw [Nat.div_div_eq_div_mul, pow16, ← Nat.pow_add, Nat.div_add_mod]
      rw [this, Int.natCast_ediv, Int.natCast_ediv, Int.natCast_pow 65536]; rfl
    have et : ((lim a).drop (k / 16)).take ((lim a).drop (k / 16)).length = (lim a).drop (k / 16) := List.take_length
    simp (disch := omega) only [go_sem, e16, e18, et, es]
    generalize (lim a).drop (k / 16) = D at *
    refine ⟨by omega, by omega, ?_⟩
    refine call_open ((con_l2smallL false D (2 ^ (k % 16)) gD hlD hp0 (by omega) (a / 2 ^ k) hm).natF2) (by simp (disch := omega) only [go_sem]) ?_
    rintro r hs ⟨rfl, rfl, _⟩
    refine ⟨by simp [freeN], ?_⟩
    simp (disch := omega) only [go_sem]
    refine fin_val (by simp (disch := omega) only [go_sem]) ?_
    show snap _ 6 _ = _
    simp (disch := omega) only [go_sem]

theorem con_l2bits (a : Nat) (la : (lim a).length ≤ 2 ^ 40) : Con Tryd.prog 104 true [.ag [.sl (lim (a)).length (ints (lim (a)))]] [] (isA (.v (.int .i64 (bl a)))) := by
  refine Con.of_aw Tryd.func104 rfl Tryd.ntmps104 (by simp) (by simp) (by simp) (W.sound ?_)
  show @W Tryd.prog 29 ⟨_⟩ ⟨fun x σ => @retW _ _ _ ⟨_⟩ _ ⟨_⟩ x σ⟩ _ _
  simp (disch := omega) only [go_sem]
  refine ifW_dec (fun h1 => ?_) (fun h1 => ?_)
  · simp (disch := omega) only [go_sem, h1]
    have : a = 0 := lim_eq_nil.1 (List.length_eq_zero_iff.1 (by omega))
    subst this
    rw [bl_zero]
    exact fin_valc (by simp (disch := omega) only [go_sem]) (by simp (disch := omega) only [go_sem]) isA_mk
  · have hm : a ≠ 0 := fun e => by rw [e, lim_zero] at h1; simp at h1
    have e2 : (((lim a).length : Int) - 1).toNat = (lim a).length - 1 := by omega
    have ht := len_top hm
    have hb := bl_lim hm
    have eq : (lim a).getD ((lim a).length - 1) 0 = ((a / 65536 ^ ((lim a).length - 1) : Nat) : Int) := by rw [lim_get, Nat.mod_eq_of_lt ht.2]
    generalize a / 65536 ^ ((lim a).length - 1) = q at *
    simp (disch := omega) only [go_sem, h1, e2, eq]
    refine ⟨by omega, by omega, ?_⟩
    refine loop_intro (fun x : Nat × Nat => [(3, .v (.int .i64 x.1)), (4, .v (.int .i64 x.2))]) (fun _ => []) (fun x => x.1 + bl x.2 = bl a ∧ x.2 < 65536 ∧ x.1 ≤ 2 ^ 45) (fun x => x.2) (16 * ((lim a).length - 1), q) ⟨hb.symm, ht.2, by show 16 * ((lim a).length - 1) ≤ 2 ^ 45; omega⟩ (Le.lst [] _ _ rfl (by simp (disch := omega) only [go_sem]; try omega) (by simp (disch := omega) only [go_sem])) ?_
    rintro ⟨n, x⟩ ⟨hn, hx, hn2⟩
    dsimp only at hn hx hn2 ⊢
    simp (disch := omega) only [go_sem]
    refine ifW_dec (fun h2 => ?_) (fun h2 => ?_)
    · simp (disch := omega) only [go_sem, h2]
      have hd := bl_dbl (x := x) (by omega)
      have hp := bl_le.2 (show x < 2 ^ 16 by omega)
      refine next_intro (n + 1, x / 2) [] ⟨by show n + 1 + bl (x / 2) = bl a; omega, by show x / 2 < 65536; omega, ?_⟩ (by show x / 2 < x; omega) rfl (by simp (disch := omega) only [go_sem]; try omega) (by simp (disch := omega) only [go_sem])
      show n + 1 ≤ 2 ^ 45
      have := bl_len (m := a)
      omega
    · simp (disch := omega) only [go_sem, h2]
      have : x = 0 := by omega
      subst this
      rw [bl_zero] at hn
      refine fin_valc (by simp (disch := omega) only [go_sem]) (by simp (disch := omega) only [go_sem]) ⟨?_, rfl, rfl⟩
      simp [tupA]; omega

theorem con_l2bit (m : Nat) (i : Int) (hl : (lim m).length ≤ 2 ^ 40) (hi : 0 ≤ i) (hi2 : i < 2 ^ 62) : Con Tryd.prog 133 true [.ag [.sl (lim (m)).length (ints (lim (m)))], .v (.int .i64 i)] [] (isA (.v (.int .i64 ((m / 2 ^ i.toNat % 2 : Nat) : Int)))) := by
  refine Con.of_aw Tryd.func133 rfl Tryd.ntmps133 (by simp) (by simp) (by simp) (W.sound ?_)
  show @W Tryd.prog 25 ⟨_⟩ ⟨fun x σ => @retW _ _ _ ⟨_⟩ _ ⟨_⟩ x σ⟩ _ _
  obtain ⟨k, rfl⟩ := Int.eq_ofNat_of_zero_le hi
  rw [Int.toNat_natCast]
  have h0 : ¬ ((k : Int) < 0) := by omega
  have e16 : ((k : Int) / 16).toNat = k / 16 := by omega
  have em : min ((k : Int) % 16).toNat 64 = k % 16 := by omega
  have hb := bit_div m k
  simp (disch := omega) only [go_sem, h0]
  refine ifW_dec (fun h1 => ?_) (fun h1 => ?_)
  · simp (disch := omega) only [go_sem, h1]
    have : m / 2 ^ k % 2 = 0 := by
      rw [← hb]
      have h2 := lim_get m (k / 16)
      rw [List.getD_eq_getElem?_getD, List.getElem?_eq_none (by omega)] at h2
      have h3 : m / 65536 ^ (k / 16) % 65536 = 0 := by simp only [Option.getD_none] at h2; omega
      rw [h3]; simp
    rw [this]
    exact fin_valc (by simp (disch := omega) only [go_sem]) (by simp (disch := omega) only [go_sem]) isA_mk
  · have hx := gd_getD (gd_lim m) (k / 16)
    have hp : (0 : Int) < 2 ^ (k % 16) := Int.pow_pos (by omega)
    have efd : ∀ x : Int, x.fdiv (2 ^ (k % 16)) = x / 2 ^ (k % 16) := fun x => Int.fdiv_eq_ediv_of_nonneg _ (Int.le_of_lt hp)
    have hq : 0 ≤ (lim m).getD (k / 16) 0 / 2 ^ (k % 16) ∧ (lim m).getD (k / 16) 0 / 2 ^ (k % 16) < 65536 := by
      refine ⟨Int.ediv_nonneg hx.1 (Int.le_of_lt hp), Int.lt_of_le_of_lt (Int.ediv_le_self _ hx.1) hx.2⟩
    have hr : (lim m).getD (k / 16) 0 / 2 ^ (k % 16) % 2 = ((m / 2 ^ k % 2 : Nat) : Int) := by
      rw [← hb, lim_get]
      generalize m / 65536 ^ (k / 16) % 65536 = x
      rw [Int.natCast_emod, Int.natCast_ediv, Int.natCast_pow]; rfl
    simp (disch := omega) only [go_sem, h1, e16, em, efd, hr]
    refine ⟨by omega, by omega, by omega, ?_⟩
    exact fin_valc (by simp (disch := omega) only [go_sem]) (by simp (disch := omega) only [go_sem]) isA_mk

theorem tz_first {m i : Nat} (hz : ∀ j, j < i → m / 2 ^ j % 2 = 0) (h1 : m / 2 ^ i % 2 = 1) : tz m = i := by
  have key : ∀ k, k ≤ i → 2 ^ k * (m / 2 ^ k) = m := by
    intro k
    induction k with
    | zero => intro _; simp
    | succ k ih =>
      intro hk
      have h2 := ih (by omega)
      have h3 := hz k (by omega)
      have h4 : m / 2 ^ (k + 1) = m / 2 ^ k / 2 := by rw [Nat.pow_succ, Nat.div_div_eq_div_mul]
      rw [h4, Nat.pow_succ, Nat.mul_assoc, show 2 * (m / 2 ^ k / 2) = m / 2 ^ k by omega]; exact h2
  refine tz_uniq (a := m / 2 ^ i / 2) ?_
  have := key i (Nat.le_refl _)
  rw [show 2 * (m / 2 ^ i / 2) + 1 = m / 2 ^ i by omega]; exact this.symm

theorem con_l2trail (m : Nat) (hl : (lim m).length ≤ 2 ^ 40) : Con Tryd.prog 109 true [.ag [.sl (lim (m)).length (ints (lim (m)))]] [] (isA (.v (.int .i64 (tz m)))) := by
  refine Con.of_aw Tryd.func109 rfl Tryd.ntmps109 (by simp) (by simp) (by simp) (W.sound ?_)
  show @W Tryd.prog 17 ⟨_⟩ ⟨fun x σ => @retW _ _ _ ⟨_⟩ _ ⟨_⟩ x σ⟩ _ _
  simp (disch := omega) only [go_sem]
  refine loop_intro (fun i : Nat => [(1, .pt 0 0), (3, .v (.int .i64 i))]) (fun _ => [(0, .own 0 [.sl (lim (m)).length (ints (lim (m)))])]) (fun i => i ≤ 16 * (lim m).length ∧ ∀ j, j < i → m / 2 ^ j % 2 = 0) (fun i => 16 * (lim m).length - i) 0 ⟨by omega, fun j hj => by omega⟩ (Le.lst [(0, 30000000)] _ _ rfl (by simp (disch := omega) only [go_sem]; try omega) (by simp (disch := omega) only [go_sem])) ?_
  rintro i ⟨hi, hz⟩
  simp (disch := omega) only [go_sem]
  refine ifW_dec (fun h1 => ?_) (fun h1 => ?_)
  · simp (disch := omega) only [go_sem, h1]
    refine call_closed (con_l2bit m i hl (by omega) (by omega)) (by simp (disch := omega) only [go_sem]) ?_
    rintro r hs ⟨rfl, rfl, _⟩
    refine ⟨by simp [freeN], ?_⟩
    simp (disch := omega) only [go_sem]
    refine ifW_dec (fun h2 => ?_) (fun h2 => ?_)
    · simp (disch := omega) only [go_sem, h2]
      have := tz_first hz (by omega)
      rw [this]
      exact fin_valc (by simp (disch := omega) only [go_sem]) (by simp (disch := omega) only [go_sem]) isA_mk
    · simp (disch := omega) only [go_sem, h2]
      refine next_intro (i + 1) [] ⟨by omega, fun j hj => ?_⟩ (by show 16 * (lim m).length - (i + 1) < 16 * (lim m).length - i; omega) rfl (by simp (disch := omega) only [go_sem]; try omega) (by simp (disch := omega) only [go_sem])
      rcases (by omega : j < i ∨ j = i) with h | h
      · exact hz j h
      · subst h; omega
  · simp (disch := omega) only [go_sem, h1]
    have hm : m = 0 := by
      have h3 := bl_len (m := m)
      rcases Nat.eq_zero_or_pos m with h | h
      · exact h
      · have h4 := tz_lt_bl (n := m) (by omega)
        have h5 := (odd_part (n := m) (by omega)).1
        have := hz (tz m) (by omega)
        omega
    subst hm
    rw [tz_zero]
    exact fin_valc (by simp (disch := omega) only [go_sem]) (by simp (disch := omega) only [go_sem]) isA_mk

theorem con_l2int (m : Nat) (hm : m < 2 ^ 63) : Con Tryd.prog 65 true [.ag [.sl (lim (m)).length (ints (lim (m)))]] [] (isA (.v (.int .i64 m))) := by
  refine Con.of_aw Tryd.func65 rfl Tryd.ntmps65 (by simp) (by simp) (by simp) (W.sound ?_)
  show @W Tryd.prog 22 ⟨_⟩ ⟨fun x σ => @retW _ _ _ ⟨_⟩ _ ⟨_⟩ x σ⟩ _ _
  simp (disch := omega) only [go_sem]
  have hl : (lim m).length ≤ 4 := lim_len.2 (by omega)
  have hb : ∀ i, i ≤ (lim m).length → 0 ≤ vl ((lim m).drop i) ∧ vl ((lim m).drop i) < 2 ^ 63 := fun i hi => by
    have h1 := vl_nonneg (gd_drop (gd_lim m) i)
    have h2 := vl_take_drop (lim m) i hi
    have h3 := vl_nonneg (gd_take (gd_lim m) i)
    have hp : (0 : Int) < 65536 ^ i := Int.pow_pos (by omega)
    rw [vl_lim] at h2
    have h4 := Int.mul_le_mul_of_nonneg_right (show (1 : Int) ≤ 65536 ^ i by omega) h1
    omega
  refine loop_intro (fun k : Nat => [(1, .pt 0 0), (3, .v (.int .i64 (vl ((lim m).drop k)))), (4, .v (.int .i64 ((k : Int) - 1)))]) (fun _ => [(0, .own 0 [.sl (lim (m)).length (ints (lim (m)))])]) (fun k => k ≤ (lim m).length) (fun k => k) (lim m).length (Nat.le_refl _) (Le.lst [(0, 30000000)] _ _ rfl (by simp (disch := omega) only [go_sem, List.drop_length, vl]; try omega) (by simp (disch := omega) only [go_sem])) ?_
  intro k hk
  have hbk := hb k hk
  simp (disch := omega) only [go_sem]
  refine ifW_dec (fun h1 => ?_) (fun h1 => ?_)
  · obtain ⟨i, rfl⟩ : ∃ i, k = i + 1 := ⟨k - 1, by omega⟩
    have ei : ((i + 1 : Nat) : Int) - 1 = (i : Nat) := by omega
    have hx := gd_getD (gd_lim m) i
    have hbi := hb i (by omega)
    have hd := vl_drop (l := lim m) (i := i) (by omega)
    have e2 : vl ((lim m).drop (i + 1)) * 65536 + (lim m).getD i 0 = vl ((lim m).drop i) := by omega
    simp (disch := omega) only [go_sem, h1, ei, e2]
    refine ⟨by omega, by omega, next_intro i [] (by show i ≤ _; omega) (by show i < i + 1; omega) rfl (by simp (disch := omega) only [go_sem]; try omega) (by simp (disch := omega) only [go_sem])⟩
  · have : k = 0 := by omega
    subst this
    have e2 : vl ((lim m).drop 0) = (m : Int) := by rw [List.drop_zero, vl_lim]
    simp (disch := omega) only [go_sem, h1, e2]
    exact fin_valc (by simp (disch := omega) only [go_sem]) (by simp (disch := omega) only [go_sem]) ⟨by simp [tupA, vl_lim], rfl, rfl⟩
end Go.Ab
namespace Go.Ab
open Go Go.Proofs
set_option linter.unusedVariables false
set_option linter.unusedSimpArgs false

set_option maxRecDepth 100000 in
theorem con_digitOf (U V : List Int) (j : Nat) (hU : gd U) (hV : gd V) (lU : U.length ≤ 2000000) (h2 : 2 ≤ V.length) (hj : j + V.length < U.length) (hv1 : 32768 ≤ V.getD (V.length - 1) 0) (hW : vl (U.drop j) < 65536 * vl V) :
    Con Tryd.prog 157 true [.sl U.length (ints U), .sl V.length (ints V), .v (.int .i64 j)] [] (fun r hs bs => ∃ q : Int, r = .v (.int .i64 q) ∧ hs = [] ∧ bs = [] ∧ (0 ≤ q ∧ q < 65536) ∧ vl (U.drop j) < (q + 1) * vl V ∧ q * vl V < vl (U.drop j) + vl V) := by
  refine Con.of_aw Tryd.func157 rfl Tryd.ntmps157 (by simp) (by simp) (by simp) (W.sound ?_)
  show @W Tryd.prog 76 ⟨_⟩ ⟨fun x σ => @retW _ _ _ ⟨_⟩ _ ⟨_⟩ x σ⟩ _ _
  have hDl : V.length < (U.drop j).length := by simp; omega
  have hz := vl_above (gd_drop hU j) hV hDl hW
  have hw := vl_win hDl h2 hz
  have hvv := vl_top2 h2
  rw [getD_drop0, getD_drop0, getD_drop0] at hw
  have hx0 := vl_nonneg (gd_take (gd_drop hU j) (V.length - 2))
  have hx1 := vl_lt (gd_take (gd_drop hU j) (V.length - 2))
  have hy0 := vl_nonneg (gd_take hV (V.length - 2))
  have hy1 := vl_lt (gd_take hV (V.length - 2))
  rw [List.length_take, Nat.min_eq_left (by omega)] at hx1 hy1
  have gu0 := gd_getD hU (j + V.length)
  have gu1 := gd_getD hU (j + (V.length - 1))
  have gu2 := gd_getD hU (j + (V.length - 2))
  have gv1 := gd_getD hV (V.length - 1)
  have gv2 := gd_getD hV (V.length - 2)
  have htop := kn_top hw hvv ⟨hx0, hx1⟩ ⟨hy0, hy1⟩ gu2.1 gu1.1 gv2.2 hW
  have e0 : ((j : Int) + (V.length : Int)).toNat = j + V.length := by omega
  have e1 : ((j : Int) + (V.length : Int) - 1).toNat = j + (V.length - 1) := by omega
  have e2 : ((j : Int) + (V.length : Int) - 2).toNat = j + (V.length - 2) := by omega
  have f1 : ((V.length : Int) - 1).toNat = V.length - 1 := by omega
  have f2 : ((V.length : Int) - 2).toNat = V.length - 2 := by omega
  simp (disch := omega) only [go_sem]
  refine draw_of rfl [⟨0, [], []⟩, ⟨1, [], []⟩, ⟨2, [], []⟩, ⟨3, [], []⟩, ⟨4, [], []⟩, ⟨5, [], []⟩, ⟨6, [], []⟩, ⟨7, [5], []⟩, ⟨8, [5], []⟩, ⟨9, [5], []⟩, ⟨10, [5], []⟩, ⟨11, [5], []⟩, ⟨12, [5], []⟩, ⟨13, [5], []⟩, ⟨14, [], []⟩, ⟨15, [], []⟩] (by kernel_rfl) ?_
  simp (disch := omega) only [go_sem, e0, e1]
  generalize hu0 : U.getD (j + V.length) 0 = u0 at *
  generalize hu1 : U.getD (j + (V.length - 1)) 0 = u1 at *
  generalize hu2 : U.getD (j + (V.length - 2)) 0 = u2 at *
  refine ⟨by omega, by omega, by omega, by omega, ?_⟩
  refine draw_of rfl [⟨0, [], []⟩, ⟨1, [], []⟩, ⟨2, [], []⟩, ⟨3, [], []⟩, ⟨4, [], []⟩, ⟨5, [], []⟩, ⟨6, [], []⟩, ⟨7, [5], []⟩, ⟨8, [5], []⟩, ⟨9, [5], []⟩, ⟨10, [5], []⟩, ⟨11, [5], []⟩, ⟨12, [5], []⟩, ⟨13, [5], []⟩, ⟨14, [12], []⟩, ⟨15, [], []⟩] (by kernel_rfl) ?_
  simp (disch := omega) only [go_sem, f1]
  generalize hvv1 : V.getD (V.length - 1) 0 = v1 at *
  generalize hvv2 : V.getD (V.length - 2) 0 = v2 at *
  generalize htt : u0 * 65536 + u1 = top at *
  refine ⟨by omega, by omega, by omega, by omega, by omega, by omega, ?_⟩
  have hq0 : 0 ≤ top / v1 := Int.ediv_nonneg (by omega) (by omega)
  have hq1 : top / v1 ≤ 65537 := by
    have : top / v1 < 65538 := Int.ediv_lt_of_lt_mul (by omega) (by omega)
    omega
  have hr0 := Int.emod_nonneg top (show v1 ≠ 0 by omega)
  have hr1 := Int.emod_lt_of_pos top (show 0 < v1 by omega)
  have hqr := Int.emod_add_mul_ediv top v1
  have hini := kn_init hw hvv ⟨hx0, hx1⟩ ⟨hy0, hy1⟩ gu2 gv2.1 hq0 (show top < (top / v1 + 1) * v1 by rw [Int.add_mul, Int.mul_comm (top / v1)]; omega)
  have hqr' : top / v1 * v1 + top % v1 = top := by rw [Int.mul_comm]; omega
  generalize top / v1 = q0 at *
  generalize top % v1 = r0 at *
  refine loop_intro (fun x : Int × Int => [(0, .sl U.length (ints U)), (1, .sl V.length (ints V)), (2, .v (.int .i64 j)), (7, .v (.int .i64 V.length)), (9, .v (.int .i64 x.1)), (10, .v (.int .i64 x.2))])
    (fun _ => []) (fun x => (0 ≤ x.1 ∧ x.1 ≤ 65537) ∧ (0 ≤ x.2 ∧ x.2 < 65536) ∧ x.1 * v1 + x.2 = top ∧ vl (U.drop j) < (x.1 + 1) * vl V) (fun x => x.1.toNat) (q0, r0) ⟨⟨hq0, hq1⟩, ⟨hr0, by omega⟩, hqr', hini⟩
    (Le.lst [] _ _ rfl (by simp (disch := omega) only [go_sem]; try omega) (by simp (disch := omega) only [go_sem])) ?_
  rintro ⟨q, r⟩ ⟨hq, hr, hqr2, hlt⟩
  dsimp only at hq hr hqr2 hlt ⊢
  have hqv : 0 ≤ q * v2 ∧ q * v2 ≤ 65537 * 65535 := ⟨Int.mul_nonneg hq.1 gv2.1, Int.mul_le_mul hq.2 (by omega) gv2.1 (by omega)⟩
  simp (disch := omega) only [go_sem]
  refine draw_of rfl [⟨0, [], []⟩, ⟨1, [], []⟩, ⟨2, [], []⟩, ⟨3, [], []⟩, ⟨4, [], []⟩, ⟨5, [], []⟩, ⟨6, [], []⟩, ⟨7, [], []⟩, ⟨8, [], []⟩, ⟨9, [], []⟩, ⟨10, [8], []⟩, ⟨11, [8], []⟩, ⟨12, [8], []⟩, ⟨13, [8], []⟩, ⟨14, [8], []⟩, ⟨15, [8], []⟩, ⟨16, [8], []⟩, ⟨17, [8], []⟩, ⟨18, [8], []⟩, ⟨19, [8], []⟩, ⟨20, [], []⟩, ⟨21, [], []⟩] (by kernel_rfl) ?_
  simp (disch := omega) only [go_sem]
  refine ifW_not (fun h1 => ?_) (fun h1 => ?_)
  · simp (disch := omega) only [go_sem, h1, e2, f2, hu2, hvv2]
    refine ⟨by omega, by omega, by omega, by omega, ifW_dec (fun h2 => ?_) (fun h2 => ?_)⟩
    · simp (disch := omega) only [go_sem, h2, f1, hvv1]
      have hst := kn_step hw hvv ⟨hx0, hx1⟩ ⟨hy0, hy1⟩ hW gv2.1 (by omega) hq.1 hqr2 (.inr h2)
      have hqp : 0 < q := by
        rcases (by omega : 0 < q ∨ q = 0) with h | h
        · exact h
        · subst h; omega
      have hm : (q - 1) * v1 + (r + v1) = top := by rw [Int.sub_mul]; omega
      refine ⟨by omega, by omega, ifW_dec (fun h3 => ?_) (fun h3 => ?_)⟩
      · simp (disch := omega) only [go_sem, h3]
        have h4 : q - 1 < 65536 := by
          rcases (by omega : q - 1 < 65536 ∨ 65536 ≤ q - 1) with h | h
          · exact h
          · have := Int.mul_le_mul_of_nonneg_right h (show 0 ≤ v1 by omega)
            omega
        have h5 : (q - 1) * v2 ≤ (r + v1) * 65536 + u2 := by
          have : (q - 1) * v2 ≤ 65535 * 65535 := Int.mul_le_mul (by omega) (by omega) gv2.1 (by omega)
          omega
        have h6 := kn_exit hw hvv ⟨hx0, hx1⟩ ⟨hy0, hy1⟩ gv2.1 (by omega) ⟨by omega, h4⟩ hm h5
        exact fin_valc (by simp (disch := omega) only [go_sem]) (by simp (disch := omega) only [go_sem]) ⟨q - 1, rfl, rfl, rfl, ⟨by omega, h4⟩, by rw [show q - 1 + 1 = q by omega]; exact hst, h6⟩
      · simp (disch := omega) only [go_sem, h3]
        refine next_intro (q - 1, r + v1) [] ⟨by show 0 ≤ q - 1 ∧ q - 1 ≤ 65537; omega, by show 0 ≤ r + v1 ∧ r + v1 < 65536; omega, hm, by show _ < (q - 1 + 1) * vl V; rw [show q - 1 + 1 = q by omega]; exact hst⟩ (by show (q - 1).toNat < q.toNat; omega) rfl (by simp (disch := omega) only [go_sem]; try omega) (by simp (disch := omega) only [go_sem])

    · simp (disch := omega) only [go_sem, h2]
      have h6 := kn_exit hw hvv ⟨hx0, hx1⟩ ⟨hy0, hy1⟩ gv2.1 (by omega) ⟨hq.1, by omega⟩ hqr2 (by omega)
      exact fin_valc (by simp (disch := omega) only [go_sem]) (by simp (disch := omega) only [go_sem]) ⟨q, rfl, rfl, rfl, ⟨hq.1, by omega⟩, hlt, h6⟩
  · simp (disch := omega) only [go_sem, h1, f1, hvv1]
    have hst := kn_step hw hvv ⟨hx0, hx1⟩ ⟨hy0, hy1⟩ hW gv2.1 (by omega) hq.1 hqr2 (.inl h1)
    have hqp : 0 < q := by omega
    have hm : (q - 1) * v1 + (r + v1) = top := by rw [Int.sub_mul]; omega
    refine ⟨by omega, by omega, ifW_dec (fun h3 => ?_) (fun h3 => ?_)⟩
    · simp (disch := omega) only [go_sem, h3]
      have h4 : q - 1 < 65536 := by
        rcases (by omega : q - 1 < 65536 ∨ 65536 ≤ q - 1) with h | h
        · exact h
        · have := Int.mul_le_mul_of_nonneg_right h (show 0 ≤ v1 by omega)
          omega
      have h5 : (q - 1) * v2 ≤ (r + v1) * 65536 + u2 := by
        have : (q - 1) * v2 ≤ 65535 * 65535 := Int.mul_le_mul (by omega) (by omega) gv2.1 (by omega)
        omega
      have h6 := kn_exit hw hvv ⟨hx0, hx1⟩ ⟨hy0, hy1⟩ gv2.1 (by omega) ⟨by omega, h4⟩ hm h5
      exact fin_valc (by simp (disch := omega) only [go_sem]) (by simp (disch := omega) only [go_sem]) ⟨q - 1, rfl, rfl, rfl, ⟨by omega, h4⟩, by rw [show q - 1 + 1 = q by omega]; exact hst, h6⟩
    · simp (disch := omega) only [go_sem, h3]
      refine next_intro (q - 1, r + v1) [] ⟨by show 0 ≤ q - 1 ∧ q - 1 ≤ 65537; omega, by show 0 ≤ r + v1 ∧ r + v1 < 65536; omega, hm, by show _ < (q - 1 + 1) * vl V; rw [show q - 1 + 1 = q by omega]; exact hst⟩ (by show (q - 1).toNat < q.toNat; omega) rfl (by simp (disch := omega) only [go_sem]; try omega) (by simp (disch := omega) only [go_sem])
end Go.Ab
namespace Go.Ab
open Go Go.Proofs
set_option linter.unusedVariables false
set_option linter.unusedSimpArgs false

theorem con_takeAway (U V : List Int) (j : Nat) (q : Int) (hU : gd U) (hV : gd V) (lU : U.length ≤ 2000000) (hj : j + V.length < U.length) (hq : 0 ≤ q ∧ q < 65536) :
    Con Tryd.prog 158 false [.rf 10000000 0 U.length, .sl V.length (ints V), .v (.int .i64 j), .v (.int .i64 q)] [.own 1 (ints U)]
      (fun r hs bs => ∃ (U' : List Int) (bo : Int), r = .v (.bool (decide (U.getD (j + V.length) 0 - bo < 0))) ∧ hs = [] ∧ bs = [.own 1 (ints (U'.set (j + V.length) (U.getD (j + V.length) 0 - bo)))] ∧
        U'.length = U.length ∧ gd U' ∧ (0 ≤ bo ∧ bo < 65536) ∧ (∀ t, t < j ∨ j + V.length ≤ t → U'.getD t 0 = U.getD t 0) ∧ vl U' - 65536 ^ (j + V.length) * bo = vl U - 65536 ^ j * (q * vl V)) := by
  refine Con.of_aw Tryd.func158 rfl Tryd.ntmps158 (by simp) (by simp) (by simp) (W.sound ?_)
  show @W Tryd.prog 68 ⟨_⟩ ⟨fun x σ => @retW _ _ _ ⟨_⟩ _ ⟨_⟩ x σ⟩ _ _
  simp (disch := omega) only [go_sem]
  refine loop_intro (fun x : Nat × List Int × Int => [(0, .rf 10000000 0 U.length), (1, .sl V.length (ints V)), (2, .v (.int .i64 j)), (3, .v (.int .i64 q)), (9, .v (.int .i64 x.2.2)), (13, .sl V.length (ints V)), (14, .v (.int .i64 V.length)), (15, .v (.int .i64 x.1))])
    (fun x => [(10000000, .own 1 (ints x.2.1))])
    (fun x => x.1 ≤ V.length ∧ x.2.1.length = U.length ∧ gd x.2.1 ∧ (0 ≤ x.2.2 ∧ x.2.2 < 65536) ∧ (∀ t, t < j ∨ j + x.1 ≤ t → x.2.1.getD t 0 = U.getD t 0) ∧ vl x.2.1 - 65536 ^ (j + x.1) * x.2.2 = vl U - 65536 ^ j * (q * vl (V.take x.1)))
    (fun x => V.length - x.1) (0, U, 0) ⟨by simp, rfl, hU, by simp, fun _ _ => rfl, by simp [vl]⟩
    (Le.lst [] _ _ rfl (by simp (disch := omega) only [go_sem]; try omega) (by simp (disch := omega) only [go_sem])) ?_
  rintro ⟨i, U1, bo⟩ ⟨hi, hl1, hg1, hbo, hsame, hval⟩
  dsimp only at hi hl1 hg1 hbo hsame hval ⊢
  simp (disch := omega) only [go_sem]
  refine ifW_dec (fun h1 => ?_) (fun h1 => ?_)
  · have hx := gd_getD hV i
    have hu := gd_getD hg1 (j + i)
    have hqx : 0 ≤ q * V.getD i 0 ∧ q * V.getD i 0 ≤ 65535 * 65535 := ⟨Int.mul_nonneg hq.1 hx.1, Int.mul_le_mul (by omega) (by omega) hx.1 (by omega)⟩
    have e1 : ((j : Int) + (i : Int)).toNat = j + i := by omega
    have hstep : ∀ d b : Int, d - 65536 * b = U1.getD (j + i) 0 - q * V.getD i 0 - bo → vl (U1.set (j + i) d) - 65536 ^ (j + (i + 1)) * b = vl U - 65536 ^ j * (q * vl (V.take (i + 1))) := by
      intro d b hd
      rw [vl_set (by omega), vl_take_any, ← Nat.add_assoc, Int.pow_succ]
      have e3 : (65536 : Int) ^ (j + i) = 65536 ^ j * 65536 ^ i := Int.pow_add _ _ _
      rw [e3] at hval ⊢
      generalize (65536 : Int) ^ i = Pi at *
      generalize (65536 : Int) ^ j = Pj at *
      grind
    have hsm : ∀ d : Int, ∀ t, t < j ∨ j + (i + 1) ≤ t → (U1.set (j + i) d).getD t 0 = U.getD t 0 := fun d t ht => by
      rw [getD_set (by omega), if_neg (by omega)]; exact hsame t (by omega)
    simp (disch := omega) only [go_sem, h1, e1]
    refine ⟨by omega, by omega, by omega, by omega, ifW_dec (fun h2 => ?_) (fun h2 => ?_)⟩
    · simp (disch := omega) only [go_sem, h2, e1]
      generalize hb : (0 - (U1.getD (j + i) 0 - q * V.getD i 0 - bo) + 65536 - 1) / 65536 = b
      refine ⟨by omega, by omega, next_intro (i + 1, U1.set (j + i) (U1.getD (j + i) 0 - q * V.getD i 0 - bo + b * 65536), b) [] ⟨by show i + 1 ≤ _; omega, by simp [hl1], gd_set hg1 (by omega), by show 0 ≤ b ∧ b < 65536; omega, hsm _, hstep (U1.getD (j + i) 0 - q * V.getD i 0 - bo + b * 65536) b (by omega)⟩
        (by show V.length - (i + 1) < V.length - i; omega) rfl (by simp (disch := omega) only [go_sem]; try omega) (by simp (disch := omega) only [go_sem])⟩
    · simp (disch := omega) only [go_sem, h2, e1]
      refine ⟨by omega, by omega, next_intro (i + 1, U1.set (j + i) (U1.getD (j + i) 0 - q * V.getD i 0 - bo), 0) [] ⟨by show i + 1 ≤ _; omega, by simp [hl1], gd_set hg1 (by omega), by simp, hsm _, hstep (U1.getD (j + i) 0 - q * V.getD i 0 - bo) 0 (by omega)⟩
        (by show V.length - (i + 1) < V.length - i; omega) rfl (by simp (disch := omega) only [go_sem]; try omega) (by simp (disch := omega) only [go_sem])⟩
  · have hiA : i = V.length := by omega
    subst hiA
    rw [List.take_length] at hval
    have e1 : ((j : Int) + (V.length : Int)).toNat = j + V.length := by omega
    have hu := gd_getD hg1 (j + V.length)
    have es := hsame (j + V.length) (by omega)
    have eg : (U1.set (j + V.length) (U.getD (j + V.length) 0 - bo)).getD (j + V.length) 0 = U.getD (j + V.length) 0 - bo := by rw [getD_set (by omega), if_pos rfl]
    simp (disch := omega) only [go_sem, h1, e1, es]
    refine ⟨by omega, by omega, by omega, by omega, by omega, by simp; omega, ?_⟩
    simp (disch := omega) only [go_sem, eg]
    refine fin_intro [] [] [.own 1 (ints (U1.set (j + V.length) (U.getD (j + V.length) 0 - bo)))] [.v (.bool (decide (U.getD (j + V.length) 0 - bo < 0)))] rfl (by simp (disch := omega) only [go_sem]) (by simp (disch := omega) only [go_sem]) (by simp) (by simp) ⟨U1, bo, rfl, rfl, rfl, hl1, hg1, hbo, hsame, hval⟩

theorem con_addBack (U V : List Int) (j : Nat) (hU : ∀ t, t ≠ j + V.length → 0 ≤ U.getD t 0 ∧ U.getD t 0 < 65536) (hUt : -65536 ≤ U.getD (j + V.length) 0 ∧ U.getD (j + V.length) 0 < 65536) (hV : gd V) (lU : U.length ≤ 2000000) (hj : j + V.length < U.length) :
    Con Tryd.prog 159 false [.rf 10000000 0 U.length, .sl V.length (ints V), .v (.int .i64 j)] [.own 1 (ints U)]
      (fun r hs bs => ∃ (U' : List Int), r = .tu [] ∧ hs = [] ∧ bs = [.own 1 (ints U')] ∧
        U'.length = U.length ∧ (∀ t, t ≠ j + V.length → 0 ≤ U'.getD t 0 ∧ U'.getD t 0 < 65536) ∧ (∀ t, t < j ∨ j + V.length < t → U'.getD t 0 = U.getD t 0) ∧ vl U' = vl U + 65536 ^ j * vl V) := by
  refine Con.of_aw Tryd.func159 rfl Tryd.ntmps159 (by simp) (by simp) (by simp) (W.sound ?_)
  show @W Tryd.prog 46 ⟨_⟩ ⟨fun x σ => @retW _ _ _ ⟨_⟩ _ ⟨_⟩ x σ⟩ _ _
  simp (disch := omega) only [go_sem]
  refine loop_intro (fun x : Nat × List Int × Int => [(0, .rf 10000000 0 U.length), (1, .sl V.length (ints V)), (2, .v (.int .i64 j)), (6, .v (.int .i64 x.2.2)), (9, .sl V.length (ints V)), (10, .v (.int .i64 V.length)), (11, .v (.int .i64 x.1))])
    (fun x => [(10000000, .own 1 (ints x.2.1))])
    (fun x => x.1 ≤ V.length ∧ x.2.1.length = U.length ∧ (∀ t, t ≠ j + V.length → 0 ≤ x.2.1.getD t 0 ∧ x.2.1.getD t 0 < 65536) ∧ (0 ≤ x.2.2 ∧ x.2.2 ≤ 1) ∧ (∀ t, t < j ∨ j + x.1 ≤ t → x.2.1.getD t 0 = U.getD t 0) ∧ vl x.2.1 + 65536 ^ (j + x.1) * x.2.2 = vl U + 65536 ^ j * vl (V.take x.1))
    (fun x => V.length - x.1) (0, U, 0) ⟨by simp, rfl, hU, by simp, fun _ _ => rfl, by simp [vl]⟩
    (Le.lst [] _ _ rfl (by simp (disch := omega) only [go_sem]; try omega) (by simp (disch := omega) only [go_sem])) ?_
  rintro ⟨i, U1, cy⟩ ⟨hi, hl1, hg1, hcy, hsame, hval⟩
  dsimp only at hi hl1 hg1 hcy hsame hval ⊢
  simp (disch := omega) only [go_sem]
  refine ifW_dec (fun h1 => ?_) (fun h1 => ?_)
  · have hx := gd_getD hV i
    have hu := hg1 (j + i) (by omega)
    have e1 : ((j : Int) + (i : Int)).toNat = j + i := by omega
    simp (disch := omega) only [go_sem, h1, e1]
    generalize hb : cy + (U1.getD (j + i) 0 + V.getD i 0) = b
    have hg2 : ∀ t, t ≠ j + V.length → 0 ≤ (U1.set (j + i) (b % 65536)).getD t 0 ∧ (U1.set (j + i) (b % 65536)).getD t 0 < 65536 := fun t ht => by
      rw [getD_set (by omega)]
      split
      · omega
      · exact hg1 t ht
    refine ⟨by omega, by omega, by omega, by omega, by omega, by omega, next_intro (i + 1, U1.set (j + i) (b % 65536), b / 65536) [] ⟨by show i + 1 ≤ _; omega, by simp [hl1], hg2, by show 0 ≤ b / 65536 ∧ b / 65536 ≤ 1; omega, fun t ht => ?_, ?_⟩
      (by show V.length - (i + 1) < V.length - i; omega) rfl (by simp (disch := omega) only [go_sem]; try omega) (by simp (disch := omega) only [go_sem])⟩
    · show (U1.set (j + i) (b % 65536)).getD t 0 = _
      have ht : t < j ∨ j + (i + 1) ≤ t := ht
      rw [getD_set (by omega), if_neg (by omega)]; exact hsame t (by omega)
    · show vl (U1.set (j + i) (b % 65536)) + 65536 ^ (j + (i + 1)) * (b / 65536) = vl U + 65536 ^ j * vl (V.take (i + 1))
      rw [vl_set (by omega), vl_take_any, ← Nat.add_assoc, Int.pow_succ]
      have e3 : (65536 : Int) ^ (j + i) = 65536 ^ j * 65536 ^ i := Int.pow_add _ _ _
      have e4 : b % 65536 + 65536 * (b / 65536) = b := Int.emod_add_mul_ediv b 65536
      rw [e3] at hval ⊢
      generalize (65536 : Int) ^ i = Pi at *
      generalize (65536 : Int) ^ j = Pj at *
      grind
  · have hiA : i = V.length := by omega
    subst hiA
    rw [List.take_length] at hval
    have e1 : ((j : Int) + (V.length : Int)).toNat = j + V.length := by omega
    have es := hsame (j + V.length) (by omega)
    simp (disch := omega) only [go_sem, h1, e1, es]
    refine ⟨by omega, by omega, by omega, by omega, ?_⟩
    refine fin_intro [] [] [.own 1 (ints (U1.set (j + V.length) (U.getD (j + V.length) 0 + cy)))] [] rfl (by simp (disch := omega) only [go_sem]) (by simp (disch := omega) only [go_sem]) (by simp) (by simp) ⟨_, rfl, rfl, rfl, by simp [hl1], fun t ht => ?_, fun t ht => ?_, ?_⟩
    · rw [getD_set (by omega), if_neg ht]; exact hg1 t ht
    · rw [getD_set (by omega), if_neg (by omega)]; exact hsame t (by omega)
    · rw [vl_set (by omega), es]
      generalize (65536 : Int) ^ (j + V.length) = Pj at *
      grind
end Go.Ab
namespace Go.Ab
open Go Go.Proofs
set_option linter.unusedVariables false
set_option linter.unusedSimpArgs false

theorem con_small (cl : Bool) (n : Nat) (hn : n < 2 ^ 63) : Con Tryd.prog 74 cl [.v (.int .i64 n)] [] (numR (lim n)) := by
  refine Con.of_aw Tryd.func74 rfl Tryd.ntmps74 (by simp) (by simp) (by simp) (W.sound ?_)
  show @W Tryd.prog 14 ⟨_⟩ ⟨fun x σ => @retW _ _ _ ⟨_⟩ _ ⟨_⟩ x σ⟩ _ _
  simp (disch := omega) only [go_sem]
  refine loop_intro (fun x : Nat × List Int => [(0, .v (.int .i64 x.1)), (3, .rf 1 0 x.2.length)]) (fun x => [(1, .own 1 (ints x.2))]) (fun x => x.1 < 2 ^ 63 ∧ x.2 ++ lim x.1 = lim n) (fun x => x.1) (n, []) ⟨hn, rfl⟩
    ((Le.ghost 3 1 1 (by simp (disch := omega) only [go_sem]) (by simp (disch := omega) only [go_sem])).trans (Le.lst [] _ _ rfl (by simp (disch := omega) only [go_sem]) (by simp (disch := omega) only [go_sem]))) ?_
  rintro ⟨k, l⟩ ⟨hk, hl⟩
  dsimp only at hk hl ⊢
  have hlen : l.length ≤ 4 := by
    have h1 := congrArg List.length hl
    have h2 := lim_len (n := n) (k := 4) |>.2 (by omega)
    rw [List.length_append] at h1; omega
  simp (disch := omega) only [go_sem]
  refine ifW_dec (fun h1 => ?_) (fun h1 => ?_)
  · simp (disch := omega) only [go_sem, h1]
    have hk0 : k ≠ 0 := by omega
    refine ⟨by omega, next_intro (k / 65536, l ++ [(k : Int) % 65536]) [(1, 140000000)] ⟨by show k / 65536 < 2 ^ 63; omega, ?_⟩ (by show k / 65536 < k; omega) rfl (by simp (disch := omega) only [go_sem, List.length_append]; omega) (by simp (disch := omega) only [go_sem])⟩
    rw [lim_pos hk0] at hl
    rw [← hl, List.append_assoc]; rfl
  · simp (disch := omega) only [go_sem, h1]
    have hk0 : k = 0 := by omega
    subst hk0
    rw [lim_zero, List.append_nil] at hl
    subst hl
    refine fin_intro [(0, 1)] [.own 1 (ints (lim n ++ []))] [] [.rf 0 0 (lim n).length] rfl (by simp (disch := omega) only [go_sem]) (by simp (disch := omega) only [go_sem]) (by simp) (by intro _; simp [tupA, AV.pu, AV.pu.puL, Ob.pu, pu_ints]) (.inr ⟨[], rfl, rfl⟩)
end Go.Ab
namespace Go.Ab
open Go Go.Proofs
set_option linter.unusedVariables false
set_option linter.unusedSimpArgs false

theorem mod_step (V P : Int) (hP : 0 < P) : V % (P * 65536) = V % P + P * (V / P % 65536) := by
  rw [Int.emod_def, Int.emod_def, Int.emod_def, ← Int.ediv_ediv_of_nonneg (Int.le_of_lt hP)]
  grind

theorem pow_rest {s : Nat} (hs : s < 16) : (65536 : Int) = 2 ^ s * 2 ^ (16 - s) := by
  rw [← Int.pow_add, show s + (16 - s) = 16 by omega]; decide

theorem digit_down {D : List Int} (hD : gd D) {i s : Nat} (hi : i < D.length) (hs : s < 16) :
    (vl D / 2 ^ s) / 65536 ^ i % 65536 = (D.getD i 0 + D.getD (i + 1) 0 * 65536) / 2 ^ s % 65536 := by
  have h2 := (pow_le_15 s hs).1
  rw [Int.ediv_ediv_of_nonneg (Int.le_of_lt h2), Int.mul_comm, ← Int.ediv_ediv_of_nonneg (Int.le_of_lt (Int.pow_pos (by omega))), vl_div hD (by omega), vl_drop hi]
  have h3 : vl (D.drop (i + 1)) = D.getD (i + 1) 0 + 65536 * vl (D.drop (i + 2)) := by
    rcases Nat.lt_or_ge (i + 1) D.length with h | h
    · exact vl_drop h
    · rw [List.drop_of_length_le h, List.drop_of_length_le (by omega), List.getD_eq_getElem?_getD, List.getElem?_eq_none h]; simp [vl]
  rw [h3]
  have e : D.getD i 0 + 65536 * (D.getD (i + 1) 0 + 65536 * vl (D.drop (i + 2))) = (D.getD i 0 + D.getD (i + 1) 0 * 65536) + 2 ^ s * (65536 * (2 ^ (16 - s) * vl (D.drop (i + 2)))) := by
    have := pow_rest hs
    generalize (2 : Int) ^ s = a at *
    generalize (2 : Int) ^ (16 - s) = b at *
    grind
  rw [e, Int.add_mul_ediv_left _ _ (by omega), Int.add_mul_emod_self_left]

theorem pow_mono' {a b : Nat} (h : a ≤ b) : (65536 : Int) ^ a ≤ 65536 ^ b := by
  obtain ⟨d, rfl⟩ := Nat.exists_eq_add_of_le h
  have h1 : (0 : Int) < 65536 ^ a := Int.pow_pos (by omega)
  have h2 : (0 : Int) < 65536 ^ d := Int.pow_pos (by omega)
  have h3 := Int.mul_le_mul_of_nonneg_left (show (1 : Int) ≤ 65536 ^ d by omega) (Int.le_of_lt h1)
  rw [Int.mul_one, ← Int.pow_add] at h3
  exact h3

theorem con_down (cl : Bool) (A : List Int) (k : Nat) (hA : gd A) (lA : A.length ≤ 1000000) (hk : k ≤ 100000000) :
    Con Tryd.prog 136 cl [.sl A.length (ints A), .v (.int .i64 k)] [] (numR (lim (vl A / 2 ^ k).toNat)) := by
  refine Con.of_aw Tryd.func136 rfl Tryd.ntmps136 (by simp) (by simp) (by simp) (W.sound ?_)
  show @W Tryd.prog 52 ⟨_⟩ ⟨fun x σ => @retW _ _ _ ⟨_⟩ _ ⟨_⟩ x σ⟩ _ _
  have hvk : vl A / 2 ^ k = vl A / 65536 ^ (k / 16) / 2 ^ (k % 16) := by
    rw [Int.ediv_ediv_of_nonneg (Int.le_of_lt (Int.pow_pos (by omega))), pow_split]
  simp (disch := omega) only [go_sem]
  refine ifW_dec (fun h0 => ?_) (fun h0 => ?_)
  · simp (disch := omega) only [go_sem, h0]
    have hz : vl A / 2 ^ k = 0 := by
      rw [hvk, Int.ediv_eq_zero_of_lt (vl_nonneg hA)]
      · simp
      · refine Int.lt_of_lt_of_le (vl_lt hA) ?_
        exact pow_mono' (by omega)
    rw [hz]
    refine fin_intro [] [] [] [.v (.slice none 0 0)] rfl (by simp (disch := omega) only [go_sem]) (by simp (disch := omega) only [go_sem]) (by simp) (by intro _; simp [tupA, AV.pu, AV.pu.puL, Ob.pu, pu_ints]) (.inl ⟨by simp [lim_zero], rfl, rfl⟩)
  · have e16 : ((k : Int) / 16).toNat = k / 16 := by omega
    have e17 : ((A.length : Int) - (k : Int) / 16).toNat = (A.drop (k / 16)).length := by simp; omega
    have e18 : (A.drop (k / 16)).take (A.drop (k / 16)).length = A.drop (k / 16) := List.take_length
    have hvD := vl_div hA (i := k / 16) (by omega)
    have hlD : (A.drop (k / 16)).length ≤ 1000000 := by simp; omega
    have hD := gd_drop hA (k / 16)
    simp (disch := omega) only [go_sem, h0, e16, e17, e18]
    generalize A.drop (k / 16) = D at *
    refine ⟨by omega, by omega, ?_⟩
    refine loop_intro (fun x : Nat × List Int => [(1, .v (.int .i64 k)), (5, .sl D.length (ints D)), (6, .rf 1 0 x.2.length), (21, .sl D.length (ints D)), (22, .v (.int .i64 D.length)), (23, .v (.int .i64 x.1))])
      (fun x => [(1, .own 1 (ints x.2))])
      (fun x => x.1 ≤ D.length ∧ x.2.length = x.1 ∧ gd x.2 ∧ vl x.2 = vl D / 2 ^ (k % 16) % 65536 ^ x.1)
      (fun x => D.length - x.1) (0, []) ⟨by simp, rfl, gd_nil, by simp [vl]⟩
      (Le.lst [(1, 220000000)] _ _ rfl (by simp (disch := omega) only [go_sem]) (by simp (disch := omega) only [go_sem])) ?_
    rintro ⟨i, out⟩ ⟨hi, hol, hog, hov⟩
    dsimp only at hi hol hog hov ⊢
    simp (disch := omega) only [go_sem]
    refine ifW_dec (fun h1 => ?_) (fun h1 => ?_)
    · have hx := gd_getD hD i
      have hy := gd_getD hD (i + 1)
      have em : min ((k : Int) % 16).toNat 64 = k % 16 := by omega
      have hm := pow_le_15 (k % 16) (by omega)
      have efd : ∀ x : Int, x.fdiv (2 ^ (k % 16)) = x / 2 ^ (k % 16) := fun x => Int.fdiv_eq_ediv_of_nonneg _ (Int.le_of_lt hm.1)
      have hdig := digit_down hD (i := i) (s := k % 16) (by omega) (by omega)
      have hnn : ∀ x : Int, 0 ≤ x → 0 ≤ x / 2 ^ (k % 16) := fun x hx => Int.ediv_nonneg hx (Int.le_of_lt hm.1)
      have ei : ((i : Int) + 1).toNat = i + 1 := by omega
      have hstep : ∀ z : Int, z = (D.getD i 0 + D.getD (i + 1) 0 * 65536) / 2 ^ (k % 16) % 65536 → vl (out ++ [z]) = vl D / 2 ^ (k % 16) % 65536 ^ (i + 1) := by
        intro z hz
        rw [vl_snoc, hov, hol, Int.pow_succ, mod_step _ _ (Int.pow_pos (by omega)), hdig, hz]
      simp (disch := omega) only [go_sem, h1]
      refine ⟨by omega, by omega, ifW_dec (fun h2 => ?_) (fun h2 => ?_)⟩
      · have hn1 := hnn (D.getD i 0 + D.getD (i + 1) 0 * 65536) (by omega)
        simp (disch := omega) only [go_sem, h2, em, efd, ei]
        refine ⟨by omega, by omega, by omega, by omega, next_intro (i + 1, out ++ [(D.getD i 0 + D.getD (i + 1) 0 * 65536) / 2 ^ (k % 16) % 65536]) [(1, 500000000)] ⟨by show i + 1 ≤ _; omega, by simp [hol], gd_append.2 ⟨hog, gd_one.2 (by omega)⟩, hstep _ rfl⟩ (by show D.length - (i + 1) < D.length - i; omega) rfl (by simp (disch := omega) only [go_sem, List.length_append]; try omega) (by simp (disch := omega) only [go_sem])⟩
      · have hn1 := hnn (D.getD i 0) (by omega)
        simp (disch := omega) only [go_sem, h2, em, efd]
        have hy0 : D.getD (i + 1) 0 = 0 := by rw [List.getD_eq_getElem?_getD, List.getElem?_eq_none (by omega)]; rfl
        refine ⟨by omega, by omega, next_intro (i + 1, out ++ [D.getD i 0 / 2 ^ (k % 16) % 65536]) [(1, 500000000)] ⟨by show i + 1 ≤ _; omega, by simp [hol], gd_append.2 ⟨hog, gd_one.2 (by omega)⟩, hstep _ (by rw [hy0]; simp)⟩ (by show D.length - (i + 1) < D.length - i; omega) rfl (by simp (disch := omega) only [go_sem, List.length_append]; try omega) (by simp (disch := omega) only [go_sem])⟩
    · simp (disch := omega) only [go_sem, h1]
      have hiD : i = D.length := by omega
      subst hiD
      have hV : vl out = vl A / 2 ^ k := by
        rw [hov, hvk, hvD]
        refine Int.emod_eq_of_lt (Int.ediv_nonneg (vl_nonneg hD) (Int.le_of_lt (pow_le_15 (k % 16) (by omega)).1)) ?_
        exact Int.lt_of_le_of_lt (Int.ediv_le_self _ (vl_nonneg hD)) (vl_lt hD)
      refine call_lend false [1] (con_trim out (by omega)) (by simp (disch := omega) only [go_sem]) (by simp (disch := omega) only [go_sem]) rfl (lend_cons (z := 1) (cs := ints out) (by simp (disch := omega) only [go_sem]) (by simp (disch := omega) only [go_sem])) (by intro n hn; exact ⟨_, List.mem_singleton.2 rfl, by rw [List.mem_singleton.1 hn]; rfl⟩) ?_
      rintro r hs bs ⟨rfl, rfl, rfl⟩ _
      refine ⟨by simp [freeN], ?_⟩
      simp (disch := omega) only [go_sem]
      obtain ⟨z, hz⟩ := cutZ_pre out
      have hc := cutZ_lim hog
      rw [hV] at hc
      rw [hc] at hz ⊢
      refine fin_intro [(0, 1)] [.own 1 (ints out)] [] [.rf 0 0 (lim (vl A / 2 ^ k).toNat).length] rfl (by simp (disch := omega) only [go_sem]) (by simp (disch := omega) only [go_sem]) (by simp) (by intro _; simp [tupA, AV.pu, AV.pu.puL, Ob.pu, pu_ints]) (.inr ⟨List.replicate z 0, rfl, by rw [← hz]⟩)
end Go.Ab
namespace Go.Ab
open Go Go.Proofs
set_option linter.unusedVariables false
set_option linter.unusedSimpArgs false

theorem con_plus (cl : Bool) (A B : List Int) (hA : gd A) (hB : gd B) (lA : A.length ≤ 2000000) (lB : B.length ≤ 2000000) :
    Con Tryd.prog 115 cl [.sl A.length (ints A), .sl B.length (ints B)] [] (numR (lim (vl A + vl B).toNat)) := by
  refine Con.of_aw Tryd.func115 rfl Tryd.ntmps115 (by simp) (by simp) (by simp) (W.sound ?_)
  show @W Tryd.prog 53 ⟨_⟩ ⟨fun x σ => @retW _ _ _ ⟨_⟩ _ ⟨_⟩ x σ⟩ _ _
  simp (disch := omega) only [go_sem]
  refine ifW_dec (fun h0 => ?_) (fun h0 => ?_)
  all_goals simp (disch := omega) only [go_sem, h0]
  · revert A B
    intro Y X hY hX lY lX h0'
    have h00 : Y.length ≤ X.length := by omega
    have hcm : vl Y + vl X = vl X + vl Y := Int.add_comm _ _
    refine ⟨by omega, ?_⟩
    refine loop_intro (fun x : Nat × List Int × Int => [(1, .sl Y.length (ints Y)), (5, .rf 1 0 x.2.1.length), (6, .v (.int .i64 x.2.2)), (20, .sl X.length (ints X)), (21, .v (.int .i64 X.length)), (22, .v (.int .i64 x.1))])
      (fun x => [(1, .own 1 (ints x.2.1))])
      (fun x => x.1 ≤ X.length ∧ x.2.1.length = x.1 ∧ gd x.2.1 ∧ (0 ≤ x.2.2 ∧ x.2.2 ≤ 1) ∧ vl x.2.1 + 65536 ^ x.1 * x.2.2 = vl (X.take x.1) + vl (Y.take x.1))
      (fun x => X.length - x.1) (0, [], 0) ⟨by simp, rfl, gd_nil, by simp, by simp [vl]⟩
      (Le.lst [(1, 210000000)] _ _ rfl (by simp (disch := omega) only [go_sem]) (by simp (disch := omega) only [go_sem])) ?_
    rintro ⟨i, out, cy⟩ ⟨hi, hol, hog, hcy, hov⟩
    dsimp only at hi hol hog hcy hov ⊢
    simp (disch := omega) only [go_sem]
    refine ifW_dec (fun h1 => ?_) (fun h1 => ?_)
    · have hx := gd_getD hX i
      have hy := gd_getD hY i
      have hstep : ∀ q : Int, q = cy + X.getD i 0 + Y.getD i 0 → vl (out ++ [q % 65536]) + 65536 ^ (i + 1) * (q / 65536) = vl (X.take (i + 1)) + vl (Y.take (i + 1)) := by
        intro q hq
        rw [vl_snoc, vl_take_any, vl_take_any, hol, Int.pow_succ]
        have e3 : q % 65536 + 65536 * (q / 65536) = q := Int.emod_add_mul_ediv q 65536
        generalize (65536 : Int) ^ i = Pi at *
        grind
      have hyz : ¬ i < Y.length → Y.getD i 0 = 0 := fun h => by rw [List.getD_eq_getElem?_getD, List.getElem?_eq_none (by omega)]; rfl
      simp (disch := omega) only [go_sem, h1]
      refine ⟨by omega, by omega, ifW_dec (fun h2 => ?_) (fun h2 => ?_)⟩
      · simp (disch := omega) only [go_sem, h2]
        generalize hq : cy + X.getD i 0 + Y.getD i 0 = q
        refine ⟨by omega, by omega, by omega, next_intro (i + 1, out ++ [q % 65536], q / 65536) [(1, 460000000)] ⟨by show i + 1 ≤ _; omega, by simp [hol], gd_append.2 ⟨hog, gd_one.2 (by omega)⟩, by show 0 ≤ q / 65536 ∧ q / 65536 ≤ 1; omega, hstep q hq.symm⟩ (by show X.length - (i + 1) < X.length - i; omega) rfl (by simp (disch := omega) only [go_sem, List.length_append]; try omega) (by simp (disch := omega) only [go_sem])⟩
      · simp (disch := omega) only [go_sem, h2]
        have hy0 := hyz (by omega)
        generalize hq : cy + X.getD i 0 = q
        refine ⟨by omega, next_intro (i + 1, out ++ [q % 65536], q / 65536) [(1, 460000000)] ⟨by show i + 1 ≤ _; omega, by simp [hol], gd_append.2 ⟨hog, gd_one.2 (by omega)⟩, by show 0 ≤ q / 65536 ∧ q / 65536 ≤ 1; omega, hstep q (by omega)⟩ (by show X.length - (i + 1) < X.length - i; omega) rfl (by simp (disch := omega) only [go_sem, List.length_append]; try omega) (by simp (disch := omega) only [go_sem])⟩
    · simp (disch := omega) only [go_sem, h1]
      have hiA : i = X.length := by omega
      subst hiA
      rw [List.take_length, List.take_of_length_le h00] at hov
      have hov2 : vl (out ++ [cy]) = vl X + vl Y := by rw [vl_snoc, hol]; exact hov
      have hog2 : gd (out ++ [cy]) := gd_append.2 ⟨hog, gd_one.2 (by omega)⟩
      refine ⟨by omega, ?_⟩
      have hl2 : out.length + 1 = (out ++ [cy]).length := by simp
      rw [hl2]
      refine call_lend false [530000000] (con_trim (out ++ [cy]) (by simp; omega)) (by simp (disch := omega) only [go_sem]) (by simp (disch := omega) only [go_sem]) rfl (lend_cons (z := 1) (cs := ints (out ++ [cy])) (by simp (disch := omega) only [go_sem]) (by simp (disch := omega) only [go_sem])) (by intro n hn; exact ⟨_, List.mem_singleton.2 rfl, by rw [List.mem_singleton.1 hn]; rfl⟩) ?_
      rintro r hs bs ⟨rfl, rfl, rfl⟩ _
      refine ⟨by simp [freeN], ?_⟩
      simp (disch := omega) only [go_sem]
      obtain ⟨z, hz⟩ := cutZ_pre (out ++ [cy])
      have hc := cutZ_lim hog2
      rw [hov2] at hc
      rw [hc] at hz ⊢
      refine fin_intro [(0, 530000000)] [.own 1 (ints (out ++ [cy]))] [] [.rf 0 0 (lim (vl X + vl Y).toNat).length] rfl (by simp (disch := omega) only [go_sem]) (by simp (disch := omega) only [go_sem]) (by simp) (by intro _; simp [tupA, AV.pu, AV.pu.puL, Ob.pu, pu_ints]) (.inr ⟨List.replicate z 0, by rw [hcm]; rfl, by rw [hcm, ← hz]⟩)
  · revert A B
    intro X Y hX hY lX lY h0'
    have h00 : Y.length ≤ X.length := by omega
    have hcm : vl X + vl Y = vl X + vl Y := rfl
    refine ⟨by omega, ?_⟩
    refine loop_intro (fun x : Nat × List Int × Int => [(1, .sl Y.length (ints Y)), (5, .rf 1 0 x.2.1.length), (6, .v (.int .i64 x.2.2)), (20, .sl X.length (ints X)), (21, .v (.int .i64 X.length)), (22, .v (.int .i64 x.1))])
      (fun x => [(1, .own 1 (ints x.2.1))])
      (fun x => x.1 ≤ X.length ∧ x.2.1.length = x.1 ∧ gd x.2.1 ∧ (0 ≤ x.2.2 ∧ x.2.2 ≤ 1) ∧ vl x.2.1 + 65536 ^ x.1 * x.2.2 = vl (X.take x.1) + vl (Y.take x.1))
      (fun x => X.length - x.1) (0, [], 0) ⟨by simp, rfl, gd_nil, by simp, by simp [vl]⟩
      (Le.lst [(1, 210000000)] _ _ rfl (by simp (disch := omega) only [go_sem]) (by simp (disch := omega) only [go_sem])) ?_
    rintro ⟨i, out, cy⟩ ⟨hi, hol, hog, hcy, hov⟩
    dsimp only at hi hol hog hcy hov ⊢
    simp (disch := omega) only [go_sem]
    refine ifW_dec (fun h1 => ?_) (fun h1 => ?_)
    · have hx := gd_getD hX i
      have hy := gd_getD hY i
      have hstep : ∀ q : Int, q = cy + X.getD i 0 + Y.getD i 0 → vl (out ++ [q % 65536]) + 65536 ^ (i + 1) * (q / 65536) = vl (X.take (i + 1)) + vl (Y.take (i + 1)) := by
        intro q hq
        rw [vl_snoc, vl_take_any, vl_take_any, hol, Int.pow_succ]
        have e3 : q % 65536 + 65536 * (q / 65536) = q := Int.emod_add_mul_ediv q 65536
        generalize (65536 : Int) ^ i = Pi at *
        grind
      have hyz : ¬ i < Y.length → Y.getD i 0 = 0 := fun h => by rw [List.getD_eq_getElem?_getD, List.getElem?_eq_none (by omega)]; rfl
      simp (disch := omega) only [go_sem, h1]
      refine ⟨by omega, by omega, ifW_dec (fun h2 => ?_) (fun h2 => ?_)⟩
      · simp (disch := omega) only [go_sem, h2]
        generalize hq : cy + X.getD i 0 + Y.getD i 0 = q
        refine ⟨by omega, by omega, by omega, next_intro (i + 1, out ++ [q % 65536], q / 65536) [(1, 460000000)] ⟨by show i + 1 ≤ _; omega, by simp [hol], gd_append.2 ⟨hog, gd_one.2 (by omega)⟩, by show 0 ≤ q / 65536 ∧ q / 65536 ≤ 1; omega, hstep q hq.symm⟩ (by show X.length - (i + 1) < X.length - i; omega) rfl (by simp (disch := omega) only [go_sem, List.length_append]; try omega) (by simp (disch := omega) only [go_sem])⟩
      · simp (disch := omega) only [go_sem, h2]
        have hy0 := hyz (by omega)
        generalize hq : cy + X.getD i 0 = q
        refine ⟨by omega, next_intro (i + 1, out ++ [q % 65536], q / 65536) [(1, 460000000)] ⟨by show i + 1 ≤ _; omega, by simp [hol], gd_append.2 ⟨hog, gd_one.2 (by omega)⟩, by show 0 ≤ q / 65536 ∧ q / 65536 ≤ 1; omega, hstep q (by omega)⟩ (by show X.length - (i + 1) < X.length - i; omega) rfl (by simp (disch := omega) only [go_sem, List.length_append]; try omega) (by simp (disch := omega) only [go_sem])⟩
    · simp (disch := omega) only [go_sem, h1]
      have hiA : i = X.length := by omega
      subst hiA
      rw [List.take_length, List.take_of_length_le h00] at hov
      have hov2 : vl (out ++ [cy]) = vl X + vl Y := by rw [vl_snoc, hol]; exact hov
      have hog2 : gd (out ++ [cy]) := gd_append.2 ⟨hog, gd_one.2 (by omega)⟩
      refine ⟨by omega, ?_⟩
      have hl2 : out.length + 1 = (out ++ [cy]).length := by simp
      rw [hl2]
      refine call_lend false [530000000] (con_trim (out ++ [cy]) (by simp; omega)) (by simp (disch := omega) only [go_sem]) (by simp (disch := omega) only [go_sem]) rfl (lend_cons (z := 1) (cs := ints (out ++ [cy])) (by simp (disch := omega) only [go_sem]) (by simp (disch := omega) only [go_sem])) (by intro n hn; exact ⟨_, List.mem_singleton.2 rfl, by rw [List.mem_singleton.1 hn]; rfl⟩) ?_
      rintro r hs bs ⟨rfl, rfl, rfl⟩ _
      refine ⟨by simp [freeN], ?_⟩
      simp (disch := omega) only [go_sem]
      obtain ⟨z, hz⟩ := cutZ_pre (out ++ [cy])
      have hc := cutZ_lim hog2
      rw [hov2] at hc
      rw [hc] at hz ⊢
      refine fin_intro [(0, 530000000)] [.own 1 (ints (out ++ [cy]))] [] [.rf 0 0 (lim (vl X + vl Y).toNat).length] rfl (by simp (disch := omega) only [go_sem]) (by simp (disch := omega) only [go_sem]) (by simp) (by intro _; simp [tupA, AV.pu, AV.pu.puL, Ob.pu, pu_ints]) (.inr ⟨List.replicate z 0, by rw [hcm]; rfl, by rw [hcm, ← hz]⟩)

end Go.Ab
namespace Go.Ab
open Go Go.Proofs
set_option linter.unusedVariables false
set_option linter.unusedSimpArgs false

theorem con_clone (cl : Bool) (xs : List Int) (hl : xs.length ≤ 2 ^ 39) : Con Tryd.prog 156 cl [.sl xs.length (ints xs)] [] (numR xs) := by
  refine Con.of_aw Tryd.func156 rfl Tryd.ntmps156 (by simp) (by simp) (by simp) (W.sound ?_)
  show @W Tryd.prog 8 ⟨_⟩ ⟨fun x σ => @retW _ _ _ ⟨_⟩ _ ⟨_⟩ x σ⟩ _ _
  simp (disch := omega) only [go_sem]
  refine ⟨fun h0 => ?_, ?_⟩
  · have : xs = [] := by cases xs with | nil => rfl | cons a r => cases h0
    subst this
    refine fin_intro [] [] [] [.v (.slice none 0 0)] rfl (by simp (disch := omega) only [go_sem]) (by simp (disch := omega) only [go_sem]) (by simp) (by intro _; simp [tupA, AV.pu]) (.inl ⟨rfl, rfl, rfl⟩)
  · refine ⟨by omega, ?_⟩
    refine fin_intro [(0, 90000000)] [.own 1 (ints xs)] [] [.rf 0 0 xs.length] rfl (by simp (disch := omega) only [go_sem]) (by simp (disch := omega) only [go_sem]) (by simp) (by intro _; simp [tupA, AV.pu, Ob.pu, pu_ints]) (.inr ⟨[], rfl, by rw [List.append_nil]⟩)
end Go.Ab
namespace Go.Ab
open Go Go.Proofs
set_option linter.unusedVariables false
set_option linter.unusedSimpArgs false

theorem con_isnan (x : Int) : Con Tryd.prog 145 true [.v (.int .i64 x)] [] (isA (.v (.bool false))) := by
  refine Con.of_aw Tryd.func145 rfl Tryd.ntmps145 (by simp) (by simp) (by simp) (W.sound ?_)
  show @W Tryd.prog 6 ⟨_⟩ ⟨fun x σ => @retW _ _ _ ⟨_⟩ _ ⟨_⟩ x σ⟩ _ _
  simp (disch := omega) only [go_sem]
  exact fin_valc (by simp (disch := omega) only [go_sem]) (by simp (disch := omega) only [go_sem]) isA_mk

theorem con_cmp (x y : Int) : Con Tryd.prog 134 true [.v (.int .i64 x), .v (.int .i64 y)] [] (isA (.v (.int .i64 (cmpI x y)))) := by
  refine Con.of_aw Tryd.func134 rfl Tryd.ntmps134 (by simp) (by simp) (by simp) (W.sound ?_)
  show @W Tryd.prog 20 ⟨_⟩ ⟨fun x σ => @retW _ _ _ ⟨_⟩ _ ⟨_⟩ x σ⟩ _ _
  simp (disch := omega) only [go_sem]
  refine call_closed (con_isnan x) (by simp (disch := omega) only [go_sem]) ?_
  rintro r hs ⟨rfl, rfl, _⟩
  refine ⟨by simp [freeN], ?_⟩
  simp (disch := omega) only [go_sem]
  refine call_closed (con_isnan y) (by simp (disch := omega) only [go_sem]) ?_
  rintro r hs ⟨rfl, rfl, _⟩
  refine ⟨by simp [freeN], ?_⟩
  simp (disch := omega) only [go_sem]
  refine ifW_dec (fun h1 => ?_) (fun h1 => ?_)
  · simp (disch := omega) only [go_sem, h1]
    rw [show cmpI x y = -1 by simp [cmpI, h1]]
    exact fin_valc (by simp (disch := omega) only [go_sem]) (by simp (disch := omega) only [go_sem]) isA_mk
  · simp (disch := omega) only [go_sem, h1]
    refine ifW_dec (fun h2 => ?_) (fun h2 => ?_)
    · simp (disch := omega) only [go_sem, h2]
      rw [show cmpI x y = 1 by simp [cmpI, h1, h2]]
      exact fin_valc (by simp (disch := omega) only [go_sem]) (by simp (disch := omega) only [go_sem]) isA_mk
    · simp (disch := omega) only [go_sem, h2]
      rw [show cmpI x y = 0 by simp [cmpI, h1, h2]]
      exact fin_valc (by simp (disch := omega) only [go_sem]) (by simp (disch := omega) only [go_sem]) isA_mk

theorem con_compare (a b : Nat) (la : (lim a).length ≤ 2 ^ 40) (lb : (lim b).length ≤ 2 ^ 40) :
    Con Tryd.prog 116 true [.sl (lim (a)).length (ints (lim (a))), .sl (lim (b)).length (ints (lim (b)))] [] (isA (.v (.int .i64 (cmpI a b)))) := by
  refine Con.of_aw Tryd.func116 rfl Tryd.ntmps116 (by simp) (by simp) (by simp) (W.sound ?_)
  show @W Tryd.prog 41 ⟨_⟩ ⟨fun x σ => @retW _ _ _ ⟨_⟩ _ ⟨_⟩ x σ⟩ _ _
  simp (disch := omega) only [go_sem]
  refine ifW_not (fun h1 => ?_) (fun h1 => ?_)
  · simp (disch := omega) only [go_sem, h1]
    refine call_closed (con_cmp (lim a).length (lim b).length) (by simp (disch := omega) only [go_sem]) ?_
    rintro r hs ⟨rfl, rfl, _⟩
    refine ⟨by simp [freeN], ?_⟩
    simp (disch := omega) only [go_sem]
    have : cmpI ((lim a).length : Int) ((lim b).length : Int) = cmpI a b := by
      unfold cmpI
      rcases (by omega : (lim a).length < (lim b).length ∨ (lim b).length < (lim a).length) with h | h
      · have := lim_lt_of h
        rw [if_pos (by omega), if_pos (by omega)]
      · have := lim_lt_of h
        rw [if_neg (by omega), if_pos (by omega), if_neg (by omega), if_pos (by omega)]
    rw [this]
    exact fin_valc (by simp (disch := omega) only [go_sem]) (by simp (disch := omega) only [go_sem]) isA_mk
  · simp (disch := omega) only [go_sem, h1]
    have hl : (lim a).length = (lim b).length := by omega
    refine loop_intro (fun k : Nat => [(0, .sl (lim (a)).length (ints (lim (a)))), (1, .sl (lim (b)).length (ints (lim (b)))), (5, .v (.int .i64 ((k : Int) - 1)))])
      (fun _ => []) (fun k => k ≤ (lim a).length ∧ (lim a).drop k = (lim b).drop k) (fun k => k) (lim a).length ⟨Nat.le_refl _, by rw [List.drop_length, hl, List.drop_length]⟩ (Le.lst [] _ _ rfl (by simp (disch := omega) only [go_sem]; try omega) (by simp (disch := omega) only [go_sem])) ?_
    rintro k ⟨hk, hd⟩
    simp (disch := omega) only [go_sem]
    refine ifW_dec (fun h2 => ?_) (fun h2 => ?_)
    · obtain ⟨i, rfl⟩ : ∃ i, k = i + 1 := ⟨k - 1, by omega⟩
      have ei : ((i + 1 : Nat) : Int) - 1 = (i : Nat) := by omega
      simp (disch := omega) only [go_sem, h2, ei]
      refine draw_of rfl [⟨0, [], []⟩, ⟨1, [], []⟩, ⟨2, [], []⟩, ⟨3, [], []⟩, ⟨4, [3], []⟩, ⟨5, [3], []⟩, ⟨6, [3], []⟩, ⟨7, [3], []⟩, ⟨8, [], []⟩] (by kernel_rfl) ?_
      simp (disch := omega) only [go_sem, ei]
      refine ⟨by omega, by omega, by omega, by omega, ?_⟩
      refine ifW_not (fun h3 => ?_) (fun h3 => ?_)
      · simp (disch := omega) only [go_sem, h3]
        refine draw_of rfl [⟨0, [], []⟩, ⟨1, [], []⟩, ⟨2, [], []⟩, ⟨3, [], []⟩, ⟨4, [3], []⟩, ⟨5, [3], []⟩, ⟨6, [3], []⟩, ⟨7, [3], []⟩, ⟨8, [], []⟩, ⟨9, [], []⟩] (by kernel_rfl) ?_
        simp (disch := omega) only [go_sem, ei]
        refine ⟨by omega, by omega, by omega, by omega, ?_⟩
        refine call_closed (con_cmp ((lim a).getD i 0) ((lim b).getD i 0)) (by simp (disch := omega) only [go_sem]) ?_
        rintro r hs ⟨rfl, rfl, _⟩
        refine ⟨by simp [freeN], ?_⟩
        simp (disch := omega) only [go_sem]
        have hva := vl_lim a
        have hvb := vl_lim b
        have : cmpI ((lim a).getD i 0) ((lim b).getD i 0) = cmpI a b := by
          unfold cmpI
          rcases (by omega : (lim a).getD i 0 < (lim b).getD i 0 ∨ (lim b).getD i 0 < (lim a).getD i 0) with h | h
          · have := vl_lt_of (gd_lim a) (gd_lim b) (by omega) hl hd h
            rw [if_pos (by omega), if_pos (by omega)]
          · have := vl_lt_of (gd_lim b) (gd_lim a) (by omega) hl.symm hd.symm h
            rw [if_neg (by omega), if_pos (by omega), if_neg (by omega), if_pos (by omega)]
        rw [this]
        exact fin_valc (by simp (disch := omega) only [go_sem]) (by simp (disch := omega) only [go_sem]) isA_mk
      · simp (disch := omega) only [go_sem, h3]
        refine next_intro i [] ⟨by omega, ?_⟩ (by show i < i + 1; omega) rfl (by simp (disch := omega) only [go_sem]; try omega) (by simp (disch := omega) only [go_sem])
        rw [drop_getD (l := lim a) (by omega), drop_getD (l := lim b) (by omega), h3, hd]
    · simp (disch := omega) only [go_sem, h2]
      have : k = 0 := by omega
      subst this
      rw [List.drop_zero, List.drop_zero] at hd
      have := lim_inj hd
      subst this
      rw [show cmpI (a : Int) (a : Int) = 0 by simp [cmpI]]
      exact fin_valc (by simp (disch := omega) only [go_sem]) (by simp (disch := omega) only [go_sem]) isA_mk
end Go.Ab
namespace Go.Proofs
open Go.Shelf
def Tryd.lays29_ren : Go.Shelf.Ren := ⟨fun | 29 => 155 | n => n, fun | 0 => 0 | 3 => 3 | 4 => 4 | 5 => 5 | 22 => 155 | 25 => 147 | 54 => 165 | n => n, fun | 1 => 1 | n => n⟩
theorem Tryd.lays29 : Go.Proofs.Lays7.n29 Tryd.prog Tryd.lays29_ren := {
  mixed := by kernel_rfl
  f29 := Tryd.func155.trans (congrArg some (by kernel_rfl))
  t0 := Tryd.underlying0
  a0 := Tryd.isAgg0
  z0 := Tryd.sizeOf0
  v0 := Tryd.zeroValue0
  i0 := by kernel_rfl
  t3 := Tryd.underlying3
  a3 := Tryd.isAgg3
  z3 := Tryd.sizeOf3
  v3 := Tryd.zeroValue3
  i3 := by kernel_rfl
  t4 := Tryd.underlying4
  a4 := Tryd.isAgg4
  z4 := Tryd.sizeOf4
  v4 := Tryd.zeroValue4
  i4 := by kernel_rfl
  t5 := Tryd.underlying5
  a5 := Tryd.isAgg5
  z5 := Tryd.sizeOf5
  v5 := Tryd.zeroValue5
  i5 := by kernel_rfl
  t22 := Tryd.underlying155
  a22 := Tryd.isAgg155
  z22 := Tryd.sizeOf155
  v22 := Tryd.zeroValue155
  i22 := by kernel_rfl
  t25 := Tryd.underlying147
  a25 := Tryd.isAgg147
  z25 := Tryd.sizeOf147
  v25 := Tryd.zeroValue147
  i25 := by kernel_rfl
  t54 := Tryd.underlying165
  a54 := Tryd.isAgg165
  z54 := Tryd.sizeOf165
  g1 := by kernel_rfl }
def Tryd.lays129_ren : Go.Shelf.Ren := ⟨fun | 129 => 148 | n => n, fun | 53 => 155 | 46 => 147 | 3 => 3 | 4 => 4 | 5 => 5 | 9 => 9 | n => n, fun | n => n⟩
theorem Tryd.lays129 : Go.Proofs.Lays.n129 Tryd.prog Tryd.lays129_ren := {
  mixed := by kernel_rfl
  f129 := Tryd.func148.trans (congrArg some (by kernel_rfl))
  t3 := Tryd.underlying3
  a3 := Tryd.isAgg3
  z3 := Tryd.sizeOf3
  v3 := Tryd.zeroValue3
  t4 := Tryd.underlying4
  a4 := Tryd.isAgg4
  z4 := Tryd.sizeOf4
  v4 := Tryd.zeroValue4
  t5 := Tryd.underlying5
  a5 := Tryd.isAgg5
  z5 := Tryd.sizeOf5
  v5 := Tryd.zeroValue5
  t9 := Tryd.underlying9
  a9 := Tryd.isAgg9
  z9 := Tryd.sizeOf9
  v9 := Tryd.zeroValue9
  t46 := Tryd.underlying147
  a46 := Tryd.isAgg147
  z46 := Tryd.sizeOf147
  v46 := Tryd.zeroValue147
  t53 := Tryd.underlying155
  a53 := Tryd.isAgg155
  z53 := Tryd.sizeOf155
  v53 := Tryd.zeroValue155 }
end Go.Proofs
namespace Go.Ab
open Go Go.Proofs
set_option linter.unusedVariables false
set_option linter.unusedSimpArgs false

theorem ctz_tz (x : Nat) (h0 : x ≠ 0) (h : x < 2 ^ 64) : Lib.ctz 64 x = tz x := by
  unfold Lib.ctz
  rw [if_neg h0]
  obtain ⟨m, hm, _⟩ := Lib.ctzFrom_spec 64 x (by omega) h
  exact (tz_uniq hm).symm

theorem bitLen_bl (x : Nat) (h : x < 2 ^ 64) : Lib.bitLen x = bl x := by
  induction x using Nat.strongRecOn with
  | _ x ih =>
    by_cases h0 : x = 0
    · subst h0; rfl
    · rw [Lib.bitLen_half x h0 h, ih (x / 2) (by omega) (by omega), bl_dbl h0, Nat.add_comm]

theorem con_tz64 (x : Nat) (h0 : x ≠ 0) (h : x < 2 ^ 64) : Con Tryd.prog 155 true [.v (.int .u64 x)] [] (isA (.v (.int .i64 (tz x)))) :=
  Con.scalar (xs := [.int .u64 x]) fun w hg => by
    rw [← ctz_tz x h0 h]
    exact Any7.bits_TrailingZeros64 Tryd.lays29 x h w fun _ j hj => (hg 1 Lib.deBruijn64tab rfl).2 j hj

theorem con_len64 (x : Nat) (h : x < 2 ^ 64) : Con Tryd.prog 148 true [.v (.int .u64 x)] [] (isA (.v (.int .i64 (bl x)))) :=
  Con.scalar (xs := [.int .u64 x]) fun w hg => by
    rw [← bitLen_bl x h]
    exact Any.bits_Len64 Tryd.lays129 x w (by omega) (by omega)

theorem con_tz (x : Nat) (h0 : x ≠ 0) (h : x < 2 ^ 64) : Con Tryd.prog 146 true [.v (.int .u64 x)] [] (isA (.v (.int .i64 (tz x)))) := by
  refine Con.of_aw Tryd.func146 rfl Tryd.ntmps146 (by simp) (by simp) (by simp) (W.sound ?_)
  show @W Tryd.prog 8 ⟨_⟩ ⟨fun x σ => @retW _ _ _ ⟨_⟩ _ ⟨_⟩ x σ⟩ _ _
  simp (disch := omega) only [go_sem]
  refine call_closed (con_tz64 x h0 h) (by simp (disch := omega) only [go_sem]) ?_
  rintro r hs ⟨rfl, rfl, _⟩
  refine ⟨by simp [freeN], ?_⟩
  simp (disch := omega) only [go_sem]
  exact fin_valc (by simp (disch := omega) only [go_sem]) (by simp (disch := omega) only [go_sem]) isA_mk

theorem con_len (x : Nat) (h : x < 2 ^ 64) : Con Tryd.prog 137 true [.v (.int .u64 x)] [] (isA (.v (.int .i64 (bl x)))) := by
  refine Con.of_aw Tryd.func137 rfl Tryd.ntmps137 (by simp) (by simp) (by simp) (W.sound ?_)
  show @W Tryd.prog 8 ⟨_⟩ ⟨fun x σ => @retW _ _ _ ⟨_⟩ _ ⟨_⟩ x σ⟩ _ _
  simp (disch := omega) only [go_sem]
  refine call_closed (con_len64 x h) (by simp (disch := omega) only [go_sem]) ?_
  rintro r hs ⟨rfl, rfl, _⟩
  refine ⟨by simp [freeN], ?_⟩
  simp (disch := omega) only [go_sem]
  exact fin_valc (by simp (disch := omega) only [go_sem]) (by simp (disch := omega) only [go_sem]) isA_mk

theorem wrap_u {x : Int} (h1 : 0 ≤ x) (h2 : x < 9223372036854775808) : IntKind.u64.wrap x = x := by
  simp only [IntKind.wrap, IntKind.signed, IntKind.bits]
  simp only [Bool.false_and, Bool.false_eq_true, if_false]
  omega

theorem con_bitsOf (m : Nat) (hl : (lim m).length ≤ 2 ^ 40) : Con Tryd.prog 120 true [.sl (lim (m)).length (ints (lim (m)))] [] (isA (.v (.int .i64 (bl m)))) := by
  refine Con.of_aw Tryd.func120 rfl Tryd.ntmps120 (by simp) (by simp) (by simp) (W.sound ?_)
  show @W Tryd.prog 19 ⟨_⟩ ⟨fun x σ => @retW _ _ _ ⟨_⟩ _ ⟨_⟩ x σ⟩ _ _
  simp (disch := omega) only [go_sem]
  refine ifW_dec (fun h1 => ?_) (fun h1 => ?_)
  · simp (disch := omega) only [go_sem, h1]
    have : m = 0 := lim_eq_nil.1 (List.length_eq_zero_iff.1 (by omega))
    subst this
    rw [bl_zero]
    exact fin_valc (by simp (disch := omega) only [go_sem]) (by simp (disch := omega) only [go_sem]) isA_mk
  · have hm : m ≠ 0 := fun e => by rw [e, lim_zero] at h1; simp at h1
    have e1 : ((lim m).length : Int).toNat - 1 = (lim m).length - 1 := by omega
    have e2 : (((lim m).length : Int) - 1).toNat = (lim m).length - 1 := by omega
    have ht := len_top hm
    have hb := bl_lim hm
    simp (disch := omega) only [go_sem, h1, e2, lim_get]
    generalize m / 65536 ^ ((lim m).length - 1) = q at *
    have e3 : ((q % 65536 : Nat) : Int) = (q : Int) := by omega
    simp (disch := omega) only [go_sem, e3, wrap_u]
    refine ⟨by omega, by omega, ?_⟩
    refine call_closed (con_len q (by omega)) (by simp (disch := omega) only [go_sem]) ?_
    rintro r hs ⟨rfl, rfl, _⟩
    refine ⟨by simp [freeN], ?_⟩
    simp (disch := omega) only [go_sem]
    have hq : bl q ≤ 16 := bl_le.2 (by omega)
    have e4 : (16 : Int) * (((lim m).length : Int) - 1) + (bl q : Int) = (bl m : Int) := by omega
    simp (disch := omega) only [go_sem, e4]
    exact fin_valc (by simp (disch := omega) only [go_sem]) (by simp (disch := omega) only [go_sem]) isA_mk

theorem tz_limb {m i : Nat} (hz : ∀ j, j < i → (lim m).getD j 0 = 0) (hx : (lim m).getD i 0 ≠ 0) : tz m = 16 * i + tz (m / 65536 ^ i % 65536) := by
  rw [lim_get] at hx
  have hx' : m / 65536 ^ i % 65536 ≠ 0 := fun e => hx (by rw [e]; rfl)
  obtain ⟨a, ha⟩ := tz_spec hx'
  have hlow : 65536 ^ i * (m / 65536 ^ i) = m := by
    have key : ∀ k, k ≤ i → m % 65536 ^ k = 0 := by
      intro k
      induction k with
      | zero => intro _; simp [Nat.mod_one]
      | succ k ih =>
        intro hk
        have h1 := ih (by omega)
        have h2 := hz k (by omega)
        rw [lim_get] at h2
        have h3 : m / 65536 ^ k % 65536 = 0 := by omega
        rw [Nat.pow_succ, Nat.mod_mul, h1, h3]; omega
    have := Nat.div_add_mod m (65536 ^ i)
    rw [key i (Nat.le_refl _)] at this
    omega
  generalize hq : m / 65536 ^ i = q at *
  have ht : tz (q % 65536) < 16 := by
    have h1 := tz_lt_bl hx'
    have : bl (q % 65536) ≤ 16 := bl_le.2 (by omega)
    omega
  generalize hk : tz (q % 65536) = k at *
  have e16 : (65536 : Nat) = 2 ^ k * (2 * 2 ^ (15 - k)) := by rw [Nat.mul_left_comm, ← Nat.pow_add, show k + (15 - k) = 15 by omega]
  refine tz_uniq (a := a + 2 ^ (15 - k) * (q / 65536)) ?_
  have hd := Nat.div_add_mod q 65536
  rw [← hlow, Nat.pow_add, ← pow16]
  have h5 : q = 2 ^ k * (2 * (a + 2 ^ (15 - k) * (q / 65536)) + 1) := by
    have : q = 2 ^ k * (2 * 2 ^ (15 - k)) * (q / 65536) + 2 ^ k * (2 * a + 1) := by rw [← e16, ← ha]; omega
    generalize q / 65536 = y at *
    generalize 2 ^ (15 - k) = z at *
    grind
  generalize q / 65536 = y at *
  rw [Nat.mul_assoc, ← h5]

theorem con_trailOf (m : Nat) (hl : (lim m).length ≤ 2 ^ 40) : Con Tryd.prog 135 true [.sl (lim (m)).length (ints (lim (m)))] [] (isA (.v (.int .i64 (tz m)))) := by
  refine Con.of_aw Tryd.func135 rfl Tryd.ntmps135 (by simp) (by simp) (by simp) (W.sound ?_)
  show @W Tryd.prog 21 ⟨_⟩ ⟨fun x σ => @retW _ _ _ ⟨_⟩ _ ⟨_⟩ x σ⟩ _ _
  simp (disch := omega) only [go_sem]
  refine loop_intro (fun i : Nat => [(0, .sl (lim (m)).length (ints (lim (m)))), (5, .sl (lim (m)).length (ints (lim (m)))), (6, .v (.int .i64 (lim m).length)), (7, .v (.int .i64 i))])
    (fun _ => []) (fun i => i ≤ (lim m).length ∧ ∀ j, j < i → (lim m).getD j 0 = 0) (fun i => (lim m).length - i) 0 ⟨by omega, fun j hj => by omega⟩ (Le.lst [] _ _ rfl (by simp (disch := omega) only [go_sem]; try omega) (by simp (disch := omega) only [go_sem])) ?_
  rintro i ⟨hi, hz⟩
  simp (disch := omega) only [go_sem]
  refine ifW_dec (fun h1 => ?_) (fun h1 => ?_)
  · simp (disch := omega) only [go_sem, h1]
    refine ⟨by omega, by omega, ifW_not (fun h2 => ?_) (fun h2 => ?_)⟩
    · have ht := tz_limb hz h2
      have hx : m / 65536 ^ i % 65536 ≠ 0 := fun e => h2 (by rw [lim_get, e]; rfl)
      have ht16 : tz (m / 65536 ^ i % 65536) < 16 := by
        have h1 := tz_lt_bl hx
        have : bl (m / 65536 ^ i % 65536) ≤ 16 := bl_le.2 (by omega)
        omega
      simp (disch := omega) only [go_sem, h2, lim_get]
      generalize hq : m / 65536 ^ i % 65536 = q at *
      have hq6 : q < 65536 := by omega
      simp (disch := omega) only [go_sem, wrap_u]
      refine call_closed (con_tz q hx (by omega)) (by simp (disch := omega) only [go_sem]) ?_
      rintro r hs ⟨rfl, rfl, _⟩
      refine ⟨by simp [freeN], ?_⟩
      simp (disch := omega) only [go_sem]
      have e4 : (16 : Int) * (i : Int) + (tz q : Int) = (tz m : Int) := by omega
      simp (disch := omega) only [go_sem, e4]
      exact fin_valc (by simp (disch := omega) only [go_sem]) (by simp (disch := omega) only [go_sem]) isA_mk
    · simp (disch := omega) only [go_sem, h2]
      refine next_intro (i + 1) [] ⟨by omega, fun j hj => ?_⟩ (by show (lim m).length - (i + 1) < (lim m).length - i; omega) rfl (by simp (disch := omega) only [go_sem]; try omega) (by simp (disch := omega) only [go_sem])
      rcases (by omega : j < i ∨ j = i) with h | h
      · exact hz j h
      · subst h; exact h2
  · simp (disch := omega) only [go_sem, h1]
    have hm : m = 0 := by
      have := vl_lim m
      have h3 : lim m = List.replicate (lim m).length 0 := by
        apply List.ext_getElem
        · simp
        · intro j h1 h2
          have := hz j (by omega)
          rw [List.getD_eq_getElem?_getD, List.getElem?_eq_getElem h1] at this
          simpa using this
      rw [h3, vl_replicate] at this
      omega
    subst hm
    rw [tz_zero]
    exact fin_valc (by simp (disch := omega) only [go_sem]) (by simp (disch := omega) only [go_sem]) isA_mk

theorem con_bitOf (m : Nat) (i : Int) (hl : (lim m).length ≤ 2 ^ 40) (hi : 0 ≤ i) (hi2 : i < 2 ^ 62) : Con Tryd.prog 151 true [.sl (lim (m)).length (ints (lim (m))), .v (.int .i64 i)] [] (isA (.v (.int .i64 ((m / 2 ^ i.toNat % 2 : Nat) : Int)))) := by
  refine Con.of_aw Tryd.func151 rfl Tryd.ntmps151 (by simp) (by simp) (by simp) (W.sound ?_)
  show @W Tryd.prog 23 ⟨_⟩ ⟨fun x σ => @retW _ _ _ ⟨_⟩ _ ⟨_⟩ x σ⟩ _ _
  obtain ⟨k, rfl⟩ := Int.eq_ofNat_of_zero_le hi
  rw [Int.toNat_natCast]
  have h0 : ¬ ((k : Int) < 0) := by omega
  have e16 : ((k : Int) / 16).toNat = k / 16 := by omega
  have em : min ((k : Int) % 16).toNat 64 = k % 16 := by omega
  have hb := bit_div m k
  simp (disch := omega) only [go_sem, h0]
  refine ifW_dec (fun h1 => ?_) (fun h1 => ?_)
  · simp (disch := omega) only [go_sem, h1]
    have : m / 2 ^ k % 2 = 0 := by
      rw [← hb]
      have h2 := lim_get m (k / 16)
      rw [List.getD_eq_getElem?_getD, List.getElem?_eq_none (by omega)] at h2
      have h3 : m / 65536 ^ (k / 16) % 65536 = 0 := by simp only [Option.getD_none] at h2; omega
      rw [h3]; simp
    rw [this]
    exact fin_valc (by simp (disch := omega) only [go_sem]) (by simp (disch := omega) only [go_sem]) isA_mk
  · have hx := gd_getD (gd_lim m) (k / 16)
    have hp : (0 : Int) < 2 ^ (k % 16) := Int.pow_pos (by omega)
    have efd : ∀ x : Int, x.fdiv (2 ^ (k % 16)) = x / 2 ^ (k % 16) := fun x => Int.fdiv_eq_ediv_of_nonneg _ (Int.le_of_lt hp)
    have hq : 0 ≤ (lim m).getD (k / 16) 0 / 2 ^ (k % 16) ∧ (lim m).getD (k / 16) 0 / 2 ^ (k % 16) < 65536 := by
      refine ⟨Int.ediv_nonneg hx.1 (Int.le_of_lt hp), Int.lt_of_le_of_lt (Int.ediv_le_self _ hx.1) hx.2⟩
    have hr : (lim m).getD (k / 16) 0 / 2 ^ (k % 16) % 2 = ((m / 2 ^ k % 2 : Nat) : Int) := by
      rw [← hb, lim_get]
      generalize m / 65536 ^ (k / 16) % 65536 = x
      rw [Int.natCast_emod, Int.natCast_ediv, Int.natCast_pow]; rfl
    simp (disch := omega) only [go_sem, h1, e16, em, efd, hr]
    refine ⟨by omega, by omega, by omega, ?_⟩
    exact fin_valc (by simp (disch := omega) only [go_sem]) (by simp (disch := omega) only [go_sem]) isA_mk
end Go.Ab
namespace Go.Ab
open Go Go.Proofs
set_option linter.unusedVariables false

theorem toN_mul_pow (a k : Nat) : (vl (lim a) * 2 ^ k).toNat = a * 2 ^ k := by
  rw [vl_lim]
  have : ((a : Int) * 2 ^ k) = ((a * 2 ^ k : Nat) : Int) := by rw [Int.natCast_mul, Int.natCast_pow]; rfl
  rw [this, Int.toNat_natCast]
theorem toN_div_pow (a k : Nat) : (vl (lim a) / 2 ^ k).toNat = a / 2 ^ k := by
  rw [vl_lim]
  have : ((a : Int) / 2 ^ k) = ((a / 2 ^ k : Nat) : Int) := by rw [Int.natCast_ediv, Int.natCast_pow]; rfl
  rw [this, Int.toNat_natCast]
theorem toN_mul (a b : Nat) : (vl (lim a) * vl (lim b)).toNat = a * b := by rw [vl_lim, vl_lim, ← Int.natCast_mul, Int.toNat_natCast]
theorem toN_add (a b : Nat) : (vl (lim a) + vl (lim b)).toNat = a + b := by rw [vl_lim, vl_lim]; omega
theorem toN_sub (a b : Nat) : (vl (lim a) - vl (lim b)).toNat = a - b := by rw [vl_lim, vl_lim]; omega

theorem con_smallN (n : Nat) (hn : n < 2 ^ 63) : Con Tryd.prog 74 false [.v (.int .i64 n)] [] (numF (lim n)) := (con_small false n hn).num
theorem con_upR (cl : Bool) (a k : Nat) (la : (lim a).length ≤ 1000000) (hk : k ≤ 100000000) : Con Tryd.prog 114 cl [.sl (lim (a)).length (ints (lim (a))), .v (.int .i64 k)] [] (numR (lim (a * 2 ^ k))) := by
  have := con_up cl (lim a) k (gd_lim a) la hk
  rwa [toN_mul_pow] at this
theorem con_upN (a k : Nat) (la : (lim a).length ≤ 1000000) (hk : k ≤ 100000000) : Con Tryd.prog 114 false [.sl (lim (a)).length (ints (lim (a))), .v (.int .i64 k)] [] (numF (lim (a * 2 ^ k))) := (con_upR false a k la hk).num
theorem con_downR (cl : Bool) (a k : Nat) (la : (lim a).length ≤ 1000000) (hk : k ≤ 100000000) : Con Tryd.prog 136 cl [.sl (lim (a)).length (ints (lim (a))), .v (.int .i64 k)] [] (numR (lim (a / 2 ^ k))) := by
  have := con_down cl (lim a) k (gd_lim a) la hk
  rwa [toN_div_pow] at this
theorem con_downN (a k : Nat) (la : (lim a).length ≤ 1000000) (hk : k ≤ 100000000) : Con Tryd.prog 136 false [.sl (lim (a)).length (ints (lim (a))), .v (.int .i64 k)] [] (numF (lim (a / 2 ^ k))) := (con_downR false a k la hk).num
theorem con_timesN (a b : Nat) (la : (lim a).length ≤ 1000000) (lb : (lim b).length ≤ 1000000) : Con Tryd.prog 75 false [.sl (lim (a)).length (ints (lim (a))), .sl (lim (b)).length (ints (lim (b)))] [] (numF (lim (a * b))) := by
  have := (con_times false (lim a) (lim b) (gd_lim a) (gd_lim b) la lb).num
  rwa [toN_mul] at this
theorem con_plusN (a b : Nat) (la : (lim a).length ≤ 2000000) (lb : (lim b).length ≤ 2000000) : Con Tryd.prog 115 false [.sl (lim (a)).length (ints (lim (a))), .sl (lim (b)).length (ints (lim (b)))] [] (numF (lim (a + b))) := by
  have := (con_plus false (lim a) (lim b) (gd_lim a) (gd_lim b) la lb).num
  rwa [toN_add] at this

theorem con_divsF (a d : Nat) (la : (lim a).length ≤ 1000000) (hd : 0 < d) (hd2 : d < 65536) :
    Con Tryd.prog 92 false [.sl (lim (a)).length (ints (lim (a))), .v (.int .i64 d)] [] (isA (.tu [.sl (lim (a / d)).length (ints (lim (a / d))), .v (.int .i64 ((a % d : Nat) : Int))])) :=
  Con.frzA <| (con_divs false (lim a) d (gd_lim a) la hd hd2).mono fun r hs bs ⟨zs, h1, h2⟩ => by
    rw [vl_lim] at h1 h2
    rw [h1, h2]
    have e : ((a : Int) / (d : Int)).toNat = a / d := by
      rw [← Int.natCast_ediv, Int.toNat_natCast]
    rw [e]
    show snap _ 6 _ = _
    unfold snap
    simp only [List.map_cons, List.map_nil]
    rw [snap_num (k := 3) (l := lim (a / d)) (zs := zs) rhp_zero rfl]
    rw [Int.natCast_emod]; rfl
end Go.Ab
namespace Go.Ab
open Go Go.Proofs
set_option linter.unusedVariables false
set_option linter.unusedSimpArgs false

set_option maxRecDepth 100000 in
theorem con_divide (a b : Nat) (hb : b ≠ 0) (la : (lim a).length ≤ 900000) (lb : (lim b).length ≤ 900000) :
    Con Tryd.prog 149 false [.sl (lim (a)).length (ints (lim (a))), .sl (lim (b)).length (ints (lim (b)))] [] (frzR (.tu [.sl (lim (a / b)).length (ints (lim (a / b))), .sl (lim (a % b)).length (ints (lim (a % b)))])) := by
  refine Con.of_aw Tryd.func149 rfl Tryd.ntmps149 (by simp) (by simp) (by simp) (W.sound ?_)
  show @W Tryd.prog 96 ⟨_⟩ ⟨fun x σ => @retW _ _ _ ⟨_⟩ _ ⟨_⟩ x σ⟩ _ _
  simp (disch := omega) only [go_sem]
  refine call_closed (con_compare a b (by omega) (by omega)) (by simp (disch := omega) only [go_sem]) ?_
  rintro r hs ⟨rfl, rfl, _⟩
  refine ⟨by simp [freeN], ?_⟩
  simp (disch := omega) only [go_sem]
  refine ifW_dec (fun h1 => ?_) (fun h1 => ?_)
  · simp (disch := omega) only [go_sem, h1]
    have hab : a < b := by
      unfold cmpI at h1; split at h1
      · omega
      · split at h1 <;> omega
    refine call_open (con_clone false (lim a) (by omega)).num (by simp (disch := omega) only [go_sem]) ?_
    rintro r hs ⟨rfl, rfl, _⟩
    refine ⟨by simp [freeN], ?_⟩
    simp (disch := omega) only [go_sem]
    refine fin_val (by simp (disch := omega) only [go_sem]) ?_
    show snap _ 6 _ = _
    rw [Nat.div_eq_of_lt hab, Nat.mod_eq_of_lt hab]
    simp only [snap, lim_zero]; rfl
  · have hab : b ≤ a := by
      unfold cmpI at h1; split at h1
      · omega
      · omega
    have ha : a ≠ 0 := by omega
    have hlb := lim_ne hb
    simp (disch := omega) only [go_sem, h1]
    refine ifW_dec (fun h2 => ?_) (fun h2 => ?_)
    · simp (disch := omega) only [go_sem, h2]
      have hb6 : b < 65536 := by have := lim_lt b; rw [show (lim b).length = 1 by omega] at this; omega
      have e0 : (lim b).getD 0 0 = (b : Int) := by rw [lim_get]; simp; omega
      simp (disch := omega) only [go_sem, e0]
      refine ⟨by omega, by omega, ?_⟩
      refine call_open (con_divsF a b (by omega) (by omega) hb6) (by simp (disch := omega) only [go_sem]) ?_
      rintro r hs ⟨rfl, rfl, _⟩
      refine ⟨by simp [freeN], ?_⟩
      simp (disch := omega) only [go_sem]
      have : a % b < b := Nat.mod_lt _ (by omega)
      refine call_open (con_smallN (a % b) (by omega)) (by simp (disch := omega) only [go_sem]) ?_
      rintro r hs ⟨rfl, rfl, _⟩
      refine ⟨by simp [freeN], ?_⟩
      simp (disch := omega) only [go_sem]
      exact fin_val (by simp (disch := omega) only [go_sem]) (by rfl)
    · have hl2 : 2 ≤ (lim b).length := by omega
      have hll : (lim b).length ≤ (lim a).length := lim_mono hab
      have ht := len_top hb
      have eb : (((lim b).length : Int) - 1).toNat = (lim b).length - 1 := by omega
      have hnd := norm_div hb _ rfl
      simp (disch := omega) only [go_sem, h2, eb, lim_get]
      have e3 : ((b / 65536 ^ ((lim b).length - 1) % 65536 : Nat) : Int) = ((b / 65536 ^ ((lim b).length - 1) : Nat) : Int) := by rw [Nat.mod_eq_of_lt ht.2]
      generalize hq : b / 65536 ^ ((lim b).length - 1) = q at *
      have hq16 : bl q ≤ 16 := bl_le.2 (by omega)
      simp (disch := omega) only [go_sem, e3, wrap_u]
      refine ⟨by omega, by omega, ?_⟩
      refine call_closed (con_len q (by omega)) (by simp (disch := omega) only [go_sem]) ?_
      rintro r hs ⟨rfl, rfl, _⟩
      refine ⟨by simp [freeN], ?_⟩
      simp (disch := omega) only [go_sem]
      have e4 : (16 : Int) - (bl q : Int) = ((16 - bl q : Nat) : Int) := by omega
      simp (disch := omega) only [go_sem, e4]
      generalize hs : 16 - bl q = s at *
      obtain ⟨hs16, hvl, hv1, hvge⟩ := hnd
      refine call_open (con_upN b s (by omega) (by omega)) (by simp (disch := omega) only [go_sem, e4]) ?_
      rintro r hs0 ⟨rfl, rfl, _⟩
      refine ⟨by simp [freeN], ?_⟩
      simp (disch := omega) only [go_sem]
      refine call_open (con_upR false a s (by omega) (by omega)) (by simp (disch := omega) only [go_sem, e4]) ?_
      have hun : a * 2 ^ s ≠ 0 := by have : 0 < 2 ^ s := Nat.pow_pos (by omega); have := Nat.mul_pos (show 0 < a by omega) this; omega
      rintro r hs1 (⟨h, _, _⟩ | ⟨zs, rfl, rfl⟩)
      · exact absurd (lim_eq_nil.1 h) hun
      refine ⟨⟨by simp, by simp (disch := omega) only [go_sem]⟩, ?_⟩
      have hul := lim_up_len a hs16
      have hug := lim_up_ge a s
      have ex : ((lim a).length : Int) + 1 - ((lim (a * 2 ^ s)).length : Int) = (((lim a).length + 1 - (lim (a * 2 ^ s)).length : Nat) : Int) := by omega
      have ecut : (lim (a * 2 ^ s) ++ zs).take (lim (a * 2 ^ s)).length = lim (a * 2 ^ s) := List.take_left' rfl
      have em : (((lim a).length : Int) - ((lim b).length : Int) + 1).toNat = (lim a).length - (lim b).length + 1 := by omega
      simp (disch := omega) only [go_sem, ex, ecut, em]
      generalize hU0 : lim (a * 2 ^ s) ++ List.replicate ((lim a).length + 1 - (lim (a * 2 ^ s)).length) 0 = U0
      have lU0 : U0.length = (lim a).length + 1 := by rw [← hU0]; simp; omega
      have gU0 : gd U0 := by rw [← hU0]; exact gd_append.2 ⟨gd_lim _, gd_replicate _⟩
      have vU0 : vl U0 = ((a * 2 ^ s : Nat) : Int) := by rw [← hU0, vl_zeros, vl_lim]
      have hfw := first_win gU0 hll hlb hs16 lU0 vU0 hvge
      have elen : (lim (a * 2 ^ s)).length + ((lim a).length + 1 - (lim (a * 2 ^ s)).length) = U0.length := by omega
      refine ⟨by omega, ⟨by simp, by omega⟩, by omega, ?_⟩
      generalize hV : lim (b * 2 ^ s) = V at *
      have gV : gd V := by rw [← hV]; exact gd_lim _
      have vV : vl V = ((b * 2 ^ s : Nat) : Int) := by rw [← hV, vl_lim]
      generalize hm : (lim a).length - (lim b).length + 1 = m at *
      refine loop_intro (fun x : Nat × List Int × List Int => [(8, .v (.int .i64 s)), (9, .sl V.length (ints V)), (10, .rf 0 0 x.2.1.length), (11, .rf 1 0 x.2.2.length), (12, .v (.int .i64 ((x.1 : Int) - 1)))])
        (fun x => [(0, .own 1 (ints x.2.1)), (1, .own 1 (ints x.2.2))])
        (fun x => x.1 ≤ m ∧ x.2.1.length = U0.length ∧ gd x.2.1 ∧ x.2.2.length = m ∧ gd x.2.2 ∧ vl (x.2.1.drop x.1) < vl V ∧ vl x.2.1 + vl V * (65536 ^ x.1 * vl (x.2.2.drop x.1)) = ((a * 2 ^ s : Nat) : Int))
        (fun x => x.1) (m, U0, List.replicate m 0) ⟨Nat.le_refl _, rfl, gU0, by simp, gd_replicate _, by show vl (U0.drop m) < vl V; rw [vV]; exact hfw, by show vl U0 + vl V * (65536 ^ m * vl ((List.replicate m 0).drop m)) = _; rw [List.drop_of_length_le (by simp)]; simp [vl]; exact vU0⟩
        (Le.lst [(0, 580000000), (1, 650000000)] _ _ rfl (by simp (disch := omega) only [go_sem, elen, e4, List.length_replicate]; try omega) (by simp (disch := omega) only [go_sem, hU0, em])) ?_
      rintro ⟨k, U, O⟩ ⟨hk, lU, gU, lO, gO, hlt, hval⟩
      dsimp only at hk lU gU lO gO hlt hval ⊢
      simp (disch := omega) only [go_sem]
      refine ifW_dec (fun g1 => ?_) (fun g1 => ?_)
      · obtain ⟨j, rfl⟩ : ∃ j, k = j + 1 := ⟨k - 1, by omega⟩
        have ej : ((j + 1 : Nat) : Int) - 1 = (j : Nat) := by omega
        have hWj : vl (U.drop j) < 65536 * vl V := by
          rw [vl_drop (by omega)]
          have := gd_getD gU j
          omega
        simp (disch := omega) only [go_sem, g1, ej]
        refine call_closed (con_digitOf U V j gU gV (by omega) (by omega) (by omega) (by rw [hvl]; exact hv1) hWj) (by simp (disch := omega) only [go_sem]) ?_
        rintro r hs ⟨qd, rfl, rfl, _, hq, hq1, hq2⟩
        refine ⟨by simp [freeN], ?_⟩
        simp (disch := omega) only [go_sem]
        refine call_lend false [0] (con_takeAway U V j qd gU gV (by omega) (by omega) hq) (by simp (disch := omega) only [go_sem]) (by simp (disch := omega) only [go_sem]) rfl (lend_cons (z := 1) (cs := ints U) (by simp (disch := omega) only [go_sem]) (by simp (disch := omega) only [go_sem])) (by intro n hn; exact ⟨_, List.mem_cons_self .., by rw [List.mem_singleton.1 hn]; rfl⟩) ?_
        rintro r hs bs ⟨U', bo, rfl, rfl, rfl, hl', gU', hbo, hsm, hv'⟩ _
        refine ⟨by simp [freeN], ?_⟩
        generalize hT : U'.set (j + V.length) (U.getD (j + V.length) 0 - bo) = T at *
        obtain ⟨lT, vT, wT, tT, aT, pT, nT⟩ := take_step gU gV (by omega) hWj hq1 hq2 hl' gU' hsm hv' T hT.symm
        have hfin : ∀ (U2 : List Int) (qf : Int), vl U2 = vl U - 65536 ^ j * (qf * vl V) → vl U2 + vl V * (65536 ^ j * vl ((O.set j qf).drop j)) = ((a * 2 ^ s : Nat) : Int) := by
          intro U2 qf h2
          rw [set_drop_val (by omega), h2, ← hval, Int.pow_succ]
          generalize (65536 : Int) ^ j = Pj at *
          grind
        simp (disch := omega) only [go_sem]
        refine ifW_dec (fun g2 => ?_) (fun g2 => ?_)
        · obtain ⟨⟨n1, n2⟩, n3⟩ := nT g2
          simp (disch := omega) only [go_sem, g2]
          refine call_lend false [0] (con_addBack T V j n3 (by rw [tT]; omega) gV (by omega) (by omega)) (by simp (disch := omega) only [go_sem, lT]) (by simp (disch := omega) only [go_sem]) rfl (lend_cons (z := 1) (cs := ints T) (by simp (disch := omega) only [go_sem]) (by simp (disch := omega) only [go_sem])) (by intro n hn; exact ⟨_, List.mem_cons_self .., by rw [List.mem_singleton.1 hn]; rfl⟩) ?_
          rintro r hs bs ⟨T', rfl, rfl, rfl, lT', gT', sT', vT'⟩ _
          refine ⟨by simp [freeN], ?_⟩
          rw [Int.add_mul] at hq1
          obtain ⟨gT2, wT2⟩ := back_step gV (by omega) lT' gT' sT' aT vT' (by omega) (by omega)
          simp (disch := omega) only [go_sem, lO]
          have hqp : 0 < qd := by
            have h3 := vl_nonneg (gd_drop gU j)
            rcases (by omega : 0 < qd ∨ qd = 0) with h | h
            · exact h
            · subst h; simp at n2; omega
          refine ⟨by omega, by omega, next_intro (j, T', O.set j (qd - 1)) [] ⟨by show j ≤ m; omega, by show T'.length = _; omega, gT2, by simp [lO], gd_set gO (by omega), by show vl (T'.drop j) < vl V; omega, hfin T' (qd - 1) ?_⟩ (by show j < j + 1; omega) rfl (by simp (disch := omega) only [go_sem, List.length_set]; try omega) (by simp (disch := omega) only [go_sem])⟩
          rw [vT', vT, Int.sub_mul, Int.one_mul, Int.mul_sub]; omega
        · obtain ⟨p1, p2⟩ := pT g2
          rw [Int.add_mul] at hq1
          simp (disch := omega) only [go_sem, g2, lO]
          refine ⟨by omega, by omega, next_intro (j, T, O.set j qd) [] ⟨by show j ≤ m; omega, by show T.length = _; omega, p1, by simp [lO], gd_set gO hq, by show vl (T.drop j) < vl V; omega, hfin T qd vT⟩ (by show j < j + 1; omega) rfl (by simp (disch := omega) only [go_sem, List.length_set]; try omega) (by simp (disch := omega) only [go_sem])⟩
      · have : k = 0 := by omega
        subst this
        rw [List.drop_zero] at hlt
        rw [List.drop_zero, Int.pow_zero, Int.one_mul] at hval
        have hvO := vl_nonneg gO
        have hvU := vl_nonneg gU
        have hcO := cutZ_lim gO
        have hcU := cutZ_lim gU
        have hpS : 0 < 2 ^ s := Nat.pow_pos (by omega)
        obtain ⟨d1, d2⟩ : (vl O).toNat = a / b ∧ (vl U).toNat = a % b * 2 ^ s := by
          refine div_norm hpS (by omega) ?_ (by omega)
          rw [vV] at hval
          have : ((vl U).toNat : Int) + ((b * 2 ^ s : Nat) : Int) * ((vl O).toNat : Int) = ((a * 2 ^ s : Nat) : Int) := by
            rw [Int.toNat_of_nonneg hvO, Int.toNat_of_nonneg hvU]; exact hval
          rw [← Int.natCast_mul, ← Int.natCast_add] at this
          exact Int.ofNat.inj this
        rw [d1] at hcO
        rw [d2] at hcU
        obtain ⟨zo, hzo⟩ := cutZ_pre O
        obtain ⟨zu, hzu⟩ := cutZ_pre U
        have htU := cutZ_take U
        rw [hcO] at hzo
        rw [hcU] at hzu htU
        simp (disch := omega) only [go_sem, g1]
        refine call_lend false [1] (con_trim O (by omega)) (by simp (disch := omega) only [go_sem]) (by simp (disch := omega) only [go_sem]) rfl (lend_cons (z := 1) (cs := ints O) (by simp (disch := omega) only [go_sem]) (by simp (disch := omega) only [go_sem])) (by intro n hn; exact ⟨_, List.mem_singleton.2 rfl, by rw [List.mem_singleton.1 hn]; rfl⟩) ?_
        rintro r hs bs ⟨rfl, rfl, rfl⟩ _
        refine ⟨by simp [freeN], ?_⟩
        simp (disch := omega) only [go_sem]
        refine call_lend false [0] (con_trim U (by omega)) (by simp (disch := omega) only [go_sem]) (by simp (disch := omega) only [go_sem]) rfl (lend_cons (z := 1) (cs := ints U) (by simp (disch := omega) only [go_sem]) (by simp (disch := omega) only [go_sem])) (by intro n hn; exact ⟨_, List.mem_singleton.2 rfl, by rw [List.mem_singleton.1 hn]; rfl⟩) ?_
        rintro r hs bs ⟨rfl, rfl, rfl⟩ _
        refine ⟨by simp [freeN], ?_⟩
        simp (disch := omega) only [go_sem, hcO, hcU]
        have hlr : (lim (a % b * 2 ^ s)).length ≤ 1000000 := by
          have := congrArg List.length hzu
          simp at this; omega
        refine call_closed (con_downR true (a % b * 2 ^ s) s hlr (by omega)) (by simp (disch := omega) only [go_sem, htU]) ?_
        rw [Nat.mul_div_cancel _ hpS]
        rintro r hs2 (⟨h, rfl, rfl⟩ | ⟨z2, rfl, rfl⟩)
        · refine ⟨⟨by simp, by simp (disch := omega) only [go_sem]⟩, ?_⟩
          simp (disch := omega) only [go_sem]
          refine fin_intro [(0, 1)] [.own 1 (ints O)] [] [.rf 0 0 (lim (a / b)).length, .v (.slice none 0 0)] rfl (by simp (disch := omega) only [go_sem]) (by simp (disch := omega) only [go_sem]) (by simp) (by simp) ?_
          show snap _ 6 _ = _
          unfold snap
          simp only [tupA, List.map_cons, List.map_nil]
          rw [hzo, snap_num (k := 3) (l := lim (a / b)) (zs := List.replicate zo 0) rhp_zero rfl, h]
          rfl
        · refine ⟨⟨by simp, by simp (disch := omega) only [go_sem]⟩, ?_⟩
          simp (disch := omega) only [go_sem]
          refine fin_intro [(0, 1), (1, 970000000)] [.own 1 (ints O), .own 1 (ints (lim (a % b) ++ z2))] [] [.rf 0 0 (lim (a / b)).length, .rf 1 0 (lim (a % b)).length] rfl (by simp (disch := omega) only [go_sem]) (by simp (disch := omega) only [go_sem]) (by simp) (by simp) ?_
          show snap _ 6 _ = _
          unfold snap
          simp only [tupA, List.map_cons, List.map_nil]
          rw [hzo, snap_num (k := 3) (l := lim (a / b)) (zs := List.replicate zo 0) rhp_zero rfl, snap_num (k := 3) (l := lim (a % b)) (zs := z2) rhp_one rfl]
end Go.Ab
namespace Go.Ab
open Go Go.Proofs
set_option linter.unusedVariables false
set_option linter.unusedSimpArgs false

theorem con_within (n lo hi : Int) : Con Tryd.prog 91 true [.v (.int .i64 n), .v (.int .i64 lo), .v (.int .i64 hi)] [] (fun r hs bs => r = .v (.bool (decide (lo ≤ n) && decide (n ≤ hi))) ∧ hs = []) := by
  refine Con.of_aw Tryd.func91 rfl Tryd.ntmps91 (by simp) (by simp) (by simp) (W.sound ?_)
  show @W Tryd.prog 15 ⟨_⟩ ⟨fun x σ => @retW _ _ _ ⟨_⟩ _ ⟨_⟩ x σ⟩ _ _
  simp (disch := omega) only [go_sem]
  refine ifW_dec (fun h1 => ?_) (fun h1 => ?_)
  · simp (disch := omega) only [go_sem, h1]
    refine fin_intro [] [] [] [.v (.bool (decide (n ≤ hi)))] rfl (by simp (disch := omega) only [go_sem]) (by simp (disch := omega) only [go_sem]) (by simp) (by simp [AV.pu, tupA]) ⟨by simp [tupA, h1], rfl⟩
  · simp (disch := omega) only [go_sem, h1]
    refine fin_intro [] [] [] [.v (.bool false)] rfl (by simp (disch := omega) only [go_sem]) (by simp (disch := omega) only [go_sem]) (by simp) (by simp [AV.pu, tupA]) ⟨by simp [tupA, h1], rfl⟩
end Go.Ab
namespace Go.Ab
open Go Go.Proofs
set_option linter.unusedVariables false
set_option linter.unusedSimpArgs false

theorem con_divideN (a b : Nat) (hb : b ≠ 0) (la : (lim a).length ≤ 900000) (lb : (lim b).length ≤ 900000) :
    Con Tryd.prog 149 false [.sl (lim (a)).length (ints (lim (a))), .sl (lim (b)).length (ints (lim (b)))] [] (isA (.tu [.sl (lim (a / b)).length (ints (lim (a / b))), .sl (lim (a % b)).length (ints (lim (a % b)))])) := (con_divide a b hb la lb).frzA

theorem con_roundUp (neg odd : Bool) (half mode : Int) : Con Tryd.prog 150 true [.v (.bool neg), .v (.bool odd), .v (.int .i64 half), .v (.int .i64 mode)] [] (isA (.v (.bool (rup neg odd half mode)))) := by
  refine Con.of_aw Tryd.func150 rfl Tryd.ntmps150 (by simp) (by simp) (by simp) (W.sound ?_)
  show @W Tryd.prog 32 ⟨_⟩ ⟨fun x σ => @retW _ _ _ ⟨_⟩ _ ⟨_⟩ x σ⟩ _ _
  simp (disch := omega) only [go_sem]
  refine ifW_dec (fun h1 => ?_) (fun h1 => ?_)
  · simp (disch := omega) only [go_sem, h1]
    exact fin_valc (by simp (disch := omega) only [go_sem]) (by simp (disch := omega) only [go_sem]) ⟨by simp [tupA, rup, h1], rfl, rfl⟩
  · simp (disch := omega) only [go_sem, h1]
    refine ifW_dec (fun h2 => ?_) (fun h2 => ?_)
    · simp (disch := omega) only [go_sem, h2]
      exact fin_valc (by simp (disch := omega) only [go_sem]) (by simp (disch := omega) only [go_sem]) ⟨by simp [tupA, rup, h2], rfl, rfl⟩
    · simp (disch := omega) only [go_sem, h2]
      refine ifW_dec (fun h3 => ?_) (fun h3 => ?_)
      · simp (disch := omega) only [go_sem, h3]
        refine ifW_not (fun h4 => ?_) (fun h4 => ?_)
        · simp (disch := omega) only [go_sem, h4]
          refine ifW_dec (fun h5 => ?_) (fun h5 => ?_)
          · simp (disch := omega) only [go_sem, h5]
            exact fin_valc (by simp (disch := omega) only [go_sem]) (by simp (disch := omega) only [go_sem]) ⟨by simp [tupA, rup, h3, h5], rfl, rfl⟩
          · simp (disch := omega) only [go_sem, h5]
            exact fin_valc (by simp (disch := omega) only [go_sem]) (by simp (disch := omega) only [go_sem]) ⟨by simp [tupA, rup, h3, h4, h5], rfl, rfl⟩
        · simp (disch := omega) only [go_sem, h4]
          exact fin_valc (by simp (disch := omega) only [go_sem]) (by simp (disch := omega) only [go_sem]) ⟨by simp [tupA, rup, h3, h4], rfl, rfl⟩
      · simp (disch := omega) only [go_sem, h3]
        refine ifW_dec (fun h4 => ?_) (fun h4 => ?_)
        · simp (disch := omega) only [go_sem, h4]
          exact fin_valc (by simp (disch := omega) only [go_sem]) (by simp (disch := omega) only [go_sem]) ⟨by simp [tupA, rup, h4], rfl, rfl⟩
        · simp (disch := omega) only [go_sem, h4]
          exact fin_valc (by simp (disch := omega) only [go_sem]) (by simp (disch := omega) only [go_sem]) ⟨by simp [tupA, rup, h1, h2, h3, h4], rfl, rfl⟩

theorem con_isMode (mode : Int) : Con Tryd.prog 52 true [.v (.int .i64 mode)] [] (isA (.v (.bool (decide (0 ≤ mode) && decide (mode ≤ 4))))) := by
  refine Con.of_aw Tryd.func52 rfl Tryd.ntmps52 (by simp) (by simp) (by simp) (W.sound ?_)
  show @W Tryd.prog 5 ⟨_⟩ ⟨fun x σ => @retW _ _ _ ⟨_⟩ _ ⟨_⟩ x σ⟩ _ _
  simp (disch := omega) only [go_sem]
  refine call_closed ((con_within mode 0 4).mono fun r hs bs h => (⟨h.1, h.2, trivial⟩ : _ ∧ _ ∧ True)) (by simp (disch := omega) only [go_sem]) ?_
  rintro r hs ⟨rfl, rfl, _⟩
  refine ⟨by simp [freeN], ?_⟩
  simp (disch := omega) only [go_sem]
  exact fin_valc (by simp (disch := omega) only [go_sem]) (by simp (disch := omega) only [go_sem]) isA_mk

theorem con_roundQuotient (neg : Bool) (a b : Nat) (mode : Int) (hb : b ≠ 0) (la : bl a ≤ 8000000) (lb : bl b ≤ 8000000) :
    Con Tryd.prog 138 false [.v (.bool neg), .sl (lim (a)).length (ints (lim (a))), .sl (lim (b)).length (ints (lim (b))), .v (.int .i64 mode)] [] (isA (.tu [.sl (lim (rq neg a b mode)).length (ints (lim (rq neg a b mode))), .v (.bool (decide (a % b = 0)))])) := by
  refine Con.of_aw Tryd.func138 rfl Tryd.ntmps138 (by simp) (by simp) (by simp) (W.sound ?_)
  show @W Tryd.prog 36 ⟨_⟩ ⟨fun x σ => @retW _ _ _ ⟨_⟩ _ ⟨_⟩ x σ⟩ _ _
  simp (disch := omega) only [go_sem]
  have lla := len_bl la
  have llb := len_bl lb
  refine call_open (con_divideN a b hb (by omega) (by omega)) (by simp (disch := omega) only [go_sem]) ?_
  rintro r hs ⟨rfl, rfl, _⟩
  refine ⟨by simp [freeN], ?_⟩
  simp (disch := omega) only [go_sem]
  have hmb : a % b < b := Nat.mod_lt _ (by omega)
  have llr := len_bl (Nat.le_trans (bl_mono (Nat.le_of_lt hmb)) lb)
  have llq := len_bl (Nat.le_trans (bl_divle a b) la)
  refine ifW_dec (fun h1 => ?_) (fun h1 => ?_)
  · simp (disch := omega) only [go_sem, h1]
    have h0 : a % b = 0 := lim_eq_nil.1 (List.length_eq_zero_iff.1 (by omega))
    refine fin_val (by simp (disch := omega) only [go_sem]) ⟨?_, rfl, rfl⟩
    simp [tupA, rq, h0]
  · simp (disch := omega) only [go_sem, h1]
    have h0 : a % b ≠ 0 := fun e => h1 (by rw [e, lim_zero]; rfl)
    refine call_closed (con_bitOf (a / b) 0 (by omega) (by omega) (by omega)) (by simp (disch := omega) only [go_sem]) ?_
    rintro r hs ⟨rfl, rfl, _⟩
    refine ⟨by simp [freeN], ?_⟩
    simp (disch := omega) only [go_sem]
    refine call_open (con_upN (a % b) 1 (by omega) (by omega)) (by simp (disch := omega) only [go_sem]) ?_
    rintro r hs ⟨rfl, rfl, _⟩
    refine ⟨by simp [freeN], ?_⟩
    simp (disch := omega) only [go_sem]
    have llu := len_bl (Nat.le_trans (bl_up (a % b) 1) (Nat.add_le_add_right (Nat.le_trans (bl_mono (Nat.le_of_lt hmb)) lb) 1))
    refine call_closed (con_compare (a % b * 2 ^ 1) b (by omega) (by omega)) (by simp (disch := omega) only [go_sem]) ?_
    rintro r hs ⟨rfl, rfl, _⟩
    refine ⟨by simp [freeN], ?_⟩
    simp (disch := omega) only [go_sem]
    have e1 : (decide (((a / b / 1 % 2 : Nat) : Int) = 1)) = decide (a / b % 2 = 1) := by
      simp; omega
    refine call_closed (con_roundUp neg (decide (a / b % 2 = 1)) (cmpI ((a % b * 2 ^ 1 : Nat) : Int) (b : Int)) mode) (by simp (disch := omega) only [go_sem, e1, Int.toNat_zero, Nat.pow_zero]) ?_
    rintro r hs ⟨rfl, rfl, _⟩
    refine ⟨by simp [freeN], ?_⟩
    simp (disch := omega) only [go_sem]
    refine ifW_b (fun h2 => ?_) (fun h2 => ?_)
    · simp (disch := omega) only [go_sem, h2]
      refine call_open (con_smallN 1 (by omega)) (by simp (disch := omega) only [go_sem]) ?_
      rintro r hs ⟨rfl, rfl, _⟩
      refine ⟨by simp [freeN], ?_⟩
      simp (disch := omega) only [go_sem]
      have l1 : (lim 1).length ≤ 2000000 := by have := len_bl (m := 1) (B := 1) (by decide); omega
      refine call_open (con_plusN (a / b) 1 (by omega) l1) (by simp (disch := omega) only [go_sem]) ?_
      rintro r hs ⟨rfl, rfl, _⟩
      refine ⟨by simp [freeN], ?_⟩
      simp (disch := omega) only [go_sem]
      refine fin_val (by simp (disch := omega) only [go_sem]) ⟨?_, rfl, rfl⟩
      have e : rq neg a b mode = a / b + 1 := by unfold rq; rw [if_neg h0, if_pos h2]
      rw [e]; simp [tupA, h0]
    · simp (disch := omega) only [go_sem, h2]
      refine fin_val (by simp (disch := omega) only [go_sem]) ⟨?_, rfl, rfl⟩
      have e : rq neg a b mode = a / b := by unfold rq; rw [if_neg h0, if_neg (by rw [h2]; simp)]
      rw [e]; simp [tupA, h0]
end Go.Ab
