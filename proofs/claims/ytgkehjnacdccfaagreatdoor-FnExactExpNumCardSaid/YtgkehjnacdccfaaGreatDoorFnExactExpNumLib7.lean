/- What the proof of this claim stands on: the walks of the functions and the plain laws, part 7. -/
import Derived.Test.YtgkehjnacdccfaaGreatDoorFnExactExpNumLib6
import Derived.Test.YtgkehjnacdccfaaGreatDoorRows
import Derived.Test.YtgkehjnacdccfaaGreatDoorCards
import Derived.Test.YtgkehjnacdccfaaGreatDoorTie
import Derived.Handed
import Derived.ChangeSame
import Derived.JoinedOf
import Derived.RowKit
import Derived.WalkKit
import Derived.ProofKit
import Derived.OpenShut
import Derived.LaidLaws
import Derived.LaidHandle
import Derived.SevenTiedAt
import Derived.Stop.LaidErr
import Derived.Lib.LaidTab
set_option linter.unusedVariables false
set_option linter.unusedSimpArgs false
namespace Go.Ab
open Go Go.Proofs
/-! ### The specification's exponential of a matrix and of a number-/
theorem agM(low:Int):Con Tryz.prog 213 true [.v (.int .i64 low)] [] (isA (.v (.bool (decide (-120≤low)&&decide (low≤0))))):=by
 by_cases h1: -120≤low
 ·rw[decide_eq_true h1,Bool.true_and]
  refine Con.of_w (rs:=[.tmp 2]) Tryz.func213 rfl Tryz.ntmps213 rfl ?_
  simp(disch:=omega)only[go_sem,h1]
  exact qu
 ·rw[decide_eq_false h1,Bool.false_and]
  refine Con.of_w (rs:=[.tmp 2]) Tryz.func213 rfl Tryz.ntmps213 rfl ?_
  simp(disch:=omega)only[go_sem,h1]
  exact qu
theorem YW(n:Nat)(L:List ExV)(low:Int)(h:matV n L):Con Tryz.prog 122 false [.ag [.v (.int .i64 (n)),.sl (L).length (qr ExV.cs (L))],.v (.int .i64 low)] [] (isA (.v (.bool (ail n L low)))):=by
 refine Con.frzA ?_
 have cw:=agM low
 have cm:=agX n L h
 have cn:=YQ n L h.n4 h.len (jW h.bd (by omega) (by omega))
 have bN:=jk h.len h.bd (by omega) n (Nat.le_refl n)
 have h4:=h.n4
 have bX:(exN 64).bd (-400000) 400000:=(auN (by decide)).mono (by omega) (by omega)
 have cc:=Zz (qV n L n).can (exN 64).can ((Qc bN (by omega) (by omega)).mono (by omega) (by omega)) (Qc bX (by omega) (by omega))
 rw[ag2]at cc
 have c3:Con Tryz.prog 174 false [.v (.int .i64 64)] [] (isA (.ag [.v (.bool (false)),.sl (lim (64)).length (qb (lim (64)))])):=XR 64 (by omega)
 have c4:Con Tryz.prog 173 false [.ag [.v (.bool (false)),.sl (lim (64)).length (qb (lim (64)))],.v (.int .i64 0)] [] (isA (.ag [.v (.bool ((exN 64).can).s),.sl (lim ((exN 64).can).m).length (qb (lim ((exN 64).can).m)),.v (.int .i64 ((exN 64).can).e)])):=J1 (exN 64) bX
 unfold ail
 generalize (qV n L n).cmp (exN 64)=C at*
 generalize (qV n L n).can=y at*
 generalize (exN 64).can=z at*
 cases hw:(decide (-120≤low)&&decide (low≤0))
 ·rw[hw]at cw
  refine Con.of_w (rs:=[.tmp 4]) Tryz.func122 rfl Tryz.ntmps122 rfl ?_
  simp(disch:=omega)only[go_sem]
  refine qj (cm) ?_
  simp(disch:=omega)only[go_sem]
  refine qj (cw) ?_
  simp(disch:=omega)only[go_sem]
  exact qm
 ·rw[hw]at cw
  rw[Bool.true_and]
  refine Con.of_w (rs:=[.tmp 4]) Tryz.func122 rfl Tryz.ntmps122 rfl ?_
  simp(disch:=omega)only[go_sem]
  refine qj (cm) ?_
  simp(disch:=omega)only[go_sem]
  refine qj (cw) ?_
  simp(disch:=omega)only[go_sem]
  refine qa (cn) ?_
  simp(disch:=omega)only[go_sem]
  refine qa (c3) ?_
  simp(disch:=omega)only[go_sem]
  refine qa (c4) ?_
  simp(disch:=omega)only[go_sem]
  refine qj (cc) ?_
  simp(disch:=omega)only[go_sem]
  exact qm
theorem XY(n:Nat)(L:List ExV)(low:Int)(h:matV n L)(ha:ail n L low=true):Con Tryz.prog 60 false [.ag [.v (.int .i64 (n)),.sl (L).length (qr ExV.cs (L))],.v (.int .i64 low)] [] (isA (.tu [.ag [.v (.int .i64 (n)),.sl (exT n L low).length (qr SpV.cs (exT n L low))],.v (.bool true)])):=by
 refine Con.frzA ?_
 have f:=Qf h ha
 have cm:=YW n L low h
 rw[ha]at cm
 have ch:=agL n L low h ha
 have hB:=f.B
 have hbl:(gB n L (exS n L)).length=n*n:=by show(List.map _ _).length=n*n;rw[List.length_map];exact jy
 have hFl:(gFt n (gB n L (exS n L)) (Z3 n L low)).length=n*n:=by show(List.map _ _).length=n*n;rw[List.length_map];exact(zD _).1
 have hQb:=(YH h.n4 (show 1≤Z3 n L low by omega) hFl (abM h.n4 (show 1≤Z3 n L low∧Z3 n L low≤148 by omega) hbl f.bd) (exS n L)).1
 obtain⟨q1,q2⟩:=pw8 f.s8 hB.2
 have hlo:=f.lo
 have hQl:=yF (w:= -(Z3 n L low:Int)) hFl (exS n L)
 have co:=YX n ((gSq n (-(Z3 n L low:Int)) (gFt n (gB n L (exS n L)) (Z3 n L low)) (exS n L)).map SpV.can) (low-4) h.n4 (zO hQl) aQm (yv (qF hQb (by omega) (by omega)) (by omega) (by omega)) (by omega)
 rw[ahI]at co
 change Con _ _ _ _ _ (isA (.ag [.v (.int .i64 (n)),.sl (exT n L low).length (qr SpV.cs (exT n L low))]))at co
 have cf:=agO n (exT n L low) (auM h f).1
 rw[List.map_id']at cf
 generalize exT n L low=H at*
 generalize (gSq n (-(Z3 n L low:Int)) (gFt n (gB n L (exS n L)) (Z3 n L low)) (exS n L)).map SpV.can=Q at*
 refine Con.of_w (rs:=[.cell 4 30,.tmp 5]) Tryz.func60 rfl Tryz.ntmps60 rfl ?_
 simp(disch:=omega)only[go_sem]
 refine qa (cm) ?_
 simp(disch:=omega)only[go_sem]
 refine qa (ch) ?_
 simp(disch:=omega)only[go_sem]
 refine qa (co) ?_
 simp(disch:=omega)only[go_sem]
 refine qa (cf) ?_
 simp(disch:=omega)only[go_sem]
 exact qm
theorem Ys(n:Nat)(L:List ExV)(low:Int)(h:matV n L)(ha:ail n L low=false):Con Tryz.prog 60 false [.ag [.v (.int .i64 (n)),.sl (L).length (qr ExV.cs (L))],.v (.int .i64 low)] [] (isA (.tu [.ag [.v (.int .i64 0),.sl 0 []],.v (.bool false)])):=by
 refine Con.frzA ?_
 have cm:=YW n L low h
 rw[ha]at cm
 refine Con.of_w (rs:=[.cell 4 30,.tmp 5]) Tryz.func60 rfl Tryz.ntmps60 rfl ?_
 simp(disch:=omega)only[go_sem]
 refine qa (cm) ?_
 simp(disch:=omega)only[go_sem]
 exact qm
/-! ### One number-/
theorem afZ{x:ExV}(h:x.ok=true):matV 1 [x]:=⟨by omega,by omega,rfl,fun y hy=>by rw[List.mem_singleton.1 hy];exact h⟩
theorem aTo{x:ExV}{low:Int}:∃S:SpV,exH 1 [x] low=[S]:=by
 have:(exH 1 [x] low).length=1:=y4
 exact List.length_eq_one_iff.1 this
theorem acy(x:ExV)(low:Int)(h:x.ok=true)(ha:ail 1 [x] low=true){S:SpV}(hS:exH 1 [x] low=[S]):Con Tryz.prog 54 false [.ag [.v (.bool (x).s),.sl (lim (x).m).length (qb (lim (x).m)),.v (.int .i64 (x).e)],.v (.int .i64 low)] [] (isA (.tu [.ag [.v (.bool (S.can).lo.s),.sl (lim (S.can).lo.m).length (qb (lim (S.can).lo.m)),.v (.int .i64 (S.can).lo.e),.v (.bool (S.can).hi.s),.sl (lim (S.can).hi.m).length (qb (lim (S.can).hi.m)),.v (.int .i64 (S.can).hi.e)],.v (.bool true)])):=by
 refine Con.frzA ?_
 have cd:=Y1 x h
 have ch:=XY 1 [x] low (afZ h) ha
 have eT:exT 1 [x] low=[S.can]:=by unfold exT;rw[hS];rfl
 rw[eT]at ch
 generalize S.can=T at*
 change Con _ _ _ [.ag [.v (.int .i64 1),.sl 1 [.v (.bool x.s),.sl (lim x.m).length (qb (lim x.m)),.v (.int .i64 x.e)]],.v (.int .i64 low)] _ (isA (.tu [.ag [.v (.int .i64 1),.sl 1 [.v (.bool T.lo.s),.sl (lim T.lo.m).length (qb (lim T.lo.m)),.v (.int .i64 T.lo.e),.v (.bool T.hi.s),.sl (lim T.hi.m).length (qb (lim T.hi.m)),.v (.int .i64 T.hi.e)]],.v (.bool true)]))at ch
 refine Con.of_aw Tryz.func54 rfl Tryz.ntmps54 (by simp) (by simp) (by simp)
  (AW.seqLe (E:=[(1,.v (.int .i64 low)),(2,.pt 40000000 0),(4,.pt 60000000 0),(5,.v (.bool false))]) (H:=[(40000000,.own 0 [.v (.bool x.s),.sl (lim x.m).length (qb (lim x.m)),.v (.int .i64 x.e)]),(60000000,.own 0 [.v (.bool false),.v (.slice none 0 0),.v (.int .i64 0),.v (.bool false),.v (.slice none 0 0),.v (.int .i64 0)])]) (W.sound ?_)
  (AW.seqLe (E:=[(1,.v (.int .i64 low)),(2,.pt 40000000 0),(4,.pt 60000000 0),(5,.v (.bool false))]) (H:=[(40000000,.own 0 [.v (.bool x.s),.sl (lim x.m).length (qb (lim x.m)),.v (.int .i64 x.e)]),(60000000,.own 0 [.v (.bool false),.v (.slice none 0 0),.v (.int .i64 0),.v (.bool false),.v (.slice none 0 0),.v (.int .i64 0)])]) (W.sound ?_)
  (AW.regSplit (E:=[(1,.v (.int .i64 low)),(4,.pt 60000000 0),(5,.v (.bool false)),(14,.sl 1 [.v (.bool x.s),.sl (lim x.m).length (qb (lim x.m)),.v (.int .i64 x.e)])]) (H:=[(60000000,.own 0 [.v (.bool false),.v (.slice none 0 0),.v (.int .i64 0),.v (.bool false),.v (.slice none 0 0),.v (.int .i64 0)])]) 2 (by simp only[List.take_succ_cons,List.take_zero];rfl) (by simp only[List.drop_succ_cons,List.drop_zero];rfl) ?_ ?_)))
 ·show @W Tryz.prog 27 ⟨_⟩ ⟨_⟩ _ _
  simp(disch:=omega)only[go_sem]
  exact Le.lst [] _ _ rfl (by simp(disch:=omega)only[go_sem]) (by simp(disch:=omega)only[go_sem])
 ·show @W Tryz.prog 27 ⟨_⟩ ⟨_⟩ _ _
  simp(disch:=omega)only[go_sem]
  refine qj (cd) ?_
  simp(disch:=omega)only[go_sem]
  exact Le.lst [] _ _ rfl (by simp(disch:=omega)only[go_sem]) (by simp(disch:=omega)only[go_sem])
 ·simp(disch:=omega)only[go_sem]
  exact(Le.frz 160000000 (z:=3) (ks:=[.v (.bool x.s),.sl (lim x.m).length (qb (lim x.m)),.v (.int .i64 x.e)]) (by simp(disch:=omega)only[go_sem]) rfl (by simp(disch:=omega)only[go_sem])).trans (Le.lst [] _ _ rfl (by simp(disch:=omega)only[go_sem]) (by simp(disch:=omega)only[go_sem]))
 show @Ch Tryz.prog 27 ⟨_⟩ ⟨_⟩ ⟨fun σ=>@W Tryz.prog 27 ⟨_⟩ ⟨fun x σ=>@q9 _ _ _ ⟨_⟩ _ ⟨_⟩ x σ⟩ σ.env σ.hp⟩ _ _
 simp(disch:=omega)only[go_sem]
 refine qa (ch) ?_
 simp(disch:=omega)only[go_sem]
 exact qm
theorem XX(x:ExV)(low:Int)(h:x.ok=true)(ha:ail 1 [x] low=false):Con Tryz.prog 54 false [.ag [.v (.bool (x).s),.sl (lim (x).m).length (qb (lim (x).m)),.v (.int .i64 (x).e)],.v (.int .i64 low)] [] (isA (.tu [.ag [.v (.bool false),.sl 0 [],.v (.int .i64 0),.v (.bool false),.sl 0 [],.v (.int .i64 0)],.v (.bool false)])):=by
 refine Con.frzA ?_
 have cd:=Y1 x h
 have ch:=Ys 1 [x] low (afZ h) ha
 change Con _ _ _ [.ag [.v (.int .i64 1),.sl 1 [.v (.bool x.s),.sl (lim x.m).length (qb (lim x.m)),.v (.int .i64 x.e)]],.v (.int .i64 low)] _ _ at ch
 refine Con.of_aw Tryz.func54 rfl Tryz.ntmps54 (by simp) (by simp) (by simp)
  (AW.seqLe (E:=[(1,.v (.int .i64 low)),(2,.pt 40000000 0),(4,.pt 60000000 0),(5,.v (.bool false))]) (H:=[(40000000,.own 0 [.v (.bool x.s),.sl (lim x.m).length (qb (lim x.m)),.v (.int .i64 x.e)]),(60000000,.own 0 [.v (.bool false),.v (.slice none 0 0),.v (.int .i64 0),.v (.bool false),.v (.slice none 0 0),.v (.int .i64 0)])]) (W.sound ?_)
  (AW.seqLe (E:=[(1,.v (.int .i64 low)),(2,.pt 40000000 0),(4,.pt 60000000 0),(5,.v (.bool false))]) (H:=[(40000000,.own 0 [.v (.bool x.s),.sl (lim x.m).length (qb (lim x.m)),.v (.int .i64 x.e)]),(60000000,.own 0 [.v (.bool false),.v (.slice none 0 0),.v (.int .i64 0),.v (.bool false),.v (.slice none 0 0),.v (.int .i64 0)])]) (W.sound ?_)
  (AW.regSplit (E:=[(1,.v (.int .i64 low)),(4,.pt 60000000 0),(5,.v (.bool false)),(14,.sl 1 [.v (.bool x.s),.sl (lim x.m).length (qb (lim x.m)),.v (.int .i64 x.e)])]) (H:=[(60000000,.own 0 [.v (.bool false),.v (.slice none 0 0),.v (.int .i64 0),.v (.bool false),.v (.slice none 0 0),.v (.int .i64 0)])]) 2 (by simp only[List.take_succ_cons,List.take_zero];rfl) (by simp only[List.drop_succ_cons,List.drop_zero];rfl) ?_ ?_)))
 ·show @W Tryz.prog 27 ⟨_⟩ ⟨_⟩ _ _
  simp(disch:=omega)only[go_sem]
  exact Le.lst [] _ _ rfl (by simp(disch:=omega)only[go_sem]) (by simp(disch:=omega)only[go_sem])
 ·show @W Tryz.prog 27 ⟨_⟩ ⟨_⟩ _ _
  simp(disch:=omega)only[go_sem]
  refine qj (cd) ?_
  simp(disch:=omega)only[go_sem]
  exact Le.lst [] _ _ rfl (by simp(disch:=omega)only[go_sem]) (by simp(disch:=omega)only[go_sem])
 ·simp(disch:=omega)only[go_sem]
  exact(Le.frz 160000000 (z:=3) (ks:=[.v (.bool x.s),.sl (lim x.m).length (qb (lim x.m)),.v (.int .i64 x.e)]) (by simp(disch:=omega)only[go_sem]) rfl (by simp(disch:=omega)only[go_sem])).trans (Le.lst [] _ _ rfl (by simp(disch:=omega)only[go_sem]) (by simp(disch:=omega)only[go_sem]))
 show @Ch Tryz.prog 27 ⟨_⟩ ⟨_⟩ ⟨fun σ=>@W Tryz.prog 27 ⟨_⟩ ⟨fun x σ=>@q9 _ _ _ ⟨_⟩ _ ⟨_⟩ x σ⟩ σ.env σ.hp⟩ _ _
 simp(disch:=omega)only[go_sem]
 refine qa (ch) ?_
 simp(disch:=omega)only[go_sem]
 exact qm
theorem Yr(s:Bool)(xs:List Int)(e low:Int)(hl:xs.length≤2^40)(h:dyB s xs e=false):Con Tryz.prog 54 false [.ag [.v (.bool s),.sl xs.length (qb xs),.v (.int .i64 e)],.v (.int .i64 low)] [] (isA (.tu [.ag [.v (.bool false),.sl 0 [],.v (.int .i64 0),.v (.bool false),.sl 0 [],.v (.int .i64 0)],.v (.bool false)])):=by
 refine Con.frzA ?_
 have cd:=Qb s xs e hl
 rw[h]at cd
 refine Con.of_w (rs:=[.cell 4 90,.tmp 5]) Tryz.func54 rfl Tryz.ntmps54 rfl ?_
 simp(disch:=omega)only[go_sem]
 refine qj (cd) ?_
 simp(disch:=omega)only[go_sem]
 exact qm
/-! ### The implementation's number-/
theorem agZ(x:ExV)(low:Int)(h:x.ok=true)(ha:ail 1 [x] low=true){S:SpV}(hS:exH 1 [x] low=[S]):Con Tryz.prog 56 true [.ag [.v (.bool (x).s),.sl (lim (x).m).length (qb (lim (x).m)),.v (.int .i64 (x).e)],.v (.int .i64 low)] [] (ivO S.lo.can S.hi.can):=by
 have hm:=afZ h
 have f:=Qf hm ha
 have ca:=ZQ 1 [x] low hm
 rw[ha]at ca
 have cg:=JZ 1 [x] (by simp)
 have ch:=anE 1 [x] low hm ha
 have hB:=f.B
 have hw:=f.w
 have hlo:=f.lo
 have hb:sbd (-37888) 73473 (exH 1 [x] low):=aIt hm.n4 f.s8 (by omega) (by omega) (by omega) f.bd
 have hfit:=agn hm f
 rw[hS]at ch hb hfit
 have hSb:=hb S (List.mem_singleton.2 rfl)
 have hSf:S.fit=true:=by simpa using hfit
 have ci:=ava S (SpV.bd.mono hSb (by omega) (by omega)) hSf
 generalize S.lo.can=u at*
 generalize S.hi.can=v at*
 change Con _ _ _ [.ag [.v (.int .i64 1),.sl 1 [.v (.bool x.s),.sl (lim x.m).length (qb (lim x.m)),.v (.int .i64 x.e)]],.v (.int .i64 low)] _ _ at ca ch
 change Con _ _ _ [.ag [.v (.int .i64 1),.sl 1 [.v (.bool x.s),.sl (lim x.m).length (qb (lim x.m)),.v (.int .i64 x.e)]]] _ (isA (.ag [.v (.int .i64 1),.sl 1 [.v (.bool x.s),.sl (lim x.m).length (qb (lim x.m)),.v (.int .i64 x.e)]]))at cg
 change Con _ _ _ _ _ (isA (.ag [.v (.int .i64 1),.sl 1 [.v (.bool S.lo.s),.sl (lim S.lo.m).length (qb (lim S.lo.m)),.v (.int .i64 S.lo.e),.v (.bool S.hi.s),.sl (lim S.hi.m).length (qb (lim S.hi.m)),.v (.int .i64 S.hi.e)]]))at ch
 refine Con.of_aw Tryz.func56 rfl Tryz.ntmps56 (by simp) (by simp) (by simp)
  (AW.seqLe (E:=[(1,.v (.int .i64 low)),(2,.pt 40000000 0),(4,.pt 60000000 0),(5,.v (.bool false))]) (H:=[(40000000,.own 0 [.v (.bool x.s),.sl (lim x.m).length (qb (lim x.m)),.v (.int .i64 x.e)]),(60000000,.own 0 [.v (.bool false),.v (.slice none 0 0),.v (.int .i64 0),.v (.bool false),.v (.slice none 0 0),.v (.int .i64 0)])]) (W.sound ?_)
  (AW.seqLe (E:=[(1,.v (.int .i64 low)),(4,.pt 60000000 0),(5,.v (.bool false)),(6,.pt 80000000 0)]) (H:=[(60000000,.own 0 [.v (.bool false),.v (.slice none 0 0),.v (.int .i64 0),.v (.bool false),.v (.slice none 0 0),.v (.int .i64 0)]),(80000000,.own 0 [.v (.int .i64 1),.sl 1 [.v (.bool x.s),.sl (lim x.m).length (qb (lim x.m)),.v (.int .i64 x.e)]])]) (W.sound ?_) (W.sound ?_)))
 ·show @W Tryz.prog 25 ⟨_⟩ ⟨_⟩ _ _
  simp(disch:=omega)only[go_sem]
  exact Le.lst [] _ _ rfl (by simp(disch:=omega)only[go_sem]) (by simp(disch:=omega)only[go_sem])
 ·show @W Tryz.prog 25 ⟨_⟩ ⟨_⟩ _ _
  simp(disch:=omega)only[go_sem]
  exact(Le.frz 100000000 (z:=3) (ks:=[.v (.bool x.s),.sl (lim x.m).length (qb (lim x.m)),.v (.int .i64 x.e)]) (by simp(disch:=omega)only[go_sem]) rfl (by simp(disch:=omega)only[go_sem])).trans (Le.lst [] _ _ rfl (by simp(disch:=omega)only[go_sem]) (by simp(disch:=omega)only[go_sem]))
 show @W Tryz.prog 25 ⟨_⟩ ⟨fun x σ=>@q9 _ _ _ ⟨_⟩ _ ⟨_⟩ x σ⟩ _ _
 simp(disch:=omega)only[go_sem]
 refine qj (ca) ?_
 simp(disch:=omega)only[go_sem]
 refine qa (cg) ?_
 simp(disch:=omega)only[go_sem]
 refine qa (ch) ?_
 simp(disch:=omega)only[go_sem]
 refine qE ci (by simp(disch:=omega)only[go_sem]) ?_
 rintro r hs' (⟨g1,g2,rfl,rfl⟩|⟨g1,rfl,rfl⟩|⟨g2,rfl,rfl⟩|⟨rfl,rfl⟩)
 ·refine⟨by simp[qC];try simp(disch:=omega)only[go_sem],?_⟩
  simp(disch:=omega)only[go_sem]
  refine qh [] [] [] [.ag [.v (.bool u.s),.v (.slice none 0 0),.v (.int .i64 u.e),.v (.bool v.s),.v (.slice none 0 0),.v (.int .i64 v.e)],.v (.bool true)] rfl (by simp(disch:=omega)only[go_sem]) (by simp(disch:=omega)only[go_sem]) (by simp) (by intro _;simp[zl,AV.pu,AV.pu.puL,Ob.pu,qT]) (.inl ⟨g1,g2,rfl,rfl⟩)
 ·refine⟨by simp[qC];try simp(disch:=omega)only[go_sem],?_⟩
  simp(disch:=omega)only[go_sem]
  refine qh [(0,240000000)] [.own 1 (qb (lim v.m))] [] [.ag [.v (.bool u.s),.v (.slice none 0 0),.v (.int .i64 u.e),.v (.bool v.s),.rf 0 0 (lim v.m).length,.v (.int .i64 v.e)],.v (.bool true)] rfl (by simp(disch:=omega)only[go_sem]) (by simp(disch:=omega)only[go_sem]) (by simp) (by intro _;simp[zl,AV.pu,AV.pu.puL,Ob.pu,qT]) (.inr (.inl ⟨g1,rfl,rfl⟩))
 ·refine⟨by simp[qC];try simp(disch:=omega)only[go_sem],?_⟩
  simp(disch:=omega)only[go_sem]
  refine qh [(0,240000000)] [.own 1 (qb (lim u.m))] [] [.ag [.v (.bool u.s),.rf 0 0 (lim u.m).length,.v (.int .i64 u.e),.v (.bool v.s),.v (.slice none 0 0),.v (.int .i64 v.e)],.v (.bool true)] rfl (by simp(disch:=omega)only[go_sem]) (by simp(disch:=omega)only[go_sem]) (by simp) (by intro _;simp[zl,AV.pu,AV.pu.puL,Ob.pu,qT]) (.inr (.inr (.inl ⟨g2,rfl,rfl⟩)))
 ·refine⟨by simp[qC];try simp(disch:=omega)only[go_sem],?_⟩
  simp(disch:=omega)only[go_sem]
  refine qh [(0,240000000),(1,240000001)] [.own 1 (qb (lim u.m)),.own 1 (qb (lim v.m))] [] [.ag [.v (.bool u.s),.rf 0 0 (lim u.m).length,.v (.int .i64 u.e),.v (.bool v.s),.rf 1 0 (lim v.m).length,.v (.int .i64 v.e)],.v (.bool true)] rfl (by simp(disch:=omega)only[go_sem]) (by simp(disch:=omega)only[go_sem]) (by simp) (by intro _;simp[zl,AV.pu,AV.pu.puL,Ob.pu,qT]) (.inr (.inr (.inr ⟨rfl,rfl⟩)))
theorem ZR(s:Bool)(xs:List Int)(e low:Int)(ca:Con Tryz.prog 69 true [.ag [.v (.int .i64 1),.sl 1 [.v (.bool s),.sl xs.length (qb xs),.v (.int .i64 e)]],.v (.int .i64 low)] [] (isA (.v (.bool false)))):
  Con Tryz.prog 56 true [.ag [.v (.bool s),.sl xs.length (qb xs),.v (.int .i64 e)],.v (.int .i64 low)] [] (fun r hs bs=>r=.tu [.ag [.v (.bool false),.v (.slice none 0 0),.v (.int .i64 0),.v (.bool false),.v (.slice none 0 0),.v (.int .i64 0)],.v (.bool false)]∧hs=[]):=by
 refine Con.of_aw Tryz.func56 rfl Tryz.ntmps56 (by simp) (by simp) (by simp) (W.sound ?_)
 show @W Tryz.prog 25 ⟨_⟩ ⟨fun x σ=>@q9 _ _ _ ⟨_⟩ _ ⟨_⟩ x σ⟩ _ _
 simp(disch:=omega)only[go_sem]
 refine qj (ca) ?_
 simp(disch:=omega)only[go_sem]
 refine qh [] [] [] [.ag [.v (.bool false),.v (.slice none 0 0),.v (.int .i64 0),.v (.bool false),.v (.slice none 0 0),.v (.int .i64 0)],.v (.bool false)] rfl (by simp(disch:=omega)only[go_sem]) (by simp(disch:=omega)only[go_sem]) (by simp) (by intro _;simp[zl,AV.pu,AV.pu.puL,Ob.pu,qT]) ⟨rfl,rfl⟩
theorem J6(k:Int)(M:List DyV)(low:Int)(h1:M.length≤16)(h2:∀d∈M,d.xs.length≤2^40)(h:af4 k M=false):Con Tryz.prog 69 true [.ag [.v (.int .i64 k),.sl M.length (qr DyV.cs M)],.v (.int .i64 low)] [] (isA (.v (.bool false))):=by
 have c:=acx k M (by omega) h2
 rw[h]at c
 refine Con.of_w (rs:=[.tmp 4]) Tryz.func69 rfl Tryz.ntmps69 rfl ?_
 simp(disch:=omega)only[go_sem]
 refine qj (c) ?_
 simp(disch:=omega)only[go_sem]
 exact qu
end Go.Ab
namespace Go.Ab
open Go
section
variable {P:Program}{L:Nat→Option Blk→Prop}{w0 w:World}{R:Nat→Prop}{ι:Nat→Option Blk}{a:Act}{σ:St}{K:AV→(Nat→Ob)→Prop}
theorem AW.regCallF{N:Nat}{Q:Exit→St→Prop}{e:Nat→AV}{h:Nat→Ob}{id:Nat}{l:List Oper}{y:Code}(k:Nat){pre suf:List Oper}{d ty:Nat}{pos:String}{af:Array Edge}{c}{x:Operand}{f:FuncId}
  (hp:l.take k=pre) (hs:l.drop k=⟨some d,.call c,ty,pos,af,none⟩::suf) {E:List (Nat×AV)} {H:List (Nat×Ob)}
  (h1:@Ch P N ⟨l⟩ ⟨pre⟩ ⟨fun σ'=>Le σ' ⟨ofL .un E,ofH H⟩⟩ e h)
  (hd:d<N) (hcal:c.callee=.value x) (hx:evW (ofL .un E) x=.fn f []) (hfn:qn P f) {aa0:List AV} (haa:evL (ofL .un E) c.args.toList=aa0)
  (cl:Bool) (nms:List Nat) {args:List AV} {bs:List Ob} {post:AV→List Ob→List Ob→Prop} (hc:Con P f cl args bs post) (ha:aa0.map (snp (hpx cl nms (ofH H)) (idx nms) 6)=args)
  (hb:abD (ofH H) nms nms=bs) (hnd:ZL nms=true) (hl:ZN (ofH H) nms)
  (hk:∀r hs bs',post r hs bs'→bs'.length=bs.length→(hs.length≤10000000∧qC (ofH H) (20000000+10000000*d) hs∧(cl=true→∀ob∈bs',ob.plain))∧
   @Ch P N ⟨l⟩ ⟨suf⟩ ⟨fun σ=>AW P N y Q σ⟩ (upd (ofL .un E) d (r.ren (rho (20000000+10000000*d) nms))) (QM (X5 (rho (20000000+10000000*d) nms) (ofH H) (20000000+10000000*d) hs) nms (bs'.map (Ob.ren (rho (20000000+10000000*d) nms))))):
  AW P N (.seq (.region id ⟨l⟩ false) y) Q ⟨e,h⟩:=by
 refine AW.seq fun L w0 R0 a w hi=>wp_region ?_
 have hl2:l=pre++⟨some d,.call c,ty,pos,af,none⟩::suf:=by rw[←hp,←hs,List.take_append_drop]
 have hr:List.range (⟨l⟩:Array Oper).size=List.range' 0 pre.length++(pre.length::(List.range' (pre.length+1) suf.length++[])):=by
  have hsz:(⟨l⟩:Array Oper).size=pre.length+(suf.length+1):=by show l.length=_;rw[hl2,List.length_append,List.length_cons]
  rw[hsz,List.append_nil,List.range_eq_range',List.range'_append_1.symm,Nat.zero_add,List.range'_succ]
 rw[hr]
 refine jY (K:=fun σ'=>Le σ' ⟨ofL .un E,ofH H⟩) (fun σ a w hi2 hle=>?_) pre 0 (fun j hj=>?_) hi h1
 ·have hi3:=hle L w0 R0 N a w hi2
  obtain⟨R,ι,hR,hinv⟩:=hi3.inv
  have hget:(⟨l⟩:Array Oper)[pre.length]? =some ⟨some d,.call c,ty,pos,af,none⟩:=by
   rw[List.getElem?_toArray,hl2,List.getElem?_append_right (Nat.le_refl _),Nat.sub_self];rfl
  simp only[wpOps,hget]
  rw[if_pos (by simp[Region.wanted])]
  refine .inl (atB (c:=c) (x:=x) (f:=f) (σ:=⟨ofL .un E,ofH H⟩) rfl hcal (by rw[zC];exact hx) hfn hinv
   (K:=fun v hp'=>@Ch P N ⟨l⟩ ⟨suf⟩ ⟨fun σ=>AW P N y Q σ⟩ (upd (ofL .un E) d v) hp') ?_ fun x w' R' ι' av hp' hR' hK hx hm hi'=>?_)
  ·have ea:c.args.toList.map (St.ev ⟨ofL .un E,ofH H⟩)=aa0:=by
    rw[←haa,yG]
    exact List.map_congr_left fun z _=>zC _ _ _
   rw[ea]
   refine⟨cl,nms,fun r hs bs'=>post r hs bs'∧bs'.length=bs.length,?_,jH hnd,hl,fun r hs bs' ⟨hp,hb⟩=>?_⟩
   ·rw[ha,←JH nms,hb];exact Con.len' hc
   ·obtain⟨⟨g1,g2,g3⟩,g4⟩:=hk r hs bs' hp hb
    exact⟨g1,g2,fun g=>.inr (g3 g),g4⟩
  ·refine jY (K:=fun σ=>AW P N y Q σ) (fun σ a w hi4 hq=>?_) suf (pre.length+1) (fun j hj=>?_) (hi3.put (o:=⟨some d,.call c,ty,pos,af,none⟩) hd hR hR' hx hm hi') hK
   ·exact⟨σ,hi4,hq⟩
   rw[List.getElem?_toArray,hl2,List.getElem?_append_right (by omega),show pre.length+1+j-pre.length=j+1 by omega];rfl
 ·rw[List.getElem?_toArray,hl2,Nat.zero_add,List.getElem?_append_left hj]
def aG5:Nat→Code→Code
 |k+1,.seq a b=>.seq a (aG5 k b)
 |_,_=>.skip
def agq:Nat→Code→Code
 |k+1,.seq _ b=>agq k b
 |0,c=>c
 |k+1,c=>.seq .skip c
theorem abN{N:Nat}{Q:Exit→St→Prop}:∀(k:Nat) (c:Code) (σ:St),(∀j,j<k→∃a b,agq j c=.seq a b)→WF P N (aG5 k c) (aa7 (AW P N (agq k c) Q) Q) σ→AW P N c Q σ
 |0,c,σ,_,h=>by
  cases c<;>exact h
 |k+1,.seq x y,σ,hh,h=>by
  have h:WF P N x (aa7 (WF P N (aG5 k y) (aa7 (AW P N (agq k y) Q) Q)) (aa7 (AW P N (agq k y) Q) Q)) σ:=h
  refine AW.seq ((WF.sound x h).mono fun e σ' h'=>?_)
  cases e with
  |normal=>exact abN k y σ' (fun j hj=>hh (j+1) (by omega)) h'
  |_=>exact h'
 |k+1,.skip,σ,hh,h=>by obtain⟨a,b,e⟩:=hh 0 (by omega);cases e
 |k+1,.region _ _ _,σ,hh,h=>by obtain⟨a,b,e⟩:=hh 0 (by omega);cases e
 |k+1,.cond _ _ _,σ,hh,h=>by obtain⟨a,b,e⟩:=hh 0 (by omega);cases e
 |k+1,.block _ _,σ,hh,h=>by obtain⟨a,b,e⟩:=hh 0 (by omega);cases e
 |k+1,.loop _,σ,hh,h=>by obtain⟨a,b,e⟩:=hh 0 (by omega);cases e
 |k+1,.exit _,σ,hh,h=>by obtain⟨a,b,e⟩:=hh 0 (by omega);cases e
 |k+1,.ret,σ,hh,h=>by obtain⟨a,b,e⟩:=hh 0 (by omega);cases e
 |k+1,.rangeFunc _ _ _ _,σ,hh,h=>by obtain⟨a,b,e⟩:=hh 0 (by omega);cases e
 |k+1,.scope _,σ,hh,h=>by obtain⟨a,b,e⟩:=hh 0 (by omega);cases e
 |k+1,.label _,σ,hh,h=>by obtain⟨a,b,e⟩:=hh 0 (by omega);cases e
 |k+1,.goto _,σ,hh,h=>by obtain⟨a,b,e⟩:=hh 0 (by omega);cases e
 |k+1,.refuse _,σ,hh,h=>by obtain⟨a,b,e⟩:=hh 0 (by omega);cases e
def auh:Nat→Code→Bool
 |0,_=>true
 |k+1,.seq _ b=>auh k b
 |_+1,_=>false
theorem YG:∀(k:Nat) (c:Code),auh k c=true→∀j,j<k→∃a b,agq j c=.seq a b
 |k+1,.seq x y,h,0,_=>⟨x,y,rfl⟩
 |k+1,.seq x y,h,j+1,hj=>YG k y h j (by omega)
theorem AW.front{N:Nat}{Q:Exit→St→Prop}{e:Nat→AV}{h:Nat→Ob}{c:Code}(k:Nat){pre suf:Code}(hq:auh k c=true)(hp:aG5 k c=pre)(hs:agq k c=suf)(hw:@W P N ⟨pre⟩ ⟨fun x σ=>@yR ⟨AW P N suf Q⟩ ⟨Q⟩ x σ⟩ e h):AW P N c Q ⟨e,h⟩:=by
 subst hp hs
 exact abN k c ⟨e,h⟩ (YG k c hq) hw
theorem AW.front1{N:Nat}{Q:Exit→St→Prop}{e:Nat→AV}{h:Nat→Ob}{x0 y:Code}(hw:@W P N ⟨.seq x0 (.skip)⟩ ⟨fun x σ=>@yR ⟨AW P N y Q⟩ ⟨Q⟩ x σ⟩ e h):AW P N (.seq x0 (y)) Q ⟨e,h⟩:=AW.front 1 rfl rfl rfl hw
theorem AW.front2{N:Nat}{Q:Exit→St→Prop}{e:Nat→AV}{h:Nat→Ob}{x0 x1 y:Code}(hw:@W P N ⟨.seq x0 (.seq x1 (.skip))⟩ ⟨fun x σ=>@yR ⟨AW P N y Q⟩ ⟨Q⟩ x σ⟩ e h):AW P N (.seq x0 (.seq x1 (y))) Q ⟨e,h⟩:=AW.front 2 rfl rfl rfl hw
theorem AW.front10{N:Nat}{Q:Exit→St→Prop}{e:Nat→AV}{h:Nat→Ob}{x0 x1 x2 x3 x4 x5 x6 x7 x8 x9 y:Code}(hw:@W P N ⟨.seq x0 (.seq x1 (.seq x2 (.seq x3 (.seq x4 (.seq x5 (.seq x6 (.seq x7 (.seq x8 (.seq x9 (.skip))))))))))⟩ ⟨fun x σ=>@yR ⟨AW P N y Q⟩ ⟨Q⟩ x σ⟩ e h):AW P N (.seq x0 (.seq x1 (.seq x2 (.seq x3 (.seq x4 (.seq x5 (.seq x6 (.seq x7 (.seq x8 (.seq x9 (y))))))))))) Q ⟨e,h⟩:=AW.front 10 rfl rfl rfl hw
end
end Go.Ab
namespace Go.Ab
open Go Go.Proofs
theorem XP(k:Nat):Con Tryz.prog 223 true [.sl 0 [],.v (.int .i64 k)] [] (isA (.v (.int .i64 k))):=by
 refine Con.of_w (rs:=[.tmp 4]) Tryz.func223 rfl Tryz.ntmps223 rfl ?_
 simp(disch:=omega)only[go_sem]
 refine qi (fun _:Nat=>[(0,.sl 0 []),(1,.v (.int .i64 k)),(5,.v (.int .i64 0))]) (fun _=>[]) (fun _=>True) (fun _=>0) 0 trivial (Le.lst [] _ _ rfl (by simp(disch:=omega)only[go_sem]) (by simp(disch:=omega)only[go_sem])) ?_
 intro _ _
 simp(disch:=omega)only[go_sem]
 exact qu
theorem ab9(k:Nat):Con Tryz.prog 224 true [.ag [.sl 0 []],.v (.int .i64 k)] [] (isA (.v (.int .i64 k))):=by
 refine Con.of_w (rs:=[.tmp 4]) Tryz.func224 rfl Tryz.ntmps224 rfl ?_
 simp(disch:=omega)only[go_sem]
 refine qj (XP k) ?_
 simp(disch:=omega)only[go_sem]
 exact qu
theorem Yp(s:Bool)(k:Nat):Con Tryz.prog 135 true [.ag [.v (.bool s),.sl 0 []],.v (.int .i64 k)] [] (isA (.v (.int .i64 k))):=by
 refine Con.of_w (rs:=[.tmp 4]) Tryz.func135 rfl Tryz.ntmps135 rfl ?_
 simp(disch:=omega)only[go_sem]
 refine qj (ab9 k) ?_
 simp(disch:=omega)only[go_sem]
 exact qu
theorem yH(s:Bool)(e:Int)(k:Nat):Con Tryz.prog 50 true [.ag [.v (.bool s),.sl 0 [],.v (.int .i64 e)],.v (.int .i64 k)] [] (isA (.v (.int .i64 k))):=by
 refine Con.of_w (rs:=[.tmp 4]) Tryz.func50 rfl Tryz.ntmps50 rfl ?_
 simp(disch:=omega)only[go_sem]
 refine qj (Yp s k) ?_
 simp(disch:=omega)only[go_sem]
 exact qu
theorem agQ(k n:Nat)(hn:n≤2^40)(hk:k≤2^40):Con Tryz.prog 226 true [.ag [.sl n (qb (mkI k n))],.v (.int .i64 k)] [] (isA (.v (.int .i64 ((k+n:Nat):Int)))):=by
 have q:decide (((k+n:Nat):Int)<0)=false:=decide_eq_false (by omega)
 refine Con.of_w (rs:=[.tmp 4]) Tryz.func226 rfl Tryz.ntmps226 rfl ?_
 simp(disch:=omega)only[go_sem]
 refine qj (acq k n hn hk) ?_
 simp(disch:=omega)only[go_sem]
 simp(disch:=omega)only[go_sem,q]
 exact qu
theorem XT(s:Bool)(k n:Nat)(hn:n≤2^40)(hk:k≤2^40):Con Tryz.prog 137 true [.ag [.v (.bool s),.sl n (qb (mkI k n))],.v (.int .i64 k)] [] (isA (.v (.int .i64 ((k+n:Nat):Int)))):=by
 have q:decide (((k+n:Nat):Int)<0)=false:=decide_eq_false (by omega)
 refine Con.of_w (rs:=[.tmp 4]) Tryz.func137 rfl Tryz.ntmps137 rfl ?_
 simp(disch:=omega)only[go_sem]
 refine qj (agQ k n hn hk) ?_
 simp(disch:=omega)only[go_sem]
 simp(disch:=omega)only[go_sem,q]
 exact qu
theorem Y0(s:Bool)(e:Int)(k n:Nat)(hn:n≤2^40)(hk:k≤2^40):Con Tryz.prog 52 true [.ag [.v (.bool s),.sl n (qb (mkI k n)),.v (.int .i64 e)],.v (.int .i64 k)] [] (isA (.v (.int .i64 ((k+n:Nat):Int)))):=by
 have q:decide (((k+n:Nat):Int)<0)=false:=decide_eq_false (by omega)
 refine Con.of_w (rs:=[.tmp 4]) Tryz.func52 rfl Tryz.ntmps52 rfl ?_
 simp(disch:=omega)only[go_sem]
 refine qj (XT s k n hn hk) ?_
 simp(disch:=omega)only[go_sem]
 simp(disch:=omega)only[go_sem,q]
 exact qu
theorem Qo(s s':Bool)(e e':Int)(k n n':Nat)(hn:n≤2^39)(hn':n'≤2^39)(hk:k≤2^39):Con Tryz.prog 59 true [.ag [.v (.bool s),.sl n (qb (mkI k n)),.v (.int .i64 e),.v (.bool s'),.sl n' (qb (mkI (k+n) n')),.v (.int .i64 e')],.v (.int .i64 k)] [] (isA (.v (.int .i64 ((k+n+n':Nat):Int)))):=by
 have q:decide (((k+n:Nat):Int)<0)=false:=decide_eq_false (by omega)
 have q':decide (((k+n+n':Nat):Int)<0)=false:=decide_eq_false (by omega)
 have c1:=Y0 s e k n (by omega) (by omega)
 have c2:=Y0 s' e' (k+n) n' (by omega) (by omega)
 generalize k+n+n'=m2 at*
 generalize k+n=m1 at*
 refine Con.of_w (rs:=[.tmp 4]) Tryz.func59 rfl Tryz.ntmps59 rfl ?_
 simp(disch:=omega)only[go_sem]
 refine qj (c1) ?_
 simp(disch:=omega)only[go_sem]
 simp(disch:=omega)only[go_sem,q]
 refine qj (c2) ?_
 simp(disch:=omega)only[go_sem]
 simp(disch:=omega)only[go_sem,q']
 exact qu
theorem Zc(s s':Bool)(xs xs':List Int)(e e':Int)(hl:xs.length≤2^60)(hl':xs'.length≤2^60):Con Tryz.prog 57 true [.ag [.v (.bool s),.sl xs.length (qb xs),.v (.int .i64 e),.v (.bool s'),.sl xs'.length (qb xs'),.v (.int .i64 e')],.ag [.v (.bool s),.sl xs.length (qb xs),.v (.int .i64 e),.v (.bool s'),.sl xs'.length (qb xs'),.v (.int .i64 e')]] [] (isA (.v (.bool true))):=by
 refine Con.of_w (rs:=[.tmp 4]) Tryz.func57 rfl Tryz.ntmps57 rfl ?_
 simp(disch:=omega)only[go_sem]
 refine qj (Qq s xs e hl) ?_
 simp(disch:=omega)only[go_sem]
 refine qj (Qq s' xs' e' hl') ?_
 simp(disch:=omega)only[go_sem]
 exact qu
theorem ace(s s':Bool)(e e':Int)(k:Nat):Con Tryz.prog 58 true [.ag [.v (.bool s),.sl 0 [],.v (.int .i64 e),.v (.bool s'),.sl 0 [],.v (.int .i64 e')],.v (.int .i64 k)] [] (isA (.v (.int .i64 k))):=by
 refine Con.of_w (rs:=[.tmp 4]) Tryz.func58 rfl Tryz.ntmps58 rfl ?_
 simp(disch:=omega)only[go_sem]
 refine qj (yH s e k) ?_
 simp(disch:=omega)only[go_sem]
 refine qj (yH s' e' k) ?_
 simp(disch:=omega)only[go_sem]
 exact qu
theorem acd(s s':Bool)(e e':Int)(k:Nat)(ys:List Int)(hn:ys.length≤2^39)(hk:k≤2^39):Con Tryz.prog 58 false [.ag [.v (.bool s),.sl 0 [],.v (.int .i64 e),.v (.bool s'),.rf 10000000 0 ys.length,.v (.int .i64 e')],.v (.int .i64 k)] [.own 1 (qb ys)]
  (fun r hs bs=>r=.v (.int .i64 ((k+ys.length:Nat):Int))∧hs=[]∧bs=[.own 1 (qb (mkI k ys.length))]):=by
 refine Con.of_aw Tryz.func58 rfl Tryz.ntmps58 (by simp) (by simp) (by simp) (AW.front2 ?_)
 show @W Tryz.prog 14 ⟨_⟩ ⟨fun x σ=>@yR ⟨_⟩ ⟨_⟩ x σ⟩ _ _
 simp(disch:=omega)only[go_sem]
 refine qj (yH s e k) ?_
 simp(disch:=omega)only[go_sem]
 refine AW.regCall (E:=[(10,.ag [.v (.bool s'),.rf 10000000 0 ys.length,.v (.int .i64 e')]),(11,.v (.int .i64 k))]) (H:=[(10000000,.own 1 (qb ys))]) 3 (by simp only[List.take_succ_cons,List.take_zero];rfl) (by simp only[List.drop_succ_cons,List.drop_zero];rfl) ?_
  (by decide) rfl rfl (by simp(disch:=omega)only[go_sem]) (by rfl) false [10000000] (yl s' e' k ys (by omega) (by omega)) (by simp(disch:=omega)only[go_sem]) (by simp(disch:=omega)only[go_sem]) rfl (qJ (z:=1) (cs:=qb ys) (by simp(disch:=omega)only[go_sem]) (by simp(disch:=omega)only[go_sem])) ?_
 ·simp(disch:=omega)only[go_sem]
  exact Le.lst [] _ _ rfl (by simp(disch:=omega)only[go_sem]) (by simp(disch:=omega)only[go_sem])
 rintro r hs bs ⟨rfl,rfl,rfl⟩-
 refine⟨by simp[qC],?_⟩
 show @Ch Tryz.prog 14 ⟨_⟩ ⟨_⟩ ⟨fun σ=>@W Tryz.prog 14 ⟨_⟩ ⟨fun x σ=>@q9 _ _ _ ⟨_⟩ _ ⟨_⟩ x σ⟩ σ.env σ.hp⟩ _ _
 simp(disch:=omega)only[go_sem]
 refine qh [] [] [.own 1 (qb (mkI k ys.length))] [.v (.int .i64 ((k+ys.length:Nat):Int))] rfl (by simp(disch:=omega)only[go_sem]) (by simp(disch:=omega)only[go_sem]) (by simp) (by simp) ⟨rfl,rfl,rfl⟩
theorem acb(s s':Bool)(e e':Int)(k:Nat)(xs:List Int)(hn:xs.length≤2^39)(hk:k≤2^39):Con Tryz.prog 58 false [.ag [.v (.bool s),.rf 10000000 0 xs.length,.v (.int .i64 e),.v (.bool s'),.sl 0 [],.v (.int .i64 e')],.v (.int .i64 k)] [.own 1 (qb xs)]
  (fun r hs bs=>r=.v (.int .i64 ((k+xs.length:Nat):Int))∧hs=[]∧bs=[.own 1 (qb (mkI k xs.length))]):=by
 have c0:=yH s' e' (k+xs.length)
 refine Con.of_aw Tryz.func58 rfl Tryz.ntmps58 (by simp) (by simp) (by simp) (AW.front1 ?_)
 show @W Tryz.prog 14 ⟨_⟩ ⟨fun x σ=>@yR ⟨_⟩ ⟨_⟩ x σ⟩ _ _
 simp(disch:=omega)only[go_sem]
 refine AW.regCall (E:=[(2,.pt 40000000 0),(6,.ag [.v (.bool s),.rf 10000000 0 xs.length,.v (.int .i64 e)]),(7,.v (.int .i64 k))]) (H:=[(40000000,.own 0 [.v (.bool s),.rf 10000000 0 xs.length,.v (.int .i64 e),.v (.bool s'),.sl 0 [],.v (.int .i64 e')]),(10000000,.own 1 (qb xs))]) 3 (by simp only[List.take_succ_cons,List.take_zero];rfl) (by simp only[List.drop_succ_cons,List.drop_zero];rfl) ?_
  (by decide) rfl rfl (by simp(disch:=omega)only[go_sem]) (by rfl) false [10000000] (yl s e k xs (by omega) (by omega)) (by simp(disch:=omega)only[go_sem]) (by simp(disch:=omega)only[go_sem]) rfl (qJ (z:=1) (cs:=qb xs) (by simp(disch:=omega)only[go_sem]) (by simp(disch:=omega)only[go_sem])) ?_
 ·simp(disch:=omega)only[go_sem]
  exact Le.lst [] _ _ rfl (by simp(disch:=omega)only[go_sem]) (by simp(disch:=omega)only[go_sem])
 rintro r hs bs ⟨rfl,rfl,rfl⟩-
 refine⟨by simp[qC],?_⟩
 show @Ch Tryz.prog 14 ⟨_⟩ ⟨_⟩ ⟨fun σ=>@W Tryz.prog 14 ⟨_⟩ ⟨fun x σ=>@q9 _ _ _ ⟨_⟩ _ ⟨_⟩ x σ⟩ σ.env σ.hp⟩ _ _
 simp(disch:=omega)only[go_sem]
 refine qj (c0) ?_
 simp(disch:=omega)only[go_sem]
 refine qh [] [] [.own 1 (qb (mkI k xs.length))] [.v (.int .i64 ((k+xs.length:Nat):Int))] rfl (by simp(disch:=omega)only[go_sem]) (by simp(disch:=omega)only[go_sem]) (by simp) (by simp) ⟨rfl,rfl,rfl⟩
theorem aca(s s':Bool)(e e':Int)(k:Nat)(xs ys:List Int)(hn:xs.length≤2^39)(hm:ys.length≤2^39)(hk:k≤2^39):Con Tryz.prog 58 false [.ag [.v (.bool s),.rf 10000000 0 xs.length,.v (.int .i64 e),.v (.bool s'),.rf 10000001 0 ys.length,.v (.int .i64 e')],.v (.int .i64 k)] [.own 1 (qb xs),.own 1 (qb ys)]
  (fun r hs bs=>r=.v (.int .i64 ((k+xs.length+ys.length:Nat):Int))∧hs=[]∧bs=[.own 1 (qb (mkI k xs.length)),.own 1 (qb (mkI (k+xs.length) ys.length))]):=by
 refine Con.of_aw Tryz.func58 rfl Tryz.ntmps58 (by simp) (by simp) (by simp) (AW.front1 ?_)
 show @W Tryz.prog 14 ⟨_⟩ ⟨fun x σ=>@yR ⟨_⟩ ⟨_⟩ x σ⟩ _ _
 simp(disch:=omega)only[go_sem]
 refine AW.regCallF (E:=[(2,.pt 40000000 0),(6,.ag [.v (.bool s),.rf 10000000 0 xs.length,.v (.int .i64 e)]),(7,.v (.int .i64 k))]) (H:=[(40000000,.own 0 [.v (.bool s),.rf 10000000 0 xs.length,.v (.int .i64 e),.v (.bool s'),.rf 10000001 0 ys.length,.v (.int .i64 e')]),(10000000,.own 1 (qb xs)),(10000001,.own 1 (qb ys))]) 3 (by simp only[List.take_succ_cons,List.take_zero];rfl) (by simp only[List.drop_succ_cons,List.drop_zero];rfl) ?_
  (by decide) rfl rfl (by simp(disch:=omega)only[go_sem]) (by rfl) false [10000000] (yl s e k xs (by omega) (by omega)) (by simp(disch:=omega)only[go_sem]) (by simp(disch:=omega)only[go_sem]) rfl (qJ (z:=1) (cs:=qb xs) (by simp(disch:=omega)only[go_sem]) (by simp(disch:=omega)only[go_sem])) ?_
 ·simp(disch:=omega)only[go_sem]
  exact Le.lst [] _ _ rfl (by simp(disch:=omega)only[go_sem]) (by simp(disch:=omega)only[go_sem])
 rintro r hs bs ⟨rfl,rfl,rfl⟩-
 refine⟨by simp[qC],?_⟩
 show @Ch Tryz.prog 14 ⟨_⟩ ⟨_⟩ ⟨_⟩ _ _
 simp(disch:=omega)only[go_sem]
 refine AW.regCall (E:=[(10,.ag [.v (.bool s'),.rf 10000001 0 ys.length,.v (.int .i64 e')]),(11,.v (.int .i64 ((k+xs.length:Nat):Int)))]) (H:=[(10000000,.own 1 (qb (mkI k xs.length))),(10000001,.own 1 (qb ys))]) 3 (by simp only[List.take_succ_cons,List.take_zero];rfl) (by simp only[List.drop_succ_cons,List.drop_zero];rfl) ?_
  (by decide) rfl rfl (by simp(disch:=omega)only[go_sem]) (by rfl) false [10000001] (yl s' e' (k+xs.length) ys (by omega) (by omega)) (by simp(disch:=omega)only[go_sem]) (by simp(disch:=omega)only[go_sem]) rfl (qJ (z:=1) (cs:=qb ys) (by simp(disch:=omega)only[go_sem]) (by simp(disch:=omega)only[go_sem])) ?_
 ·simp(disch:=omega)only[go_sem]
  exact Le.lst [] _ _ rfl (by simp(disch:=omega)only[go_sem]) (by simp(disch:=omega)only[go_sem])
 rintro r hs bs ⟨rfl,rfl,rfl⟩-
 refine⟨by simp[qC],?_⟩
 show @Ch Tryz.prog 14 ⟨_⟩ ⟨_⟩ ⟨fun σ=>@W Tryz.prog 14 ⟨_⟩ ⟨fun x σ=>@q9 _ _ _ ⟨_⟩ _ ⟨_⟩ x σ⟩ σ.env σ.hp⟩ _ _
 simp(disch:=omega)only[go_sem]
 refine qh [] [] [.own 1 (qb (mkI k xs.length)),.own 1 (qb (mkI (k+xs.length) ys.length))] [.v (.int .i64 ((k+xs.length+ys.length:Nat):Int))] rfl (by simp(disch:=omega)only[go_sem]) (by simp(disch:=omega)only[go_sem]) (by simp) (by simp) ⟨rfl,rfl,rfl⟩
end Go.Ab
namespace Go.Ab
open Go Go.Proofs
def bc1(ok:Bool)(u v:ExV):AV→List Ob→List Ob→Prop:=fun r hs bs=>(lim u.m=[]∧lim v.m=[]∧r=.tu [.ag [.v (.bool u.s),.v (.slice none 0 0),.v (.int .i64 u.e),.v (.bool v.s),.v (.slice none 0 0),.v (.int .i64 v.e)],.v (.bool ok)]∧hs=[])∨(lim u.m=[]∧r=.tu [.ag [.v (.bool u.s),.v (.slice none 0 0),.v (.int .i64 u.e),.v (.bool v.s),.rf 0 0 (lim v.m).length,.v (.int .i64 v.e)],.v (.bool ok)]∧hs=[.own 1 (qb (lim v.m))])∨(lim v.m=[]∧r=.tu [.ag [.v (.bool u.s),.rf 0 0 (lim u.m).length,.v (.int .i64 u.e),.v (.bool v.s),.v (.slice none 0 0),.v (.int .i64 v.e)],.v (.bool ok)]∧hs=[.own 1 (qb (lim u.m))])∨(r=.tu [.ag [.v (.bool u.s),.rf 0 0 (lim u.m).length,.v (.int .i64 u.e),.v (.bool v.s),.rf 1 0 (lim v.m).length,.v (.int .i64 v.e)],.v (.bool ok)]∧hs=[.own 1 (qb (lim u.m)),.own 1 (qb (lim v.m))])
theorem blO{u v:ExV}:ivO u v=bc1 true u v:=rfl
theorem aHP{ok:Bool}{u v:ExV}{r:AV}{hs:List Ob}(h:bc1 ok u v r hs []):aXN (.tu [.ag [.v (.bool (SpV.mk u v).lo.s),.sl (lim (SpV.mk u v).lo.m).length (qb (lim (SpV.mk u v).lo.m)),.v (.int .i64 (SpV.mk u v).lo.e),.v (.bool (SpV.mk u v).hi.s),.sl (lim (SpV.mk u v).hi.m).length (qb (lim (SpV.mk u v).hi.m)),.v (.int .i64 (SpV.mk u v).hi.e)],.v (.bool ok)]) r hs []:=by
 show qM _ 6 _=_
 rcases h with⟨g1,g2,rfl,rfl⟩|⟨g1,rfl,rfl⟩|⟨g2,rfl,rfl⟩|⟨rfl,rfl⟩
 ·dsimp only
  rw[g1,g2]
  rfl
 ·dsimp only
  rw[g1]
  have h0:rhp [.own 1 (qb (lim v.m))] [] 0=.own 1 (qb (lim v.m++[])):=by rw[List.append_nil];rfl
  simp only[Ju,QE,List.map_cons,List.map_nil,zX (k:=2) h0 rfl]
  rfl
 ·dsimp only
  rw[g2]
  have h0:rhp [.own 1 (qb (lim u.m))] [] 0=.own 1 (qb (lim u.m++[])):=by rw[List.append_nil];rfl
  simp only[Ju,QE,List.map_cons,List.map_nil,zX (k:=2) h0 rfl]
  rfl
 ·have h0:rhp [.own 1 (qb (lim u.m)),.own 1 (qb (lim v.m))] [] 0=.own 1 (qb (lim u.m++[])):=by rw[List.append_nil];rfl
  have h1:rhp [.own 1 (qb (lim u.m)),.own 1 (qb (lim v.m))] [] 1=.own 1 (qb (lim v.m++[])):=by rw[List.append_nil];rfl
  simp only[Ju,QE,List.map_cons,List.map_nil,zX (k:=2) h0 rfl,zX (k:=2) h1 rfl]
  rfl
set_option maxRecDepth 100000 in
theorem af8(s:Bool)(xs:List Int)(e low:Int)(hl:xs.length≤1048576)(u v:ExV)(ok:Bool)(hu:(lim u.m).length≤2^38)(hv:(lim v.m).length≤2^38)
  (cs:Con Tryz.prog 54 false [.ag [.v (.bool s),.sl xs.length (qb xs),.v (.int .i64 e)],.v (.int .i64 low)] [] (isA (.tu [.ag [.v (.bool (SpV.mk u v).lo.s),.sl (lim (SpV.mk u v).lo.m).length (qb (lim (SpV.mk u v).lo.m)),.v (.int .i64 (SpV.mk u v).lo.e),.v (.bool (SpV.mk u v).hi.s),.sl (lim (SpV.mk u v).hi.m).length (qb (lim (SpV.mk u v).hi.m)),.v (.int .i64 (SpV.mk u v).hi.e)],.v (.bool ok)])))
  (ci:Con Tryz.prog 56 true [.ag [.v (.bool s),.sl xs.length (qb xs),.v (.int .i64 e)],.v (.int .i64 low)] [] (bc1 ok u v)):Con Tryz.prog 9 true [.ag [.v (.bool s),.sl xs.length (qb xs),.v (.int .i64 e)],.v (.int .i64 low)] [] (isA (.v (.bool true))):=by
 have ciF:Con Tryz.prog 56 true [.ag [.v (.bool s),.sl xs.length (qb xs),.v (.int .i64 e)],.v (.int .i64 low)] [] (isA (.tu [.ag [.v (.bool (SpV.mk u v).lo.s),.sl (lim (SpV.mk u v).lo.m).length (qb (lim (SpV.mk u v).lo.m)),.v (.int .i64 (SpV.mk u v).lo.e),.v (.bool (SpV.mk u v).hi.s),.sl (lim (SpV.mk u v).hi.m).length (qb (lim (SpV.mk u v).hi.m)),.v (.int .i64 (SpV.mk u v).hi.e)],.v (.bool ok)])):=
  Con.frzAC (ci.len.mono fun r hs bs ⟨h,hb⟩=>by subst hb;exact aHP h)
 have qok:(ok != ok)=false:=by cases ok<;>rfl
 have cz:=ah6 s xs e 1048576 (by omega) (by omega)
 have hz:szL 1048576 xs.length=1048576-(xs.length:Int):=by unfold szL;rw[if_neg (by omega)]
 rw[hz]at cz
 obtain⟨Z,hZ⟩:∃Z:Int,1048576-(xs.length:Int)=Z:=⟨_,rfl⟩
 have hZ0:decide (Z<0)=false:=decide_eq_false (by omega)
 rw[hZ]at cz
 have cx:=yl s e 1 xs (by omega) (by omega)
 change Con _ _ _ [.ag [.v (.bool s),.rf 10000000 0 xs.length,.v (.int .i64 e)],.v (.int .i64 1)] _ _ at cx
 obtain⟨X,hX⟩:∃X:Int,((1+xs.length:Nat):Int)=X:=⟨_,rfl⟩
 have hX0:decide (X<0)=false:=decide_eq_false (by omega)
 rw[hX]at cx
 dsimp only at cs ciF
 refine Con.of_aw Tryz.func9 rfl Tryz.ntmps9 (by simp) (by simp) (by simp) (AW.front10 ?_)
 show @W Tryz.prog 101 ⟨_⟩ ⟨fun x σ=>@yR ⟨_⟩ ⟨_⟩ x σ⟩ _ _
 simp(disch:=omega)only[go_sem]
 refine qj (cz) ?_
 simp(disch:=omega)only[go_sem]
 simp(disch:=omega)only[go_sem,hZ0]
 refine qa (jF s xs e (by omega)) ?_
 simp(disch:=omega)only[go_sem]
 refine qa (cs) ?_
 simp(disch:=omega)only[go_sem]
 refine qE (au6 s xs e (by omega)) (by simp(disch:=omega)only[go_sem]) ?_
 rintro r hs ⟨rfl,rfl⟩
 refine⟨by simp[qC];try simp(disch:=omega)only[go_sem],?_⟩
 simp(disch:=omega)only[go_sem]
 refine qB ci (by simp(disch:=omega)only[go_sem]) ?_
 rintro r hs (⟨g1,g2,rfl,rfl⟩|⟨g1,rfl,rfl⟩|⟨g2,rfl,rfl⟩|⟨rfl,rfl⟩)
 ·have ceq:=Zc u.s v.s (lim u.m) (lim v.m) u.e v.e (by omega) (by omega)
  have en:qb []=[]:=rfl
  rw[g1,g2]at ceq ciF
  simp only[List.length_nil,en]at ceq ciF
  rw[g1,g2]
  simp only[List.length_nil,en]
  have ch:=Qo u.s v.s u.e v.e 1 (0) (0) (by omega) (by omega) (by omega)
  change Con _ _ _ [.ag [.v (.bool u.s),.sl 0 [],.v (.int .i64 u.e),.v (.bool v.s),.sl 0 [],.v (.int .i64 v.e)],.v (.int .i64 1)] _ (isA (.v (.int .i64 ((1:Nat):Int))))at ch
  have cm:=ace u.s v.s u.e v.e 1
  change Con _ _ _ [.ag [.v (.bool u.s),.sl 0 [],.v (.int .i64 u.e),.v (.bool v.s),.sl 0 [],.v (.int .i64 v.e)],.v (.int .i64 1)] _ _ at cm
  change Con _ _ _ _ _ (isA (.v (.int .i64 1)))at cm ch
  refine⟨by simp[qC];try simp(disch:=omega)only[go_sem],?_⟩
  simp(disch:=omega)only[go_sem]
  refine qj (ceq) ?_
  simp(disch:=omega)only[go_sem]
  simp(disch:=omega)only[go_sem,qok]
  refine qo rfl [⟨0,[],[]⟩,⟨1,[0],[]⟩,⟨2,[0],[]⟩,⟨3,[],[]⟩,⟨4,[],[]⟩] (by kernel_rfl) ?_
  simp(disch:=omega)only[go_sem]
  refine qa (jF s xs e (by omega)) ?_
  simp(disch:=omega)only[go_sem]
  refine qj (Qq s xs e (by omega)) ?_
  simp(disch:=omega)only[go_sem]
  refine AW.regCall (E:=[(1,.v (.int .i64 low)),(2,.pt 40000000 0),(4,.v (.bool false)),(6,.pt 80000000 0),(7,.v (.bool ok)),(9,.pt 110000000 0),(10,.v (.bool ok)),(50,.ag [.v (.bool s),.rf 310000000 0 xs.length,.v (.int .i64 e)]),(51,.v (.int .i64 1))]) (H:=[(40000000,.own 0 [.v (.bool s),.sl xs.length (qb xs),.v (.int .i64 e)]),(80000000,.own 0 [.v (.bool u.s),.sl 0 [],.v (.int .i64 u.e),.v (.bool v.s),.sl 0 [],.v (.int .i64 v.e)]),(110000000,.own 0 [.v (.bool u.s),.v (.slice none 0 0),.v (.int .i64 u.e),.v (.bool v.s),.v (.slice none 0 0),.v (.int .i64 v.e)]),(310000000,.own 1 (qb xs))]) 2 (by simp only[List.take_succ_cons,List.take_zero];rfl) (by simp only[List.drop_succ_cons,List.drop_zero];rfl) ?_
   (by decide) rfl rfl (by simp(disch:=omega)only[go_sem]) (by rfl) false [310000000] cx (by simp(disch:=omega)only[go_sem]) (by simp(disch:=omega)only[go_sem]) rfl (qJ (z:=1) (cs:=qb xs) (by simp(disch:=omega)only[go_sem]) (by simp(disch:=omega)only[go_sem])) ?_
  ·simp(disch:=omega)only[go_sem]
   exact Le.lst [] _ _ rfl (by simp(disch:=omega)only[go_sem]) (by simp(disch:=omega)only[go_sem])
  rintro r hs bs ⟨rfl,rfl,rfl⟩-
  refine⟨by simp[qC],?_⟩
  show @Ch Tryz.prog 101 ⟨_⟩ ⟨_⟩ ⟨fun σ=>@W Tryz.prog 101 ⟨_⟩ ⟨fun x σ=>@q9 _ _ _ ⟨_⟩ _ ⟨_⟩ x σ⟩ σ.env σ.hp⟩ _ _
  simp(disch:=omega)only[go_sem]
  simp(disch:=omega)only[go_sem,hX0]
  refine qj (ceq) ?_
  simp(disch:=omega)only[go_sem]
  simp(disch:=omega)only[go_sem,qok]
  refine qj (cm) ?_
  simp(disch:=omega)only[go_sem]
  refine qj (ch) ?_
  simp(disch:=omega)only[go_sem]
  refine qa (jF s xs e (by omega)) ?_
  simp(disch:=omega)only[go_sem]
  refine qj (ciF) ?_
  simp(disch:=omega)only[go_sem]
  refine qj (ceq) ?_
  simp(disch:=omega)only[go_sem]
  simp(disch:=omega)only[go_sem,qok]
  refine qj (ch) ?_
  simp(disch:=omega)only[go_sem]
  exact qu
 ·have ceq:=Zc u.s v.s (lim u.m) (lim v.m) u.e v.e (by omega) (by omega)
  have en:qb []=[]:=rfl
  rw[g1]at ceq ciF
  simp only[List.length_nil,en]at ceq ciF
  rw[g1]
  simp only[List.length_nil,en]
  have ch:=Qo u.s v.s u.e v.e 1 (0) ((lim v.m).length) (by omega) (by omega) (by omega)
  change Con _ _ _ [.ag [.v (.bool u.s),.sl 0 [],.v (.int .i64 u.e),.v (.bool v.s),.sl (lim v.m).length (qb (mkI 1 (lim v.m).length)),.v (.int .i64 v.e)],.v (.int .i64 1)] _ (isA (.v (.int .i64 ((1+0+(lim v.m).length:Nat):Int))))at ch
  rw[Nat.add_zero]at ch
  have cm:=acd u.s v.s u.e v.e 1 (lim v.m) (by omega) (by omega)
  change Con _ _ _ [.ag [.v (.bool u.s),.sl 0 [],.v (.int .i64 u.e),.v (.bool v.s),.rf 10000000 0 (lim v.m).length,.v (.int .i64 v.e)],.v (.int .i64 1)] _ _ at cm
  obtain⟨M,hM⟩:∃M:Int,((1+(lim v.m).length:Nat):Int)=M:=⟨_,rfl⟩
  have hM0:decide (M<0)=false:=decide_eq_false (by omega)
  have hMM:decide (M=M)=true:=decide_eq_true rfl
  rw[hM]at ch cm
  have tkv:(mkI 1 (lim v.m).length).take (lim v.m).length=mkI 1 (lim v.m).length:=List.take_of_length_le (by rw[QF];exact Nat.le_refl _)
  refine⟨by simp[qC];try simp(disch:=omega)only[go_sem],?_⟩
  simp(disch:=omega)only[go_sem]
  refine qj (ceq) ?_
  simp(disch:=omega)only[go_sem]
  simp(disch:=omega)only[go_sem,qok]
  refine qo rfl [⟨0,[],[]⟩,⟨1,[0],[]⟩,⟨2,[0],[]⟩,⟨3,[],[]⟩,⟨4,[],[]⟩] (by kernel_rfl) ?_
  simp(disch:=omega)only[go_sem]
  refine qa (jF s xs e (by omega)) ?_
  simp(disch:=omega)only[go_sem]
  refine qj (Qq s xs e (by omega)) ?_
  simp(disch:=omega)only[go_sem]
  refine AW.regCallF (E:=[(1,.v (.int .i64 low)),(2,.pt 40000000 0),(4,.v (.bool false)),(6,.pt 80000000 0),(7,.v (.bool ok)),(9,.pt 110000000 0),(10,.v (.bool ok)),(50,.ag [.v (.bool s),.rf 310000000 0 xs.length,.v (.int .i64 e)]),(51,.v (.int .i64 1))]) (H:=[(40000000,.own 0 [.v (.bool s),.sl xs.length (qb xs),.v (.int .i64 e)]),(80000000,.own 0 [.v (.bool u.s),.sl 0 [],.v (.int .i64 u.e),.v (.bool v.s),.sl (lim v.m).length (qb (lim v.m)),.v (.int .i64 v.e)]),(110000000,.own 0 [.v (.bool u.s),.v (.slice none 0 0),.v (.int .i64 u.e),.v (.bool v.s),.rf 350000000 0 (lim v.m).length,.v (.int .i64 v.e)]),(310000000,.own 1 (qb xs)),(350000000,.own 1 (qb (lim v.m)))]) 2 (by simp only[List.take_succ_cons,List.take_zero];rfl) (by simp only[List.drop_succ_cons,List.drop_zero];rfl) ?_
   (by decide) rfl rfl (by simp(disch:=omega)only[go_sem]) (by rfl) false [310000000] cx (by simp(disch:=omega)only[go_sem]) (by simp(disch:=omega)only[go_sem]) rfl (qJ (z:=1) (cs:=qb xs) (by simp(disch:=omega)only[go_sem]) (by simp(disch:=omega)only[go_sem])) ?_
  ·simp(disch:=omega)only[go_sem]
   exact Le.lst [] _ _ rfl (by simp(disch:=omega)only[go_sem]) (by simp(disch:=omega)only[go_sem])
  rintro r hs bs ⟨rfl,rfl,rfl⟩-
  refine⟨by simp[qC],?_⟩
  show @Ch Tryz.prog 101 ⟨_⟩ ⟨_⟩ ⟨_⟩ _ _
  simp(disch:=omega)only[go_sem]
  refine AW.front2 ?_
  show @W Tryz.prog 101 ⟨_⟩ ⟨fun x σ=>@yR ⟨_⟩ ⟨_⟩ x σ⟩ _ _
  simp(disch:=omega)only[go_sem,hX0]
  refine qj (ceq) ?_
  simp(disch:=omega)only[go_sem]
  simp(disch:=omega)only[go_sem,qok]
  refine AW.regCall (E:=[(1,.v (.int .i64 low)),(2,.pt 40000000 0),(4,.v (.bool false)),(6,.pt 80000000 0),(7,.v (.bool ok)),(9,.pt 110000000 0),(10,.v (.bool ok)),(66,.ag [.v (.bool u.s),.v (.slice none 0 0),.v (.int .i64 u.e),.v (.bool v.s),.rf 350000000 0 (lim v.m).length,.v (.int .i64 v.e)]),(67,.v (.int .i64 1))]) (H:=[(40000000,.own 0 [.v (.bool s),.sl xs.length (qb xs),.v (.int .i64 e)]),(80000000,.own 0 [.v (.bool u.s),.sl 0 [],.v (.int .i64 u.e),.v (.bool v.s),.sl (lim v.m).length (qb (lim v.m)),.v (.int .i64 v.e)]),(110000000,.own 0 [.v (.bool u.s),.v (.slice none 0 0),.v (.int .i64 u.e),.v (.bool v.s),.rf 350000000 0 (lim v.m).length,.v (.int .i64 v.e)]),(350000000,.own 1 (qb (lim v.m)))]) 2 (by simp only[List.take_succ_cons,List.take_zero];rfl) (by simp only[List.drop_succ_cons,List.drop_zero];rfl) ?_
   (by decide) rfl rfl (by simp(disch:=omega)only[go_sem]) (by rfl) false [350000000] cm (by simp(disch:=omega)only[go_sem]) (by simp(disch:=omega)only[go_sem]) rfl (qJ (z:=1) (cs:=qb (lim v.m)) (by simp(disch:=omega)only[go_sem]) (by simp(disch:=omega)only[go_sem])) ?_
  ·simp(disch:=omega)only[go_sem]
   exact Le.lst [] _ _ rfl (by simp(disch:=omega)only[go_sem]) (by simp(disch:=omega)only[go_sem])
  rintro r hs bs ⟨rfl,rfl,rfl⟩-
  refine⟨by simp[qC],?_⟩
  show @Ch Tryz.prog 101 ⟨_⟩ ⟨_⟩ ⟨fun σ=>@W Tryz.prog 101 ⟨_⟩ ⟨fun x σ=>@q9 _ _ _ ⟨_⟩ _ ⟨_⟩ x σ⟩ σ.env σ.hp⟩ _ _
  simp(disch:=omega)only[go_sem]
  refine qj (ch) ?_ (by simp(disch:=omega)only[go_sem,tkv])
  simp(disch:=omega)only[go_sem]
  simp(disch:=omega)only[go_sem,hM0,hMM]
  refine qa (jF s xs e (by omega)) ?_
  simp(disch:=omega)only[go_sem]
  refine qj (ciF) ?_
  simp(disch:=omega)only[go_sem]
  refine qj (ceq) ?_
  simp(disch:=omega)only[go_sem]
  simp(disch:=omega)only[go_sem,qok]
  refine qj (ch) ?_ (by simp(disch:=omega)only[go_sem,tkv])
  simp(disch:=omega)only[go_sem]
  simp(disch:=omega)only[go_sem,hM0,hMM]
  exact qu
 ·have ceq:=Zc u.s v.s (lim u.m) (lim v.m) u.e v.e (by omega) (by omega)
  have en:qb []=[]:=rfl
  rw[g2]at ceq ciF
  simp only[List.length_nil,en]at ceq ciF
  rw[g2]
  simp only[List.length_nil,en]
  have ch:=Qo u.s v.s u.e v.e 1 ((lim u.m).length) (0) (by omega) (by omega) (by omega)
  change Con _ _ _ [.ag [.v (.bool u.s),.sl (lim u.m).length (qb (mkI 1 (lim u.m).length)),.v (.int .i64 u.e),.v (.bool v.s),.sl 0 [],.v (.int .i64 v.e)],.v (.int .i64 1)] _ (isA (.v (.int .i64 ((1+(lim u.m).length:Nat):Int))))at ch
  have cm:=acb u.s v.s u.e v.e 1 (lim u.m) (by omega) (by omega)
  change Con _ _ _ [.ag [.v (.bool u.s),.rf 10000000 0 (lim u.m).length,.v (.int .i64 u.e),.v (.bool v.s),.sl 0 [],.v (.int .i64 v.e)],.v (.int .i64 1)] _ _ at cm
  obtain⟨M,hM⟩:∃M:Int,((1+(lim u.m).length:Nat):Int)=M:=⟨_,rfl⟩
  have hM0:decide (M<0)=false:=decide_eq_false (by omega)
  have hMM:decide (M=M)=true:=decide_eq_true rfl
  rw[hM]at ch cm
  have tku:(mkI 1 (lim u.m).length).take (lim u.m).length=mkI 1 (lim u.m).length:=List.take_of_length_le (by rw[QF];exact Nat.le_refl _)
  refine⟨by simp[qC];try simp(disch:=omega)only[go_sem],?_⟩
  simp(disch:=omega)only[go_sem]
  refine qj (ceq) ?_
  simp(disch:=omega)only[go_sem]
  simp(disch:=omega)only[go_sem,qok]
  refine qo rfl [⟨0,[],[]⟩,⟨1,[0],[]⟩,⟨2,[0],[]⟩,⟨3,[],[]⟩,⟨4,[],[]⟩] (by kernel_rfl) ?_
  simp(disch:=omega)only[go_sem]
  refine qa (jF s xs e (by omega)) ?_
  simp(disch:=omega)only[go_sem]
  refine qj (Qq s xs e (by omega)) ?_
  simp(disch:=omega)only[go_sem]
  refine AW.regCallF (E:=[(1,.v (.int .i64 low)),(2,.pt 40000000 0),(4,.v (.bool false)),(6,.pt 80000000 0),(7,.v (.bool ok)),(9,.pt 110000000 0),(10,.v (.bool ok)),(50,.ag [.v (.bool s),.rf 310000000 0 xs.length,.v (.int .i64 e)]),(51,.v (.int .i64 1))]) (H:=[(40000000,.own 0 [.v (.bool s),.sl xs.length (qb xs),.v (.int .i64 e)]),(80000000,.own 0 [.v (.bool u.s),.sl (lim u.m).length (qb (lim u.m)),.v (.int .i64 u.e),.v (.bool v.s),.sl 0 [],.v (.int .i64 v.e)]),(110000000,.own 0 [.v (.bool u.s),.rf 350000000 0 (lim u.m).length,.v (.int .i64 u.e),.v (.bool v.s),.v (.slice none 0 0),.v (.int .i64 v.e)]),(310000000,.own 1 (qb xs)),(350000000,.own 1 (qb (lim u.m)))]) 2 (by simp only[List.take_succ_cons,List.take_zero];rfl) (by simp only[List.drop_succ_cons,List.drop_zero];rfl) ?_
   (by decide) rfl rfl (by simp(disch:=omega)only[go_sem]) (by rfl) false [310000000] cx (by simp(disch:=omega)only[go_sem]) (by simp(disch:=omega)only[go_sem]) rfl (qJ (z:=1) (cs:=qb xs) (by simp(disch:=omega)only[go_sem]) (by simp(disch:=omega)only[go_sem])) ?_
  ·simp(disch:=omega)only[go_sem]
   exact Le.lst [] _ _ rfl (by simp(disch:=omega)only[go_sem]) (by simp(disch:=omega)only[go_sem])
  rintro r hs bs ⟨rfl,rfl,rfl⟩-
  refine⟨by simp[qC],?_⟩
  show @Ch Tryz.prog 101 ⟨_⟩ ⟨_⟩ ⟨_⟩ _ _
  simp(disch:=omega)only[go_sem]
  refine AW.front2 ?_
  show @W Tryz.prog 101 ⟨_⟩ ⟨fun x σ=>@yR ⟨_⟩ ⟨_⟩ x σ⟩ _ _
  simp(disch:=omega)only[go_sem,hX0]
  refine qj (ceq) ?_
  simp(disch:=omega)only[go_sem]
  simp(disch:=omega)only[go_sem,qok]
  refine AW.regCall (E:=[(1,.v (.int .i64 low)),(2,.pt 40000000 0),(4,.v (.bool false)),(6,.pt 80000000 0),(7,.v (.bool ok)),(9,.pt 110000000 0),(10,.v (.bool ok)),(66,.ag [.v (.bool u.s),.rf 350000000 0 (lim u.m).length,.v (.int .i64 u.e),.v (.bool v.s),.v (.slice none 0 0),.v (.int .i64 v.e)]),(67,.v (.int .i64 1))]) (H:=[(40000000,.own 0 [.v (.bool s),.sl xs.length (qb xs),.v (.int .i64 e)]),(80000000,.own 0 [.v (.bool u.s),.sl (lim u.m).length (qb (lim u.m)),.v (.int .i64 u.e),.v (.bool v.s),.sl 0 [],.v (.int .i64 v.e)]),(110000000,.own 0 [.v (.bool u.s),.rf 350000000 0 (lim u.m).length,.v (.int .i64 u.e),.v (.bool v.s),.v (.slice none 0 0),.v (.int .i64 v.e)]),(350000000,.own 1 (qb (lim u.m)))]) 2 (by simp only[List.take_succ_cons,List.take_zero];rfl) (by simp only[List.drop_succ_cons,List.drop_zero];rfl) ?_
   (by decide) rfl rfl (by simp(disch:=omega)only[go_sem]) (by rfl) false [350000000] cm (by simp(disch:=omega)only[go_sem]) (by simp(disch:=omega)only[go_sem]) rfl (qJ (z:=1) (cs:=qb (lim u.m)) (by simp(disch:=omega)only[go_sem]) (by simp(disch:=omega)only[go_sem])) ?_
  ·simp(disch:=omega)only[go_sem]
   exact Le.lst [] _ _ rfl (by simp(disch:=omega)only[go_sem]) (by simp(disch:=omega)only[go_sem])
  rintro r hs bs ⟨rfl,rfl,rfl⟩-
  refine⟨by simp[qC],?_⟩
  show @Ch Tryz.prog 101 ⟨_⟩ ⟨_⟩ ⟨fun σ=>@W Tryz.prog 101 ⟨_⟩ ⟨fun x σ=>@q9 _ _ _ ⟨_⟩ _ ⟨_⟩ x σ⟩ σ.env σ.hp⟩ _ _
  simp(disch:=omega)only[go_sem]
  refine qj (ch) ?_ (by simp(disch:=omega)only[go_sem,tku])
  simp(disch:=omega)only[go_sem]
  simp(disch:=omega)only[go_sem,hM0,hMM]
  refine qa (jF s xs e (by omega)) ?_
  simp(disch:=omega)only[go_sem]
  refine qj (ciF) ?_
  simp(disch:=omega)only[go_sem]
  refine qj (ceq) ?_
  simp(disch:=omega)only[go_sem]
  simp(disch:=omega)only[go_sem,qok]
  refine qj (ch) ?_ (by simp(disch:=omega)only[go_sem,tku])
  simp(disch:=omega)only[go_sem]
  simp(disch:=omega)only[go_sem,hM0,hMM]
  exact qu
 ·have ceq:=Zc u.s v.s (lim u.m) (lim v.m) u.e v.e (by omega) (by omega)
  have ch:=Qo u.s v.s u.e v.e 1 ((lim u.m).length) ((lim v.m).length) (by omega) (by omega) (by omega)
  change Con _ _ _ [.ag [.v (.bool u.s),.sl (lim u.m).length (qb (mkI 1 (lim u.m).length)),.v (.int .i64 u.e),.v (.bool v.s),.sl (lim v.m).length (qb (mkI (1+(lim u.m).length) (lim v.m).length)),.v (.int .i64 v.e)],.v (.int .i64 1)] _ (isA (.v (.int .i64 ((1+(lim u.m).length+(lim v.m).length:Nat):Int))))at ch
  have cm:=aca u.s v.s u.e v.e 1 (lim u.m) (lim v.m) (by omega) (by omega) (by omega)
  change Con _ _ _ [.ag [.v (.bool u.s),.rf 10000000 0 (lim u.m).length,.v (.int .i64 u.e),.v (.bool v.s),.rf 10000001 0 (lim v.m).length,.v (.int .i64 v.e)],.v (.int .i64 1)] _ _ at cm
  obtain⟨M,hM⟩:∃M:Int,((1+(lim u.m).length+(lim v.m).length:Nat):Int)=M:=⟨_,rfl⟩
  have hM0:decide (M<0)=false:=decide_eq_false (by omega)
  have hMM:decide (M=M)=true:=decide_eq_true rfl
  rw[hM]at ch cm
  have tku:(mkI 1 (lim u.m).length).take (lim u.m).length=mkI 1 (lim u.m).length:=List.take_of_length_le (by rw[QF];exact Nat.le_refl _)
  have tkv:(mkI (1+(lim u.m).length) (lim v.m).length).take (lim v.m).length=mkI (1+(lim u.m).length) (lim v.m).length:=List.take_of_length_le (by rw[QF];exact Nat.le_refl _)
  refine⟨by simp[qC];try simp(disch:=omega)only[go_sem],?_⟩
  simp(disch:=omega)only[go_sem]
  refine qj (ceq) ?_
  simp(disch:=omega)only[go_sem]
  simp(disch:=omega)only[go_sem,qok]
  refine qo rfl [⟨0,[],[]⟩,⟨1,[0],[]⟩,⟨2,[0],[]⟩,⟨3,[],[]⟩,⟨4,[],[]⟩] (by kernel_rfl) ?_
  simp(disch:=omega)only[go_sem]
  refine qa (jF s xs e (by omega)) ?_
  simp(disch:=omega)only[go_sem]
  refine qj (Qq s xs e (by omega)) ?_
  simp(disch:=omega)only[go_sem]
  refine AW.regCallF (E:=[(1,.v (.int .i64 low)),(2,.pt 40000000 0),(4,.v (.bool false)),(6,.pt 80000000 0),(7,.v (.bool ok)),(9,.pt 110000000 0),(10,.v (.bool ok)),(50,.ag [.v (.bool s),.rf 310000000 0 xs.length,.v (.int .i64 e)]),(51,.v (.int .i64 1))]) (H:=[(40000000,.own 0 [.v (.bool s),.sl xs.length (qb xs),.v (.int .i64 e)]),(80000000,.own 0 [.v (.bool u.s),.sl (lim u.m).length (qb (lim u.m)),.v (.int .i64 u.e),.v (.bool v.s),.sl (lim v.m).length (qb (lim v.m)),.v (.int .i64 v.e)]),(110000000,.own 0 [.v (.bool u.s),.rf 350000000 0 (lim u.m).length,.v (.int .i64 u.e),.v (.bool v.s),.rf 350000001 0 (lim v.m).length,.v (.int .i64 v.e)]),(310000000,.own 1 (qb xs)),(350000000,.own 1 (qb (lim u.m))),(350000001,.own 1 (qb (lim v.m)))]) 2 (by simp only[List.take_succ_cons,List.take_zero];rfl) (by simp only[List.drop_succ_cons,List.drop_zero];rfl) ?_
   (by decide) rfl rfl (by simp(disch:=omega)only[go_sem]) (by rfl) false [310000000] cx (by simp(disch:=omega)only[go_sem]) (by simp(disch:=omega)only[go_sem]) rfl (qJ (z:=1) (cs:=qb xs) (by simp(disch:=omega)only[go_sem]) (by simp(disch:=omega)only[go_sem])) ?_
  ·simp(disch:=omega)only[go_sem]
   exact Le.lst [] _ _ rfl (by simp(disch:=omega)only[go_sem]) (by simp(disch:=omega)only[go_sem])
  rintro r hs bs ⟨rfl,rfl,rfl⟩-
  refine⟨by simp[qC],?_⟩
  show @Ch Tryz.prog 101 ⟨_⟩ ⟨_⟩ ⟨_⟩ _ _
  simp(disch:=omega)only[go_sem]
  refine AW.front2 ?_
  show @W Tryz.prog 101 ⟨_⟩ ⟨fun x σ=>@yR ⟨_⟩ ⟨_⟩ x σ⟩ _ _
  simp(disch:=omega)only[go_sem,hX0]
  refine qj (ceq) ?_
  simp(disch:=omega)only[go_sem]
  simp(disch:=omega)only[go_sem,qok]
  refine AW.regCall (E:=[(1,.v (.int .i64 low)),(2,.pt 40000000 0),(4,.v (.bool false)),(6,.pt 80000000 0),(7,.v (.bool ok)),(9,.pt 110000000 0),(10,.v (.bool ok)),(66,.ag [.v (.bool u.s),.rf 350000000 0 (lim u.m).length,.v (.int .i64 u.e),.v (.bool v.s),.rf 350000001 0 (lim v.m).length,.v (.int .i64 v.e)]),(67,.v (.int .i64 1))]) (H:=[(40000000,.own 0 [.v (.bool s),.sl xs.length (qb xs),.v (.int .i64 e)]),(80000000,.own 0 [.v (.bool u.s),.sl (lim u.m).length (qb (lim u.m)),.v (.int .i64 u.e),.v (.bool v.s),.sl (lim v.m).length (qb (lim v.m)),.v (.int .i64 v.e)]),(110000000,.own 0 [.v (.bool u.s),.rf 350000000 0 (lim u.m).length,.v (.int .i64 u.e),.v (.bool v.s),.rf 350000001 0 (lim v.m).length,.v (.int .i64 v.e)]),(350000000,.own 1 (qb (lim u.m))),(350000001,.own 1 (qb (lim v.m)))]) 2 (by simp only[List.take_succ_cons,List.take_zero];rfl) (by simp only[List.drop_succ_cons,List.drop_zero];rfl) ?_
   (by decide) rfl rfl (by simp(disch:=omega)only[go_sem]) (by rfl) false [350000000,350000001] cm (by simp(disch:=omega)only[go_sem]) (by simp(disch:=omega)only[go_sem]) rfl (aIl (z:=1) (cs:=qb (lim u.m)) (by simp(disch:=omega)only[go_sem]) (by simp(disch:=omega)only[go_sem]) (z':=1) (cs':=qb (lim v.m)) (by simp(disch:=omega)only[go_sem]) (by simp(disch:=omega)only[go_sem])) ?_
  ·simp(disch:=omega)only[go_sem]
   exact Le.lst [] _ _ rfl (by simp(disch:=omega)only[go_sem]) (by simp(disch:=omega)only[go_sem])
  rintro r hs bs ⟨rfl,rfl,rfl⟩-
  refine⟨by simp[qC],?_⟩
  show @Ch Tryz.prog 101 ⟨_⟩ ⟨_⟩ ⟨fun σ=>@W Tryz.prog 101 ⟨_⟩ ⟨fun x σ=>@q9 _ _ _ ⟨_⟩ _ ⟨_⟩ x σ⟩ σ.env σ.hp⟩ _ _
  simp(disch:=omega)only[go_sem]
  refine qj (ch) ?_ (by simp(disch:=omega)only[go_sem,tku,tkv])
  simp(disch:=omega)only[go_sem]
  simp(disch:=omega)only[go_sem,hM0,hMM]
  refine qa (jF s xs e (by omega)) ?_
  simp(disch:=omega)only[go_sem]
  refine qj (ciF) ?_
  simp(disch:=omega)only[go_sem]
  refine qj (ceq) ?_
  simp(disch:=omega)only[go_sem]
  simp(disch:=omega)only[go_sem,qok]
  refine qj (ch) ?_ (by simp(disch:=omega)only[go_sem,tku,tkv])
  simp(disch:=omega)only[go_sem]
  simp(disch:=omega)only[go_sem,hM0,hMM]
  exact qu
end Go.Ab
namespace Go.Ab
open Go Go.Proofs
theorem auG{x:ExV}(h:x.fit=true):(lim x.can.m).length≤100:=by
 have hff:(Qy (oM x.m)&&(decide (-3000≤oE x.m x.e)&&decide (oE x.m x.e≤3000)))=true:=h
 rw[Bool.and_eq_true]at hff
 have:=hff.1
 unfold Qy at this
 simp at this
 exact this
theorem am2(s:Bool)(xs:List Int)(e low:Int)(hl:xs.length≤9223372036854775807):Con Tryz.prog 9 true [.ag [.v (.bool s),.sl xs.length (qb xs),.v (.int .i64 e)],.v (.int .i64 low)] [] (isA (.v (.bool true))):=by
 by_cases h1:(1048576:Int)-(xs.length:Int)<0
 ·have cz:=ah6 s xs e 1048576 hl (by omega)
  have hz:szL 1048576 xs.length= -1:=by unfold szL;rw[if_pos h1]
  rw[hz]at cz
  refine Con.of_w (rs:=[.tmp 4]) Tryz.func9 rfl Tryz.ntmps9 rfl ?_
  simp(disch:=omega)only[go_sem]
  refine qj (cz) ?_
  simp(disch:=omega)only[go_sem]
  exact qu
 have hz0:∀r hs bs,(fun(r:AV) (hs bs:List Ob)=>r=.tu [.ag [.v (.bool false),.v (.slice none 0 0),.v (.int .i64 0),.v (.bool false),.v (.slice none 0 0),.v (.int .i64 0)],.v (.bool false)]∧hs=[]) r hs bs→bc1 false ex0 ex0 r hs bs:=fun r hs bs h=>.inl ⟨qt,qt,h.1,h.2⟩
 have hu0:(lim ex0.m).length≤2^38:=by show(lim 0).length≤_;rw[qt];simp
 have e0:(AV.tu [.ag [.v (.bool (SpV.mk ex0 ex0).lo.s),.sl (lim (SpV.mk ex0 ex0).lo.m).length (qb (lim (SpV.mk ex0 ex0).lo.m)),.v (.int .i64 (SpV.mk ex0 ex0).lo.e),.v (.bool (SpV.mk ex0 ex0).hi.s),.sl (lim (SpV.mk ex0 ex0).hi.m).length (qb (lim (SpV.mk ex0 ex0).hi.m)),.v (.int .i64 (SpV.mk ex0 ex0).hi.e)],.v (.bool false)])=.tu [.ag [.v (.bool false),.sl 0 [],.v (.int .i64 0),.v (.bool false),.sl 0 [],.v (.int .i64 0)],.v (.bool false)]:=by
  show(AV.tu [.ag [.v (.bool false),.sl (lim 0).length (qb (lim 0)),.v (.int .i64 0),.v (.bool false),.sl (lim 0).length (qb (lim 0)),.v (.int .i64 0)],.v (.bool false)])=_
  rw[qt];rfl
 cases hm:af4 1 [(⟨s,xs,e⟩:DyV)]
 ·have hd:dyB s xs e=false:=by
   cases hd:dyB s xs e
   ·rfl
   ·exfalso
    have:af4 1 [(⟨s,xs,e⟩:DyV)]=true:=by
     unfold af4
     have:DyV.ok ⟨s,xs,e⟩=true:=hd
     simp[this]
    rw[this]at hm;cases hm
  have cs:=Yr s xs e low (by omega) hd
  rw[←e0]at cs
  have ca:=J6 1 [(⟨s,xs,e⟩:DyV)] low (by simp) (fun d hd=>by rw[List.mem_singleton.1 hd];show xs.length≤_;omega) hm
  exact af8 s xs e low (by omega) ex0 ex0 false hu0 hu0 cs ((ZR s xs e low ca).mono hz0)
 ·obtain⟨n,L,hk,hM,hV⟩:=aW3 hm
  obtain rfl:n=1:=by omega
  obtain⟨x,rfl⟩:∃x,L=[x]:=List.length_eq_one_iff.1 hV.len
  have hx:x.ok=true:=hV.ok x (List.mem_singleton.2 rfl)
  have hd:(⟨s,xs,e⟩:DyV)=x.dyv:=by simpa using hM
  obtain⟨rfl,rfl,rfl⟩:s=x.s∧xs=lim x.m∧e=x.e:=⟨congrArg DyV.s hd,congrArg DyV.xs hd,congrArg DyV.e hd⟩
  cases ha:ail 1 [x] low
  ·have cs:=XX x low hx ha
   rw[←e0]at cs
   have ca:=ZQ 1 [x] low hV
   rw[ha]at ca
   exact af8 x.s (lim x.m) x.e low (by omega) ex0 ex0 false hu0 hu0 cs ((ZR x.s (lim x.m) x.e low ca).mono hz0)
  ·obtain⟨S,hS⟩:=aTo (x:=x) (low:=low)
   have hfit:=agn hV (Qf hV ha)
   rw[hS]at hfit
   have hSf:(S.lo.fit&&S.hi.fit)=true:=by simpa [SpV.fit]using hfit
   rw[Bool.and_eq_true]at hSf
   have l1:=auG hSf.1
   have l2:=auG hSf.2
   exact af8 x.s (lim x.m) x.e low (by omega) S.lo.can S.hi.can true (by omega) (by omega) (acy x low hx ha hS) (agZ x low hx ha hS)
end Go.Ab
namespace Go.Proofs.YtgkehjnacdccfaaGreatDoor
open Go.ChangeShapes Go.WideShapes Go.ChangeAt Go.RowKit Go.Ab
theorem own:ownKnob Tryz.prog.godebug=none:=by kernel_rfl
theorem at6:laidOutB Tryz.prog=true:=by kernel_rfl
theorem asU:Tryz.prog.globalNamed "math/bits.deBruijn64tab" =some 1:=by kernel_rfl
theorem aP7:(Tryz.prog.globals[1]?).map (·.type)=some 285:=by kernel_rfl
theorem aP6:Tryz.prog.underlying 285=some (.array 64 5):=by kernel_rfl
theorem aQa:Tryz.prog.underlying 5=some (.int .u8):=by kernel_rfl
theorem aQb:Tryz.prog.cellsOf 5=1:=by kernel_rfl
theorem aP8:Tryz.prog.cellsOf 285=64:=by kernel_rfl
noncomputable def Qm:List (String×DataW Unit):=[("math/bits.deBruijn32tab",Rows.laid_math_bits_deBruijn32tab),("math/bits.deBruijn64tab",Rows.laid_math_bits_deBruijn64tab)]
theorem aP9{W:World}(h:laidMetH Tryz.prog Qm W):Gd W:=by
 have h':laidMet Tryz.prog Qm W:=h
 have h2:laidMet Tryz.prog [("math/bits.deBruijn64tab",Lib.tabData .u8 (Lib.deBruijn64tab.map Int.ofNat))] W:=laidMet.tail h'
 have hT:=Lib.tabIs_of_head asU aP7 aP6 aQa aQb aP8 h2
 intro g l hg
 unfold glb at hg
 split at hg
 ·rename_i e
  subst e
  cases hg
  have hc:∀i,i<Lib.deBruijn64tab.length→W.cell? ⟨1,i,none⟩=some (.int .u8 ((Lib.deBruijn64tab.getD i 0:Nat):Int)):=fun i hi=>by
   have:=hT.cell asU i (by simpa using hi)
   rw[this]
   simp[List.getD,hi]
  exact⟨aih (hc 0 (by decide)),hc⟩
 ·cases hg
noncomputable def abF(os:Os):World:=
 let w0:=World.holding Tryz.prog os ⟨#[],#[],[]⟩
 {w0 with heap:=(w0.heap.modify 1 fun
   | .cells _ t frozen=>.cells (Lib.deBruijn64tab.map fun z=>Value.int .u8 (Int.ofNat z)).toArray t frozen
   |o=>o).modify 0 fun
   | .cells _ t frozen=>.cells (Lib.deBruijn32tab.map fun z=>Value.int .u8 (Int.ofNat z)).toArray t frozen
   |o=>o}
theorem Xx(os:Os)(args:Array Value):laidMetH Tryz.prog Qm ((abF os).forCall (fun _ _=>0) ⟨#[],args,[]⟩).memory:=
 laidMetH_of_parts (laidMet_of_run' 8 (by kernel_rfl) (by kernel_rfl)) (by kernel_rfl)
end Go.Proofs.YtgkehjnacdccfaaGreatDoor
