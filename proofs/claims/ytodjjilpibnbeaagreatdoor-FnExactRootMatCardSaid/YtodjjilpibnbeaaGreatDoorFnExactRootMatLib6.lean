/- What the proof of this claim stands on: the walks of the functions and the plain laws, part 6. -/
import Derived.Test.YtodjjilpibnbeaaGreatDoorFnExactRootMatLib5
import Derived.Test.YtodjjilpibnbeaaGreatDoorRows
import Derived.Test.YtodjjilpibnbeaaGreatDoorCards
import Derived.Test.YtodjjilpibnbeaaGreatDoorTie
import Derived.Handed
import Derived.ChangeSame
import Derived.JoinedOf
import Derived.RowKit
import Derived.WalkKit
import Derived.ProofKit
import Derived.OpenShut
import Derived.LaidLaws
import Derived.LaidHandle
import Derived.SevenTiedAt
import Derived.Stop.LaidErr
import Derived.Lib.LaidTab
set_option linter.unusedVariables false
set_option linter.unusedSimpArgs false
namespace Go.Ab
open Go Go.Proofs
/-! ### Rounded inverses-/
def zO(n:Nat)(l:List ExV)(low:Int):List ExV:=gl n (fun i j=>((y4 n l).getD (i*n+j) ex0).over (zd n l) low 0) (n*n)
theorem Jt{n:Nat}{l:List ExV}:(y4 n l).length=n*n:=zj
theorem ah7(n:Nat)(l:List ExV)(y:ExV)(low:Int)(i j:Nat)(hn:n≤4)(hi:i<n)(hj:j<n)(hl:l.length=n*n)(hb:gbd (-40000) 40100 l)(hy:y.bd (-40000) 40100)(h0:y.m≠0)(hlo: -300≤low∧low≤300):
  Con Tryz.prog 196 false [.v (.int .i64 i),.v (.int .i64 j),.fp [.v (.int .i64 n),.sl l.length (qk ExV.cs l)] 0,.fp [.v (.bool y.s),.sl (lim y.m).length (qg (lim y.m)),.v (.int .i64 y.e)] 0,.fp [.v (.int .i64 low)] 0] [] (isA (.ag [.v (.bool ((l.getD (i*n+j) ex0).over y low 0).s),.sl (lim ((l.getD (i*n+j) ex0).over y low 0).m).length (qg (lim ((l.getD (i*n+j) ex0).over y low 0).m)),.v (.int .i64 ((l.getD (i*n+j) ex0).over y low 0).e)])):=by
 refine Con.frzA ?_
 have hx:=q7 hi hj
 have hq:=jq hn
 have c1:=yL n l i j (by omega) (by omega) (by omega) (by omega) (by omega)
 have b1:=qF hb (show i*n+j<l.length by omega)
 generalize l.getD (i*n+j) ex0=x at*
 have c2:=ahJ x y low 0 h0 (b1.mono (by omega) (by omega)) (hy.mono (by omega) (by omega)) (by omega)
 generalize x.over y low 0=z at*
 refine Con.of_w (rs:=[.cell 7 97]) Tryz.func196 rfl Tryz.ntmps196 rfl ?_
 simp(disch:=omega)only[go_sem]
 refine qs rfl [⟨0,[],[]⟩,⟨1,[0],[]⟩,⟨2,[0],[]⟩,⟨4,[0],[]⟩,⟨5,[0,4],[]⟩,⟨10,[0,4,5],[]⟩,⟨3,[4,5],[100000000]⟩,⟨6,[],[100000000]⟩,⟨7,[],[100000000]⟩,⟨8,[],[100000000]⟩,⟨9,[],[100000000]⟩,⟨11,[],[]⟩,⟨12,[],[]⟩] (by kernel_rfl) ?_
 simp(disch:=omega)only[go_sem]
 refine qa (c1) ?_
 simp(disch:=omega)only[go_sem]
 refine qa (c2) ?_
 simp(disch:=omega)only[go_sem]
 exact qo
theorem X8{n:Nat}{L:List ExV}(h4:n≤4)(hl:L.length=n*n)(hd:gbd (-10000) 10000 L):gbd (-40000) 40100 (y4 n L):=qq (aqM h4 hl hd) (by omega) (by omega)
set_option maxRecDepth 100000 in
theorem yE(n:Nat)(l:List ExV)(low:Int)(hn:n≤4)(hl:l.length=n*n)(hd:gbd (-10000) 10000 l)(h0:(zd n l).m≠0)(hlo: -300≤low∧low≤300):Con Tryz.prog 119 false [.ag [.v (.int .i64 (n)),.sl (l).length (qk ExV.cs (l))],.v (.int .i64 low)] [] (isA (.tu [.ag [.v (.int .i64 (n)),.sl (zO n l low).length (qk ExV.cs (zO n l low))],.v (.bool true)])):=by
 refine Con.frzA ?_
 have c1:=abo n l hn hl hd
 have c2:=aml n l hn hl hd
 have by':=(j9 n hn hl hd).mono (show(-40000:Int)≤_ by omega) (show _≤(40100:Int) by omega)
 have c:=zL n 196 [.fp [.v (.int .i64 n),.sl (y4 n l).length (qk ExV.cs (y4 n l))] 0,.fp [.v (.bool (zd n l).s),.sl (lim (zd n l).m).length (qg (lim (zd n l).m)),.v (.int .i64 (zd n l).e)] 0,.fp [.v (.int .i64 low)] 0] (fun i j=>((y4 n l).getD (i*n+j) ex0).over (zd n l) low 0) hn
  (fun i j hi hj=>ah7 n (y4 n l) (zd n l) low i j hn hi hj Jt (X8 hn hl hd) by' h0 hlo) (by simp(disch:=omega)only[go_sem]) (fun h=>rfl) (fun h=>rfl) (fun ks=>by simp(disch:=omega)only[go_sem]) (fun ρ=>rfl)
 change Con _ _ _ _ _ (isA (.ag [.v (.int .i64 (n)),.sl (zO n l low).length (qk ExV.cs (zO n l low))]))at c
 have cz:=ZR (zd n l).s (zd n l).m (zd n l).e
 rw[decide_eq_false h0]at cz
 generalize zO n l low=Z at*
 generalize zd n l=y at*
 generalize y4 n l=D at*
 refine Con.of_aw Tryz.func119 rfl Tryz.ntmps119 (by simp) (by simp) (by simp)
  (AW.seqLe (E:=[(2,.pt 2 0),(3,.fp [.v (.int .i64 low)] 0),(4,.pt 4 0)]) (H:=[(2,.own 0 [.v (.int .i64 n),.sl l.length (qk ExV.cs l)]),(4,.own 0 [.v (.int .i64 0),.v (.slice none 0 0)])]) (W.sound ?_)
   (AW.seqLe (E:=[(2,.pt 2 0),(3,.fp [.v (.int .i64 low)] 0),(4,.pt 4 0),(6,.fp [.v (.bool y.s),.sl (lim y.m).length (qg (lim y.m)),.v (.int .i64 y.e)] 0)]) (H:=[(2,.own 0 [.v (.int .i64 n),.sl l.length (qk ExV.cs l)]),(4,.own 0 [.v (.int .i64 0),.v (.slice none 0 0)])]) (W.sound ?_)
    (AW.seqLe (E:=[(2,.pt 2 0),(3,.fp [.v (.int .i64 low)] 0),(4,.pt 4 0),(6,.fp [.v (.bool y.s),.sl (lim y.m).length (qg (lim y.m)),.v (.int .i64 y.e)] 0)]) (H:=[(2,.own 0 [.v (.int .i64 n),.sl l.length (qk ExV.cs l)]),(4,.own 0 [.v (.int .i64 0),.v (.slice none 0 0)])]) (W.sound ?_)
     (AW.seqLe (E:=[(2,.pt 2 0),(3,.fp [.v (.int .i64 low)] 0),(4,.pt 4 0),(6,.fp [.v (.bool y.s),.sl (lim y.m).length (qg (lim y.m)),.v (.int .i64 y.e)] 0),(7,.fp [.v (.int .i64 n),.sl D.length (qk ExV.cs D)] 0)]) (H:=[(2,.own 0 [.v (.int .i64 n),.sl l.length (qk ExV.cs l)]),(4,.own 0 [.v (.int .i64 0),.v (.slice none 0 0)])]) (W.sound ?_) (W.sound ?_)))))
 ·show @W Tryz.prog 19 ⟨_⟩ ⟨_⟩ _ _
  simp(disch:=omega)only[go_sem]
  exact(Le.frz 50000000 (z:=0) (ks:=[.v (.int .i64 low)]) (by simp(disch:=omega)only[go_sem]) rfl (by simp(disch:=omega)only[go_sem])).trans (Le.lst [(2,40000000),(4,60000000)] _ _ rfl (by simp(disch:=omega)only[go_sem]) (by simp(disch:=omega)only[go_sem]))
 ·show @W Tryz.prog 19 ⟨_⟩ ⟨_⟩ _ _
  simp(disch:=omega)only[go_sem]
  refine qa (c1) ?_
  simp(disch:=omega)only[go_sem]
  exact(Le.frz 80000000 (z:=0) (ks:=[.v (.bool y.s),.sl (lim y.m).length (qg (lim y.m)),.v (.int .i64 y.e)]) (by simp(disch:=omega)only[go_sem]) rfl (by simp(disch:=omega)only[go_sem])).trans (Le.lst [] _ _ rfl (by simp(disch:=omega)only[go_sem]) (by simp(disch:=omega)only[go_sem]))
 ·show @W Tryz.prog 19 ⟨_⟩ ⟨_⟩ _ _
  simp(disch:=omega)only[go_sem]
  refine qm (cz) ?_
  simp(disch:=omega)only[go_sem]
  exact Le.lst [] _ _ rfl (by simp(disch:=omega)only[go_sem]) (by simp(disch:=omega)only[go_sem])
 ·show @W Tryz.prog 19 ⟨_⟩ ⟨_⟩ _ _
  simp(disch:=omega)only[go_sem]
  refine qa (c2) ?_
  simp(disch:=omega)only[go_sem]
  exact(Le.frz 90000000 (z:=0) (ks:=[.v (.int .i64 n),.sl D.length (qk ExV.cs D)]) (by simp(disch:=omega)only[go_sem]) rfl (by simp(disch:=omega)only[go_sem])).trans (Le.lst [] _ _ rfl (by simp(disch:=omega)only[go_sem]) (by simp(disch:=omega)only[go_sem]))
 show @W Tryz.prog 19 ⟨_⟩ ⟨fun x σ=>@q8 _ _ _ ⟨_⟩ _ ⟨_⟩ x σ⟩ _ _
 simp(disch:=omega)only[go_sem]
 refine qa (c) ?_
 simp(disch:=omega)only[go_sem]
 exact qo
theorem Qc(n:Nat)(l:List ExV)(low:Int)(hn:n≤4)(hl:l.length=n*n)(hd:gbd (-10000) 10000 l)(h0:(zd n l).m=0):Con Tryz.prog 119 false [.ag [.v (.int .i64 (n)),.sl (l).length (qk ExV.cs (l))],.v (.int .i64 low)] [] (isA (.tu [.ag [.v (.int .i64 0),.sl 0 []],.v (.bool false)])):=by
 refine Con.frzA ?_
 have c1:=abo n l hn hl hd
 have cz:=ZR (zd n l).s (zd n l).m (zd n l).e
 rw[decide_eq_true h0]at cz
 generalize zd n l=y at*
 refine Con.of_w (rs:=[.cell 4 89,.tmp 5]) Tryz.func119 rfl Tryz.ntmps119 rfl ?_
 simp(disch:=omega)only[go_sem]
 refine qa (c1) ?_
 simp(disch:=omega)only[go_sem]
 refine qm (cz) ?_
 simp(disch:=omega)only[go_sem]
 exact qo
theorem J1{n:Nat}{l:List ExV}{low:Int}(hn:n≤4)(hl:l.length=n*n)(hd:gbd (-10000) 10000 l)(hlo: -300≤low∧low≤300):gbd (-300) 81000 (zO n l low):=
 X5 fun i j hi hj=>(ExV.over_bd (hi:=80900) (qF (X8 hn hl hd) (by rw[Jt];exact q7 hi hj)) (show(-40000:Int)≤(zd n l).e by have:=(j9 n hn hl hd).2.1;omega) (by omega) (by omega)).mono (by omega) (by omega)
def aCp(n:Nat)(L:List ExV)(low:Int):ExV:=zx n (yh n (qO n L (zO n L low)) (gId n)) n
end Go.Ab
namespace Go.Ab
open Go Go.Proofs
/-! ### Square roots of matrices,step by step-/
def Qz(n:Nat)(X A:List ExV):ExV:=zx n (yh n (qO n X X) A) n
theorem Xc{n:Nat}{X Y:List ExV}{a b c d:Int}(hn:n≤4)(hX:X.length=n*n)(hY:Y.length=n*n)(bX:gbd a b X)(bY:gbd c d Y)(h0:a+c≤0∧0≤b+d):gbd (a+c) (b+d+4) (qO n X Y):=
 X5 fun i j hi hj=>(J9 hi hj (Nat.le_refl n) hX hY bX bY h0).mono (Int.le_refl _) (by omega)
theorem aal{n:Nat}{X A:List ExV}(hn:n≤4)(hX:X.length=n*n)(hA:A.length=n*n)(bX:gbd (-10000) 10000 X)(bA:gbd (-10000) 10000 A):gbd (-20000) 20004 (qO n X X)∧gbd (-20000) 20005 (yh n (qO n X X) A)∧(Qz n X A).bd (-20000) 20009:=by
 have bT:=qq (Xc hn hX hX bX bX (by omega)) (show(-20000:Int)≤_ by omega) (show _≤(20004:Int) by omega)
 have bM:=adK (n:=n) (L:=qO n X X) (L':=A) (lo:= -20000) (hi:=20004) zj hA bT (qq bA (by omega) (by omega))
 exact⟨bT,qq bM (by omega) (by omega),(Qk (n:=n) (l:=yh n (qO n X X) A) zj bM (by omega) n (Nat.le_refl n)).mono (by omega) (by omega)⟩
theorem Ku(n:Nat)(X A:List ExV)(hn:n≤4)(hX:X.length=n*n)(hA:A.length=n*n)(bX:gbd (-10000) 10000 X)(bA:gbd (-10000) 10000 A):Con Tryz.prog 58 false [.ag [.v (.int .i64 (n)),.sl (X).length (qk ExV.cs (X))],.ag [.v (.int .i64 (n)),.sl (A).length (qk ExV.cs (A))]] [] (isA (.ag [.v (.bool (Qz n X A).s),.sl (lim (Qz n X A).m).length (qg (lim (Qz n X A).m)),.v (.int .i64 (Qz n X A).e)])):=by
 refine Con.frzA ?_
 obtain⟨bT,bM,bR⟩:=aal hn hX hA bX bA
 have c2:=aeg n X X hn hX hX (qq bX (by omega) (by omega)) (qq bX (by omega) (by omega))
 have c4:=aei n (qO n X X) A hn zj hA (qq bT (by omega) (by omega)) (qq bA (by omega) (by omega))
 have c5:=acw n (yh n (qO n X X) A) hn zj (qq bM (by omega) (by omega))
 change Con _ _ _ _ _ (isA (.ag [.v (.bool (Qz n X A).s),.sl (lim (Qz n X A).m).length (qg (lim (Qz n X A).m)),.v (.int .i64 (Qz n X A).e)]))at c5
 generalize Qz n X A=R at*
 generalize yh n (qO n X X) A=D at*
 generalize qO n X X=T at*
 refine Con.of_w (rs:=[.cell 4 97]) Tryz.func58 rfl Tryz.ntmps58 rfl ?_
 simp(disch:=omega)only[go_sem]
 refine qs rfl [⟨0,[],[]⟩,⟨1,[0],[]⟩,⟨3,[0,1],[]⟩,⟨2,[3],[]⟩,⟨4,[],[]⟩,⟨5,[],[]⟩,⟨6,[],[]⟩] (by kernel_rfl) ?_
 simp(disch:=omega)only[go_sem]
 refine qa (c2) ?_
 simp(disch:=omega)only[go_sem]
 refine qa (c4) ?_
 simp(disch:=omega)only[go_sem]
 refine qa (c5) ?_
 simp(disch:=omega)only[go_sem]
 exact qo
def ZD:ExV:=⟨false,1, -1⟩
theorem QO:ZD.bd (-1) 0:=⟨(fun h=>by cases h),by show(-1:Int)≤ -1;omega,by show(bl 1:Int)+ -1≤0;have:bl 1≤1:=zN.2 (by decide);omega⟩
def rNx(n:Nat)(w:Int)(X Z:List ExV):List ExV:=adJ n (zp n (jx n X (zO n Z w)) ZD) w 0
def akr(n:Nat)(X Z:List ExV):Bool:=decide ((zd n Z).m≠0)&&decide ((zd n X).m≠0)
def ank(n:Nat)(w:Int)(X Z:List ExV):Bool:=(zO n Z w).all ExV.fit&&(zO n X w).all ExV.fit
theorem Kt(n:Nat)(X Z:List ExV)(w:Int)(hn:n≤4)(hX:X.length=n*n)(hZ:Z.length=n*n)(bX:gbd (-10000) 10000 X)(bZ:gbd (-10000) 10000 Z)(hw: -300≤w∧w≤300)(hi:akr n X Z=true):
  Con Tryz.prog 56 false [.ag [.v (.int .i64 (n)),.sl (X).length (qk ExV.cs (X))],.ag [.v (.int .i64 (n)),.sl (Z).length (qk ExV.cs (Z))],.v (.int .i64 w)] [] (isA (.tu [.ag [.v (.int .i64 (n)),.sl (rNx n w X Z).length (qk ExV.cs (rNx n w X Z))],.ag [.v (.int .i64 (n)),.sl (rNx n w Z X).length (qk ExV.cs (rNx n w Z X))],.v (.bool (ank n w X Z))])):=by
 refine Con.frzA ?_
 unfold akr at hi
 simp only[Bool.and_eq_true,decide_eq_true_eq]at hi
 have hq:=jq hn
 have c1:=yE n Z w hn hZ bZ hi.1 hw
 have c2:=yE n X w hn hX bX hi.2 hw
 have b1:=J1 (low:=w) hn hZ bZ hw
 have b2:=J1 (low:=w) hn hX bX hw
 have l1:(zO n Z w).length=n*n:=zj
 have l2:(zO n X w).length=n*n:=zj
 have m1:=aa4 n (zO n Z w) (by omega) (qq b1 (by omega) (by omega))
 have m2:=aa4 n (zO n X w) (by omega) (qq b2 (by omega) (by omega))
 have p1:=KL n X (zO n Z w) hn hX l1 (qq bX (by omega) (by omega)) (qq b1 (by omega) (by omega))
 have p2:=KL n Z (zO n X w) hn hZ l2 (qq bZ (by omega) (by omega)) (qq b2 (by omega) (by omega))
 have q1:gbd (-10000) 81001 (jx n X (zO n Z w)):=qq (J0 hX l1 (qq bX (show(-10000:Int)≤_ by omega) (show _≤(81000:Int) by omega)) (qq b1 (by omega) (by omega))) (by omega) (by omega)
 have q2:gbd (-10000) 81001 (jx n Z (zO n X w)):=qq (J0 hZ l2 (qq bZ (show(-10000:Int)≤_ by omega) (show _≤(81000:Int) by omega)) (qq b2 (by omega) (by omega))) (by omega) (by omega)
 have s1:=Yq n (jx n X (zO n Z w)) ZD hn zj (qq q1 (by omega) (by omega)) (QO.mono (by omega) (by omega))
 have s2:=Yq n (jx n Z (zO n X w)) ZD hn zj (qq q2 (by omega) (by omega)) (QO.mono (by omega) (by omega))
 have t1:=QN (n:=n) (l:=jx n X (zO n Z w)) (y:=ZD) zj q1 QO
 have t2:=QN (n:=n) (l:=jx n Z (zO n X w)) (y:=ZD) zj q2 QO
 have r1:=Jv n (zp n (jx n X (zO n Z w)) ZD) w 0 hn zj (qq t1 (by omega) (by omega)) (by omega)
 have r2:=Jv n (zp n (jx n Z (zO n X w)) ZD) w 0 hn zj (qq t2 (by omega) (by omega)) (by omega)
 change Con _ _ _ _ _ (isA (.ag [.v (.int .i64 (n)),.sl (rNx n w X Z).length (qk ExV.cs (rNx n w X Z))]))at r1
 change Con _ _ _ _ _ (isA (.ag [.v (.int .i64 (n)),.sl (rNx n w Z X).length (qk ExV.cs (rNx n w Z X))]))at r2
 unfold ank
 generalize rNx n w X Z=X' at*
 generalize rNx n w Z X=Z' at*
 generalize zp n (jx n X (zO n Z w)) ZD=S1 at*
 generalize zp n (jx n Z (zO n X w)) ZD=S2 at*
 generalize jx n X (zO n Z w)=P1 at*
 generalize jx n Z (zO n X w)=P2 at*
 generalize zO n Z w=I1 at*
 generalize zO n X w=I2 at*
 cases f1:I1.all ExV.fit<;>cases f2:I2.all ExV.fit<;>(rw[f1]at m1;rw[f2]at m2;first|rw[if_pos rfl]at m1|rw[if_neg (by simp)]at m1;first|rw[if_pos rfl]at m2|rw[if_neg (by simp)]at m2)
 all_goals
  refine Con.of_w (rs:=[.cell 6 89,.cell 7 89,.tmp 8]) Tryz.func56 rfl Tryz.ntmps56 rfl ?_
  simp(disch:=omega)only[go_sem]
  refine qa (c1) ?_
  simp(disch:=omega)only[go_sem]
  refine qa (c2) ?_
  simp(disch:=omega)only[go_sem]
  refine qa (m1) ?_
  simp(disch:=omega)only[go_sem]
  refine qa (m2) ?_
  simp(disch:=omega)only[go_sem]
  refine qa (jH 1 (by omega)) ?_
  simp(disch:=omega)only[go_sem]
  refine qs rfl [⟨0,[],[]⟩,⟨1,[0],[]⟩,⟨3,[0,1],[]⟩,⟨5,[0,1,3],[]⟩,⟨7,[0,1,3],[]⟩,⟨8,[0,1,3,7],[]⟩,⟨10,[0,1,3,7,8],[]⟩,⟨12,[0,1,3,7,8,10],[]⟩,⟨14,[0,1,3,7,8,10],[]⟩,⟨2,[3,7,8,10],[]⟩,⟨4,[7,8,10],[]⟩,⟨6,[7,8,10],[]⟩,⟨9,[10],[]⟩,⟨11,[],[]⟩,⟨13,[],[]⟩,⟨15,[],[]⟩,⟨16,[],[]⟩,⟨17,[],[]⟩,⟨18,[],[]⟩,⟨19,[],[]⟩,⟨20,[],[]⟩] (by kernel_rfl) ?_
  simp(disch:=omega)only[go_sem]
  refine qa (p1) ?_
  simp(disch:=omega)only[go_sem]
  refine qa (s1) ?_ (by simp(disch:=omega)only[go_sem,ZD])
  simp(disch:=omega)only[go_sem]
  refine qa (r1) ?_
  simp(disch:=omega)only[go_sem]
  refine qa (p2) ?_
  simp(disch:=omega)only[go_sem]
  refine qa (s2) ?_ (by simp(disch:=omega)only[go_sem,ZD])
  simp(disch:=omega)only[go_sem]
  refine qa (r2) ?_
  simp(disch:=omega)only[go_sem]
  exact qo
theorem Vi(n:Nat)(X Z:List ExV)(w:Int)(hn:n≤4)(hX:X.length=n*n)(hZ:Z.length=n*n)(bX:gbd (-10000) 10000 X)(bZ:gbd (-10000) 10000 Z)(hw: -300≤w∧w≤300)(hi:akr n X Z=false):
  Con Tryz.prog 56 false [.ag [.v (.int .i64 (n)),.sl (X).length (qk ExV.cs (X))],.ag [.v (.int .i64 (n)),.sl (Z).length (qk ExV.cs (Z))],.v (.int .i64 w)] [] (isA (.tu [.ag [.v (.int .i64 0),.sl 0 []],.ag [.v (.int .i64 0),.sl 0 []],.v (.bool false)])):=by
 refine Con.frzA ?_
 by_cases h1:(zd n Z).m=0
 ·have c1:=Qc n Z w hn hZ bZ h1
  by_cases h2:(zd n X).m=0
  ·have c2:=Qc n X w hn hX bX h2
   refine Con.of_w (rs:=[.cell 6 89,.cell 7 89,.tmp 8]) Tryz.func56 rfl Tryz.ntmps56 rfl ?_
   simp(disch:=omega)only[go_sem]
   refine qa (c1) ?_
   simp(disch:=omega)only[go_sem]
   refine qa (c2) ?_
   simp(disch:=omega)only[go_sem]
   exact qo
  ·have c2:=yE n X w hn hX bX h2 hw
   generalize zO n X w=I2 at*
   refine Con.of_w (rs:=[.cell 6 89,.cell 7 89,.tmp 8]) Tryz.func56 rfl Tryz.ntmps56 rfl ?_
   simp(disch:=omega)only[go_sem]
   refine qa (c1) ?_
   simp(disch:=omega)only[go_sem]
   refine qa (c2) ?_
   simp(disch:=omega)only[go_sem]
   exact qo
 ·have h2:(zd n X).m=0:=by
   by_cases h2:(zd n X).m=0
   ·exact h2
   ·exfalso
    unfold akr at hi
    rw[decide_eq_true h1,decide_eq_true h2]at hi
    cases hi
  have c1:=yE n Z w hn hZ bZ h1 hw
  have c2:=Qc n X w hn hX bX h2
  generalize zO n Z w=I1 at*
  refine Con.of_w (rs:=[.cell 6 89,.cell 7 89,.tmp 8]) Tryz.func56 rfl Tryz.ntmps56 rfl ?_
  simp(disch:=omega)only[go_sem]
  refine qa (c1) ?_
  simp(disch:=omega)only[go_sem]
  refine qa (c2) ?_
  simp(disch:=omega)only[go_sem]
  exact qo
theorem Qp{n:Nat}{l:List ExV}{low mode:Int}:(adJ n l low mode).length=n*n:=zj
def rSt(n:Nat)(w:Int)(L:List ExV):Nat→List ExV×List ExV
 |0=>(adJ n L w 0,gId n)
 |k+1=>(rNx n w (rSt n w L k).1 (rSt n w L k).2,rNx n w (rSt n w L k).2 (rSt n w L k).1)
def VP(n:Nat)(w:Int)(L:List ExV)(k:Nat):Bool:=akr n (rSt n w L k).1 (rSt n w L k).2&&ank n w (rSt n w L k).1 (rSt n w L k).2
def ai6(n:Nat)(w:Int)(L:List ExV)(k:Nat):Bool:=(List.range k).all (VP n w L)
theorem aan{n:Nat}{w:Int}{L:List ExV}:∀k,(rSt n w L k).1.length=n*n∧(rSt n w L k).2.length=n*n
 |0=>⟨Qp,aaI⟩
 |k+1=>⟨Qp,Qp⟩
theorem axn{x:ExV}{w hi:Int}(h:x.fit=true)(hx:x.bd w hi)(h1:w≤4600)(hz:x.m=0→x.e≤4600):x.bd w 4600:=by
 obtain⟨a,b,c⟩:=hx
 refine⟨a,b,?_⟩
 by_cases h0:x.m=0
 ·rw[h0,Qe];have:=hz h0;omega
 ·have o:=Q2 (acE h)
  have h2:x.can.m*2^tz x.m=x.m:=ZZ
  have h3:x.can.e=x.e+tz x.m:=by show oE x.m x.e=_;unfold oE;rw[if_neg h0]
  have h4:=ZS x.can.m (tz x.m)
  rw[h2]at h4
  have:=o.1
  have:=o.2.1
  omega
theorem Js{n:Nat}{l:List ExV}{w:Int}(hn:n≤4)(hl:l.length=n*n)(hd:gbd (-10000) 10000 l)(hw: -300≤w∧w≤300)(h:(zO n l w).all ExV.fit=true):gbd (-300) 4600 (zO n l w):=fun x hx=>by
 have b:=J1 (low:=w) hn hl hd hw x hx
 have hf:=List.all_eq_true.1 h x hx
 have he:x.e=w:=by
  obtain⟨t,_,rfl⟩:=List.mem_map.1 hx
  rfl
 exact axn hf b (by omega) (fun _=>by omega)
theorem anj{n:Nat}{w:Int}{X Z:List ExV}{lo hi:Int}(hn:n≤4)(hX:X.length=n*n)(bX:gbd lo hi X)(bI:gbd (-300) 4600 (zO n Z w))(h1:lo≤ -300)(h2:4600≤hi)(hw: -300≤w∧w≤300):gbd (lo-1) (hi+2) (rNx n w X Z):=by
 have q1:=J0 (n:=n) (L':=zO n Z w) hX zj bX (qq bI h1 h2)
 have t1:=QN (n:=n) (l:=jx n X (zO n Z w)) (y:=ZD) zj q1 QO
 have:=X6 (low:=w) (mode:=0) (n:=n) (l:=zp n (jx n X (zO n Z w)) ZD) zj t1 (by omega) (by omega)
 exact qq this (by omega) (by omega)
theorem afZ{n:Nat}{w:Int}{L:List ExV}(hn:n≤4)(hL:L.length=n*n)(bL:gbd (-3000) 4600 L)(hw: -300≤w∧w≤300):∀k:Nat,k≤12→ai6 n w L k=true→gbd (-3000-k) (4601+2*k) (rSt n w L k).1∧gbd (-3000-k) (4601+2*k) (rSt n w L k).2
 |0,_,_=>by
  have h1:=X6 (low:=w) (mode:=0) hL bL (by omega) (by omega)
  refine⟨qq h1 (by omega) (by omega),qq agZ (by omega) (by omega)⟩
 |k+1,hk,h=>by
  unfold ai6 at h
  rw[List.range_succ,List.all_append,Bool.and_eq_true]at h
  obtain⟨g1,g2⟩:=afZ hn hL bL hw k (by omega) h.1
  have h2:=h.2
  rw[List.all_cons,List.all_nil,Bool.and_true]at h2
  unfold VP ank at h2
  simp only[Bool.and_eq_true]at h2
  obtain⟨l1,l2⟩:=aan (n:=n) (w:=w) (L:=L) k
  have f1:=Js hn l2 (qq g2 (by omega) (by omega)) hw h2.2.1
  have f2:=Js hn l1 (qq g1 (by omega) (by omega)) hw h2.2.2
  have r1:=anj hn l1 g1 f1 (by omega) (by omega) hw
  have r2:=anj hn l2 g2 f2 (by omega) (by omega) hw
  exact⟨qq r1 (by omega) (by omega),qq r2 (by omega) (by omega)⟩
def rtX(n:Nat)(L:List ExV)(low:Int)(steps:Nat):List ExV:=adJ n (rSt n (low-10) L steps).1 low 0
def JI(n:Nat)(L:List ExV)(low:Int)(steps:Nat):Bool:=ai6 n (low-10) L steps&&((rtX n L low steps).all ExV.fit&&(Qz n (rtX n L low steps) L).fit)
theorem VQ{n:Nat}{w:Int}{L:List ExV}{k:Nat}:ai6 n w L (k+1)=(ai6 n w L k&&VP n w L k):=by
 unfold ai6
 rw[List.range_succ,List.all_append,List.all_cons,List.all_nil,Bool.and_true]
theorem Y1{n:Nat}{w:Int}{L:List ExV}{k m:Nat}(h:VP n w L k=false)(hk:k<m):ai6 n w L m=false:=by
 unfold ai6
 rw[List.all_eq_false]
 exact⟨k,List.mem_range.2 hk,by rw[h];simp⟩
end Go.Ab
namespace Go.Ab
open Go Go.Proofs
set_option maxRecDepth 100000 in
theorem KQ(n:Nat)(L:List ExV)(low:Int)(steps:Nat)(h:matV n L)(ha:aiJ n L low=true)(hs:steps≤12):Con Tryz.prog 18 true [.ag [.v (.int .i64 (n)),.sl (L).length (qk ExV.cs (L))],.v (.int .i64 low),.v (.int .i64 steps)] []
  (if JI n L low steps=true then mnO n (n*n) (exg (rtX n L low steps) (Qz n (rtX n L low steps) L))else mnZ):=by
 generalize hQ:(if JI n L low steps=true then mnO n (n*n) (exg (rtX n L low steps) (Qz n (rtX n L low steps) L))else mnZ)=Q
 have ca:=Qb n L low h
 rw[ha]at ca
 unfold aiJ at ha
 simp only[Bool.and_eq_true,decide_eq_true_eq]at ha
 obtain⟨⟨ha1,ha2⟩, -⟩:=ha
 have h4:=h.n4
 have hq:=jq h4
 have cs:=zw steps 0 12
 rw[show(decide (0≤(steps:Int))&&decide ((steps:Int)≤12))=true by rw[decide_eq_true (by omega),decide_eq_true (by omega)];rfl]at cs
 have cg:=Yf n L (by have:=h.l16;omega)
 have cr:=Jv n L (low-10) 0 h4 h.len h.bd4 (by omega)
 have ci:=arI n h4
 have hst0:adJ n L (low-10) 0=(rSt n (low-10) L 0).1:=rfl
 have hst1:gId n=(rSt n (low-10) L 0).2:=rfl
 rw[hst0]at cr
 rw[hst1]at ci
 have hS:=afZ (w:=low-10) h4 h.len h.bd (by omega)
 have hl:=fun k=>aan (n:=n) (w:=low-10) (L:=L) k
 have hr1:∀k,(rSt n (low-10) L (k+1)).1=rNx n (low-10) (rSt n (low-10) L k).1 (rSt n (low-10) L k).2:=fun _=>rfl
 have hr2:∀k,(rSt n (low-10) L (k+1)).2=rNx n (low-10) (rSt n (low-10) L k).2 (rSt n (low-10) L k).1:=fun _=>rfl
 refine Con.of_aw Tryz.func18 rfl Tryz.ntmps18 (by simp) (by simp) (by simp) (W.sound ?_)
 show @W Tryz.prog 65 ⟨_⟩ ⟨fun x σ=>@q8 _ _ _ ⟨_⟩ _ ⟨_⟩ x σ⟩ _ _
 simp(disch:=omega)only[go_sem]
 refine qm (ca) ?_
 simp(disch:=omega)only[go_sem]
 refine qm (cs) ?_
 simp(disch:=omega)only[go_sem]
 refine qs rfl [⟨0,[],[]⟩,⟨2,[0],[]⟩,⟨4,[0],[]⟩,⟨5,[0],[]⟩,⟨7,[0,5],[]⟩,⟨8,[0,5],[120000000]⟩,⟨1,[5],[120000000,130000000]⟩,⟨3,[5],[120000000,130000000]⟩,⟨6,[],[120000000,130000000]⟩,⟨9,[],[]⟩,⟨10,[],[]⟩] (by kernel_rfl) ?_
 simp(disch:=omega)only[go_sem]
 refine qa (cg) ?_
 simp(disch:=omega)only[go_sem]
 refine qa (cr) ?_
 simp(disch:=omega)only[go_sem]
 refine qa (ci) ?_
 simp(disch:=omega)only[go_sem]
 refine qj (fun i:Nat=>[(1,.v (.int .i64 low)),(3,.pt 2 0),(6,.pt 3 0),(7,.pt 4 0),(9,.v (.int .i64 (low-10))),(10,.pt 0 0),(11,.pt 1 0),(35,.v (.int .i64 steps)),(36,.v (.int .i64 i))])
  (fun i=>[(0,.own 0 [.v (.int .i64 n),.sl (rSt n (low-10) L i).1.length (qk ExV.cs (rSt n (low-10) L i).1)]),(1,.own 0 [.v (.int .i64 n),.sl (rSt n (low-10) L i).2.length (qk ExV.cs (rSt n (low-10) L i).2)]),(2,.own 0 [.v (.int .i64 n),.sl L.length (qk ExV.cs L)]),(3,.own 0 [.v (.int .i64 0),.v (.slice none 0 0)]),(4,.own 0 [.v (.bool false),.v (.slice none 0 0),.v (.int .i64 0)])])
  (fun i=>i≤steps∧ai6 n (low-10) L i=true) (fun i=>steps-i) 0 ⟨by omega,rfl⟩
  (Le.lst [(0,120000000),(1,130000000),(2,50000000),(3,80000000),(4,90000000)] _ _ rfl (by simp(disch:=omega)only[go_sem]) (by simp(disch:=omega)only[go_sem])) ?_
 rintro i ⟨hi,hAll⟩
 obtain⟨b1,b2⟩:=hS i (by omega) hAll
 obtain⟨l1,l2⟩:=hl i
 have hsucc:=VQ (n:=n) (w:=low-10) (L:=L) (k:=i)
 rw[hAll,Bool.true_and]at hsucc
 have hG:VP n (low-10) L i=(akr n (rSt n (low-10) L i).1 (rSt n (low-10) L i).2&&ank n (low-10) (rSt n (low-10) L i).1 (rSt n (low-10) L i).2):=rfl
 have hfal:=Y1 (n:=n) (w:=low-10) (L:=L) (k:=i) (m:=steps)
 simp(disch:=omega)only[go_sem]
 refine qh (fun c1=>?_) (fun c1=>?_)
 ·have g1:=hr1 i
  have g2:=hr2 i
  have hbad:VP n (low-10) L i=false→JI n L low steps=false:=fun hg=>by unfold JI;rw[hfal hg (by omega),Bool.false_and]
  cases hv:akr n (rSt n (low-10) L i).1 (rSt n (low-10) L i).2
  ·have cS:=Vi n (rSt n (low-10) L i).1 (rSt n (low-10) L i).2 (low-10) h4 l1 l2 (qq b1 (by omega) (by omega)) (qq b2 (by omega) (by omega)) (by omega) hv
   rw[hv,Bool.false_and]at hG
   rw[hbad hG,if_neg (by simp)]at hQ
   subst hQ
   generalize (rSt n (low-10) L i).1=X at*
   generalize (rSt n (low-10) L i).2=Z at*
   simp(disch:=omega)only[go_sem,c1]
   refine qa (cS) ?_
   simp(disch:=omega)only[go_sem]
   refine ql [] [] [] [.ag [.v (.int .i64 0),.v (.slice none 0 0)],.ag [.v (.bool false),.v (.slice none 0 0),.v (.int .i64 0)],.v (.bool false)] rfl (by simp(disch:=omega)only[go_sem]) (by simp(disch:=omega)only[go_sem]) (by simp) (by intro _;simp[zb,AV.pu,AV.pu.puL,Ob.pu,qQ]) ⟨rfl,rfl⟩
  ·have cS:=Kt n (rSt n (low-10) L i).1 (rSt n (low-10) L i).2 (low-10) h4 l1 l2 (qq b1 (by omega) (by omega)) (qq b2 (by omega) (by omega)) (by omega) hv
   rw[hv,Bool.true_and]at hG
   rw[←g1,←g2]at cS
   generalize hX2:(rSt n (low-10) L (i+1)).1=X2 at*
   generalize hZ2:(rSt n (low-10) L (i+1)).2=Z2 at*
   generalize (rSt n (low-10) L i).1=X at*
   generalize (rSt n (low-10) L i).2=Z at*
   cases hf:ank n (low-10) X Z
   ·rw[hf]at cS hG
    rw[hbad hG,if_neg (by simp)]at hQ
    subst hQ
    simp(disch:=omega)only[go_sem,c1]
    refine qa (cS) ?_
    simp(disch:=omega)only[go_sem]
    refine ql [] [] [] [.ag [.v (.int .i64 0),.v (.slice none 0 0)],.ag [.v (.bool false),.v (.slice none 0 0),.v (.int .i64 0)],.v (.bool false)] rfl (by simp(disch:=omega)only[go_sem]) (by simp(disch:=omega)only[go_sem]) (by simp) (by intro _;simp[zb,AV.pu,AV.pu.puL,Ob.pu,qQ]) ⟨rfl,rfl⟩
   ·rw[hf]at cS hG
    rw[hG]at hsucc
    simp(disch:=omega)only[go_sem,c1]
    refine qa (cS) ?_
    simp(disch:=omega)only[go_sem]
    refine qs rfl [⟨0,[],[]⟩,⟨1,[0],[]⟩,⟨2,[1],[]⟩,⟨3,[],[]⟩] (by kernel_rfl) ?_
    simp(disch:=omega)only[go_sem]
    exact qe (i+1) [] ⟨by omega,hsucc⟩ (by show steps-(i+1)<steps-i;omega) rfl (by simp(disch:=omega)only[go_sem];try omega) (by simp(disch:=omega)only[go_sem,hX2,hZ2])
 ·obtain rfl:i=steps:=by omega
  have cR:=Jv n (rSt n (low-10) L i).1 low 0 h4 l1 (qq b1 (by omega) (by omega)) (by omega)
  change Con _ _ _ _ _ (isA (.ag [.v (.int .i64 (n)),.sl (rtX n L low i).length (qk ExV.cs (rtX n L low i))]))at cR
  have lX:(rtX n L low i).length=n*n:=Qp
  have bX:gbd (-10000) 10000 (rtX n L low i):=qq (X6 (low:=low) (mode:=0) l1 b1 (by omega) (by omega)) (by omega) (by omega)
  have bL:gbd (-10000) 10000 L:=qq h.bd (by omega) (by omega)
  have cE:=Ku n (rtX n L low i) L h4 lX h.len bX bL
  have bE:=(aal h4 lX h.len bX bL).2.2
  have cWU:=Ye n (rtX n L low i) (Qz n (rtX n L low i) L) (by omega) (qq bX (by omega) (by omega)) (bE.mono (by omega) (by omega))
  have cWZ:=Yd n (rtX n L low i) (Qz n (rtX n L low i) L) (by omega) (qq bX (by omega) (by omega)) (bE.mono (by omega) (by omega))
  have hFp:=qw (exg (rtX n L low i) (Qz n (rtX n L low i) L))
  unfold JI at hQ
  rw[hAll,Bool.true_and]at hQ
  generalize exg (rtX n L low i) (Qz n (rtX n L low i) L)=g at*
  generalize Qz n (rtX n L low i) L=R at*
  generalize rtX n L low i=X at*
  generalize (rSt n (low-10) L i).1=X0 at*
  generalize (rSt n (low-10) L i).2=Z0 at*
  cases hc:(X.all ExV.fit&&R.fit)
  ·have cW:=cWZ hc
   rw[hc,if_neg (by simp)]at hQ
   subst hQ
   simp(disch:=omega)only[go_sem,c1]
   refine qa (cR) ?_
   simp(disch:=omega)only[go_sem]
   refine qs rfl [⟨0,[],[]⟩,⟨1,[0],[]⟩,⟨2,[0,1],[]⟩,⟨3,[0,1],[]⟩,⟨4,[0],[]⟩,⟨5,[],[]⟩,⟨6,[],[]⟩,⟨7,[],[]⟩,⟨8,[],[]⟩,⟨9,[],[]⟩,⟨10,[],[]⟩,⟨11,[],[]⟩] (by kernel_rfl) ?_
   simp(disch:=omega)only[go_sem]
   refine qa (cg) ?_
   simp(disch:=omega)only[go_sem]
   refine qa (cE) ?_
   simp(disch:=omega)only[go_sem]
   refine qz cW (by simp(disch:=omega)only[go_sem]) ?_
   rintro r hs ⟨rfl,rfl⟩
   refine⟨by simp[qB];try simp(disch:=omega)only[go_sem],?_⟩
   simp(disch:=omega)only[go_sem]
   refine ql [] [] [] [.ag [.v (.int .i64 0),.v (.slice none 0 0)],.ag [.v (.bool false),.v (.slice none 0 0),.v (.int .i64 0)],.v (.bool false)] rfl (by simp(disch:=omega)only[go_sem]) (by simp(disch:=omega)only[go_sem]) (by simp) (by intro _;simp[zb,AV.pu,AV.pu.puL,Ob.pu,qQ]) ⟨rfl,rfl⟩
  ·have cW:=cWU hc
   rw[lX]at cW
   rw[hc,if_pos rfl]at hQ
   subst hQ
   simp(disch:=omega)only[go_sem,c1]
   refine qa (cR) ?_
   simp(disch:=omega)only[go_sem]
   refine qs rfl [⟨0,[],[]⟩,⟨1,[0],[]⟩,⟨2,[0,1],[]⟩,⟨3,[0,1],[]⟩,⟨4,[0],[]⟩,⟨5,[],[]⟩,⟨6,[],[]⟩,⟨7,[],[]⟩,⟨8,[],[]⟩,⟨9,[],[]⟩,⟨10,[],[]⟩,⟨11,[],[]⟩] (by kernel_rfl) ?_
   simp(disch:=omega)only[go_sem]
   refine qa (cg) ?_
   simp(disch:=omega)only[go_sem]
   refine qa (cE) ?_
   simp(disch:=omega)only[go_sem]
   refine qz cW (by simp(disch:=omega)only[go_sem,lX]) ?_
   rintro r hs ⟨rfl,rfl⟩
   refine⟨⟨by simp;omega,Xd fun j hj=>?_⟩,?_⟩
   ·repeat rw[qi (by omega)]
    exact anm (by simp;omega) (by omega)
   have hrow:ze (rho 630000000 []) (qk (dcs 1) (prF g (n*n)))=qk (dcs 630000001) (prF g (n*n)):=zH fun j hj=>by
    unfold rho;rw[if_pos (by omega)];omega
   have hend:rho 630000000 [] (n*n+1)=630000001+n*n:=by unfold rho;rw[if_pos (by omega)];omega
   simp(disch:=omega)only[go_sem,K0,qp,hrow,hend]
   refine anx 630000000 (630000001+n*n) n (n*n) g (by omega) (by omega) (by omega) (by omega) ?_ (fun j hj=>?_) ?_ agD (fun L=>ahy)
   ·repeat rw[qi (by omega)]
    rw[qp (by omega)]
    repeat rw[qi (by omega)]
    rw[qn]
   ·repeat rw[qi (by omega)]
    rw[show 630000000+1+j=630000001+j by omega,qS (by omega)]
   ·repeat rw[qi (by omega)]
    rw[qS (by omega)]
theorem yb(r:AV)(low:Int)(steps:Int)(ca:Con Tryz.prog 51 true [r,.v (.int .i64 low)] [] (isA (.v (.bool false))))(hr:∃(k:Int) (m:Nat) (cs:List AV),r=.ag [.v (.int .i64 k),.sl m cs]):Con Tryz.prog 18 true [r,.v (.int .i64 low),.v (.int .i64 steps)] [] mnZ:=by
 obtain⟨k,m,cs,rfl⟩:=hr
 refine Con.of_aw Tryz.func18 rfl Tryz.ntmps18 (by simp) (by simp) (by simp) (W.sound ?_)
 show @W Tryz.prog 65 ⟨_⟩ ⟨fun x σ=>@q8 _ _ _ ⟨_⟩ _ ⟨_⟩ x σ⟩ _ _
 simp(disch:=omega)only[go_sem]
 refine qm (ca) ?_
 simp(disch:=omega)only[go_sem]
 refine ql [] [] [] [.ag [.v (.int .i64 0),.v (.slice none 0 0)],.ag [.v (.bool false),.v (.slice none 0 0),.v (.int .i64 0)],.v (.bool false)] rfl (by simp(disch:=omega)only[go_sem]) (by simp(disch:=omega)only[go_sem]) (by simp) (by intro _;simp[zb,AV.pu,AV.pu.puL,Ob.pu,qQ]) ⟨rfl,rfl⟩
theorem Yu(n:Nat)(L:List ExV)(low:Int)(steps:Int)(h:matV n L)(hs:(decide (0≤steps)&&decide (steps≤12))=false):Con Tryz.prog 18 true [.ag [.v (.int .i64 (n)),.sl (L).length (qk ExV.cs (L))],.v (.int .i64 low),.v (.int .i64 steps)] [] mnZ:=by
 have ca:=Qb n L low h
 cases hb:aiJ n L low
 ·rw[hb]at ca
  exact yb _ low steps ca ⟨_,_,_,rfl⟩
 ·rw[hb]at ca
  have cs:=zw steps 0 12
  rw[hs]at cs
  refine Con.of_aw Tryz.func18 rfl Tryz.ntmps18 (by simp) (by simp) (by simp) (W.sound ?_)
  show @W Tryz.prog 65 ⟨_⟩ ⟨fun x σ=>@q8 _ _ _ ⟨_⟩ _ ⟨_⟩ x σ⟩ _ _
  simp(disch:=omega)only[go_sem]
  refine qm (ca) ?_
  simp(disch:=omega)only[go_sem]
  refine qm (cs) ?_
  simp(disch:=omega)only[go_sem]
  refine ql [] [] [] [.ag [.v (.int .i64 0),.v (.slice none 0 0)],.ag [.v (.bool false),.v (.slice none 0 0),.v (.int .i64 0)],.v (.bool false)] rfl (by simp(disch:=omega)only[go_sem]) (by simp(disch:=omega)only[go_sem]) (by simp) (by intro _;simp[zb,AV.pu,AV.pu.puL,Ob.pu,qQ]) ⟨rfl,rfl⟩
end Go.Ab
namespace Go.Ab
open Go Go.Proofs
/-! ### Rounded middles and how far they are off:in one form-/
theorem asw(x:ExV):x.can.abs=x.abs.can:=by
 show(⟨false,oM x.m,oE x.m x.e⟩:ExV)=⟨oS false x.m,oM x.m,oE x.m x.e⟩
 have:oS false x.m=false:=by unfold oS;split<;>rfl
 rw[this]
theorem acF{x:ExV}:x.can.m=0↔x.m=0:=zZ
theorem jb(x y:ExV):(x.plus y.can).can=(x.plus y).can:=by
 obtain⟨K,hK⟩:∃K:Nat, -(K:Int)≤x.e∧ -(K:Int)≤y.e:=⟨(max (-x.e) (-y.e)).toNat,by omega,by omega⟩
 rw[←js,ab0 hK.1 hK.2]
theorem zy{l:List ExV}{i:Nat}:(l.map ExV.can).getD i ex0=(l.getD i ex0).can:=by
 rw[List.getD_eq_getElem?_getD,List.getElem?_map,List.getD_eq_getElem?_getD]
 cases l[i]? with
 |none=>exact J7.symm
 |some x=>rfl
theorem acs{n:Nat}{l:List ExV}{j:Nat}:∀k,csN n (l.map ExV.can) j k=csN n l j k
 |0=>rfl
 |k+1=>by
  show((csN n (l.map ExV.can) j k).plus ((l.map ExV.can).getD (k*n+j) ex0).abs).can=((csN n l j k).plus (l.getD (k*n+j) ex0).abs).can
  rw[acs k,zy,asw,jb]
theorem ab5{n:Nat}{l:List ExV}:∀j,nsN n (l.map ExV.can) j=nsN n l j
 |0=>rfl
 |j+1=>by
  show jR (nsN n (l.map ExV.can) j) (csN n (l.map ExV.can) j n)=jR (nsN n l j) (csN n l j n)
  rw[ab5 j,acs]
theorem adw{n:Nat}{l:List ExV}(j:Nat):(zx n (l.map ExV.can) j).can=(zx n l j).can:=by
 rw[←JR,ab5,JR]
theorem aqH{n:Nat}{L:List ExV}{F:ExV→ExV}(hl:L.length=n*n):gl n (fun i j=>F (L.getD (i*n+j) ex0)) (n*n)=L.map F:=by
 have et:∀t,t/n*n+t % n=t:=fun t=>by rw[Nat.mul_comm];exact Nat.div_add_mod t n
 unfold gl
 apply List.ext_getElem
 ·simp[hl]
 ·intro i h1 h2
  simp only[List.length_map,List.length_range]at h1
  simp[et,List.getD_eq_getElem?_getD,List.getElem?_eq_getElem (show i<L.length by omega)]
theorem aly{n:Nat}{L:List ExV}{low md:Int}(hl:L.length=n*n):adJ n L low md=L.map fun x=>x.rnd low md:=aqH (F:=fun x=>x.rnd low md) hl
def fwC(v:SpV)(x:ExV):ExV:=jR (v.hi.plus x.neg).can.abs (x.plus v.lo.neg).can.abs
def fwL(V:List SpV)(X:List ExV)(k:Nat):List ExV:=(List.range k).map fun i=>fwC (V.getD i sp0) (X.getD i ex0)
end Go.Ab
namespace Go.Ab
open Go Go.Proofs
/-! ### Roots in one form:plain laws-/
theorem Qg(x y:ExV):(x.times y.can).can=(x.times y).can:=by
 obtain⟨K,hK⟩:∃K:Nat, -(K:Int)≤x.e∧ -(K:Int)≤y.e:=⟨(max (-x.e) (-y.e)).toNat,by omega,by omega⟩
 have e1: -((K+K:Nat):Int)≤(x.times y.can).e:=by have:=ju hK.2;show _≤x.e+y.can.e;omega
 have e2: -((K+K:Nat):Int)≤(x.times y).e:=by show _≤x.e+y.e;omega
 exact Z7 e1 e2 (by rw[QU hK.1 (ju hK.2),QU hK.1 hK.2,jz hK.2])
theorem Zl(x y:ExV):(x.can.times y).can=(x.times y).can:=by
 obtain⟨K,hK⟩:∃K:Nat, -(K:Int)≤x.e∧ -(K:Int)≤y.e:=⟨(max (-x.e) (-y.e)).toNat,by omega,by omega⟩
 have e1: -((K+K:Nat):Int)≤(x.can.times y).e:=by have:=ju hK.1;show _≤x.can.e+y.e;omega
 have e2: -((K+K:Nat):Int)≤(x.times y).e:=by show _≤x.e+y.e;omega
 exact Z7 e1 e2 (by rw[QU (ju hK.1) hK.2,QU hK.1 hK.2,jz hK.1])
theorem ak7(x:ExV):x.can.neg=x.neg.can:=by
 show(⟨!oS x.s x.m&&decide (oM x.m≠0),oM x.m,oE x.m x.e⟩:ExV)=⟨oS (!x.s&&decide (x.m≠0)) x.m,oM x.m,oE x.m x.e⟩
 have:(!oS x.s x.m&&decide (oM x.m≠0))=oS (!x.s&&decide (x.m≠0)) x.m:=by
  unfold oS
  by_cases h:x.m=0
  ·rw[if_pos h,if_pos h,decide_eq_false (fun hh=>hh (zZ.2 h)),Bool.and_false]
  ·rw[if_neg h,if_neg h,decide_eq_true (show x.m≠0 from h),decide_eq_true (show oM x.m≠0 from fun hh=>h (zZ.1 hh))]
 rw[this]
theorem yS(x:ExV)(k:Nat):x.can.sgn k=(x.sgn k).can:=by
 unfold ExV.sgn
 split
 ·exact ak7 x
 ·rfl
theorem agq{n:Nat}{l:List ExV}{r c i:Nat}:∀j,mnC n (l.map ExV.can) r c i j=(mnC n l r c i j).map ExV.can
 |0=>rfl
 |j+1=>by
  rw[mnC,mnC,agq j,zy]
  split
  ·rw[List.map_append];rfl
  ·rfl
theorem aax{n:Nat}{l:List ExV}{r c:Nat}:∀i,mnR n (l.map ExV.can) r c i=(mnR n l r c i).map ExV.can
 |0=>rfl
 |i+1=>by rw[mnR,mnR,aax i,agq,List.map_append]
theorem acl{f g:Nat→ExV}:∀k,(∀j,j<k→(f j).can=(g j).can)→((List.range k).foldl (fun s j=>s.plus (f j)) ex0).can=((List.range k).foldl (fun s j=>s.plus (g j)) ex0).can
 |0,_=>rfl
 |k+1,h=>by
  rw[List.range_succ,List.foldl_append,List.foldl_append]
  show(ExV.plus _ (f k)).can=(ExV.plus _ (g k)).can
  rw[←js,acl k (fun j hj=>h j (by omega)),←jb,h k (by omega),jb,js]
theorem Ju:∀(n:Nat) (l:List ExV),(zd n (l.map ExV.can)).can=(zd n l).can
 |0,l=>rfl
 |n+1,l=>by
  rw[zd,zd]
  refine acl (n+1) fun j hj=>?_
  rw[zy,aax,←yS,←yS,←Qg,Ju n,Qg,Zl]
theorem amP{n:Nat}{l:List ExV}{a b:Nat}:(acM n (l.map ExV.can) a b).can=(acM n l a b).can:=by
 unfold acM
 rw[←yS,←yS,aax,Ju]
theorem Jr{n k:Nat}{f g:Nat→Nat→ExV}(h:∀t,t<k→f (t/n) (t % n)=g (t/n) (t % n)):gl n f k=gl n g k:=List.map_congr_left fun t ht=>h t (List.mem_range.1 ht)
theorem alz{n:Nat}{l:List ExV}:(y4 n (l.map ExV.can)).map ExV.can=(y4 n l).map ExV.can:=by
 unfold y4
 rw[yJ,yJ]
 exact Jr fun t _=>amP
theorem ahv{n:Nat}{l:List ExV}:(zd n (l.map ExV.can)).m=0↔(zd n l).m=0:=by
 have h:=Ju n l
 have h1:=congrArg ExV.m h
 have a:(zd n (l.map ExV.can)).can.m=0↔_:=acF
 have b:(zd n l).can.m=0↔_:=acF
 rw[←a,←b,h1]
theorem X7{n:Nat}{l:List ExV}{low:Int}(h0:(zd n l).m≠0):(zO n (l.map ExV.can) low).map ExV.can=(zO n l low).map ExV.can:=by
 have h1:(zd n (l.map ExV.can)).m≠0:=fun h=>h0 (ahv.1 h)
 unfold zO
 rw[yJ,yJ]
 refine Jr fun t ht=>?_
 have e:((y4 n (l.map ExV.can)).getD (t/n*n+t % n) ex0).can=((y4 n l).getD (t/n*n+t % n) ex0).can:=by
  rw[←zy,alz,zy]
 rw[←XK h1,e,Ju,XK h0]
theorem acr{n:Nat}{A B:List ExV}{i j:Nat}:∀k,(ZF n (A.map ExV.can) (B.map ExV.can) i j k).can=(ZF n A B i j k).can
 |0=>rfl
 |k+1=>by
  rw[Zc,Zc,←js,acr k,zy,zy,←jb,Qg,Zl,jb,js]
theorem adI{n:Nat}{A B:List ExV}:(qO n (A.map ExV.can) (B.map ExV.can)).map ExV.can=(qO n A B).map ExV.can:=by
 unfold qO
 rw[yJ,yJ]
 exact Jr fun t _=>acr n
def adT(neg:Bool)(A B:List ExV)(k:Nat):List ExV:=(List.range k).map fun i=>((A.getD i ex0).plus (bif neg then(B.getD i ex0).neg else B.getD i ex0)).can
theorem YF{neg:Bool}{A B:List ExV}{k:Nat}:(adT neg A B k).length=k:=by simp[adT]
theorem amR{neg:Bool}{A B:List ExV}{k:Nat}:adT neg A B (k+1)=adT neg A B k++[((A.getD k ex0).plus (bif neg then(B.getD k ex0).neg else B.getD k ex0)).can]:=by simp[adT,List.range_succ]
theorem aaH{n:Nat}(t:Nat):t/n*n+t % n=t:=by rw[Nat.mul_comm];exact Nat.div_add_mod t n
theorem amS{n:Nat}{A B:List ExV}:adT false (A.map ExV.can) (B.map ExV.can) (n*n)=(jx n A B).map ExV.can:=by
 unfold adT jx
 rw[yJ]
 exact List.map_congr_left fun t _=>by
  dsimp only
  rw[aaH,zy,zy]
  show(ExV.plus _ (ExV.can _)).can=_
  rw[jb,js]
theorem aiT{n:Nat}{A B:List ExV}:adT true (A.map ExV.can) (B.map ExV.can) (n*n)=(yh n A B).map ExV.can:=by
 unfold adT yh
 rw[yJ]
 exact List.map_congr_left fun t _=>by
  dsimp only
  rw[aaH,zy,zy]
  show(ExV.plus _ (ExV.neg (ExV.can _))).can=_
  rw[aqe]
theorem JJ{n:Nat}{L:List ExV}{low md:Int}(hl:L.length=n*n):((L.map ExV.can).map fun x=>(x.rnd low md).can)=(adJ n L low md).map ExV.can:=by
 rw[aly hl,List.map_map,List.map_map]
 exact List.map_congr_left fun x _=>afT
theorem afK{n:Nat}{L:List ExV}{y:ExV}(hl:L.length=n*n):((L.map ExV.can).map fun x=>(x.times y).can)=(zp n L y).map ExV.can:=by
 rw[←adi hl,List.map_map]
 exact List.map_congr_left fun x _=>Zl x y
theorem agY{n:Nat}{g:Nat→Nat→ExV}:(gl n g (n*n)).length=n*n:=zj
theorem apt{n:Nat}{w:Int}{X Z:List ExV}(h0:(zd n Z).m≠0):
  ((adT false (X.map ExV.can) ((zO n (Z.map ExV.can) w).map ExV.can) (n*n)).map fun x=>(x.times ZD).can).map (fun x=>(x.rnd w 0).can)=(rNx n w X Z).map ExV.can:=by
 rw[X7 h0,amS,afK (n:=n) (L:=jx n X (zO n Z w)) agY,JJ (n:=n) (L:=zp n (jx n X (zO n Z w)) ZD) agY];rfl
theorem app{n:Nat}{X A:List ExV}:(zx n (adT true ((qO n (X.map ExV.can) (X.map ExV.can)).map ExV.can) (A.map ExV.can) (n*n)) n).can=(Qz n X A).can:=by
 rw[adI,aiT,adw];rfl
theorem arP{L:List ExV}(h:∀x∈L,x.ok=true):L.map ExV.can=L:=by
 conv=>rhs;rw[←List.map_id L]
 exact List.map_congr_left fun x hx=>VZ (h x hx)
theorem aqG(i j:Nat):(idF i j).can=idF i j:=by
 unfold idF
 split
 ·exact aao (k:=0)
 ·exact J7
theorem aqL{n:Nat}:(gId n).map ExV.can=gId n:=by
 unfold gId
 rw[yJ]
 exact Jr fun t _=>aqG _ _
theorem Jw{L:List ExV}:∀x∈L.map ExV.can,x.can=x:=fun x hx=>by
 obtain⟨y,_,rfl⟩:=List.mem_map.1 hx
 exact abA y
end Go.Ab
namespace Go.Ab
open Go Go.Proofs
/-! ### The specification's rounded exponential-/
set_option maxRecDepth 100000 in
theorem QR(n:Nat)(l:List ExV)(low md:Int)(hn:n≤4)(hl:l.length=n*n)(hcn:∀x∈l,x.can=x)(hm:0≤md∧md≤4)(hb:gbd (-400000) 400000 l)(hlo: -400000≤low∧low≤400000):Con Tryz.prog 41 false [.ag [.v (.int .i64 (n)),.sl (l).length (qk ExV.cs (l))],.v (.int .i64 low),.v (.int .i64 md)] [] (isA (.ag [.v (.int .i64 n),.sl (l.map (fun x=>(x.rnd low md).can)).length (qk ExV.cs (l.map (fun x=>(x.rnd low md).can)))])):=by
 refine Con.frzA ?_
 have hq:=jq hn
 have hpost:l.map (fun x=>(x.rnd low md).can)=mpT l (fun x=>(x.rnd low md).can) (n*n):=by rw[←hl];exact Zx.symm
 rw[hpost]
 refine Con.of_aw Tryz.func41 rfl Tryz.ntmps41 (by simp) (by simp) (by simp) (W.sound ?_)
 show @W Tryz.prog 35 ⟨_⟩ ⟨fun x σ=>@q8 _ _ _ ⟨_⟩ _ ⟨_⟩ x σ⟩ _ _
 simp(disch:=omega)only[go_sem]
 refine qz (jS n hn) (by simp(disch:=omega)only[go_sem]) ?_
 rintro r hs ⟨rfl,rfl⟩
 refine⟨by simp[qB];simp(disch:=omega)only[go_sem],?_⟩
 simp(disch:=omega)only[go_sem]
 refine qj (fun i:Nat=>[(1,.v (.int .i64 low)),(2,.v (.int .i64 md)),(3,.pt 2 0),(6,.pt 3 0),(7,.pt 4 0),(8,.v (.int .i64 i))])
  (fun i=>[(1,.own 3 (qk ExV.cs (mpT l (fun x=>(x.rnd low md).can) i)++zA (n*n-i) z3)),(2,.own 0 [.v (.int .i64 n),.sl l.length (qk ExV.cs l)]),(3,.own 0 [.v (.int .i64 0),.v (.slice none 0 0)]),(4,.own 0 [.v (.int .i64 n),.rf 1 0 (n*n)])]) (fun i=>i≤n*n) (fun i=>n*n-i) 0 (by omega)
  (Le.lst [(1,130000000),(2,50000000),(3,80000000),(4,90000000)] _ _ rfl (by simp(disch:=omega)only[go_sem]) (by simp(disch:=omega)only[go_sem,Nat.sub_zero,show mpT l (fun x=>(x.rnd low md).can) 0=[] from rfl,j8,List.nil_append])) ?_
 intro i hi
 simp(disch:=omega)only[go_sem]
 refine qh (fun h1=>?_) (fun h1=>?_)
 ·have hi2:i<n*n:=by omega
  obtain⟨k0,hk0⟩:∃k0,n*n-i=k0+1:=⟨n*n-i-1,by omega⟩
  have hk1:n*n-(i+1)=k0:=by omega
  have hAl:(mpT l (fun x=>(x.rnd low md).can) i).length=i:=jY (by omega)
  have hs:=Q4 (F:=fun x=>(x.rnd low md).can) ex0 (l:=l) (i:=i) (by omega)
  have hc:=zJ (l:=l) (i:=i) (by omega)
  have hmem:l.getD i ex0∈l:=by rw[List.getD_eq_getElem?_getD,List.getElem?_eq_getElem (by omega)];exact List.getElem_mem _
  have hx:=hb _ hmem
  have hcx:=hcn _ hmem
  generalize l.getD i ex0=x at*
  have c1:=y9 x low md hcx hm hx hlo
  generalize (x.rnd low md).can=w at*
  rw[hk0]
  generalize mpT l (fun x=>(x.rnd low md).can) i=A at*
  obtain rfl:A.length=i:=hAl
  simp(disch:=omega)only[go_sem,h1]
  refine qs rfl [⟨0,[],[]⟩,⟨1,[],[]⟩,⟨2,[1],[]⟩,⟨3,[1],[]⟩,⟨4,[1],[]⟩,⟨5,[1,4],[]⟩,⟨6,[1],[]⟩,⟨7,[1],[]⟩,⟨8,[1,4,7],[]⟩,⟨9,[1,4,7],[]⟩,⟨10,[1],[]⟩,⟨11,[1],[]⟩,⟨12,[1],[]⟩,⟨13,[1],[]⟩,⟨14,[],[]⟩,⟨15,[],[]⟩] (by kernel_rfl) ?_
  simp(disch:=omega)only[go_sem,hc]
  refine⟨by omega,by omega,?_⟩
  refine qa (c1) ?_
  simp(disch:=omega)only[go_sem]
  rw[Qs]
  exact⟨by omega,by rw[List.length_append,y5,ZV];omega,qe (A.length+1) [] (by show A.length+1≤n*n;omega) (by show n*n-(A.length+1)<k0+1;omega) rfl (by simp(disch:=omega)only[go_sem];try omega) (by simp(disch:=omega)only[go_sem,hk1,hs])⟩
 ·simp(disch:=omega)only[go_sem,h1]
  obtain rfl:i=n*n:=by omega
  have hll:(mpT l (fun x=>(x.rnd low md).can) (n*n)).length=n*n:=jY (by omega)
  rw[hll]
  refine ql [(0,1)] [.own 3 (qk ExV.cs (mpT l (fun x=>(x.rnd low md).can) (n*n)))] [] [.ag [.v (.int .i64 n),.rf 0 0 (n*n)]] rfl (by simp(disch:=omega)only[go_sem]) (by simp(disch:=omega)only[go_sem,Nat.sub_self,YT,List.append_nil]) (by simp) (by simp) ?_
  show qE _ 6 _=_
  simp(disch:=omega)only[go_sem,zg,zv hll]
end Go.Ab
namespace Go.Ab
open Go Go.Proofs
/-! ### The specification's sums,minors and determinants-/
set_option maxRecDepth 100000 in
theorem Yi(n:Nat)(l l':List ExV)(neg:Bool)(hn:n≤4)(hl:l.length=n*n)(hl':l'.length=n*n)(hb:gbd (-400000) 400000 l)(hb':gbd (-400000) 400000 l'):Con Tryz.prog 46 false [.ag [.v (.int .i64 (n)),.sl (l).length (qk ExV.cs (l))],.ag [.v (.int .i64 (n)),.sl (l').length (qk ExV.cs (l'))],.v (.bool neg)] [] (isA (.ag [.v (.int .i64 n),.sl (adT neg l l' (n*n)).length (qk ExV.cs (adT neg l l' (n*n)))])):=by
 refine Con.frzA ?_
 have hq:=jq hn
 refine Con.of_aw Tryz.func46 rfl Tryz.ntmps46 (by simp) (by simp) (by simp) (W.sound ?_)
 show @W Tryz.prog 40 ⟨_⟩ ⟨fun x σ=>@q8 _ _ _ ⟨_⟩ _ ⟨_⟩ x σ⟩ _ _
 simp(disch:=omega)only[go_sem]
 refine qz (jS n hn) (by simp(disch:=omega)only[go_sem]) ?_
 rintro r hs ⟨rfl,rfl⟩
 refine⟨by simp[qB];simp(disch:=omega)only[go_sem],?_⟩
 simp(disch:=omega)only[go_sem]
 refine qj (fun i:Nat=>[(2,.v (.bool neg)),(3,.pt 2 0),(4,.pt 3 0),(6,.pt 4 0),(7,.pt 5 0),(8,.v (.int .i64 i))])
  (fun i=>[(1,.own 3 (qk ExV.cs (adT neg l l' i)++zA (n*n-i) z3)),(2,.own 0 [.v (.int .i64 n),.sl l.length (qk ExV.cs l)]),(3,.own 0 [.v (.int .i64 n),.sl l'.length (qk ExV.cs l')]),(4,.own 0 [.v (.int .i64 0),.v (.slice none 0 0)]),(5,.own 0 [.v (.int .i64 n),.rf 1 0 (n*n)])]) (fun i=>i≤n*n) (fun i=>n*n-i) 0 (by omega)
  (Le.lst [(1,140000000),(2,50000000),(3,60000000),(4,80000000),(5,90000000)] _ _ rfl (by simp(disch:=omega)only[go_sem]) (by simp(disch:=omega)only[go_sem,Nat.sub_zero,show adT neg l l' 0=[] from rfl,j8,List.nil_append])) ?_
 intro i hi
 simp(disch:=omega)only[go_sem]
 refine qh (fun h1=>?_) (fun h1=>?_)
 ·have hi2:i<n*n:=by omega
  obtain⟨k0,hk0⟩:∃k0,n*n-i=k0+1:=⟨n*n-i-1,by omega⟩
  have hk1:n*n-(i+1)=k0:=by omega
  have hAl:(adT neg l l' i).length=i:=YF
  have hs:=@amR neg l l' i
  have hc:=zJ (l:=l) (i:=i) (by omega)
  have hc':=zJ (l:=l') (i:=i) (by omega)
  have hx:=qF hb (show i<l.length by omega)
  have hy:=qF hb' (show i<l'.length by omega)
  generalize l.getD i ex0=x at*
  generalize l'.getD i ex0=y at*
  have c0:=ZN y hy
  have c1:=Qt x (bif neg then y.neg else y) hx (by cases neg;exact hy;exact ExV.neg_bd hy)
  rw[hk0]
  cases neg
  ·dsimp only[cond_false]at hs c1
   generalize (x.plus y).can=w at*
   generalize adT false l l' i=A at*
   obtain rfl:A.length=i:=hAl
   simp(disch:=omega)only[go_sem,h1,hc']
   refine⟨by omega,by omega,?_⟩
   refine qs rfl [⟨0,[],[]⟩,⟨1,[],[]⟩,⟨2,[1],[]⟩,⟨3,[1],[]⟩,⟨4,[1],[]⟩,⟨5,[1,4],[]⟩,⟨6,[1],[]⟩,⟨7,[1],[]⟩,⟨8,[1,4,7],[]⟩,⟨9,[1],[]⟩,⟨10,[],[]⟩,⟨11,[],[]⟩] (by kernel_rfl) ?_
   simp(disch:=omega)only[go_sem,hc]
   refine⟨by omega,by omega,?_⟩
   refine qa (c1) ?_
   simp(disch:=omega)only[go_sem]
   rw[Qs]
   exact⟨by omega,by rw[List.length_append,y5,ZV];omega,qe (A.length+1) [] (by show A.length+1≤n*n;omega) (by show n*n-(A.length+1)<k0+1;omega) rfl (by simp(disch:=omega)only[go_sem];try omega) (by simp(disch:=omega)only[go_sem,hk1,hs])⟩
  ·dsimp only[cond_true]at hs c1
   generalize (x.plus y.neg).can=w at*
   generalize y.neg=yn at*
   generalize adT true l l' i=A at*
   obtain rfl:A.length=i:=hAl
   simp(disch:=omega)only[go_sem,h1,hc']
   refine⟨by omega,by omega,?_⟩
   refine qa (c0) ?_
   simp(disch:=omega)only[go_sem]
   refine qs rfl [⟨0,[],[]⟩,⟨1,[],[]⟩,⟨2,[1],[]⟩,⟨3,[1],[]⟩,⟨4,[1],[]⟩,⟨5,[1,4],[]⟩,⟨6,[1],[]⟩,⟨7,[1],[]⟩,⟨8,[1,4,7],[]⟩,⟨9,[1],[]⟩,⟨10,[],[]⟩,⟨11,[],[]⟩] (by kernel_rfl) ?_
   simp(disch:=omega)only[go_sem,hc]
   refine⟨by omega,by omega,?_⟩
   refine qa (c1) ?_
   simp(disch:=omega)only[go_sem]
   rw[Qs]
   exact⟨by omega,by rw[List.length_append,y5,ZV];omega,qe (A.length+1) [] (by show A.length+1≤n*n;omega) (by show n*n-(A.length+1)<k0+1;omega) rfl (by simp(disch:=omega)only[go_sem];try omega) (by simp(disch:=omega)only[go_sem,hk1,hs])⟩
 ·simp(disch:=omega)only[go_sem,h1]
  obtain rfl:i=n*n:=by omega
  have hll:(adT neg l l' (n*n)).length=n*n:=YF
  rw[hll]
  refine ql [(0,1)] [.own 3 (qk ExV.cs (adT neg l l' (n*n)))] [] [.ag [.v (.int .i64 n),.rf 0 0 (n*n)]] rfl (by simp(disch:=omega)only[go_sem]) (by simp(disch:=omega)only[go_sem,Nat.sub_self,YT,List.append_nil]) (by simp) (by simp) ?_
  show qE _ 6 _=_
  simp(disch:=omega)only[go_sem,zg,zv hll]
set_option maxRecDepth 100000 in
theorem Yg(n:Nat)(l:List ExV)(r c:Nat)(hn:1≤n∧n≤4)(hl:l.length=n*n)(hr:r<n)(hc:c<n):Con Tryz.prog 183 false [.ag [.v (.int .i64 (n)),.sl (l).length (qk ExV.cs (l))],.v (.int .i64 r),.v (.int .i64 c)] [] (isA (.ag [.v (.int .i64 (n-1)),.sl (mnR n l r c n).length (qk ExV.cs (mnR n l r c n))])):=by
 refine Con.frzA ?_
 have hq:=jq hn.2
 refine Con.of_aw Tryz.func183 rfl Tryz.ntmps183 (by simp) (by simp) (by simp) (W.sound ?_)
 show @W Tryz.prog 50 ⟨_⟩ ⟨fun x σ=>@q8 _ _ _ ⟨_⟩ _ ⟨_⟩ x σ⟩ _ _
 simp(disch:=omega)only[go_sem]
 have hE:∀i j:Nat,i<n→j<n→i*n+j<l.length:=fun i j hi hj=>by rw[hl];exact q7 hi hj
 refine qj (fun i:Nat=>[(1,.v (.int .i64 r)),(2,.v (.int .i64 c)),(3,.pt 1 0),(6,.pt 2 0),(7,.pt 3 0),(8,.v (.int .i64 i))])
  (fun i=>[(1,.own 0 [.v (.int .i64 n),.sl l.length (qk ExV.cs l)]),(2,.own 0 [.v (.int .i64 0),.v (.slice none 0 0)]),(3,.own 0 [.v (.int .i64 (n-1)),.rf 4 0 (mnR n l r c i).length]),(4,.own 3 (qk ExV.cs (mnR n l r c i)))]) (fun i=>i≤n) (fun i=>n-i) 0 (by omega)
  ((Le.ghostC 90000000 1 4 3 (zo:=0) (cs:=[.v (.int .i64 (n-1)),.v (.slice none 0 0)]) (by simp(disch:=omega)only[go_sem]) rfl (by simp(disch:=omega)only[go_sem])).trans (Le.lst [(1,50000000),(2,80000000),(3,90000000)] _ _ rfl (by simp(disch:=omega)only[go_sem]) (by simp(disch:=omega)only[go_sem,show mnR n l r c 0=[] from rfl,j8,List.length_nil,List.set_cons_succ,List.set_cons_zero]))) ?_
 intro i hi
 simp(disch:=omega)only[go_sem]
 refine qh (fun h1=>?_) (fun h1=>?_)
 ·simp(disch:=omega)only[go_sem,h1]
  generalize hA:mnR n l r c i=A at*
  refine qj (fun j:Nat=>[(1,.v (.int .i64 r)),(2,.v (.int .i64 c)),(3,.pt 1 0),(6,.pt 2 0),(7,.pt 3 0),(8,.v (.int .i64 i)),(9,.v (.int .i64 j))])
   (fun j=>[(1,.own 0 [.v (.int .i64 n),.sl l.length (qk ExV.cs l)]),(2,.own 0 [.v (.int .i64 0),.v (.slice none 0 0)]),(3,.own 0 [.v (.int .i64 (n-1)),.rf 4 0 (A++mnC n l r c i j).length]),(4,.own 3 (qk ExV.cs (A++mnC n l r c i j)))]) (fun j=>j≤n) (fun j=>n-j) 0 (by omega)
   (Le.lst [] _ _ rfl (by simp(disch:=omega)only[go_sem]) (by simp(disch:=omega)only[go_sem,show mnC n l r c i 0=[] from rfl,List.append_nil])) ?_
  intro j hj
  have hs:mnC n l r c i (j+1)=if i≠r∧j≠c then mnC n l r c i j++[l.getD (i*n+j) ex0]else mnC n l r c i j:=rfl
  have hlen:(A++mnC n l r c i j).length≤40:=by
   have h3:=@XR n l r c i j
   have h4:=@JS n l r c i
   rw[hA]at h4
   have:i*n≤n*n:=Nat.mul_le_mul_right n (by omega)
   rw[List.length_append];omega
  generalize hB:mnC n l r c i j=B at*
  simp(disch:=omega)only[go_sem]
  refine qh (fun h2=>?_) (fun h2=>?_)
  ·by_cases c1:i=r
   ·rw[if_neg (fun h=>h.1 c1)]at hs
    simp(disch:=omega)only[go_sem,h2,decide_eq_true (show(i:Int)=r by omega)]
    exact qe (j+1) [] (by show j+1≤n;omega) (by show n-(j+1)<n-j;omega) rfl (by simp(disch:=omega)only[go_sem];try omega) (by simp(disch:=omega)only[go_sem,hs])
   by_cases c2:j=c
   ·rw[if_neg (fun h=>h.2 c2)]at hs
    simp(disch:=omega)only[go_sem,h2,decide_eq_false (show ¬(i:Int)=r by omega),decide_eq_true (show(j:Int)=c by omega)]
    exact qe (j+1) [] (by show j+1≤n;omega) (by show n-(j+1)<n-j;omega) rfl (by simp(disch:=omega)only[go_sem];try omega) (by simp(disch:=omega)only[go_sem,hs])
   ·rw[if_pos ⟨c1,c2⟩]at hs
    have hx:=hE i j (by omega) (by omega)
    have e1:(i:Int)*(n:Int)+(j:Int)=((i*n+j:Nat):Int):=by rw[Int.natCast_add,Int.natCast_mul]
    have hp1:(i:Int)*(n:Int)≤16∧0≤(i:Int)*(n:Int):=by
     have:i*n≤n*n:=Nat.mul_le_mul_right _ (by omega)
     rw[←Int.natCast_mul];omega
    have hci:=zJ (l:=l) (i:=i*n+j) hx
    generalize l.getD (i*n+j) ex0=x at*
    generalize i*n+j=p at*
    simp(disch:=omega)only[go_sem,h2,decide_eq_false (show ¬(i:Int)=r by omega),decide_eq_false (show ¬(j:Int)=c by omega)]
    refine qs rfl [⟨0,[],[]⟩,⟨1,[],[]⟩,⟨2,[1],[]⟩,⟨3,[1],[]⟩,⟨4,[1,3],[]⟩,⟨5,[1,3],[]⟩,⟨6,[1,3],[]⟩,⟨7,[1,3],[]⟩,⟨8,[1,3,6],[]⟩,⟨9,[1,3],[]⟩,⟨10,[1],[]⟩,⟨11,[1],[]⟩,⟨12,[1],[]⟩,⟨13,[],[]⟩,⟨14,[],[]⟩,⟨15,[],[]⟩] (by kernel_rfl) ?_
    simp(disch:=omega)only[go_sem,e1,hci]
    have hl4:(A++B++[x]).length=(A++B).length+1:=by simp;omega
    exact⟨⟨by omega,by omega,by omega⟩,by omega,by omega,qe (j+1) [(4,490000000)] (by show j+1≤n;omega) (by show n-(j+1)<n-j;omega) rfl (by simp(disch:=omega)only[go_sem];try omega) (by simp(disch:=omega)only[go_sem,hs,(List.append_assoc A B [x]).symm,hl4,J6,Qr])⟩
  ·obtain rfl:j=n:=by omega
   have hs2:mnR j l r c (i+1)=A++B:=by rw[mnR,hA,hB]
   simp(disch:=omega)only[go_sem,h2]
   exact qe (i+1) [] (by show i+1≤j;omega) (by show j-(i+1)<j-i;omega) rfl (by simp(disch:=omega)only[go_sem];try omega) (by simp(disch:=omega)only[go_sem,hs2])
 ·obtain rfl:i=n:=by omega
  have hl2:=@JS i l r c i
  simp(disch:=omega)only[go_sem,h1]
  generalize mnR i l r c i=A at*
  refine ql [(0,4)] [.own 3 (qk ExV.cs A)] [] [.ag [.v (.int .i64 (i-1)),.rf 0 0 A.length]] rfl (by simp(disch:=omega)only[go_sem]) (by simp(disch:=omega)only[go_sem]) (by simp) (by simp) ?_
  show qE _ 6 _=_
  simp(disch:=omega)only[go_sem,zg,J6]
theorem aeM(x:ExV):(ex0.plus x).can=x.can:=by
 obtain⟨K,hK⟩:∃K:Nat, -(K:Int)≤x.e:=⟨(-x.e).toNat,by omega⟩
 have h0: -(K:Int)≤ex0.e:=by show-(K:Int)≤0;omega
 exact Z7 (JM h0 hK) hK (by rw[yu h0 hK,arq,Int.zero_add])
theorem aeW{x:ExV}(h:x.m=0→x.s=false):x.times ex1=x:=by
 show(⟨(x.s != false)&&decide (x.m*1≠0),x.m*1,x.e+0⟩:ExV)=x
 rw[Nat.mul_one,Int.add_zero]
 obtain⟨s,m,e⟩:=x
 dsimp only at h ⊢
 by_cases h0:m=0
 ·rw[h h0,h0];rfl
 ·rw[decide_eq_true h0,Bool.and_true]
  cases s<;>rfl
theorem arC{x:ExV}(h:x.m=0→x.s=false):(zd 1 [x]).can=x.can:=by
 show(ex0.plus ((x.times ex1).sgn 0)).can=x.can
 rw[aeM]
 show(x.times ex1).can=x.can
 rw[aeW h]
set_option maxRecDepth 100000 in
theorem Yh(n:Nat):∀L:List ExV,n+1≤4→L.length=(n+1)*(n+1)→gbd (-10000) 10000 L→(∀x∈L,x.can=x)→Con Tryz.prog 98 false [.ag [.v (.int .i64 ((n+1:Nat):Int)),.sl L.length (qk ExV.cs L)]] [] (isA (.ag [.v (.bool ((zd (n+1) L).can).s),.sl (lim ((zd (n+1) L).can).m).length (qg (lim ((zd (n+1) L).can).m)),.v (.int .i64 ((zd (n+1) L).can).e)])):=by
 induction n with
 |zero=>
  intro L hn hl hb hcn
  refine Con.frzA ?_
  obtain⟨x,rfl⟩:=List.length_eq_one_iff.1 hl
  have hx:=hb x (List.mem_singleton.2 rfl)
  have e:=arC hx.1
  rw[hcn x (List.mem_singleton.2 rfl)]at e
  rw[show 0+1=1 from rfl,e,show qk ExV.cs [x]=[.v (.bool x.s),.sl (lim x.m).length (qg (lim x.m)),.v (.int .i64 x.e)] from rfl]
  refine Con.of_w (rs:=[.cell 2 44]) Tryz.func98 rfl Tryz.ntmps98 rfl ?_
  simp(disch:=omega)only[go_sem]
  exact qo
 |succ n ih=>
  intro L hn hl hb hcn
  refine Con.frzA ?_
  obtain⟨N,hN⟩:∃N,N=n+1+1:=⟨_,rfl⟩
  rw[←hN]at hn hl
  have hd:zd (n+1+1) L=(List.range N).foldl (fun s j=>s.plus (((L.getD (0*N+j) ex0).times (zd (n+1) (mnR N L 0 j N))).sgn j)) ex0:=by rw[hN];rfl
  rw[hd,←hN]
  have hb2:=Qq (lo:= -10000*(n+1+1)) (hi:=10004*(n+1)+10001) (fun j=>((L.getD (0*N+j) ex0).times (zd (n+1) (mnR N L 0 j N))).sgn j) (by omega)
  obtain⟨D,hD⟩:∃D:Nat→ExV,D=fun k=>((List.range k).foldl (fun s j=>s.plus (((L.getD (0*N+j) ex0).times (zd (n+1) (mnR N L 0 j N))).sgn j)) ex0).can:=⟨_,rfl⟩
  have hDs:∀k,D (k+1)=((D k).plus (((L.getD (0*N+k) ex0).times (zd (n+1) (mnR N L 0 k N)).can).can.sgn k)).can:=fun k=>by
   rw[hD]
   simp only[List.range_succ,List.foldl_append,List.foldl_cons,List.foldl_nil]
   have e:(((L.getD (0*N+k) ex0).times (zd (n+1) (mnR N L 0 k N))).sgn k).can=(((L.getD (0*N+k) ex0).times (zd (n+1) (mnR N L 0 k N)).can).sgn k).can:=by rw[←yS,←yS,Qg]
   rw[yS,jb,js,←jb,e,jb]
  have hD0:D 0=ex0:=by rw[hD];exact J7
  have hDN:((List.range N).foldl (fun s j=>s.plus (((L.getD (0*N+j) ex0).times (zd (n+1) (mnR N L 0 j N))).sgn j)) ex0).can=D N:=by rw[hD]
  have hmb:∀j,j<N→(mnR N L 0 j N).length=(n+1)*(n+1):=fun j hj=>by rw[yw hj,if_pos (by omega),hN];rfl
  have hDb:∀k,k≤N→(D k).bd (-40000) 40020:=fun k hk=>by
   rw[hD]
   refine zM ((hb2 k fun j hj=>?_).mono (by omega) (by omega)) (by omega) (by omega)
   have h1:=qF hb (i:=0*N+j) (by rw[hl];exact q7 (by omega) (by omega))
   have h2:=j9 (n+1) (l:=mnR N L 0 j N) (by omega) (hmb j (by omega)) (fun x hx=>hb x (jZ hl _ (Nat.le_refl _) x hx))
   exact ExV.sgn_bd ((ExV.times_bd h1 h2).mono (by omega) (by omega))
  rw[hDN]
  clear hb2 hd hDN
  refine Con.of_w (rs:=[.cell 2 44]) Tryz.func98 rfl Tryz.ntmps98 rfl ?_
  simp(disch:=omega)only[go_sem,decide_eq_false (show ¬(N:Int)=1 by omega)]
  refine qj (fun j:Nat=>[(1,.pt 1 0),(2,.pt 2 0),(3,.pt 3 0),(4,.v (.int .i64 j))])
   (fun j=>[(1,.own 0 [.v (.int .i64 N),.sl L.length (qk ExV.cs L)]),(2,.own 0 [.v (.bool false),.v (.slice none 0 0),.v (.int .i64 0)]),(3,.own 0 [.v (.bool (D j).s),.sl (lim (D j).m).length (qg (lim (D j).m)),.v (.int .i64 (D j).e)])]) (fun j=>j≤N) (fun j=>N-j) 0 (by omega)
   ((Le.nilC 50000000 1 (zo:=0) (cs:=[.v (.bool false),.v (.slice none 0 0),.v (.int .i64 0)]) (by simp(disch:=omega)only[go_sem]) rfl).trans (Le.lst [(1,30000000),(2,40000000),(3,50000000)] _ _ rfl (by simp(disch:=omega)only[go_sem]) (by simp(disch:=omega)only[go_sem,List.set_cons_succ,List.set_cons_zero,hD0,ex0,qt]))) ?_
  intro j hj
  have hs:=hDs j
  have hjb:=hDb j hj
  generalize hA:D j=A at*
  simp(disch:=omega)only[go_sem]
  refine qh (fun h1=>?_) (fun h1=>?_)
  ·have hm:=hmb j (by omega)
   have hmbd:gbd (-10000) 10000 (mnR N L 0 j N):=fun x hx=>hb x (jZ hl _ (Nat.le_refl _) x hx)
   have hmc:∀x∈mnR N L 0 j N,x.can=x:=fun x hx=>hcn x (jZ hl _ (Nat.le_refl _) x hx)
   have hlt:j<L.length:=by rw[hl];have:=q7 (n:=N) (i:=0) (j:=j) (by omega) (by omega);omega
   have hc:=zJ (l:=L) (i:=j) hlt
   have cm:=Yg N L 0 j (by omega) hl (by omega) (by omega)
   have cd:=ih (mnR N L 0 j N) (by omega) hm hmbd hmc
   have h1b:=qF hb (i:=0*N+j) (by omega)
   have h2b:=j9 (n+1) (by omega) hm hmbd
   rw[show((N:Int)-1)=((n+1:Nat):Int) by omega]at cm
   rw[show 0*N+j=j by omega]at hs h1b
   generalize L.getD j ex0=x at*
   have h2c:=zM h2b (by omega) (by omega)
   generalize (zd (n+1) (mnR N L 0 j N)).can=y at*
   generalize mnR N L 0 j N=M at*
   have ct:=ZO x y (h1b.mono (by omega) (by omega)) (h2c.mono (by omega) (by omega))
   have bt:=zM (ExV.times_bd h1b h2c) (by omega) (by omega)
   generalize (x.times y).can=z at*
   have cn:=ZN z (bt.mono (by omega) (by omega))
   have ca:=Qt A (z.sgn j) (hjb.mono (by omega) (by omega)) ((ExV.sgn_bd bt).mono (by omega) (by omega))
   rw[←hs]at ca
   generalize hW:D (j+1)=w at*
   have c0:((0:Nat):Int)=0:=rfl
   rw[c0]at cm
   by_cases hodd:j % 2=1
   ·have e:z.sgn j=z.neg:=if_pos hodd
    rw[e]at ca
    generalize z.neg=zn at*
    simp(disch:=omega)only[go_sem,h1]
    refine qs rfl [⟨0,[],[]⟩,⟨1,[],[]⟩,⟨2,[1],[]⟩,⟨3,[],[]⟩,⟨4,[],[]⟩,⟨5,[1,4],[]⟩,⟨6,[1,4,5],[]⟩,⟨10,[1,4,5],[]⟩,⟨7,[1,4],[70000000]⟩,⟨8,[1,4],[70000000]⟩,⟨9,[],[70000000]⟩,⟨11,[],[]⟩] (by kernel_rfl) ?_
    simp(disch:=omega)only[go_sem,hc]
    refine⟨by omega,by omega,?_⟩
    refine qa (cm) ?_
    simp(disch:=omega)only[go_sem]
    refine qa (cd) ?_
    simp(disch:=omega)only[go_sem]
    refine qa (ct) ?_
    simp(disch:=omega)only[go_sem]
    simp(disch:=omega)only[go_sem,decide_eq_true (show(j:Int) % 2=1 by omega)]
    refine qa (cn) ?_
    simp(disch:=omega)only[go_sem]
    refine qa (ca) ?_
    simp(disch:=omega)only[go_sem]
    exact qe (j+1) [] (by show j+1≤N;omega) (by show N-(j+1)<N-j;omega) rfl (by simp(disch:=omega)only[go_sem];try omega) (by simp(disch:=omega)only[go_sem,hW])
   ·have e:z.sgn j=z:=if_neg hodd
    rw[e]at ca
    simp(disch:=omega)only[go_sem,h1]
    refine qs rfl [⟨0,[],[]⟩,⟨1,[],[]⟩,⟨2,[1],[]⟩,⟨3,[],[]⟩,⟨4,[],[]⟩,⟨5,[1,4],[]⟩,⟨6,[1,4,5],[]⟩,⟨10,[1,4,5],[]⟩,⟨7,[1,4],[70000000]⟩,⟨8,[1,4],[70000000]⟩,⟨9,[],[70000000]⟩,⟨11,[],[]⟩] (by kernel_rfl) ?_
    simp(disch:=omega)only[go_sem,hc]
    refine⟨by omega,by omega,?_⟩
    refine qa (cm) ?_
    simp(disch:=omega)only[go_sem]
    refine qa (cd) ?_
    simp(disch:=omega)only[go_sem]
    refine qa (ct) ?_
    simp(disch:=omega)only[go_sem]
    simp(disch:=omega)only[go_sem,decide_eq_false (show ¬(j:Int) % 2=1 by omega)]
    refine qa (ca) ?_
    simp(disch:=omega)only[go_sem]
    exact qe (j+1) [] (by show j+1≤N;omega) (by show N-(j+1)<N-j;omega) rfl (by simp(disch:=omega)only[go_sem];try omega) (by simp(disch:=omega)only[go_sem,hW])
  ·obtain rfl:j=N:=by omega
   rw[hA]
   simp(disch:=omega)only[go_sem,h1]
   exact qo
end Go.Ab
namespace Go.Ab
open Go Go.Proofs
theorem aed(x y:ExV)(low mode:Int)(hx:x.can=x)(hy0:y.m≠0)(hm:0≤mode∧mode≤4)(bx:x.bd (-45000) 45000)(by':y.bd (-45000) 45000)(hl: -10000≤low∧low≤10000):
  Con Tryz.prog 100 false [.ag [.v (.bool (x).s),.sl (lim (x).m).length (qg (lim (x).m)),.v (.int .i64 (x).e)],.ag [.v (.bool (y).s),.sl (lim (y).m).length (qg (lim (y).m)),.v (.int .i64 (y).e)],.v (.int .i64 low),.v (.int .i64 mode)] [] (isA (.ag [.v (.bool ((x.over y low mode).can).s),.sl (lim ((x.over y low mode).can).m).length (qg (lim ((x.over y low mode).can).m)),.v (.int .i64 ((x.over y low mode).can).e)])):=by
 refine Con.frzA ?_
 by_cases h0:x.m=0
 ·have cq:=abb x y low h0
  have c0:ex0.can=ex0:=VZ ahk
  have cr:=y9 ex0 low mode c0 hm (acp (by omega) (by omega)) (by omega)
  have er:(ex0.rnd low mode).can=ex0:=by
   have:ex0.rnd low mode=ex0:=by
    show(⟨roS false 0 0 low mode,roM false 0 0 low mode,roE 0 0 low⟩:ExV)=ex0
    unfold roS roM roE
    rw[if_pos (.inr rfl),if_pos (.inr rfl),if_pos (.inr rfl)];rfl
   rw[this,c0]
  rw[er]at cr
  rw[JO h0]
  generalize ex0=z at*
  refine Con.of_w (rs:=[.cell 8 44]) Tryz.func100 rfl Tryz.ntmps100 rfl ?_
  simp(disch:=omega)only[go_sem]
  refine qa (cq) ?_
  simp(disch:=omega)only[go_sem]
  refine qa (cr) ?_
  simp(disch:=omega)only[go_sem]
  exact qo
 ·obtain⟨a1,a2,a3⟩:=bx
  obtain⟨b1,b2,b3⟩:=by'
  have cq:=aec x.s x.m x.e y.s y.m y.e low h0 hy0 (by omega) (by omega) (by omega) (by omega) (by omega) (by omega) _ _ rfl rfl
  obtain⟨A,hA⟩:∃A,A=x.m*2^(x.e-y.e-low+2).toNat:=⟨_,rfl⟩
  obtain⟨B,hB⟩:∃B,B=y.m*2^(-(x.e-y.e-low+2)).toNat:=⟨_,rfl⟩
  rw[←hA,←hB]at cq
  have hB0:0<B:=by rw[hB];exact Nat.mul_pos (Nat.pos_of_ne_zero hy0) (Nat.pow_pos (by decide))
  have hA0:A≠0:=by rw[hA];exact Nat.mul_ne_zero h0 (Nat.pos_iff_ne_zero.1 (Nat.pow_pos (by decide)))
  have hq0:stk A B≠0:=fun e=>by
   unfold stk at e
   have h1:=Nat.div_add_mod A B
   have h2:A/B=0:=by omega
   have h3:A % B=0:=by
    by_cases c:A % B=0
    ·exact c
    ·rw[if_neg c]at e;omega
   rw[h2,h3]at h1;simp at h1;exact hA0 h1.symm
  obtain⟨q,hq⟩:∃q:ExV,q=⟨x.s != y.s,stk A B,low-3⟩:=⟨_,rfl⟩
  have eq1:q.can=⟨oS (x.s != y.s) (stk A B),oM (stk A B),oE (stk A B) (low-3)⟩:=by rw[hq];rfl
  change Con _ _ _ _ _ (isA (.ag [.v (.bool ((ExV.mk (oS (x.s != y.s) (stk A B)) (oM (stk A B)) (oE (stk A B) (low-3)))).s),.sl (lim ((ExV.mk (oS (x.s != y.s) (stk A B)) (oM (stk A B)) (oE (stk A B) (low-3)))).m).length (qg (lim ((ExV.mk (oS (x.s != y.s) (stk A B)) (oM (stk A B)) (oE (stk A B) (low-3)))).m)),.v (.int .i64 ((ExV.mk (oS (x.s != y.s) (stk A B)) (oM (stk A B)) (oE (stk A B) (low-3)))).e)]))at cq
  rw[←eq1]at cq
  have bA:bl A≤300000:=by rw[hA];have:=ZS x.m (x.e-y.e-low+2).toNat;omega
  have bq:q.bd (-400000) 400000:=by
   rw[hq]
   refine⟨fun h=>absurd h hq0,by show(-400000:Int)≤low-3;omega,?_⟩
   show(bl (stk A B):Int)+(low-3)≤400000
   have h1:stk A B≤A/B*2^1+1:=by unfold stk;split<;>omega
   have h2:=jh h1
   have h3:=YA (A/B*2^1)
   have h4:=ZS (A/B) 1
   have h5:=Qw A B
   omega
  have cr:=y9 q.can low mode (abA q) hm (zM bq (by omega) (by omega)) (by omega)
  rw[afT]at cr
  have er:q.rnd low mode=x.over y low mode:=by
   have hr:rq (x.s != y.s) (stk A B) (2^(low-(low-3)).toNat) mode=ovQ (x.s != y.s) x.m x.e y.m y.e low mode:=by
    rw[show(low-(low-3)).toNat=2+1 by omega,atD hB0 (by decide)]
    unfold ovQ ovA
    obtain⟨k,hk⟩:∃k,k=x.e-y.e-low:=⟨_,rfl⟩
    rw[←hk]at hA hB ⊢
    refine(ane (i:=0) (i':=(k+2).toNat-k.toNat) ?_ ?_).1
    ·rw[hA,Nat.pow_zero,Nat.mul_one,Nat.mul_assoc,←Nat.pow_add]
     congr 2
     omega
    ·rw[hB,Nat.pow_zero,Nat.mul_one,Nat.mul_assoc,Nat.mul_assoc,←Nat.pow_add,←Nat.pow_add]
     congr 2
     omega
   have hc:¬(low≤low-3∨stk A B=0):=by omega
   rw[hq]
   unfold ExV.rnd ExV.over roS roM roE
   dsimp only
   rw[if_neg hc,if_neg hc,if_neg hc,hr]
  rw[er]at cr
  generalize (x.over y low mode).can=z at*
  generalize q.can=qc at*
  refine Con.of_w (rs:=[.cell 8 44]) Tryz.func100 rfl Tryz.ntmps100 rfl ?_
  simp(disch:=omega)only[go_sem]
  refine qa (cq) ?_
  simp(disch:=omega)only[go_sem]
  refine qa (cr) ?_
  simp(disch:=omega)only[go_sem]
  exact qo
end Go.Ab
namespace Go.Ab
open Go Go.Proofs
/-! ### The specification's adjugates and inverses-/
def adO(n:Nat)(l:List ExV)(k:Nat):List (Option ExV):=(List.range (n*n)).map fun t=>if t % n*n+t/n<k then some (acM n l (t/n) (t % n)).can else none
theorem ZU{n k:Nat}{l:List ExV}:(adO n l k).length=n*n:=by simp[adO]
theorem amT{n:Nat}{l:List ExV}:adO n l 0=List.replicate (n*n) none:=by
 apply List.ext_getElem
 ·simp[adO]
 ·intro i h1 h2
  simp[adO]
theorem asu{n i j:Nat}{l:List ExV}(hi:i<n)(hj:j<n):(adO n l (i*n+j)).set (j*n+i) (some (acM n l j i).can)=adO n l (i*n+(j+1)):=by
 have m:=ab8 (n:=n) (i:=j) (j:=i) hi
 apply List.ext_getElem
 ·rw[List.length_set,ZU,ZU]
 ·intro t h1 h2
  rw[ZU]at h2
  have hn:0<n:=by omega
  have hd:=(Nat.div_lt_iff_lt_mul hn).2 h2
  have hm:=Nat.mod_lt t hn
  rw[List.getElem_set]
  by_cases ht:j*n+i=t
  ·subst ht
   rw[if_pos rfl]
   simp only[adO,List.getElem_map,List.getElem_range]
   rw[m.1,m.2,if_pos (by omega)]
  ·rw[if_neg ht]
   simp only[adO,List.getElem_map,List.getElem_range]
   have hne:t % n*n+t/n≠i*n+j:=fun e=>by
    have m1:=ab8 (n:=n) (i:=t % n) (j:=t/n) hd
    have m2:=ab8 (n:=n) (i:=i) (j:=j) hj
    rw[e,m2.1,m2.2]at m1
    have:=Nat.div_add_mod t n
    rw[←m1.1,←m1.2,Nat.mul_comm]at this
    exact ht this
   by_cases hc:t % n*n+t/n<i*n+j
   ·rw[if_pos hc,if_pos (by omega)]
   ·rw[if_neg hc,if_neg (by omega)]
theorem asv{n:Nat}{l:List ExV}:(adO n l (n*n)).map (fun o=>o.getD ex0)=(y4 n l).map ExV.can:=by
 unfold y4 adO
 rw[yJ,List.map_map]
 refine List.map_congr_left fun t ht=>?_
 have ht:=List.mem_range.1 ht
 have hn:0<n:=Nat.pos_of_ne_zero fun e=>by subst e;simp at ht
 have h1:=(Nat.div_lt_iff_lt_mul hn).2 ht
 have h2:=Nat.mod_lt t hn
 show(if _ then _ else _:Option ExV).getD ex0=_
 rw[if_pos (q7 h2 h1)];rfl
set_option maxRecDepth 100000 in
theorem ahQ(n:Nat)(l:List ExV)(h1n:1≤n)(hn:n≤4)(hl:l.length=n*n)(hb:gbd (-10000) 10000 l)(hcn:∀x∈l,x.can=x):Con Tryz.prog 99 false [.ag [.v (.int .i64 (n)),.sl (l).length (qk ExV.cs (l))]] [] (isA (.ag [.v (.int .i64 (n)),.sl ((y4 n l).map ExV.can).length (qk ExV.cs ((y4 n l).map ExV.can))])):=by
 refine Con.frzA ?_
 have hq:=jq hn
 have hgl:((y4 n l).map ExV.can).length=n*n:=by rw[List.length_map];exact Jt
 by_cases hn1:n=1
 ·subst hn1
  have e:(y4 1 l).map ExV.can=gId 1:=by
   show [((ex1).sgn 0).can]=gId 1
   have:ex1.can=ex1:=aao (k:=0)
   show [ex1.can]=[ex1]
   rw[this]
  have c:=Vm 1 (by omega)
  rw[e]
  generalize gId 1=I at*
  refine Con.of_aw Tryz.func99 rfl Tryz.ntmps99 (by simp) (by simp) (by simp) (W.sound ?_)
  show @W Tryz.prog 49 ⟨_⟩ ⟨fun x σ=>@q8 _ _ _ ⟨_⟩ _ ⟨_⟩ x σ⟩ _ _
  simp(disch:=omega)only[go_sem]
  refine qa (c) ?_
  simp(disch:=omega)only[go_sem]
  exact qo
 rw[hgl]
 have hz0:qk ocs (adO n l 0)=zA (n*n) z3:=by rw[amT];exact ab3.symm
 refine Con.of_aw Tryz.func99 rfl Tryz.ntmps99 (by simp) (by simp) (by simp) (W.sound ?_)
 show @W Tryz.prog 49 ⟨_⟩ ⟨fun x σ=>@q8 _ _ _ ⟨_⟩ _ ⟨_⟩ x σ⟩ _ _
 simp(disch:=omega)only[go_sem,decide_eq_false (show ¬(n:Int)=1 by omega)]
 refine qz (jS n hn) (by simp(disch:=omega)only[go_sem]) ?_
 rintro r hs ⟨rfl,rfl⟩
 refine⟨by simp[qB];simp(disch:=omega)only[go_sem],?_⟩
 simp(disch:=omega)only[go_sem]
 refine qj (fun i:Nat=>[(1,.pt 2 0),(2,.pt 3 0),(3,.pt 4 0),(4,.v (.int .i64 i))])
  (fun i=>[(1,.own 3 (qk ocs (adO n l (i*n)))),(2,.own 0 [.v (.int .i64 n),.sl l.length (qk ExV.cs l)]),(3,.own 0 [.v (.int .i64 0),.v (.slice none 0 0)]),(4,.own 0 [.v (.int .i64 n),.rf 1 0 (n*n)])]) (fun i=>i≤n) (fun i=>n-i) 0 (by omega)
  (Le.lst [(1,150000000),(2,30000000),(3,40000000),(4,50000000)] _ _ rfl (by simp(disch:=omega)only[go_sem]) (by simp(disch:=omega)only[go_sem,Nat.zero_mul,hz0];try rfl)) ?_
 intro i hi
 simp(disch:=omega)only[go_sem]
 refine qh (fun c1=>?_) (fun c1=>?_)
 ·simp(disch:=omega)only[go_sem,c1]
  have hi2:i<n:=by omega
  have hin:i*n≤16:=Nat.mul_le_mul (show i≤4 by omega) hn
  refine qj (fun j:Nat=>[(1,.pt 2 0),(2,.pt 3 0),(3,.pt 4 0),(4,.v (.int .i64 i)),(5,.v (.int .i64 j))])
   (fun j=>[(1,.own 3 (qk ocs (adO n l (i*n+j)))),(2,.own 0 [.v (.int .i64 n),.sl l.length (qk ExV.cs l)]),(3,.own 0 [.v (.int .i64 0),.v (.slice none 0 0)]),(4,.own 0 [.v (.int .i64 n),.rf 1 0 (n*n)])]) (fun j=>j≤n) (fun j=>n-j) 0 (by omega)
   (Le.lst [] _ _ rfl (by simp(disch:=omega)only[go_sem]) (by simp(disch:=omega)only[go_sem,Nat.add_zero])) ?_
  intro j hj
  simp(disch:=omega)only[go_sem]
  refine qh (fun c2=>?_) (fun c2=>?_)
  ·have hj2:j<n:=by omega
   have cm:=Yg n l i j ⟨h1n,hn⟩ hl hi2 hj2
   obtain⟨n1,rfl⟩:∃n1,n=n1+1+1:=⟨n-2,by omega⟩
   have hm:(mnR (n1+1+1) l i j (n1+1+1)).length=(n1+1)*(n1+1):=by rw[yw hj2,if_pos hi2];rfl
   have hmb:gbd (-10000) 10000 (mnR (n1+1+1) l i j (n1+1+1)):=fun x hx=>hb x (jZ hl _ (Nat.le_refl _) x hx)
   have cd:=Yh n1 (mnR (n1+1+1) l i j (n1+1+1)) (by omega) hm hmb (fun x hx=>hcn x (jZ hl _ (Nat.le_refl _) x hx))
   have bd:=zM (j9 (n1+1) (by omega) hm hmb) (by omega) (by omega)
   have ha:(acM (n1+1+1) l j i).can=((zd (n1+1) (mnR (n1+1+1) l i j (n1+1+1))).can).sgn (i+j):=by
    unfold acM
    rw[yS];rfl
   have hset0:=@asu (n1+1+1) i j l hi2 hj2
   have hx:=q7 hj2 hi2
   rw[ha]at hset0
   rw[show(((n1+1+1:Nat):Int)-1)=((n1+1:Nat):Int) by omega]at cm
   generalize hN:n1+1+1=n at*
   generalize (zd (n1+1) (mnR n l i j n)).can=y at*
   generalize mnR n l i j n=M at*
   have cn:=ZN y (bd.mono (by omega) (by omega))
   have hset:=fun x=>aga (l:=adO n l (i*n+j)) (i:=j*n+i) (x:=x) (by rw[ZU];exact hx)
   have hAl:=@ZU n (i*n+j) l
   have e1:(j:Int)*n+i=((j*n+i:Nat):Int):=by rw[Int.natCast_add,Int.natCast_mul]
   have hp1:(j:Int)*(n:Int)≤16∧0≤(j:Int)*(n:Int):=by
    have:j*n≤n*n:=Nat.mul_le_mul_right _ (by omega)
    rw[←Int.natCast_mul];omega
   have hp2:j*n+i<n*n:=hx
   generalize hp:j*n+i=p at*
   by_cases hodd:(i+j) % 2=1
   ·have e:y.sgn (i+j)=y.neg:=if_pos hodd
    rw[e]at hset0
    generalize y.neg=yn at*
    have hs1:=hset yn
    rw[hset0]at hs1
    simp(disch:=omega)only[go_sem,c2]
    refine qa (cm) ?_
    simp(disch:=omega)only[go_sem]
    refine qa (cd) ?_
    simp(disch:=omega)only[go_sem]
    simp(disch:=omega)only[go_sem,decide_eq_true (show((i:Int)+(j:Int)) % 2=1 by omega)]
    refine qa (cn) ?_
    simp(disch:=omega)only[go_sem]
    simp(disch:=omega)only[go_sem,e1,hs1]
    exact⟨⟨by omega,by omega⟩,by rw[hAl];omega,qe (j+1) [] (by show j+1≤n;omega) (by show n-(j+1)<n-j;omega) rfl (by simp(disch:=omega)only[go_sem];try omega) (by simp(disch:=omega)only[go_sem])⟩
   ·have e:y.sgn (i+j)=y:=if_neg hodd
    rw[e]at hset0
    have hs1:=hset y
    rw[hset0]at hs1
    simp(disch:=omega)only[go_sem,c2]
    refine qa (cm) ?_
    simp(disch:=omega)only[go_sem]
    refine qa (cd) ?_
    simp(disch:=omega)only[go_sem]
    simp(disch:=omega)only[go_sem,decide_eq_false (show ¬((i:Int)+(j:Int)) % 2=1 by omega),e1,hs1]
    exact⟨⟨by omega,by omega⟩,by rw[hAl];omega,qe (j+1) [] (by show j+1≤n;omega) (by show n-(j+1)<n-j;omega) rfl (by simp(disch:=omega)only[go_sem];try omega) (by simp(disch:=omega)only[go_sem])⟩
  ·simp(disch:=omega)only[go_sem,c2]
   obtain rfl:j=n:=by omega
   exact qe (i+1) [] (by show i+1≤_;omega) (by show j-(i+1)<j-i;omega) rfl (by simp(disch:=omega)only[go_sem];try omega) (by simp(disch:=omega)only[go_sem,Nat.add_mul,Nat.one_mul])
 ·simp(disch:=omega)only[go_sem,c1]
  obtain rfl:i=n:=by omega
  have hcut:cut (qk ocs (adO i l (i*i))) 0 (i*i*3)=qk ocs (adO i l (i*i)):=by
   unfold cut
   rw[List.drop_zero,List.take_of_length_le (by rw[aat,ZU];exact Nat.le_refl _)]
  refine ql [(0,1)] [.own 3 (qk ocs (adO i l (i*i)))] [] [.ag [.v (.int .i64 i),.rf 0 0 (i*i)]] rfl (by simp(disch:=omega)only[go_sem]) (by simp(disch:=omega)only[go_sem]) (by simp) (by simp) ?_
  show qE _ 6 _=_
  simp(disch:=omega)only[go_sem,zg,hcut,ab4,asv]
end Go.Ab
namespace Go.Ab
open Go Go.Proofs
/-! ### The specification's inverses and roots-/
def ivT(n:Nat)(l:List ExV)(low:Int)(k:Nat):List ExV:=(List.range k).map fun i=>(((y4 n l).getD i ex0).over (zd n l) low 0).can
theorem X1{n:Nat}{l:List ExV}{low:Int}{k:Nat}:(ivT n l low k).length=k:=by simp[ivT]
theorem alr{n:Nat}{l:List ExV}{low:Int}{k:Nat}:ivT n l low (k+1)=ivT n l low k++[(((y4 n l).getD k ex0).over (zd n l) low 0).can]:=by simp[ivT,List.range_succ]
theorem agT{n:Nat}{l:List ExV}{low:Int}:ivT n l low (n*n)=(zO n l low).map ExV.can:=by
 unfold ivT zO
 rw[yJ]
 exact List.map_congr_left fun t _=>by
  show _=(((y4 n l).getD (t/n*n+t % n) ex0).over (zd n l) low 0).can
  rw[aaH]
def ivF(n:Nat)(l:List ExV)(low:Int):ExV:=(zx n (adT true ((qO n l (ivT n l low (n*n))).map ExV.can) (gId n) (n*n)) n).can
set_option maxRecDepth 100000 in
theorem Vl(n:Nat)(l:List ExV)(low:Int)(h1n:1≤n)(hn:n≤4)(hl:l.length=n*n)(hb:gbd (-10000) 10000 l)(hcn:∀x∈l,x.can=x)(hlo: -300≤low∧low≤300)(h0:(zd n l).m≠0):
  Con Tryz.prog 43 false [.ag [.v (.int .i64 (n)),.sl (l).length (qk ExV.cs (l))],.v (.int .i64 low)] [] (isA (.tu [.ag [.v (.int .i64 n),.sl (ivT n l low (n*n)).length (qk ExV.cs (ivT n l low (n*n)))],.ag [.v (.bool (ivF n l low).s),.sl (lim (ivF n l low).m).length (qg (lim (ivF n l low).m)),.v (.int .i64 (ivF n l low).e)],.v (.bool true)])):=by
 refine Con.frzA ?_
 have hq:=jq hn
 obtain⟨n0,hn0⟩:∃n0,n=n0+1:=⟨n-1,by omega⟩
 have cd:=Yh n0 l (by omega) (by rw[hl,hn0]) hb hcn
 rw[←hn0]at cd
 have ca:=ahQ n l h1n hn hl hb hcn
 have bd:=(j9 n hn hl hb).mono (show(-45000:Int)≤_ by omega) (show _≤(45000:Int) by omega)
 have bA:gbd (-40000) 40100 (y4 n l):=X8 hn hl hb
 have bI:=J1 (low:=low) hn hl hb hlo
 have hT:=@agT n l low
 have bT:gbd (-300) 81000 (ivT n l low (n*n)):=fun x hx=>by
  rw[hT]at hx
  obtain⟨y,hy,rfl⟩:=List.mem_map.1 hx
  exact zM (bI y hy) (by omega) (by omega)
 have cM:=KB n l (ivT n l low (n*n)) hn hl X1 (qq hb (by omega) (by omega)) (qq bT (by omega) (by omega))
 have bM:gbd (-390000) 390000 (qO n l (ivT n l low (n*n))):=X5 fun i j hi hj=>(J9 hi hj (Nat.le_refl n) hl X1 hb bT (by omega)).mono (by omega) (by omega)
 have bMc:gbd (-390000) 390000 ((qO n l (ivT n l low (n*n))).map ExV.can):=fun x hx=>by
  obtain⟨y,hy,rfl⟩:=List.mem_map.1 hx
  exact zM (bM y hy) (by omega) (by omega)
 have lM:((qO n l (ivT n l low (n*n))).map ExV.can).length=n*n:=by rw[List.length_map];exact zj
 have cI:=Vm n hn
 have bId:gbd (-390000) 390000 (gId n):=qq agZ (by omega) (by omega)
 have cP:=Yi n ((qO n l (ivT n l low (n*n))).map ExV.can) (gId n) true hn lM aaI (qq bMc (by omega) (by omega)) (qq bId (by omega) (by omega))
 have bMs:gbd (-10300) 91010 ((qO n l (ivT n l low (n*n))).map ExV.can):=fun x hx=>by
  obtain⟨y,hy,rfl⟩:=List.mem_map.1 hx
  have:gbd (-10300) 91010 (qO n l (ivT n l low (n*n))):=X5 fun i j hi hj=>(J9 hi hj (Nat.le_refl n) hl X1 hb bT (by omega)).mono (by omega) (by omega)
  exact zM (this y hy) (by omega) (by omega)
 have bP:gbd (-390000) 390000 (adT true ((qO n l (ivT n l low (n*n))).map ExV.can) (gId n) (n*n)):=fun x hx=>by
  obtain⟨i,hi,rfl⟩:=List.mem_map.1 hx
  have hi:=List.mem_range.1 hi
  have a:=qF bMs (show i<_ by rw[lM];exact hi)
  have b:=qF (qq agZ (show(-10300:Int)≤_ by omega) (show _≤(91010:Int) by omega)) (show i<(gId n).length by rw[aaI];exact hi)
  exact(zM (ExV.plus_bd a (ExV.neg_bd b)) (by omega) (by omega)).mono (by omega) (by omega)
 have cN:=ZM n _ hn YF bP
 change Con _ _ _ _ _ (isA (.ag [.v (.bool (ivF n l low).s),.sl (lim (ivF n l low).m).length (qg (lim (ivF n l low).m)),.v (.int .i64 (ivF n l low).e)]))at cN
 have hd0:(zd n l).can.m≠0:=fun h=>h0 (acF.1 h)
 have lA:((y4 n l).map ExV.can).length=n*n:=by rw[List.length_map];exact Jt
 have bdc:=zM bd (by omega) (by omega)
 have hov:∀i,((((y4 n l).map ExV.can).getD i ex0).over (zd n l).can low 0).can=(((y4 n l).getD i ex0).over (zd n l) low 0).can:=fun i=>by rw[zy,XK h0]
 have bAc:gbd (-40000) 40100 ((y4 n l).map ExV.can):=fun x hx=>by
  obtain⟨y,hy,rfl⟩:=List.mem_map.1 hx
  exact zM (bA y hy) (by omega) (by omega)
 have hAc:∀x∈(y4 n l).map ExV.can,x.can=x:=Jw
 have hTs:=fun k=>@alr n l low k
 have hT0:ivT n l low 0=[]:=rfl
 have hTl:=fun k=>@X1 n l low k
 generalize ivF n l low=far at*
 generalize adT true ((qO n l (ivT n l low (n*n))).map ExV.can) (gId n) (n*n)=P at*
 generalize (qO n l (ivT n l low (n*n))).map ExV.can=M at*
 generalize gId n=I at*
 have hl0:decide (((lim (zd n l).can.m).length:Int)=0)=false:=decide_eq_false (by have:=yg hd0;omega)
 have e:∀i,ivT n l low (i+1)=ivT n l low i++[((((y4 n l).map ExV.can).getD i ex0).over (zd n l).can low 0).can]:=fun i=>by rw[hTs,hov]
 clear hTs hov hT
 generalize (zd n l).can=y at*
 generalize (y4 n l).map ExV.can=A at*
 generalize ivT n l low=T at*
 refine Con.of_w (rs:=[.cell 4 25,.cell 5 44,.tmp 6]) Tryz.func43 rfl Tryz.ntmps43 rfl ?_
 simp(disch:=omega)only[go_sem]
 refine qa (cd) ?_
 simp(disch:=omega)only[go_sem]
 simp(disch:=omega)only[go_sem,hl0]
 refine qa (ca) ?_
 simp(disch:=omega)only[go_sem]
 refine qz (jS n hn) (by simp(disch:=omega)only[go_sem]) ?_
 rintro r hs ⟨rfl,rfl⟩
 refine⟨by simp[qB];simp(disch:=omega)only[go_sem],?_⟩
 simp(disch:=omega)only[go_sem]
 refine qj (fun i:Nat=>[(1,.v (.int .i64 low)),(2,.pt 2 0),(4,.pt 3 0),(5,.pt 4 0),(6,.v (.bool false)),(7,.pt 5 0),(8,.pt 6 0),(9,.pt 7 0),(10,.v (.int .i64 i))])
  (fun i=>[(1,.own 3 (qk ExV.cs (T i)++zA (n*n-i) z3)),(2,.own 0 [.v (.int .i64 n),.sl l.length (qk ExV.cs l)]),(3,.own 0 [.v (.int .i64 0),.v (.slice none 0 0)]),(4,.own 0 [.v (.bool false),.v (.slice none 0 0),.v (.int .i64 0)]),(5,.own 0 [.v (.bool y.s),.sl (lim y.m).length (qg (lim y.m)),.v (.int .i64 y.e)]),(6,.own 0 [.v (.int .i64 n),.sl A.length (qk ExV.cs A)]),(7,.own 0 [.v (.int .i64 n),.rf 1 0 (n*n)])]) (fun i=>i≤n*n) (fun i=>n*n-i) 0 (by omega)
  (Le.lst [(1,270000000),(2,40000000),(3,60000000),(4,70000000),(5,90000000),(6,100000000),(7,110000000)] _ _ rfl (by simp(disch:=omega)only[go_sem]) (by simp(disch:=omega)only[go_sem,Nat.sub_zero,hT0,j8,List.nil_append])) ?_
 intro i hi
 simp(disch:=omega)only[go_sem]
 refine qh (fun h1=>?_) (fun h1=>?_)
 ·have hi2:i<n*n:=by omega
  obtain⟨k0,hk0⟩:∃k0,n*n-i=k0+1:=⟨n*n-i-1,by omega⟩
  have hk1:n*n-(i+1)=k0:=by omega
  have hAl:=hTl i
  have hs:=e i
  have hc:=zJ (l:=A) (i:=i) (by omega)
  have hx:=qF bAc (show i<A.length by omega)
  have hxc:=hAc (A.getD i ex0) (by rw[List.getD_eq_getElem?_getD,List.getElem?_eq_getElem (by omega)];exact List.getElem_mem _)
  have hiA:i<A.length:=by omega
  generalize A.getD i ex0=x at*
  have c1:=aed x y low 0 hxc hd0 (by omega) (hx.mono (by omega) (by omega)) bdc (by omega)
  generalize (x.over y low 0).can=w at*
  rw[hk0]
  generalize T i=B at*
  obtain rfl:B.length=i:=hAl
  simp(disch:=omega)only[go_sem,h1]
  refine qs rfl [⟨0,[],[]⟩,⟨1,[],[]⟩,⟨2,[1],[]⟩,⟨3,[1],[]⟩,⟨4,[1],[]⟩,⟨5,[1,4],[]⟩,⟨6,[1],[]⟩,⟨7,[1],[]⟩,⟨8,[1,4,7],[]⟩,⟨9,[1,4,7,8],[]⟩,⟨10,[1],[]⟩,⟨11,[],[]⟩,⟨12,[],[]⟩] (by kernel_rfl) ?_
  simp(disch:=omega)only[go_sem,hc]
  refine⟨by omega,by omega,?_⟩
  refine qa (c1) ?_
  simp(disch:=omega)only[go_sem]
  rw[Qs]
  exact⟨by omega,by rw[List.length_append,y5,ZV];omega,qe (B.length+1) [] (by show B.length+1≤n*n;omega) (by show n*n-(B.length+1)<k0+1;omega) rfl (by simp(disch:=omega)only[go_sem];try omega) (by simp(disch:=omega)only[go_sem,hk1,hs])⟩
 ·simp(disch:=omega)only[go_sem,h1]
  obtain rfl:i=n*n:=by omega
  have hll:=hTl (n*n)
  generalize T (n*n)=B at*
  rw[hll]at cM ⊢
  have hz:qk ExV.cs B++zA (n*n-n*n) z3=qk ExV.cs B:=by rw[Nat.sub_self,YT,List.append_nil]
  rw[hz]
  refine arB (E:=[(2,.pt 2 0),(4,.pt 3 0),(5,.pt 4 0),(9,.pt 7 0)]) (H:=[(2,.own 0 [.v (.int .i64 n),.sl l.length (qk ExV.cs l)]),(3,.own 0 [.v (.int .i64 0),.v (.slice none 0 0)]),(4,.own 0 [.v (.bool false),.v (.slice none 0 0),.v (.int .i64 0)]),(7,.own 0 [.v (.int .i64 n),.sl (n*n) (qk ExV.cs B)])])
   ((Le.lst [] [(2,.pt 2 0),(4,.pt 3 0),(5,.pt 4 0),(9,.pt 7 0)] [(1,.own 3 (qk ExV.cs B)),(2,.own 0 [.v (.int .i64 n),.sl l.length (qk ExV.cs l)]),(3,.own 0 [.v (.int .i64 0),.v (.slice none 0 0)]),(4,.own 0 [.v (.bool false),.v (.slice none 0 0),.v (.int .i64 0)]),(7,.own 0 [.v (.int .i64 n),.rf 1 0 (n*n)])] rfl (by simp(disch:=omega)only[go_sem]) (by simp(disch:=omega)only[go_sem])).trans
    ((Le.frz 1 (z:=3) (ks:=qk ExV.cs B) (by simp(disch:=omega)only[go_sem]) rfl (by simp(disch:=omega)only[go_sem])).trans (Le.lst [] _ _ rfl (by simp(disch:=omega)only[go_sem]) (by simp(disch:=omega)only[go_sem,zv hll])))) ?_
  refine qs rfl [⟨0,[],[]⟩,⟨1,[0],[]⟩,⟨2,[0,1],[]⟩,⟨4,[0,1,2],[]⟩,⟨5,[0,1,2],[]⟩,⟨3,[0,5],[]⟩,⟨6,[0],[]⟩,⟨7,[0],[]⟩,⟨8,[0],[]⟩,⟨9,[],[]⟩,⟨10,[],[]⟩,⟨11,[],[]⟩] (by kernel_rfl) ?_
  simp(disch:=omega)only[go_sem]
  refine qa (cM) ?_
  simp(disch:=omega)only[go_sem]
  refine qa (cI) ?_
  simp(disch:=omega)only[go_sem]
  refine qa (cP) ?_
  simp(disch:=omega)only[go_sem]
  refine qa (cN) ?_
  simp(disch:=omega)only[go_sem]
  exact qo
theorem YO(n:Nat)(l:List ExV)(low:Int)(h1n:1≤n)(hn:n≤4)(hl:l.length=n*n)(hb:gbd (-10000) 10000 l)(hcn:∀x∈l,x.can=x)(h0:(zd n l).m=0):
  Con Tryz.prog 43 false [.ag [.v (.int .i64 (n)),.sl (l).length (qk ExV.cs (l))],.v (.int .i64 low)] [] (isA (.tu [.ag [.v (.int .i64 0),.sl 0 []],.ag [.v (.bool false),.sl 0 [],.v (.int .i64 0)],.v (.bool false)])):=by
 refine Con.frzA ?_
 obtain⟨n0,hn0⟩:∃n0,n=n0+1:=⟨n-1,by omega⟩
 have cd:=Yh n0 l (by omega) (by rw[hl,hn0]) hb hcn
 rw[←hn0]at cd
 have hd0:(zd n l).can.m=0:=acF.2 h0
 have hl0:decide (((lim (zd n l).can.m).length:Int)=0)=true:=by rw[hd0,qt];rfl
 generalize (zd n l).can=y at*
 refine Con.of_w (rs:=[.cell 4 25,.cell 5 44,.tmp 6]) Tryz.func43 rfl Tryz.ntmps43 rfl ?_
 simp(disch:=omega)only[go_sem]
 refine qa (cd) ?_
 simp(disch:=omega)only[go_sem]
 simp(disch:=omega)only[go_sem,hl0]
 exact qo
end Go.Ab
namespace Go.Ab
open Go Go.Proofs
def mnS(n:Nat)(X:List ExV)(y:ExV):AV:=if(X.all ExV.fit&&y.fit)=true then .tu [.ag [.v (.int .i64 (n)),.sl (X.map ExV.can).length (qk ExV.cs (X.map ExV.can))],.ag [.v (.bool (y.can).s),.sl (lim (y.can).m).length (qg (lim (y.can).m)),.v (.int .i64 (y.can).e)],.v (.bool true)]else .tu [.ag [.v (.int .i64 0),.sl 0 []],.ag [.v (.bool (false)),.sl (lim (0)).length (qg (lim (0))),.v (.int .i64 (0))],.v (.bool false)]
theorem Xn(n:Nat)(I:List ExV)(h1:1≤n)(h4:n≤4)(hl:I.length=n*n)(hb:gbd (-400000) 400000 I):Con Tryz.prog 44 true [.ag [.v (.int .i64 (n)),.sl (I.map ExV.can).length (qk ExV.cs (I.map ExV.can))]] [] (isA (.v (.bool (I.all ExV.fit)))):=by
 have hq:=jq h4
 have cM:=Yv n ((I.map ExV.can).map ExV.dyv) (by rw[List.length_map,List.length_map];omega) (fun d hd=>by
  obtain⟨x,hx,rfl⟩:=List.mem_map.1 hd
  have hx2:x.bd (-400000) 400000:=by
   obtain⟨y,hy,rfl⟩:=List.mem_map.1 hx
   exact zM (hb y hy) (by omega) (by omega)
  have:=qx (m:=x.m) (B:=800000) (by have:=hx2.2.1;have:=hx2.2.2;omega)
  show(lim x.m).length≤_
  omega)
 rw[ale h1 h4 hl,Jm,List.length_map]at cM
 exact cM
theorem aii(y:ExV)(hb:y.bd (-400000) 400000):Con Tryz.prog 48 true [.ag [.v (.bool (y.can).s),.sl (lim (y.can).m).length (qg (lim (y.can).m)),.v (.int .i64 (y.can).e)]] [] (isA (.v (.bool y.fit))):=by
 have b:=zM hb (by omega) (by omega)
 have l:=qx (m:=y.can.m) (B:=800000) (by have:=b.2.1;have:=b.2.2;omega)
 have k:=Yr y.can.s (lim y.can.m) y.can.e (by omega)
 rw[show dyB y.can.s (lim y.can.m) y.can.e=y.fit from ait y]at k
 exact k
end Go.Ab
namespace Go.Ab
open Go Go.Proofs
theorem abc(n:Nat)(l:List ExV)(low:Int)(hn:n≤4)(hl:l.length=n*n)(hb:gbd (-99000) 99000 l)(hlo: -90000≤low∧low≤90000):
  Con Tryz.prog 45 false [.ag [.v (.int .i64 (n)),.sl (l).length (qk ExV.cs (l))],.v (.int .i64 low)] [] (isA (.ag [.v (.int .i64 n),.sl ((l.map fun x=>(x.times ZD).can).map fun x=>(x.rnd low 0).can).length (qk ExV.cs ((l.map fun x=>(x.times ZD).can).map fun x=>(x.rnd low 0).can))])):=by
 refine Con.frzA ?_
 have c1:=acy (-1) (by omega)
 change Con _ _ _ _ _ (isA (.ag [.v (.bool (ZD).s),.sl (lim (ZD).m).length (qg (lim (ZD).m)),.v (.int .i64 (ZD).e)]))at c1
 have c2:=aa8 n l ZD hn hl (qq hb (by omega) (by omega)) (QO.mono (by omega) (by omega))
 have c3:=QR n (l.map fun x=>(x.times ZD).can) low 0 hn (by rw[List.length_map];exact hl) (fun x hx=>by
  obtain⟨y,hy,rfl⟩:=List.mem_map.1 hx
  exact abA _) (by omega) (fun x hx=>by
  obtain⟨y,hy,rfl⟩:=List.mem_map.1 hx
  exact(zM (ExV.times_bd (hb y hy) QO) (by omega) (by omega)).mono (by omega) (by omega)) (by omega)
 have e:=Yl
 generalize (l.map fun x=>(x.times ZD).can).map (fun x=>(x.rnd low 0).can)=R at*
 generalize (l.map fun x=>(x.times ZD).can)=S at*
 generalize ZD=z at*
 refine Con.of_w (rs:=[.cell 4 25]) Tryz.func45 rfl Tryz.ntmps45 rfl ?_
 simp(disch:=omega)only[go_sem]
 refine qs rfl [⟨0,[],[]⟩,⟨4,[0],[]⟩,⟨1,[0],[]⟩,⟨2,[0],[]⟩,⟨3,[],[]⟩,⟨5,[],[]⟩,⟨6,[],[]⟩] (by kernel_rfl) ?_
 simp(disch:=omega)only[go_sem]
 refine qa (Yl) ?_
 simp(disch:=omega)only[go_sem]
 refine qa (c1) ?_
 simp(disch:=omega)only[go_sem]
 refine qa (c2) ?_
 simp(disch:=omega)only[go_sem]
 refine qa (c3) ?_
 simp(disch:=omega)only[go_sem]
 exact qo
theorem QS{lo hi:Int}{L:List ExV}(h:gbd lo hi L)(h1:lo≤0)(h2:0≤hi):gbd lo hi (L.map ExV.can):=fun x hx=>by
 obtain⟨y,hy,rfl⟩:=List.mem_map.1 hx
 exact zM (h y hy) h1 h2
theorem Yo(n:Nat)(A X:List ExV)(hn:n≤4)(hA:A.length=n*n)(hX:X.length=n*n)(bA:gbd (-10000) 10000 A)(bX:gbd (-10000) 10000 X):
  Con Tryz.prog 47 false [.ag [.v (.int .i64 (n)),.sl (A).length (qk ExV.cs (A))],.ag [.v (.int .i64 (n)),.sl (X).length (qk ExV.cs (X))]] [] (isA (.ag [.v (.bool ((zx n (adT true ((qO n X X).map ExV.can) A (n*n)) n).can).s),.sl (lim ((zx n (adT true ((qO n X X).map ExV.can) A (n*n)) n).can).m).length (qg (lim ((zx n (adT true ((qO n X X).map ExV.can) A (n*n)) n).can).m)),.v (.int .i64 ((zx n (adT true ((qO n X X).map ExV.can) A (n*n)) n).can).e)])):=by
 refine Con.frzA ?_
 have c1:=KB n X X hn hX hX (qq bX (by omega) (by omega)) (qq bX (by omega) (by omega))
 have bT:gbd (-20000) 20004 (qO n X X):=qq (Xc hn hX hX bX bX (by omega)) (by omega) (by omega)
 have bTc:=QS bT (by omega) (by omega)
 have lT:((qO n X X).map ExV.can).length=n*n:=by rw[List.length_map];exact zj
 have c2:=Yi n ((qO n X X).map ExV.can) A true hn lT hA (qq bTc (by omega) (by omega)) (qq bA (by omega) (by omega))
 have bP:gbd (-390000) 390000 (adT true ((qO n X X).map ExV.can) A (n*n)):=fun x hx=>by
  obtain⟨i,hi,rfl⟩:=List.mem_map.1 hx
  have hi:=List.mem_range.1 hi
  have a:=qF bTc (show i<_ by rw[lT];exact hi)
  have b:=qF (qq bA (show(-20000:Int)≤_ by omega) (show _≤(20004:Int) by omega)) (show i<A.length by rw[hA];exact hi)
  exact(zM (ExV.plus_bd a (ExV.neg_bd b)) (by omega) (by omega)).mono (by omega) (by omega)
 have c3:=ZM n _ hn YF bP
 generalize (zx n (adT true ((qO n X X).map ExV.can) A (n*n)) n).can=r at*
 generalize adT true ((qO n X X).map ExV.can) A (n*n)=P at*
 generalize (qO n X X).map ExV.can=T at*
 refine Con.of_w (rs:=[.cell 4 44]) Tryz.func47 rfl Tryz.ntmps47 rfl ?_
 simp(disch:=omega)only[go_sem]
 refine qs rfl [⟨0,[],[]⟩,⟨1,[0],[]⟩,⟨3,[0,1],[]⟩,⟨2,[3],[]⟩,⟨4,[],[]⟩,⟨5,[],[]⟩,⟨6,[],[]⟩] (by kernel_rfl) ?_
 simp(disch:=omega)only[go_sem]
 refine qa (c1) ?_
 simp(disch:=omega)only[go_sem]
 refine qa (c2) ?_
 simp(disch:=omega)only[go_sem]
 refine qa (c3) ?_
 simp(disch:=omega)only[go_sem]
 exact qo
theorem ZL(n:Nat)(Z:List ExV)(w:Int)(h1n:1≤n)(hn:n≤4)(hl:Z.length=n*n)(hb:gbd (-10000) 10000 Z)(hlo: -300≤w∧w≤300)(h0:(zd n Z).m≠0):
  ∃far:ExV,Con Tryz.prog 43 false [.ag [.v (.int .i64 (n)),.sl (Z.map ExV.can).length (qk ExV.cs (Z.map ExV.can))],.v (.int .i64 w)] [] (isA (.tu [.ag [.v (.int .i64 (n)),.sl ((zO n Z w).map ExV.can).length (qk ExV.cs ((zO n Z w).map ExV.can))],.ag [.v (.bool (far).s),.sl (lim (far).m).length (qg (lim (far).m)),.v (.int .i64 (far).e)],.v (.bool true)])):=by
 have h1:(zd n (Z.map ExV.can)).m≠0:=fun h=>h0 (ahv.1 h)
 have c:=Vl n (Z.map ExV.can) w h1n hn (by rw[List.length_map];exact hl) (QS hb (by omega) (by omega)) Jw hlo h1
 rw[agT,X7 h0]at c
 exact⟨_,c⟩
theorem QQ(n:Nat)(Z:List ExV)(w:Int)(h1n:1≤n)(hn:n≤4)(hl:Z.length=n*n)(hb:gbd (-10000) 10000 Z)(h0:(zd n Z).m=0):
  Con Tryz.prog 43 false [.ag [.v (.int .i64 (n)),.sl (Z.map ExV.can).length (qk ExV.cs (Z.map ExV.can))],.v (.int .i64 w)] [] (isA (.tu [.ag [.v (.int .i64 0),.sl 0 []],.ag [.v (.bool false),.sl 0 [],.v (.int .i64 0)],.v (.bool false)])):=
 YO n (Z.map ExV.can) w h1n hn (by rw[List.length_map];exact hl) (QS hb (by omega) (by omega)) Jw (ahv.2 h0)
theorem act(n:Nat)(X Z:List ExV)(w:Int)(hn:n≤4)(hX:X.length=n*n)(bX:gbd (-10000) 10000 X)(bI:gbd (-300) 4600 (zO n Z w))(hw: -300≤w∧w≤300)(h0:(zd n Z).m≠0):
  ∃S:List ExV,Con Tryz.prog 46 false [.ag [.v (.int .i64 (n)),.sl (X.map ExV.can).length (qk ExV.cs (X.map ExV.can))],.ag [.v (.int .i64 (n)),.sl ((zO n Z w).map ExV.can).length (qk ExV.cs ((zO n Z w).map ExV.can))],.v (.bool false)] [] (isA (.ag [.v (.int .i64 (n)),.sl (S).length (qk ExV.cs (S))]))∧
   Con Tryz.prog 45 false [.ag [.v (.int .i64 (n)),.sl (S).length (qk ExV.cs (S))],.v (.int .i64 w)] [] (isA (.ag [.v (.int .i64 (n)),.sl ((rNx n w X Z).map ExV.can).length (qk ExV.cs ((rNx n w X Z).map ExV.can))])):=by
 have bXc:=QS bX (by omega) (by omega)
 have bIc:=QS bI (by omega) (by omega)
 have lI:((zO n Z w).map ExV.can).length=n*n:=by rw[List.length_map];exact zj
 have lX:(X.map ExV.can).length=n*n:=by rw[List.length_map];exact hX
 have c1:=Yi n (X.map ExV.can) ((zO n Z w).map ExV.can) false hn lX lI (qq bXc (by omega) (by omega)) (qq bIc (by omega) (by omega))
 have bP:gbd (-99000) 99000 (adT false (X.map ExV.can) ((zO n Z w).map ExV.can) (n*n)):=fun x hx=>by
  obtain⟨i,hi,rfl⟩:=List.mem_map.1 hx
  have hi:=List.mem_range.1 hi
  have a:=qF bXc (show i<_ by rw[lX];exact hi)
  have b:=qF (qq bIc (show(-10000:Int)≤_ by omega) (show _≤(10000:Int) by omega)) (show i<_ by rw[lI];exact hi)
  exact(zM (ExV.plus_bd a b) (by omega) (by omega)).mono (by omega) (by omega)
 have c2:=abc n _ w hn YF bP (by omega)
 have e:=apt (n:=n) (w:=w) (X:=X) (Z:=Z) h0
 rw[X7 h0]at e
 rw[e]at c2
 exact⟨_,c1,c2⟩
end Go.Ab
namespace Go.Ab
open Go Go.Proofs
/-! ### The specification's root of a matrix-/
def mnN:AV:=.tu [.ag [.v (.int .i64 0),.sl 0 []],.ag [.v (.bool false),.sl 0 [],.v (.int .i64 0)],.v (.bool false)]
set_option maxRecDepth 100000 in
theorem KR(n:Nat)(L:List ExV)(low:Int)(steps:Nat)(h:matV n L)(ha:aiJ n L low=true)(hs:steps≤12):Con Tryz.prog 16 false [.ag [.v (.int .i64 (n)),.sl (L).length (qk ExV.cs (L))],.v (.int .i64 low),.v (.int .i64 steps)] []
  (isA (if JI n L low steps=true then .tu [.ag [.v (.int .i64 (n)),.sl ((rtX n L low steps).map ExV.can).length (qk ExV.cs ((rtX n L low steps).map ExV.can))],.ag [.v (.bool ((Qz n (rtX n L low steps) L).can).s),.sl (lim ((Qz n (rtX n L low steps) L).can).m).length (qg (lim ((Qz n (rtX n L low steps) L).can).m)),.v (.int .i64 ((Qz n (rtX n L low steps) L).can).e)],.v (.bool true)]else mnN)):=by
 refine Con.frzA ?_
 generalize hQ:(if JI n L low steps=true then AV.tu [.ag [.v (.int .i64 (n)),.sl ((rtX n L low steps).map ExV.can).length (qk ExV.cs ((rtX n L low steps).map ExV.can))],.ag [.v (.bool ((Qz n (rtX n L low steps) L).can).s),.sl (lim ((Qz n (rtX n L low steps) L).can).m).length (qg (lim ((Qz n (rtX n L low steps) L).can).m)),.v (.int .i64 ((Qz n (rtX n L low steps) L).can).e)],.v (.bool true)]else mnN)=Q
 have cm:=ZQ n L low h
 rw[ha]at cm
 unfold aiJ at ha
 simp only[Bool.and_eq_true,decide_eq_true_eq]at ha
 obtain⟨⟨ha1,ha2⟩, -⟩:=ha
 have h4:=h.n4
 have h1n:=h.n1
 have hq:=jq h4
 have hLc:L.map ExV.can=L:=arP h.ok
 have cr:=QR n L (low-10) 0 h4 h.len (fun x hx=>VZ (h.ok x hx)) (by omega) (qq h.bd (by omega) (by omega)) (by omega)
 have er:(L.map fun x=>(x.rnd (low-10) 0).can)=((rSt n (low-10) L 0).1).map ExV.can:=by
  have:=JJ (n:=n) (L:=L) (low:=low-10) (md:=0) h.len
  rw[hLc]at this
  exact this
 rw[er]at cr
 have ci:=Vm n h4
 have ei:gId n=((rSt n (low-10) L 0).2).map ExV.can:=aqL.symm
 rw[ei]at ci
 have hS:=afZ (w:=low-10) h4 h.len h.bd (by omega)
 have hl:=fun k=>aan (n:=n) (w:=low-10) (L:=L) k
 have hr1:∀k,(rSt n (low-10) L (k+1)).1=rNx n (low-10) (rSt n (low-10) L k).1 (rSt n (low-10) L k).2:=fun _=>rfl
 have hr2:∀k,(rSt n (low-10) L (k+1)).2=rNx n (low-10) (rSt n (low-10) L k).2 (rSt n (low-10) L k).1:=fun _=>rfl
 refine Con.of_w (rs:=[.cell 6 25,.cell 7 44,.tmp 8]) Tryz.func16 rfl Tryz.ntmps16 rfl ?_
 simp(disch:=omega)only[go_sem]
 refine qa (cm) ?_
 simp(disch:=omega)only[go_sem]
 simp(disch:=omega)only[go_sem,decide_eq_false (show ¬(steps:Int)<0 by omega),decide_eq_false (show ¬(12:Int)<(steps:Int) by omega)]
 refine qa (cr) ?_
 simp(disch:=omega)only[go_sem]
 refine qa (ci) ?_
 simp(disch:=omega)only[go_sem]
 refine qj (fun i:Nat=>[(1,.v (.int .i64 low)),(2,.v (.int .i64 steps)),(3,.pt 1 0),(6,.pt 2 0),(7,.pt 3 0),(8,.v (.bool false)),(9,.v (.int .i64 (low-10))),(10,.pt 4 0),(11,.pt 5 0),(12,.v (.int .i64 i))])
  (fun i=>[(1,.own 0 [.v (.int .i64 n),.sl L.length (qk ExV.cs L)]),(2,.own 0 [.v (.int .i64 0),.v (.slice none 0 0)]),(3,.own 0 [.v (.bool false),.v (.slice none 0 0),.v (.int .i64 0)]),(4,.own 0 [.v (.int .i64 n),.sl ((rSt n (low-10) L i).1.map ExV.can).length (qk ExV.cs ((rSt n (low-10) L i).1.map ExV.can))]),(5,.own 0 [.v (.int .i64 n),.sl ((rSt n (low-10) L i).2.map ExV.can).length (qk ExV.cs ((rSt n (low-10) L i).2.map ExV.can))])])
  (fun i=>i≤steps∧ai6 n (low-10) L i=true) (fun i=>steps-i) 0 ⟨by omega,rfl⟩
  (Le.lst [(1,50000000),(2,80000000),(3,90000000),(4,120000000),(5,130000000)] _ _ rfl (by simp(disch:=omega)only[go_sem]) (by simp(disch:=omega)only[go_sem])) ?_
 rintro i ⟨hi,hAll⟩
 obtain⟨b1,b2⟩:=hS i (by omega) hAll
 obtain⟨l1,l2⟩:=hl i
 have hsucc:=VQ (n:=n) (w:=low-10) (L:=L) (k:=i)
 rw[hAll,Bool.true_and]at hsucc
 have hG:VP n (low-10) L i=(akr n (rSt n (low-10) L i).1 (rSt n (low-10) L i).2&&ank n (low-10) (rSt n (low-10) L i).1 (rSt n (low-10) L i).2):=rfl
 have hfal:=Y1 (n:=n) (w:=low-10) (L:=L) (k:=i) (m:=steps)
 simp(disch:=omega)only[go_sem]
 refine qh (fun c1=>?_) (fun c1=>?_)
 ·have g1:=hr1 i
  have g2:=hr2 i
  have hbad:VP n (low-10) L i=false→mnN=Q:=fun hg=>by
   rw[←hQ]
   unfold JI
   rw[hfal hg (by omega),Bool.false_and,if_neg (by simp)]
  have bX:=qq b1 (show(-10000:Int)≤_ by omega) (show _≤(10000:Int) by omega)
  have bZ:=qq b2 (show(-10000:Int)≤_ by omega) (show _≤(10000:Int) by omega)
  have hI:∀X Z,akr n X Z=(decide ((zd n Z).m≠0)&&decide ((zd n X).m≠0)):=fun _ _=>rfl
  have hF:∀X Z,ank n (low-10) X Z=((zO n Z (low-10)).all ExV.fit&&(zO n X (low-10)).all ExV.fit):=fun _ _=>rfl
  rw[hI,hF]at hG
  generalize hX2:(rSt n (low-10) L (i+1)).1=X2 at*
  generalize hZ2:(rSt n (low-10) L (i+1)).2=Z2 at*
  generalize (rSt n (low-10) L i).1=X at*
  generalize (rSt n (low-10) L i).2=Z at*
  have okI:∀Y,Y.length=n*n→gbd (-10000) 10000 Y→Con Tryz.prog 44 true [.ag [.v (.int .i64 (n)),.sl ((zO n Y (low-10)).map ExV.can).length (qk ExV.cs ((zO n Y (low-10)).map ExV.can))]] [] (isA (.v (.bool ((zO n Y (low-10)).all ExV.fit)))):=fun Y hY bY=>
   Xn n (zO n Y (low-10)) h1n h4 zj (qq (J1 (low:=low-10) h4 hY bY (by omega)) (by omega) (by omega))
  have oZ:=okI Z l2 bZ
  have oX:=okI X l1 bX
  by_cases dz:(zd n Z).m=0
  ·have cz:=QQ n Z (low-10) h1n h4 l2 bZ dz
   rw[decide_eq_false (show ¬(zd n Z).m≠0 from fun h=>h dz),Bool.false_and,Bool.false_and]at hG
   have hQ2:=hbad hG
   subst hQ2
   unfold mnN
   by_cases dx:(zd n X).m=0
   ·have cx:=QQ n X (low-10) h1n h4 l1 bX dx
    generalize X.map ExV.can=XC at*
    generalize Z.map ExV.can=ZC at*
    simp(disch:=omega)only[go_sem,c1]
    refine qa (cz) ?_
    simp(disch:=omega)only[go_sem]
    refine qa (cx) ?_
    simp(disch:=omega)only[go_sem]
    exact qo
   ·obtain⟨fx,cx⟩:=ZL n X (low-10) h1n h4 l1 bX (by omega) dx
    generalize X.map ExV.can=XC at*
    generalize Z.map ExV.can=ZC at*
    generalize (zO n X (low-10)).map ExV.can=IX at*
    simp(disch:=omega)only[go_sem,c1]
    refine qa (cz) ?_
    simp(disch:=omega)only[go_sem]
    refine qa (cx) ?_
    simp(disch:=omega)only[go_sem]
    exact qo
  ·obtain⟨fz,cz⟩:=ZL n Z (low-10) h1n h4 l2 bZ (by omega) dz
   rw[decide_eq_true (show(zd n Z).m≠0 from dz),Bool.true_and]at hG
   by_cases dx:(zd n X).m=0
   ·have cx:=QQ n X (low-10) h1n h4 l1 bX dx
    rw[decide_eq_false (show ¬(zd n X).m≠0 from fun h=>h dx),Bool.false_and]at hG
    have hQ2:=hbad hG
    subst hQ2
    unfold mnN
    generalize X.map ExV.can=XC at*
    generalize Z.map ExV.can=ZC at*
    generalize (zO n Z (low-10)).map ExV.can=IZ at*
    simp(disch:=omega)only[go_sem,c1]
    refine qa (cz) ?_
    simp(disch:=omega)only[go_sem]
    refine qa (cx) ?_
    simp(disch:=omega)only[go_sem]
    exact qo
   ·obtain⟨fx,cx⟩:=ZL n X (low-10) h1n h4 l1 bX (by omega) dx
    rw[decide_eq_true (show(zd n X).m≠0 from dx),Bool.true_and]at hG
    cases fZ:(zO n Z (low-10)).all ExV.fit
    ·rw[fZ]at oZ
     rw[fZ,Bool.false_and]at hG
     have hQ2:=hbad hG
     subst hQ2
     unfold mnN
     generalize X.map ExV.can=XC at*
     generalize Z.map ExV.can=ZC at*
     generalize (zO n Z (low-10)).map ExV.can=IZ at*
     generalize (zO n X (low-10)).map ExV.can=IX at*
     simp(disch:=omega)only[go_sem,c1]
     refine qa (cz) ?_
     simp(disch:=omega)only[go_sem]
     refine qa (cx) ?_
     simp(disch:=omega)only[go_sem]
     refine qm (oZ) ?_
     simp(disch:=omega)only[go_sem]
     exact qo
    ·rw[fZ]at oZ
     rw[fZ,Bool.true_and]at hG
     cases fX:(zO n X (low-10)).all ExV.fit
     ·rw[fX]at oX hG
      have hQ2:=hbad hG
      subst hQ2
      unfold mnN
      generalize X.map ExV.can=XC at*
      generalize Z.map ExV.can=ZC at*
      generalize (zO n Z (low-10)).map ExV.can=IZ at*
      generalize (zO n X (low-10)).map ExV.can=IX at*
      simp(disch:=omega)only[go_sem,c1]
      refine qa (cz) ?_
      simp(disch:=omega)only[go_sem]
      refine qa (cx) ?_
      simp(disch:=omega)only[go_sem]
      refine qm (oZ) ?_
      simp(disch:=omega)only[go_sem]
      refine qm (oX) ?_
      simp(disch:=omega)only[go_sem]
      exact qo
     ·rw[fX]at oX hG
      rw[hG]at hsucc
      obtain⟨S1,s1,t1⟩:=act n X Z (low-10) h4 l1 bX (Js h4 l2 bZ (by omega) fZ) (by omega) dz
      obtain⟨S2,s2,t2⟩:=act n Z X (low-10) h4 l2 bZ (Js h4 l1 bX (by omega) fX) (by omega) dx
      rw[←g1]at t1
      rw[←g2]at t2
      generalize X.map ExV.can=XC at*
      generalize Z.map ExV.can=ZC at*
      generalize (zO n Z (low-10)).map ExV.can=IZ at*
      generalize (zO n X (low-10)).map ExV.can=IX at*
      simp(disch:=omega)only[go_sem,c1]
      refine qa (cz) ?_
      simp(disch:=omega)only[go_sem]
      refine qa (cx) ?_
      simp(disch:=omega)only[go_sem]
      refine qm (oZ) ?_
      simp(disch:=omega)only[go_sem]
      refine qm (oX) ?_
      simp(disch:=omega)only[go_sem]
      refine qa (s1) ?_
      simp(disch:=omega)only[go_sem]
      refine qa (t1) ?_
      simp(disch:=omega)only[go_sem]
      refine qa (s2) ?_
      simp(disch:=omega)only[go_sem]
      refine qa (t2) ?_
      simp(disch:=omega)only[go_sem]
      exact qe (i+1) [] ⟨by omega,hsucc⟩ (by show steps-(i+1)<steps-i;omega) rfl (by simp(disch:=omega)only[go_sem];try omega) (by simp(disch:=omega)only[go_sem,hX2,hZ2])
 ·obtain rfl:i=steps:=by omega
  have bL:gbd (-10000) 10000 L:=qq h.bd (by omega) (by omega)
  have b1c:=QS b1 (by omega) (by omega)
  have cR:=QR n ((rSt n (low-10) L i).1.map ExV.can) low 0 h4 (by rw[List.length_map];exact l1) Jw (by omega) (qq b1c (by omega) (by omega)) (by omega)
  rw[JJ (n:=n) l1]at cR
  change Con _ _ _ _ _ (isA (.ag [.v (.int .i64 (n)),.sl ((rtX n L low i).map ExV.can).length (qk ExV.cs ((rtX n L low i).map ExV.can))]))at cR
  have lX:(rtX n L low i).length=n*n:=Qp
  have bX:gbd (-10000) 10000 (rtX n L low i):=qq (X6 (low:=low) (mode:=0) l1 b1 (by omega) (by omega)) (by omega) (by omega)
  have cE:=Yo n L ((rtX n L low i).map ExV.can) h4 h.len (by rw[List.length_map];exact lX) bL (QS bX (by omega) (by omega))
  have eE:=app (n:=n) (X:=rtX n L low i) (A:=L)
  rw[hLc]at eE
  rw[eE]at cE
  have bE:=(aal h4 lX h.len bX bL).2.2
  have cM:=Xn n (rtX n L low i) h1n h4 lX (qq bX (by omega) (by omega))
  have cD:=aii (Qz n (rtX n L low i) L) (bE.mono (by omega) (by omega))
  have cO:=ahR n ((rtX n L low i).map ExV.can) (by rw[List.length_map];omega)
  have c7:=KC (Qz n (rtX n L low i) L).can
  have hok:(rtX n L low i).all ExV.fit=true→∀x∈(rtX n L low i).map ExV.can,x.ok=true:=fun hf x hx=>by
   obtain⟨y,hy,rfl⟩:=List.mem_map.1 hx
   exact acE (List.all_eq_true.1 hf y hy)
  have hfo:(Qz n (rtX n L low i) L).fit=true→(Qz n (rtX n L low i) L).can.ok=true:=fun hf=>acE hf
  unfold JI at hQ
  rw[hAll,Bool.true_and]at hQ
  generalize Qz n (rtX n L low i) L=R at*
  generalize (rtX n L low i).map ExV.can=XC at*
  generalize rtX n L low i=X at*
  generalize (rSt n (low-10) L i).1.map ExV.can=X0 at*
  generalize (rSt n (low-10) L i).2.map ExV.can=Z0 at*
  generalize R.can=rc at*
  cases hx:X.all ExV.fit
  ·rw[hx]at cM
   rw[hx,Bool.false_and,if_neg (by simp)]at hQ
   subst hQ
   unfold mnN
   simp(disch:=omega)only[go_sem,c1]
   refine qa (cR) ?_
   simp(disch:=omega)only[go_sem]
   refine qa (cE) ?_
   simp(disch:=omega)only[go_sem]
   refine qm (cM) ?_
   simp(disch:=omega)only[go_sem]
   exact qo
  ·rw[hx]at cM
   rw[hx,Bool.true_and]at hQ
   have cO:=cO (hok hx)
   cases hy:R.fit
   ·rw[hy]at cD
    rw[hy,if_neg (by simp)]at hQ
    subst hQ
    unfold mnN
    simp(disch:=omega)only[go_sem,c1]
    refine qa (cR) ?_
    simp(disch:=omega)only[go_sem]
    refine qa (cE) ?_
    simp(disch:=omega)only[go_sem]
    refine qm (cM) ?_
    simp(disch:=omega)only[go_sem]
    refine qm (cD) ?_
    simp(disch:=omega)only[go_sem]
    exact qo
   ·rw[hy]at cD
    rw[hy,if_pos rfl]at hQ
    subst hQ
    have c7:=c7 (hfo hy)
    simp(disch:=omega)only[go_sem,c1]
    refine qa (cR) ?_
    simp(disch:=omega)only[go_sem]
    refine qa (cE) ?_
    simp(disch:=omega)only[go_sem]
    refine qm (cM) ?_
    simp(disch:=omega)only[go_sem]
    refine qm (cD) ?_
    simp(disch:=omega)only[go_sem]
    refine qs rfl [⟨0,[],[]⟩,⟨2,[0],[]⟩,⟨1,[2],[]⟩,⟨3,[],[]⟩,⟨4,[],[]⟩,⟨5,[],[]⟩,⟨6,[],[]⟩] (by kernel_rfl) ?_
    simp(disch:=omega)only[go_sem]
    refine qa (cO) ?_
    simp(disch:=omega)only[go_sem]
    refine qa (c7) ?_
    simp(disch:=omega)only[go_sem]
    exact qo
end Go.Ab
namespace Go.Ab
open Go Go.Proofs
theorem aqi{n N:Nat}{X:List ExV}{y:ExV}(hX:X.length=N):AV.tu [.ag [.v (.int .i64 (n)),.sl (X.map ExV.can).length (qk ExV.cs (X.map ExV.can))],.ag [.v (.bool (y.can).s),.sl (lim (y.can).m).length (qg (lim (y.can).m)),.v (.int .i64 (y.can).e)],.v (.bool true)]=.tu [.ag [.v (.int .i64 n),.sl N (qk DyV.cs (gM (exg X y) N))],.ag [.v (.bool (exg X y N).s),.sl (exg X y N).xs.length (qg (exg X y N).xs),.v (.int .i64 (exg X y N).e)],.v (.bool true)]:=by
 subst hX
 have e:exg X y X.length=y.can.dyv:=ahf
 have r:gM (exg X y) X.length=(X.map ExV.can).map ExV.dyv:=by
  unfold gM
  apply List.ext_getElem
  ·simp
  ·intro i h1 h2
   simp only[List.length_map,List.length_range]at h1
   simp[exg,h1,List.getD_eq_getElem?_getD,List.getElem?_eq_getElem h1]
 rw[e,r,Jm,List.length_map];rfl
theorem acm{x:ExV}(h:x.fit=true):(lim x.can.m).length≤1000:=by
 have:=(Q2 (acE h)).2.2.1
 omega
theorem alW{X:List ExV}{y:ExV}(h:(X.all ExV.fit&&y.fit)=true)(j:Nat):(exg X y j).xs.length≤1000:=by
 rw[Bool.and_eq_true]at h
 unfold exg
 split
 ·rename_i hj
  have hm:X.getD j ex0∈X:=by rw[List.getD_eq_getElem?_getD,List.getElem?_eq_getElem hj];exact List.getElem_mem _
  exact acm (List.all_eq_true.1 h.1 _ hm)
 ·exact acm h.2
theorem Vn(k:Int)(l:List DyV)(low:Int)(hl:l.length≤2^40)(hx:∀d∈l,d.xs.length≤2^39)(h:Vy k l=false):Con Tryz.prog 40 false [.ag [.v (.int .i64 k),.sl l.length (qk DyV.cs l)],.v (.int .i64 low)] [] (isA (.v (.bool false))):=by
 refine Con.frzA ?_
 have c:Con Tryz.prog 44 true [.ag [.v (.int .i64 k),.sl l.length (qk DyV.cs l)]] [] (isA (.v (.bool false))):=by
  by_cases h16:l.length≤16
  ·have:=Yv k l h16 hx
   rwa[h]at this
  ·refine Con.of_w (rs:=[.tmp 2]) Tryz.func44 rfl Tryz.ntmps44 rfl ?_
   simp(disch:=omega)only[go_sem]
   by_cases c1:k<1
   ·simp(disch:=omega)only[go_sem,c1]
    exact qu
   by_cases c2:4<k
   ·simp(disch:=omega)only[go_sem,c1,c2]
    exact qu
   have hq:0≤k*k∧k*k≤16:=⟨Int.mul_nonneg (by omega) (by omega),Int.mul_le_mul (show k≤4 by omega) (show k≤4 by omega) (by omega) (by omega)⟩
   have c3:¬(l.length:Int)=k*k:=by omega
   simp(disch:=omega)only[go_sem,c1,c2,decide_eq_false c3]
   exact qu
 refine Con.of_w (rs:=[.tmp 4]) Tryz.func40 rfl Tryz.ntmps40 rfl ?_
 simp(disch:=omega)only[go_sem]
 refine qm (c) ?_
 simp(disch:=omega)only[go_sem]
 exact qo
theorem Yp(k:Int)(M:List DyV)(low:Int)(h1:M.length≤2^40)(h2:∀d∈M,d.xs.length≤2^40)(h:Vy k M=false):Con Tryz.prog 51 true [.ag [.v (.int .i64 k),.sl M.length (qk DyV.cs M)],.v (.int .i64 low)] [] (isA (.v (.bool false))):=by
 have c:=KS k M h1 h2
 rw[h]at c
 refine Con.of_w (rs:=[.tmp 4]) Tryz.func51 rfl Tryz.ntmps51 rfl ?_
 simp(disch:=omega)only[go_sem]
 refine qm (c) ?_
 simp(disch:=omega)only[go_sem]
 exact qu
theorem QF(r:AV)(low st:Int)(cm:Con Tryz.prog 40 false [r,.v (.int .i64 low)] [] (isA (.v (.bool false))))(hr:∃(k:Int) (m:Nat) (cs:List AV),r=.ag [.v (.int .i64 k),.sl m cs]):Con Tryz.prog 16 false [r,.v (.int .i64 low),.v (.int .i64 st)] [] (isA mnN):=by
 refine Con.frzA ?_
 obtain⟨k,m,cs,rfl⟩:=hr
 unfold mnN
 refine Con.of_w (rs:=[.cell 6 25,.cell 7 44,.tmp 8]) Tryz.func16 rfl Tryz.ntmps16 rfl ?_
 simp(disch:=omega)only[go_sem]
 refine qa (cm) ?_
 simp(disch:=omega)only[go_sem]
 exact qo
theorem Yt(n:Nat)(L:List ExV)(low st:Int)(h:matV n L)(ha:aiJ n L low=true)(hs:(decide (0≤st)&&decide (st≤12))=false):Con Tryz.prog 16 false [.ag [.v (.int .i64 (n)),.sl (L).length (qk ExV.cs (L))],.v (.int .i64 low),.v (.int .i64 st)] [] (isA mnN):=by
 refine Con.frzA ?_
 have cm:=ZQ n L low h
 rw[ha]at cm
 unfold mnN
 by_cases h0:st<0
 ·refine Con.of_w (rs:=[.cell 6 25,.cell 7 44,.tmp 8]) Tryz.func16 rfl Tryz.ntmps16 rfl ?_
  simp(disch:=omega)only[go_sem]
  refine qa (cm) ?_
  simp(disch:=omega)only[go_sem]
  simp(disch:=omega)only[go_sem,decide_eq_true h0]
  exact qo
 ·have h12:12<st:=by
   rcases Int.lt_or_le 12 st with c|c
   ·exact c
   ·rw[decide_eq_true (show 0≤st by omega),decide_eq_true c]at hs;cases hs
  refine Con.of_w (rs:=[.cell 6 25,.cell 7 44,.tmp 8]) Tryz.func16 rfl Tryz.ntmps16 rfl ?_
  simp(disch:=omega)only[go_sem]
  refine qa (cm) ?_
  simp(disch:=omega)only[go_sem]
  simp(disch:=omega)only[go_sem,decide_eq_false h0,decide_eq_true h12]
  exact qo
theorem aaE(k:Int)(l:List DyV)(low st:Int)(hl:l.length≤9223372036854775807)(hx:∀x∈l,x.xs.length≤9223372036854775807):Con Tryz.prog 4 true [.ag [.v (.int .i64 k),.sl l.length (qk DyV.cs l)],.v (.int .i64 low),.v (.int .i64 st)] [] (isA (.v (.bool true))):=by
 by_cases hsz:l.length+smF (fun j=>l.getD j dy0) l.length≤1048576
 ·have hxs:=aaz hsz
  cases hm:Vy k l
  ·exact jj k l low st hl hx (QF _ low st (Vn k l low (by omega) (fun d hd=>Nat.le_trans (hxs d hd) (by omega)) hm) ⟨_,_,_,rfl⟩)
    (yb _ low st (Yp k l low (by omega) (fun d hd=>Nat.le_trans (hxs d hd) (by omega)) hm) ⟨_,_,_,rfl⟩)
  ·obtain⟨n,L,rfl,rfl,hV⟩:=auR hm
   have er:(AV.sl (L.map ExV.dyv).length (qk DyV.cs (L.map ExV.dyv)))=.sl L.length (qk ExV.cs L):=by rw[List.length_map,Jm]
   have ca:=Qb n L low hV
   cases ha:aiJ n L low
   ·have cm:=ZQ n L low hV
    rw[ha]at cm ca
    have cs:=QF _ low st cm ⟨_,_,_,rfl⟩
    have ci:=yb _ low st ca ⟨_,_,_,rfl⟩
    rw[←er]at cs ci
    exact jj n (L.map ExV.dyv) low st hl hx cs ci
   ·cases hs:(decide (0≤st)&&decide (st≤12))
    ·have cs:=Yt n L low st hV ha hs
     have ci:=Yu n L low st hV hs
     rw[←er]at cs ci
     exact jj n (L.map ExV.dyv) low st hl hx cs ci
    ·rw[Bool.and_eq_true,decide_eq_true_eq,decide_eq_true_eq]at hs
     obtain⟨steps,rfl⟩:=Int.eq_ofNat_of_zero_le hs.1
     have hst:steps≤12:=by omega
     have cs:=KR n L low steps hV ha hst
     have ci:=KQ n L low steps hV ha hst
     have hXl:(rtX n L low steps).length=n*n:=Qp
     have hq:=jq hV.n4
     rw[←er]at cs ci
     cases hc:JI n L low steps
     ·rw[hc,if_neg (by simp)]at ci cs
      exact jj n (L.map ExV.dyv) low steps hl hx cs ci
     ·rw[hc,if_pos rfl]at ci cs
      have hc2:((rtX n L low steps).all ExV.fit&&(Qz n (rtX n L low steps) L).fit)=true:=by
       unfold JI at hc
       rw[Bool.and_eq_true]at hc
       exact hc.2
      rw[aqi hXl]at cs
      exact YK n (L.map ExV.dyv) low steps hl hx n (n*n) _ hq (fun j _=>alW hc2 j) cs ci
 ·have cz:=ZI k l 1048576 hl hx (by omega)
  refine Con.of_w (rs:=[.tmp 6]) Tryz.func4 rfl Tryz.ntmps4 rfl ?_
  simp(disch:=omega)only[go_sem]
  refine qr cz (by simp(disch:=omega)only[go_sem]) ?_
  rintro r hs ⟨v,rfl,rfl, -,hv⟩
  refine⟨by simp[qB],?_⟩
  obtain rfl:v= -1:=by
   rcases hv with h|h
   ·exact h
   ·exact absurd h.2 hsz
  simp(disch:=omega)only[go_sem]
  exact qu
end Go.Ab
namespace Go.Proofs.YtodjjilpibnbeaaGreatDoor
open Go.ChangeShapes Go.WideShapes Go.ChangeAt Go.RowKit Go.Ab
theorem own:ownKnob Tryz.prog.godebug=none:=by kernel_rfl
theorem agI:laidOutB Tryz.prog=true:=by kernel_rfl
theorem afz:Tryz.prog.globalNamed "math/bits.deBruijn64tab" =some 1:=by kernel_rfl
theorem aoR:(Tryz.prog.globals[1]?).map (·.type)=some 316:=by kernel_rfl
theorem aoQ:Tryz.prog.underlying 316=some (.array 64 5):=by kernel_rfl
theorem aoU:Tryz.prog.underlying 5=some (.int .u8):=by kernel_rfl
theorem aoV:Tryz.prog.cellsOf 5=1:=by kernel_rfl
theorem aoS:Tryz.prog.cellsOf 316=64:=by kernel_rfl
noncomputable def Qn:List (String×DataW Unit):=[("math/bits.deBruijn32tab",Rows.laid_math_bits_deBruijn32tab),("math/bits.deBruijn64tab",Rows.laid_math_bits_deBruijn64tab)]
theorem aoT{W:World}(h:laidMetH Tryz.prog Qn W):Gd W:=by
 have h':laidMet Tryz.prog Qn W:=h
 have h2:laidMet Tryz.prog [("math/bits.deBruijn64tab",Lib.tabData .u8 (Lib.deBruijn64tab.map Int.ofNat))] W:=laidMet.tail h'
 have hT:=Lib.tabIs_of_head afz aoR aoQ aoU aoV aoS h2
 intro g l hg
 unfold glb at hg
 split at hg
 ·rename_i e
  subst e
  cases hg
  have hc:∀i,i<Lib.deBruijn64tab.length→W.cell? ⟨1,i,none⟩=some (.int .u8 ((Lib.deBruijn64tab.getD i 0:Nat):Int)):=fun i hi=>by
   have:=hT.cell afz i (by simpa using hi)
   rw[this]
   simp[List.getD,hi]
  exact⟨Vt (hc 0 (by decide)),hc⟩
 ·cases hg
noncomputable def V8(os:Os):World:=
 let w0:=World.holding Tryz.prog os ⟨#[],#[],[]⟩
 {w0 with heap:=(w0.heap.modify 1 fun
   | .cells _ t frozen=>.cells (Lib.deBruijn64tab.map fun z=>Value.int .u8 (Int.ofNat z)).toArray t frozen
   |o=>o).modify 0 fun
   | .cells _ t frozen=>.cells (Lib.deBruijn32tab.map fun z=>Value.int .u8 (Int.ofNat z)).toArray t frozen
   |o=>o}
theorem XZ(os:Os)(args:Array Value):laidMetH Tryz.prog Qn ((V8 os).forCall (fun _ _=>0) ⟨#[],args,[]⟩).memory:=
 laidMetH_of_parts (laidMet_of_run' 8 (by kernel_rfl) (by kernel_rfl)) (by kernel_rfl)
end Go.Proofs.YtodjjilpibnbeaaGreatDoor
