/- What the proof of this claim stands on: the walks of the functions and the plain laws, part 5. -/
import Derived.Test.YtjkhfpjccemboaaGreatDoorFnDyRootsLib4
import Derived.Test.YtjkhfpjccemboaaGreatDoorRows
import Derived.Test.YtjkhfpjccemboaaGreatDoorCards
import Derived.Test.YtjkhfpjccemboaaGreatDoorTie
import Derived.Handed
import Derived.ChangeSame
import Derived.JoinedOf
import Derived.RowKit
import Derived.WalkKit
import Derived.ProofKit
import Derived.OpenShut
import Derived.LaidLaws
import Derived.LaidHandle
import Derived.SevenTiedAt
import Derived.Stop.LaidErr
import Derived.Lib.LaidTab
set_option linter.unusedVariables false
set_option linter.unusedSimpArgs false
namespace Go.Ab
open Go Go.Proofs
section
variable (g:Nat)(p:DyV→Bool)
theorem aiz(x:DyV)(hf:Con Tryz.prog g true [.ag x.cs] [] (isA (.v (.bool (p x)))))(hg:qp Tryz.prog g=True):
  Con Tryz.prog 283 true [.ag x.cs,.fp [.fn g []] 0] [] (isA (.v (.bool (!p x)))):=by
 unfold DyV.cs at hf ⊢
 refine Con.of_w (rs:=[.tmp 3]) Tryz.func283 rfl Tryz.ntmps283 rfl ?_
 simp(disch:=omega)only[go_sem,hg]
 refine qB hf (by simp(disch:=omega)only[go_sem]) ?_
 rintro r hs ⟨rfl,rfl,_⟩
 refine⟨by simp[qQ],?_⟩
 simp(disch:=omega)only[go_sem]
 exact qz
theorem ac3(f:Nat)(caps:List AV)(xs:List DyV)(hl:xs.length≤2^40)(hf:∀x∈xs,Con Tryz.prog f true (.ag x.cs::caps) [] (isA (.v (.bool (p x)))))(hg:qp Tryz.prog f=True)
  (hc:∀h:Nat→Ob,caps.map (qG h 6)=caps) (hc5:∀h:Nat→Ob,caps.map (qG h 5)=caps) (hn:∀ks,AllL (jN ks) caps) (hr:∀ρ,zU ρ caps=caps):
  Con Tryz.prog 304 true [.sl xs.length (qw DyV.cs xs),.fn f caps] [] (fun r hs bs=>∃i:Int,r=.v (.int .i64 i)∧hs=[]∧(0≤i↔∃x∈xs,p x=true)):=by
 refine Con.of_aw Tryz.func304 rfl Tryz.ntmps304 (by simp) (by simp) (by simp) (W.sound ?_)
 show @W Tryz.prog 19 ⟨_⟩ ⟨fun x σ=>@qZ _ _ _ ⟨_⟩ _ ⟨_⟩ x σ⟩ _ _
 simp(disch:=omega)only[go_sem]
 refine qi (fun i:Nat=>[(0,.sl xs.length (qw DyV.cs xs)),(1,.fn f caps),(6,.sl xs.length (qw DyV.cs xs)),(7,.v (.int .i64 xs.length)),(8,.v (.int .i64 i))])
  (fun _=>[]) (fun i=>i≤xs.length∧∀j,j<i→p (xs.getD j ⟨false,[],0⟩)=false) (fun i=>xs.length-i) 0 ⟨by omega,fun j hj=>by omega⟩ (Le.lst [] _ _ rfl (by simp(disch:=omega)only[go_sem,hr,hn]) (by simp(disch:=omega)only[go_sem])) ?_
 rintro i ⟨hi,hp⟩
 simp(disch:=omega)only[go_sem]
 refine qe (fun h1=>?_) (fun h1=>?_)
 ·have hcut:=acv (l:=xs) aC9 (i:=i) (by omega) ⟨false,[],0⟩
  simp(disch:=omega)only[go_sem,h1,hcut,hg]
  refine⟨by omega,by omega,qB (hf (xs.getD i ⟨false,[],0⟩) (by rw[List.getD_eq_getElem?_getD,List.getElem?_eq_getElem (by omega)];exact List.getElem_mem _)) (by simp(disch:=omega)only[go_sem,hc,hc5]) ?_⟩
  rintro r hs ⟨rfl,rfl,_⟩
  refine⟨by simp[qQ],?_⟩
  simp(disch:=omega)only[go_sem]
  refine yf (fun h2=>?_) (fun h2=>?_)
  ·simp(disch:=omega)only[go_sem,h2]
   refine qA (by simp(disch:=omega)only[go_sem]) (by simp(disch:=omega)only[go_sem]) ⟨i,rfl,rfl,?_⟩
   refine⟨fun _=>⟨_,?_,h2⟩,fun _=>by omega⟩
   rw[List.getD_eq_getElem?_getD,List.getElem?_eq_getElem (by omega)];exact List.getElem_mem _
  ·simp(disch:=omega)only[go_sem,h2]
   refine qc (i+1) [] ⟨by omega,fun j hj=>?_⟩ (by show xs.length-(i+1)<xs.length-i;omega) rfl (by simp(disch:=omega)only[go_sem,hr,hn];try omega) (by simp(disch:=omega)only[go_sem])
   rcases(by omega:j<i∨j=i)with h|h
   ·exact hp j h
   ·subst h;exact h2
 ·simp(disch:=omega)only[go_sem,h1]
  refine qA (by simp(disch:=omega)only[go_sem]) (by simp(disch:=omega)only[go_sem]) ⟨-1,rfl,rfl,?_⟩
  refine⟨fun h=>by omega,fun⟨x,hx,hpx⟩=>?_⟩
  obtain⟨j,hj,rfl⟩:=List.getElem_of_mem hx
  have:=hp j (by omega)
  rw[List.getD_eq_getElem?_getD,List.getElem?_eq_getElem hj]at this
  simp only[Option.getD_some]at this
  rw[this]at hpx;cases hpx
theorem ZT(f:Nat)(caps:List AV)(xs:List DyV)(hl:xs.length≤2^40)(hf:∀x∈xs,Con Tryz.prog f true (.ag x.cs::caps) [] (isA (.v (.bool (p x)))))(hg:qp Tryz.prog f=True)
  (hc:∀h:Nat→Ob,caps.map (qG h 6)=caps) (hc5:∀h:Nat→Ob,caps.map (qG h 5)=caps) (hn:∀ks,AllL (jN ks) caps) (hr:∀ρ,zU ρ caps=caps):
  Con Tryz.prog 282 true [.sl xs.length (qw DyV.cs xs),.fn f caps] [] (isA (.v (.bool (xs.any p)))):=by
 refine Con.of_aw Tryz.func282 rfl Tryz.ntmps282 (by simp) (by simp) (by simp) (W.sound ?_)
 show @W Tryz.prog 9 ⟨_⟩ ⟨fun x σ=>@qZ _ _ _ ⟨_⟩ _ ⟨_⟩ x σ⟩ _ _
 simp(disch:=omega)only[go_sem]
 refine qB (ac3 p f caps xs hl hf hg hc hc5 hn hr) (by simp(disch:=omega)only[go_sem,hc,hc5]) ?_
 rintro r hs ⟨i,rfl,rfl,hi⟩
 refine⟨by simp[qQ],?_⟩
 simp(disch:=omega)only[go_sem]
 refine qA (by simp(disch:=omega)only[go_sem]) (by simp(disch:=omega)only[go_sem]) ⟨?_,rfl,rfl⟩
 have:decide (0≤i)=xs.any p:=by rw[Bool.eq_iff_iff,decide_eq_true_eq,hi,List.any_eq_true]
 rw[this];rfl
theorem apb(xs:List DyV)(hl:xs.length≤2^40)(hf:∀x∈xs,Con Tryz.prog g true [.ag x.cs] [] (isA (.v (.bool (p x)))))(hg:qp Tryz.prog g=True):
  Con Tryz.prog 238 true [.sl xs.length (qw DyV.cs xs),.fn g []] [] (isA (.v (.bool (xs.all p)))):=by
 refine Con.of_aw Tryz.func238 rfl Tryz.ntmps238 (by simp) (by simp) (by simp) (W.sound ?_)
 show @W Tryz.prog 9 ⟨_⟩ ⟨fun x σ=>@qZ _ _ _ ⟨_⟩ _ ⟨_⟩ x σ⟩ _ _
 simp(disch:=omega)only[go_sem]
 refine qB (ZT (fun x=> !p x) 283 [.fp [.fn g []] 0] xs hl (fun x hx=>aiz g p x (hf x hx) hg) (by simp(disch:=omega)only[go_sem]) (fun h=>rfl) (fun h=>rfl) (fun ks=>by simp(disch:=omega)only[go_sem]) (fun ρ=>rfl)) (by simp(disch:=omega)only[go_sem]) ?_
 rintro r hs ⟨rfl,rfl,_⟩
 refine⟨by simp[qQ],?_⟩
 simp(disch:=omega)only[go_sem]
 refine qA (by simp(disch:=omega)only[go_sem]) (by simp(disch:=omega)only[go_sem]) ⟨?_,rfl,rfl⟩
 have:(!xs.any fun x=> !p x)=xs.all p:=by rw[List.all_eq_not_any_not]
 rw[this];rfl
end
def DyV.ok(x:DyV):Bool:=dyB x.s x.xs x.e
theorem aiy(xs:List DyV)(hl:xs.length≤2^40)(hx:∀x∈xs,x.xs.length≤2^40):Con Tryz.prog 161 true [.sl xs.length (qw DyV.cs xs)] [] (isA (.v (.bool (xs.all DyV.ok)))):=by
 refine Con.of_w (rs:=[.tmp 2]) Tryz.func161 rfl Tryz.ntmps161 rfl ?_
 simp(disch:=omega)only[go_sem]
 refine qk (apb 63 DyV.ok xs hl (fun x h=>Yh x.s x.xs x.e (hx x h)) (by simp(disch:=omega)only[go_sem])) ?_
 simp(disch:=omega)only[go_sem]
 exact qz
def aR6(n:Int)(l:List DyV):Bool:=(decide (1≤n)&&decide (n≤4))&&(decide ((l.length:Int)=n*n)&&l.all DyV.ok)
theorem apc(n:Int)(l:List DyV)(hl:l.length≤2^40)(hx:∀x∈l,x.xs.length≤2^40):Con Tryz.prog 76 true [.ag [.v (.int .i64 n),.sl l.length (qw DyV.cs l)]] [] (isA (.v (.bool (aR6 n l)))):=by
 unfold aR6
 cases h1:(decide (1≤n)&&decide (n≤4))
 ·rw[Bool.false_and]
  refine Con.of_w (rs:=[.tmp 2]) Tryz.func76 rfl Tryz.ntmps76 rfl ?_
  simp(disch:=omega)only[go_sem]
  refine qk (zB n 1 4) ?_
  simp(disch:=omega)only[go_sem]
  simp(disch:=omega)only[go_sem,h1]
  exact qz
 ·rw[Bool.true_and]
  have h1':1≤n∧n≤4:=by simpa using h1
  have hq:0≤n*n∧n*n≤16:=⟨Int.mul_nonneg (by omega) (by omega),Int.mul_le_mul h1'.2 h1'.2 (by omega) (by omega)⟩
  cases h2:decide ((l.length:Int)=n*n)
  ·rw[Bool.false_and]
   refine Con.of_w (rs:=[.tmp 2]) Tryz.func76 rfl Tryz.ntmps76 rfl ?_
   simp(disch:=omega)only[go_sem]
   refine qk (zB n 1 4) ?_
   simp(disch:=omega)only[go_sem]
   simp(disch:=omega)only[go_sem,h1,h2]
   exact qz
  ·rw[Bool.true_and]
   refine Con.of_w (rs:=[.tmp 2]) Tryz.func76 rfl Tryz.ntmps76 rfl ?_
   simp(disch:=omega)only[go_sem]
   refine qk (zB n 1 4) ?_
   simp(disch:=omega)only[go_sem]
   simp(disch:=omega)only[go_sem,h1,h2]
   refine qk (aiy l hl hx) ?_
   simp(disch:=omega)only[go_sem]
   exact qz
end Go.Ab
namespace Go.Ab
open Go Go.Proofs
def ExV.dy(x:ExV):DyV:=⟨x.s,lim x.m,x.e⟩
theorem aL2(l:List ExV):qw ExV.cs l=qw DyV.cs (l.map ExV.dy):=by unfold qw;rw[List.map_map];rfl
def ExV.ok(x:ExV):Bool:=dyB x.s (lim x.m) x.e
def aMY(n:Int)(l:List ExV):Bool:=(decide (1≤n)&&decide (n≤4))&&(decide ((l.length:Int)=n*n)&&l.all ExV.ok)
theorem aIp(n:Int)(l:List ExV):aR6 n (l.map ExV.dy)=aMY n l:=by
 unfold aR6 aMY
 rw[List.length_map,List.all_map];rfl
theorem aiA(n:Int)(l:List ExV)(hl:l.length≤2^40)(hx:∀x∈l,(lim x.m).length≤2^40):Con Tryz.prog 76 true [.ag [.v (.int .i64 n),.sl l.length (qw ExV.cs l)]] [] (isA (.v (.bool (aMY n l)))):=by
 have:=apc n (l.map ExV.dy) (by rw[List.length_map];exact hl) (fun x h=>by
  obtain⟨y,hy,rfl⟩:=List.mem_map.1 h
  exact hx y hy)
 rw[aIp,←aL2,List.length_map]at this
 exact this
def ahT(F:List SpV)(X:List ExV)(k:Nat):List ExV:=(List.range k).map fun i=>zr [((F.getD i sp0).hi.plus (X.getD i ex0).neg).abs,((X.getD i ex0).plus (F.getD i sp0).lo.neg).abs]
theorem yJ{F:List SpV}{X:List ExV}{k:Nat}:(ahT F X k).length=k:=by simp[ahT]
theorem anx{F:List SpV}{X:List ExV}{k:Nat}:ahT F X (k+1)=ahT F X k++[zr [((F.getD k sp0).hi.plus (X.getD k ex0).neg).abs,((X.getD k ex0).plus (F.getD k sp0).lo.neg).abs]]:=by simp[ahT,List.range_succ]
theorem anw{lo hi:Int}{s:SpV}{x:ExV}(hs:s.bd lo hi)(hx:x.bd lo hi):gbd lo (hi+1) [(s.hi.plus x.neg).abs,(x.plus s.lo.neg).abs]:=by
 intro y hy
 simp only[List.mem_cons,List.not_mem_nil,or_false]at hy
 rcases hy with rfl|rfl
 ·exact ExV.abs_bd (ExV.plus_bd hs.2 (ExV.neg_bd hx))
 ·exact ExV.abs_bd (ExV.plus_bd hx (ExV.neg_bd hs.1))
theorem aHV{lo hi:Int}{F:List SpV}{X:List ExV}{k:Nat}(hF:sbd lo hi F)(hX:gbd lo hi X)(h1:k≤F.length)(h2:k≤X.length):gbd lo (hi+1) (ahT F X k):=by
 intro y hy
 simp only[ahT,List.mem_map,List.mem_range]at hy
 obtain⟨i,hi,rfl⟩:=hy
 exact QH (anw (jl hF (by omega)) (zv hX (by omega))) (by simp)
def adI(n:Nat)(F:List SpV)(low:Int):List ExV:=aIN n (F.map acD) low 0
def jw(n:Nat)(F:List SpV)(low:Int):ExV:=jS n (ahT F (adI n F low) (n*n)) n
theorem aIo{lo hi:Int}{s:SpV}(hs:s.bd lo hi):(acD s).bd (lo-1) hi:=by
 have:=ExV.shift_bd (k:= -1) (ExV.plus_bd hs.1 hs.2)
 exact this.mono (by omega) (by omega)
theorem aIM{lo hi low mode:Int}{n:Nat}{l:List ExV}(hl:l.length=n*n)(h:gbd lo hi l)(h1:lo≤low)(h2:low≤hi):gbd lo (hi+1) (aIN n l low mode):=
 aXo fun i j hi hj=>ExV.rnd_bd (zv h (by rw[hl];exact yR hi hj)) h1 h2
set_option maxRecDepth 100000 in
set_option maxHeartbeats 2000000 in
theorem ac8(n:Nat)(L:List ExV)(low:Int)(F:List SpV)(hn:n≤4)(hL:L.length=n*n)(hlow: -1000≤low∧low≤1000)(ca:Con Tryz.prog 147 true [.ag [.v (.int .i64 (n)),.sl (L).length (qw ExV.cs (L))],.v (.int .i64 low)] [] (isA (.v (.bool true))))
  (ch:Con Tryz.prog 148 false [.ag [.v (.int .i64 (n)),.sl (L).length (qw ExV.cs (L))],.v (.int .i64 low)] [] (isA (.ag [.v (.int .i64 (n)),.sl (F).length (qw SpV.cs (F))]))) (hF:F.length=n*n) (hFb:sbd (-300000) 300000 F) (hfit:F.all SpV.fit=true):
  Con Tryz.prog 70 false [.ag [.v (.int .i64 (n)),.sl (L).length (qw ExV.cs (L))],.v (.int .i64 low)] []
   (isA (if((adI n F low).all ExV.fit&&(jw n F low).fit)=true then .tu [.ag [.v (.int .i64 n),.sl (adI n F low).length (qw ExV.cs ((adI n F low).map ExV.can))],.ag [.v (.bool ((jw n F low).can).s),.sl (lim ((jw n F low).can).m).length (qb (lim ((jw n F low).can).m)),.v (.int .i64 ((jw n F low).can).e)],.v (.bool true)]else .tu [.ag [.v (.int .i64 0),.sl 0 []],.ag [.v (.bool (false)),.sl (lim (0)).length (qb (lim (0))),.v (.int .i64 (0))],.v (.bool false)])):=by
 refine Con.frzA ?_
 have hq:=am2 hn
 have cg:=Zt n L (by omega)
 have cv:=ao3 n F (by omega) (jC hFb (by omega) (by omega))
 rw[hfit,if_pos rfl]at cv
 have cm:=aJR n F (by omega) (jC hFb (by omega) (by omega))
 have hml:(F.map acD).length=n*n:=by rw[List.length_map,hF]
 have hmb:gbd (-300001) 300000 (F.map acD):=by
  intro x hx
  obtain⟨s,hs,rfl⟩:=List.mem_map.1 hx
  exact(aIo (hFb s hs)).mono (by omega) (by omega)
 have cr:=aA8 n (F.map acD) low 0 hn hml (QK hmb (by omega) (by omega)) (by omega)
 have hXl:(adI n F low).length=n*n:=by unfold adI aIN;exact Zg
 have hXb:gbd (-300001) 300001 (adI n F low):=aIM hml hmb (by omega) (by omega)
 change Con _ _ _ _ _ (isA (.ag [.v (.int .i64 (n)),.sl (adI n F low).length (qw ExV.cs (adI n F low))]))at cr
 have hOb:gbd (-300001) 300002 (ahT F (adI n F low) (n*n)):=aHV (jC hFb (by omega) (by omega)) hXb (by omega) (by omega)
 have cno:=Yd n (ahT F (adI n F low) (n*n)) hn yJ (QK hOb (by omega) (by omega))
 change Con _ _ _ _ _ (isA (.ag [.v (.bool (jw n F low).s),.sl (lim (jw n F low).m).length (qb (lim (jw n F low).m)),.v (.int .i64 (jw n F low).e)]))at cno
 have hFar:(jw n F low).bd (-300001) 300006:=(JM yJ hOb (by omega) n (Nat.le_refl _)).mono (by omega) (by omega)
 have cw:=ZS n (adI n F low) (jw n F low) (by omega) (QK hXb (by omega) (by omega)) (hFar.mono (by omega) (by omega))
 generalize jw n F low=far at*
 generalize adI n F low=X at*
 generalize F.map acD=M at*
 generalize F.map SpV.can=FC at*
 refine Con.of_w (rs:=[.cell 4 42,.cell 5 29,.tmp 6]) Tryz.func70 rfl Tryz.ntmps70 rfl ?_
 simp(disch:=omega)only[go_sem]
 refine qk (ca) ?_
 simp(disch:=omega)only[go_sem]
 refine qa (cg) ?_
 simp(disch:=omega)only[go_sem]
 refine qa (ch) ?_
 simp(disch:=omega)only[go_sem]
 refine qa (cv) ?_
 simp(disch:=omega)only[go_sem]
 refine qa (cm) ?_
 simp(disch:=omega)only[go_sem]
 refine qa (cr) ?_
 simp(disch:=omega)only[go_sem]
 refine qi (fun i:Nat=>[(4,.pt 2 0),(5,.pt 3 0),(7,.pt 4 0),(10,.pt 5 0),(11,.pt 0 0),(41,.sl F.length (qw SpV.cs F)),(42,.v (.int .i64 F.length)),(43,.v (.int .i64 i))])
  (fun i=>[(0,.own 0 [.v (.int .i64 n),.rf 1 0 i]),(1,.own 3 (qw ExV.cs (ahT F X i))),(2,.own 0 [.v (.int .i64 0),.v (.slice none 0 0)]),(3,.own 0 [.v (.bool false),.v (.slice none 0 0),.v (.int .i64 0)]),(4,.own 0 [.v (.int .i64 n),.sl F.length (qw SpV.cs F)]),(5,.own 0 [.v (.int .i64 n),.sl X.length (qw ExV.cs X)])])
  (fun i=>i≤F.length) (fun i=>F.length-i) 0 (by omega)
  ((Le.ghostC 130000000 1 1 3 (zo:=0) (cs:=[.v (.int .i64 n),.v (.slice none 0 0)]) (by simp(disch:=omega)only[go_sem]) rfl (by simp(disch:=omega)only[go_sem])).trans (Le.lst [(0,130000000),(2,60000000),(3,70000000),(4,90000000),(5,120000000)] _ _ rfl (by simp(disch:=omega)only[go_sem]) (by simp(disch:=omega)only[go_sem,show ahT F X 0=[] from rfl,J6,List.set_cons_succ,List.set_cons_zero]))) ?_
 intro i hi
 simp(disch:=omega)only[go_sem]
 refine qe (fun h1=>?_) (fun h1=>?_)
 ·have hi2:i<F.length:=by omega
  have hci:=yq hi2
  have hcx:=jd (l:=X) (i:=i) (by omega)
  have hcut:=zy (yJ (F:=F) (X:=X) (k:=i))
  have hs:=anx (F:=F) (X:=X) (k:=i)
  have bs:=jl hFb hi2
  have bx:=zv hXb (show i<X.length by omega)
  have b2:=anw (SpV.bd.mono bs (by omega) (by omega)) bx
  generalize F.getD i sp0=s at*
  generalize X.getD i ex0=x at*
  simp(disch:=omega)only[go_sem,h1,hci]
  refine⟨by omega,by omega,?_⟩
  refine qt rfl [⟨0,[],[]⟩,⟨1,[],[]⟩,⟨2,[1],[]⟩,⟨3,[1],[]⟩,⟨4,[1,3],[]⟩,⟨5,[1,3],[]⟩,⟨6,[1,3,5],[]⟩,⟨7,[1,3],[]⟩,⟨8,[1,3],[]⟩,⟨11,[1,3,5,8],[]⟩,⟨12,[1,3,5,8],[]⟩,⟨13,[1,3,5,8,12],[]⟩,⟨14,[1,3,5,8],[]⟩,⟨15,[1,3,5,8],[]⟩,⟨16,[1,3,5,8,12,15],[]⟩,⟨17,[1,3,5,8,12,15],[]⟩,⟨9,[1,12,15,17],[]⟩,⟨10,[1,12,15,17],[]⟩,⟨18,[1],[]⟩,⟨19,[1],[]⟩,⟨20,[1],[]⟩,⟨21,[1],[]⟩,⟨22,[1],[]⟩,⟨23,[],[]⟩,⟨24,[],[]⟩,⟨25,[],[]⟩] (by kernel_rfl) ?_
  simp(disch:=omega)only[go_sem,hcx]
  refine⟨by omega,by omega,by omega,by omega,?_⟩
  refine qa (Qg s.hi x (bs.2.mono (by omega) (by omega)) (bx.mono (by omega) (by omega))) ?_
  simp(disch:=omega)only[go_sem]
  refine qa (Yj (s.hi.plus x.neg)) ?_
  simp(disch:=omega)only[go_sem]
  refine qa (Qg x s.lo (bx.mono (by omega) (by omega)) (bs.1.mono (by omega) (by omega))) ?_
  simp(disch:=omega)only[go_sem]
  refine qa (Yj (x.plus s.lo.neg)) ?_
  simp(disch:=omega)only[go_sem]
  generalize (s.hi.plus x.neg).abs=A at*
  generalize (x.plus s.lo.neg).abs=B at*
  have hrow:([.v (.bool A.s),.sl (lim A.m).length (qb (lim A.m)),.v (.int .i64 A.e),.v (.bool B.s),.sl (lim B.m).length (qb (lim B.m)),.v (.int .i64 B.e)]:List AV)=qw ExV.cs [A,B]:=rfl
  rw[hrow]
  refine qY false [700000000] (Kq [A,B] (by simp) (by simp) (QK b2 (by omega) (by omega))) (by simp(disch:=omega)only[go_sem]) (by simp(disch:=omega)only[go_sem]) rfl (qT (z:=3) (cs:=qw ExV.cs [A,B]) (by simp(disch:=omega)only[go_sem]) (by simp(disch:=omega)only[go_sem])) (by intro n hn;exact⟨_,List.mem_cons_self ..,by rw[List.mem_singleton.1 hn];rfl⟩) ?_
  rintro r hs2 bs2 ⟨rfl,rfl,rfl⟩-
  refine⟨by simp[qQ],?_⟩
  simp(disch:=omega)only[go_sem,hcut,yV]
  refine⟨⟨by rw[yJ];exact Nat.le_refl _,by omega⟩,qc (i+1) [(1,730000000)] (by show i+1≤_;omega) (by show F.length-(i+1)<F.length-i;omega) rfl (by simp(disch:=omega)only[go_sem];try omega) (by simp(disch:=omega)only[go_sem,hs])⟩
 ·simp(disch:=omega)only[go_sem,h1]
  obtain rfl:i=F.length:=by omega
  have hol:=yJ (F:=F) (X:=X) (k:=n*n)
  rw[hF]
  generalize ahT F X (n*n)=O at*
  rw[hol]at cno
  refine aJO (E:=[(4,.pt 2 0),(5,.pt 3 0),(10,.pt 5 0),(11,.pt 0 0)]) (H:=[(0,.own 0 [.v (.int .i64 n),.sl (n*n) (qw ExV.cs O)]),(2,.own 0 [.v (.int .i64 0),.v (.slice none 0 0)]),(3,.own 0 [.v (.bool false),.v (.slice none 0 0),.v (.int .i64 0)]),(5,.own 0 [.v (.int .i64 n),.sl X.length (qw ExV.cs X)])])
   ((Le.frz 1 (z:=3) (ks:=qw ExV.cs O) (by simp(disch:=omega)only[go_sem]) rfl (by simp(disch:=omega)only[go_sem])).trans (Le.lst [] _ _ rfl (by simp(disch:=omega)only[go_sem]) (by simp(disch:=omega)only[go_sem,zy hol]))) ?_
  refine qt rfl [⟨0,[],[]⟩,⟨1,[0],[]⟩,⟨2,[0],[]⟩,⟨3,[],[]⟩,⟨4,[],[]⟩,⟨5,[],[]⟩,⟨6,[],[]⟩,⟨7,[],[]⟩,⟨8,[],[]⟩,⟨9,[],[]⟩] (by kernel_rfl) ?_
  simp(disch:=omega)only[go_sem]
  refine qa (cno) ?_
  simp(disch:=omega)only[go_sem]
  cases hc:(X.all ExV.fit&&far.fit)
  ·rw[hc,if_neg (by simp)]at cw
   rw[if_neg (by simp)]
   refine qa (cw) ?_
   simp(disch:=omega)only[go_sem]
   exact qj (hp:=by simp(disch:=omega)only[go_sem,ql,List.length_nil,zX])
  ·rw[hc,if_pos rfl]at cw
   rw[if_pos rfl]
   refine qa (cw) ?_
   simp(disch:=omega)only[go_sem]
   exact qj
theorem Kx(n:Nat)(h1:n=1):Con Tryz.prog 147 true [.ag [.v (.int .i64 (n)),.sl ([ex0]).length (qw ExV.cs ([ex0]))],.v (.int .i64 (-10))] [] (isA (.v (.bool true))):=by
 have cm:=aiA n [ex0] (by decide) (by intro x hx;rw[List.mem_singleton.1 hx];show(lim 0).length≤_;rw[ql];decide)
 have hm:aMY n [ex0]=true:=by
  rw[h1];unfold aMY;rw[List.all_cons,List.all_nil,show ex0.ok=true by show dyB false (lim 0) 0=true;rw[ql];decide];decide
 rw[hm]at cm
 have cg:=Zt n [ex0] (by decide)
 have cn:=Yd n [ex0] (by omega) (by rw[h1];rfl) (by decide+kernel)
 rw[show jS n [ex0] n=ex0 by rw[h1];decide+kernel]at cn
 have cc:=QL ex0 (exN 64) (by decide+kernel) (by decide+kernel)
 rw[show ex0.cmp (exN 64)= -1 by decide+kernel]at cc
 have q:decide ((-1:Int)≤0)=true:=rfl
 have q1:(decide ((-120:Int)≤ -10)&&decide ((-10:Int)≤0))=true:=rfl
 have cwi:=zB (-10) (-120) 0
 rw[q1]at cwi
 refine Con.of_w (rs:=[.tmp 4]) Tryz.func147 rfl Tryz.ntmps147 rfl ?_
 simp(disch:=omega)only[go_sem]
 refine qk (cm) ?_
 simp(disch:=omega)only[go_sem]
 refine qk (cwi) ?_
 simp(disch:=omega)only[go_sem]
 refine qa (cg) ?_
 simp(disch:=omega)only[go_sem]
 refine qa (cn) ?_
 simp(disch:=omega)only[go_sem]
 refine qa (q5 64 (by omega)) ?_
 simp(disch:=omega)only[go_sem]
 refine qB cc (by simp(disch:=omega)only[go_sem,exN]) ?_
 rintro r hs ⟨rfl,rfl,_⟩
 refine⟨by simp[qQ],?_⟩
 simp(disch:=omega)only[go_sem,q]
 exact qz
end Go.Ab
namespace Go.Ab
open Go Go.Proofs
theorem z7(cl:Bool)(xs:List Int)(m:Nat)(hl:xs.length≤2^39)(hx:gd xs)(hv:vl xs=(m:Int)):Con Tryz.prog 259 cl [.sl xs.length (qb xs)] [] (azY m):=by
 refine Con.of_aw Tryz.func259 rfl Tryz.ntmps259 (by simp) (by simp) (by simp) (W.sound ?_)
 show @W Tryz.prog 24 ⟨_⟩ ⟨fun x σ=>@qZ _ _ _ ⟨_⟩ _ ⟨_⟩ x σ⟩ _ _
 simp(disch:=omega)only[go_sem]
 have hcz:Zq xs=lim m:=by rw[zN hx,hv,Int.toNat_natCast]
 refine qi (fun k:Nat=>[(0,.sl xs.length (qb xs)),(2,.pt 40000000 0),(3,.v (.int .i64 k))]) (fun _=>[(40000000,.own 0 [.v (.slice none 0 0)])]) (fun k=>k≤xs.length∧Zq (xs.take k)=Zq xs) id xs.length ⟨Nat.le_refl _,by simp⟩
  (Le.lst [] _ _ rfl (by simp(disch:=omega)only[go_sem]) (by simp(disch:=omega)only[go_sem])) ?_
 intro k ⟨hk,hc⟩
 have hkx:∀j,j+1=k→xs.take k=xs.take j++[xs.getD j 0]:=fun j hj=>by rw[←hj];exact jr (by omega)
 simp(disch:=omega)only[go_sem]
 refine qe (fun h1=>?_) (fun h1=>?_)
 ·obtain⟨j,rfl⟩:∃j,k=j+1:=⟨k-1,by omega⟩
  have e1:((j+1:Nat):Int)-1=(j:Nat):=by omega
  rw[hkx j rfl]at hc
  simp(disch:=omega)only[go_sem,h1,e1]
  refine⟨by omega,by omega,qe (fun h2=>?_) (fun h2=>?_)⟩
  ·simp(disch:=omega)only[go_sem,h2,e1]
   rw[h2,yW]at hc
   exact qc j [] ⟨by omega,hc⟩ (by show j<j+1;omega) rfl (by simp(disch:=omega)only[go_sem];try omega) (by simp(disch:=omega)only[go_sem])
  ·rw[J7 _ h2,←hkx j rfl,hcz]at hc
   have hlm:j+1=(lim m).length:=by rw[←hc,List.length_take];omega
   have e0:(((j+1:Nat):Int)-0).toNat=(lim m).length:=by omega
   rw[hlm]at hc
   simp(disch:=omega)only[go_sem,h2,e0,hc]
   refine⟨by omega,by omega,?_⟩
   refine qh [(0,240000000)] [.own 1 (qb (lim m))] [] [.ag [.rf 0 0 (lim m).length]] rfl (by simp(disch:=omega)only[go_sem]) (by simp(disch:=omega)only[go_sem]) (by simp) (by intro _;simp[zb,AV.pu,AV.pu.puL,Ob.pu,qS]) (.inr ⟨[],rfl,by rw[List.append_nil]⟩)
 ·have hlm:k=(lim m).length:=by
   have:k=0:=by omega
   rw[←hcz,←hc,this];rfl
  subst hlm
  have hc:xs.take (lim m).length=lim m:=by
   have:lim m=[]:=List.length_eq_zero_iff.1 (by omega)
   rw[this];simp
  have e0:(((lim m).length:Int)-0).toNat=(lim m).length:=by omega
  simp(disch:=omega)only[go_sem,h1,e0,hc]
  refine⟨by omega,by omega,?_⟩
  refine qh [(0,240000000)] [.own 1 (qb (lim m))] [] [.ag [.rf 0 0 (lim m).length]] rfl (by simp(disch:=omega)only[go_sem]) (by simp(disch:=omega)only[go_sem]) (by simp) (by intro _;simp[zb,AV.pu,AV.pu.puL,Ob.pu,qS]) (.inr ⟨[],rfl,by rw[List.append_nil]⟩)
theorem Ye(cl:Bool)(n:Nat)(hn:n<2^63):Con Tryz.prog 203 cl [.v (.int .i64 n)] [] (azY n):=by
 refine Con.of_aw Tryz.func203 rfl Tryz.ntmps203 (by simp) (by simp) (by simp) (W.sound ?_)
 show @W Tryz.prog 15 ⟨_⟩ ⟨fun x σ=>@qZ _ _ _ ⟨_⟩ _ ⟨_⟩ x σ⟩ _ _
 simp(disch:=omega)only[go_sem]
 refine qi (fun x:Nat×List Int=>[(0,.v (.int .i64 x.1)),(2,.pt 2 0),(3,.rf 1 0 x.2.length)]) (fun x=>[(1,.own 1 (qb x.2)),(2,.own 0 [.v (.slice none 0 0)])]) (fun x=>x.1<2^63∧x.2++lim x.1=lim n) (fun x=>x.1) (n,[]) ⟨hn,rfl⟩
  ((Le.ghost 3 1 1 (by simp(disch:=omega)only[go_sem]) (by simp(disch:=omega)only[go_sem])).trans (Le.lst [(2,40000000)] _ _ rfl (by simp(disch:=omega)only[go_sem]) (by simp(disch:=omega)only[go_sem]))) ?_
 rintro⟨k,l⟩ ⟨hk,hl⟩
 dsimp only at hk hl ⊢
 have hlen:l.length≤4:=by
  have h1:=congrArg List.length hl
  have h2:=jm (n:=n) (k:=4) |>.2 (by omega)
  rw[List.length_append]at h1;omega
 simp(disch:=omega)only[go_sem]
 refine qe (fun h1=>?_) (fun h1=>?_)
 ·simp(disch:=omega)only[go_sem,h1]
  have hk0:k≠0:=by omega
  refine⟨by omega,qc (k/65536,l++[(k:Int) % 65536]) [(1,120000000)] ⟨by show k/65536<2^63;omega,?_⟩ (by show k/65536<k;omega) rfl (by simp(disch:=omega)only[go_sem,List.length_append];try omega) (by simp(disch:=omega)only[go_sem])⟩
  rw[jG hk0]at hl
  rw[←hl,List.append_assoc];rfl
 ·simp(disch:=omega)only[go_sem,h1]
  have hk0:k=0:=by omega
  subst hk0
  rw[ql,List.append_nil]at hl
  subst hl
  refine qh [(0,1)] [.own 1 (qb (lim n++[]))] [] [.ag [.rf 0 0 (lim n).length]] rfl (by simp(disch:=omega)only[go_sem]) (by simp(disch:=omega)only[go_sem]) (by simp) (by intro _;simp[zb,AV.pu,AV.pu.puL,Ob.pu,qS]) (.inr ⟨[],rfl,rfl⟩)
end Go.Ab
namespace Go.Ab
open Go Go.Proofs
set_option maxRecDepth 100000 in
theorem ao1(cl:Bool)(a b:Nat)(la:(lim a).length≤2000000)(lb:(lim b).length≤2000000):Con Tryz.prog 206 cl [.ag [.sl (lim (a)).length (qb (lim (a)))],.ag [.sl (lim (b)).length (qb (lim (b)))]] [] (azY (a+b)):=by
 refine Con.of_aw Tryz.func206 rfl Tryz.ntmps206 (by simp) (by simp) (by simp) (W.sound ?_)
 show @W Tryz.prog 61 ⟨_⟩ ⟨fun x σ=>@qZ _ _ _ ⟨_⟩ _ ⟨_⟩ x σ⟩ _ _
 simp(disch:=omega)only[go_sem]
 have hA:=qX a
 have hB:=qX b
 refine qi (fun x:Nat×List Int×Int=>[(2,.pt 3 0),(3,.pt 4 0),(4,.pt 2 0),(5,.rf 1 0 x.2.1.length),(6,.v (.int .i64 x.2.2)),(7,.v (.int .i64 x.1))])
  (fun x=>[(1,.own 1 (qb x.2.1)),(2,.own 0 [.v (.slice none 0 0)]),(3,.own 0 [.sl (lim (a)).length (qb (lim (a)))]),(4,.own 0 [.sl (lim (b)).length (qb (lim (b)))])])
  (fun x=>x.1≤max (lim a).length (lim b).length+1∧x.2.1.length=x.1∧gd x.2.1∧(0≤x.2.2∧x.2.2≤1)∧vl x.2.1+65536^x.1*x.2.2=vl ((lim a).take x.1)+vl ((lim b).take x.1)∧(max (lim a).length (lim b).length<x.1→x.2.2=0))
  (fun x=>2*(max (lim a).length (lim b).length-x.1)+x.2.2.toNat) (0,[],0) ⟨by simp,rfl,Zh,by simp,by simp[vl],fun h=>rfl⟩
  ((Le.ghost 5 1 1 (by simp(disch:=omega)only[go_sem]) (by simp(disch:=omega)only[go_sem])).trans (Le.lst [(2,60000000),(3,40000000),(4,50000000)] _ _ rfl (by simp(disch:=omega)only[go_sem]) (by simp(disch:=omega)only[go_sem]))) ?_
 rintro⟨i,out,cy⟩ ⟨hi,hol,hog,hcy,hov,hcz⟩
 dsimp only at hi hol hog hcy hov hcz ⊢
 have hx:=qJ hA i
 have hy:=qJ hB i
 have hxz:¬(i:Int)<(lim a).length→(lim a).getD i 0=0:=fun h=>by rw[List.getD_eq_getElem?_getD,List.getElem?_eq_none (by omega)];rfl
 have hyz:¬(i:Int)<(lim b).length→(lim b).getD i 0=0:=fun h=>by rw[List.getD_eq_getElem?_getD,List.getElem?_eq_none (by omega)];rfl
 have hstep:∀q:Int,q=cy+(lim a).getD i 0+(lim b).getD i 0→vl (out++[q % 65536])+65536^(i+1)*(q/65536)=vl ((lim a).take (i+1))+vl ((lim b).take (i+1)):=by
  intro q hq
  rw[z8,qM,qM,hol,Int.pow_succ]
  have e3:q % 65536+65536*(q/65536)=q:=Int.emod_add_mul_ediv q 65536
  generalize (65536:Int)^i=Pi at*
  grind
 have key:∀q:Int,q=cy+(lim a).getD i 0+(lim b).getD i 0→(i:Int)<(lim a).length∨(i:Int)<(lim b).length∨0<cy→
   ((i+1≤max (lim a).length (lim b).length+1∧(out++[q % 65536]).length=i+1∧gd (out++[q % 65536])∧(0≤q/65536∧q/65536≤1)∧vl (out++[q % 65536])+65536^(i+1)*(q/65536)=vl ((lim a).take (i+1))+vl ((lim b).take (i+1))∧(max (lim a).length (lim b).length<i+1→q/65536=0))∧
   2*(max (lim a).length (lim b).length-(i+1))+(q/65536).toNat<2*(max (lim a).length (lim b).length-i)+cy.toNat):=by
  intro q hq hc
  have hle:i≤max (lim a).length (lim b).length:=by
   rcases Nat.lt_or_ge (max (lim a).length (lim b).length) i with h|h
   ·have:=hcz h;omega
   ·exact h
  have hbig:max (lim a).length (lim b).length<i+1→q/65536=0:=fun h=>by
   have:=hxz (by omega)
   have:=hyz (by omega)
   omega
  refine⟨⟨by omega,by simp[hol],qE.2 ⟨hog,zH.2 (by omega)⟩,by omega,hstep q hq,hbig⟩,?_⟩
  by_cases hm:max (lim a).length (lim b).length<i+1
  ·have:=hbig hm;omega
  ·omega
 by_cases h1:(i:Int)<(lim a).length<;>by_cases h2:(i:Int)<(lim b).length
 ·simp(disch:=omega)only[go_sem,h1,h2]
  obtain⟨k1,k2⟩:=key _ rfl (.inl h1)
  refine⟨by omega,by omega,by omega,by omega,by omega,qc (i+1,out++[(cy+(lim a).getD i 0+(lim b).getD i 0) % 65536],(cy+(lim a).getD i 0+(lim b).getD i 0)/65536) [(1,580000000)] k1 k2 rfl (by simp(disch:=omega)only[go_sem,List.length_append];try omega) (by simp(disch:=omega)only[go_sem])⟩
 ·simp(disch:=omega)only[go_sem,h1,h2]
  have e0:cy+(lim a).getD i 0=cy+(lim a).getD i 0+(lim b).getD i 0:=by rw[hyz h2];omega
  obtain⟨k1,k2⟩:=key (cy+(lim a).getD i 0) e0 (.inl h1)
  refine⟨by omega,by omega,by omega,qc (i+1,out++[(cy+(lim a).getD i 0) % 65536],(cy+(lim a).getD i 0)/65536) [(1,580000000)] k1 k2 rfl (by simp(disch:=omega)only[go_sem,List.length_append];try omega) (by simp(disch:=omega)only[go_sem])⟩
 ·simp(disch:=omega)only[go_sem,h1,h2]
  have e0:cy+(lim b).getD i 0=cy+(lim a).getD i 0+(lim b).getD i 0:=by rw[hxz h1];omega
  obtain⟨k1,k2⟩:=key (cy+(lim b).getD i 0) e0 (.inr (.inl h2))
  refine⟨by omega,by omega,by omega,qc (i+1,out++[(cy+(lim b).getD i 0) % 65536],(cy+(lim b).getD i 0)/65536) [(1,580000000)] k1 k2 rfl (by simp(disch:=omega)only[go_sem,List.length_append];try omega) (by simp(disch:=omega)only[go_sem])⟩
 ·by_cases h3:0<cy
  ·simp(disch:=omega)only[go_sem,h1,h2,h3]
   have e0:cy=cy+(lim a).getD i 0+(lim b).getD i 0:=by rw[hxz h1,hyz h2];omega
   obtain⟨k1,k2⟩:=key cy e0 (.inr (.inr h3))
   refine⟨by omega,qc (i+1,out++[cy % 65536],cy/65536) [(1,580000000)] k1 k2 rfl (by simp(disch:=omega)only[go_sem,List.length_append];try omega) (by simp(disch:=omega)only[go_sem])⟩
  ·have hcy0:cy=0:=by omega
   have hov2:vl out=((a+b:Nat):Int):=by
    rw[List.take_of_length_le (by omega),List.take_of_length_le (by omega),qW,qW,hcy0]at hov
    simp at hov;omega
   simp(disch:=omega)only[go_sem,h1,h2,h3]
   refine qB (z7 true out (a+b) (by omega) hog hov2) (by simp(disch:=omega)only[go_sem]) ?_
   rintro r hs (⟨h0,rfl,rfl⟩|⟨zs,rfl,rfl⟩)
   ·refine⟨⟨by simp,by simp(disch:=omega)only[go_sem]⟩,?_⟩
    simp(disch:=omega)only[go_sem]
    refine qh [] [] [] [.ag [.v (.slice none 0 0)]] rfl (by simp(disch:=omega)only[go_sem]) (by simp(disch:=omega)only[go_sem]) (by simp) (by intro _;simp[zb,AV.pu,AV.pu.puL,Ob.pu,qS]) (.inl ⟨h0,rfl,rfl⟩)
   ·refine⟨⟨by simp,by simp(disch:=omega)only[go_sem]⟩,?_⟩
    simp(disch:=omega)only[go_sem]
    refine qh [(0,620000000)] [.own 1 (qb (lim (a+b)++zs))] [] [.ag [.rf 0 0 (lim (a+b)).length]] rfl (by simp(disch:=omega)only[go_sem]) (by simp(disch:=omega)only[go_sem]) (by simp) (by intro _;simp[zb,AV.pu,AV.pu.puL,Ob.pu,qS]) (.inr ⟨zs,rfl,rfl⟩)
end Go.Ab
namespace Go.Ab
open Go Go.Proofs
set_option maxRecDepth 100000 in
theorem Jl(cl:Bool)(A:List Int)(hA:gd A)(b:Nat)(lA:A.length≤1000000)(lB:(lim b).length≤1000000)(m:Nat)(hm:vl A*(b:Int)=(m:Int)):
  Con Tryz.prog 265 cl [.ag [.sl A.length (qb A)],.ag [.sl (lim (b)).length (qb (lim (b)))]] [] (azY m):=by
 refine Con.of_aw Tryz.func265 rfl Tryz.ntmps265 (by simp) (by simp) (by simp) (W.sound ?_)
 show @W Tryz.prog 80 ⟨_⟩ ⟨fun x σ=>@qZ _ _ _ ⟨_⟩ _ ⟨_⟩ x σ⟩ _ _
 have hvb:=qW b
 have hB:=qX b
 generalize lim b=B at*
 simp(disch:=omega)only[go_sem]
 refine⟨by omega,?_⟩
 refine qi (fun x:Nat×List Int=>[(2,.pt 0 0),(3,.pt 1 0),(4,.pt 2 0),(5,.rf 3 0 (A.length+B.length)),(6,.v (.int .i64 x.1))])
  (fun x=>[(0,.own 0 [.sl A.length (qb A)]),(1,.own 0 [.sl B.length (qb B)]),(2,.own 0 [.v (.slice none 0 0)]),(3,.own 1 (qb x.2))])
  (fun x=>x.1≤A.length∧x.2.length=A.length+B.length∧gd x.2∧vl x.2=vl (A.take x.1)*vl B∧∀j,x.1+B.length≤j→x.2.getD j 0=0)
  (fun x=>A.length-x.1) (0,List.replicate (A.length+B.length) 0) ⟨by simp,by simp,zg _,by simp[zD,vl],fun j _=>by
   rw[List.getD_eq_getElem?_getD,List.getElem?_replicate];split<;>rfl⟩
  (Le.lst [(0,40000000),(1,50000000),(2,60000000),(3,190000000)] _ _ rfl (by simp(disch:=omega)only[go_sem];try omega) (by simp(disch:=omega)only[go_sem,show((A.length:Int)+(B.length:Int)).toNat=A.length+B.length by omega])) ?_
 rintro⟨i,out⟩ ⟨hi,hol,hog,hov,hoz⟩
 dsimp only at hi hol hog hov hoz ⊢
 simp(disch:=omega)only[go_sem]
 refine qe (fun h1=>?_) (fun h1=>?_)
 ·have hx:=qJ hA i
  simp(disch:=omega)only[go_sem,h1]
  refine qi (fun x:Nat×List Int×Int=>[(2,.pt 0 0),(3,.pt 1 0),(4,.pt 2 0),(5,.rf 3 0 (A.length+B.length)),(6,.v (.int .i64 i)),(7,.v (.int .i64 x.2.2)),(8,.v (.int .i64 x.1))])
   (fun x=>[(0,.own 0 [.sl A.length (qb A)]),(1,.own 0 [.sl B.length (qb B)]),(2,.own 0 [.v (.slice none 0 0)]),(3,.own 1 (qb x.2.1))])
   (fun x=>x.1≤B.length∧x.2.1.length=A.length+B.length∧gd x.2.1∧(0≤x.2.2∧x.2.2<65536)∧vl x.2.1+65536^(i+x.1)*x.2.2=vl out+65536^i*(A.getD i 0*vl (B.take x.1))∧∀j,i+B.length≤j→x.2.1.getD j 0=0)
   (fun x=>B.length-x.1) (0,out,0) ⟨by simp,hol,hog,by simp,by simp[vl],hoz⟩
   (Le.lst [] _ _ rfl (by simp(disch:=omega)only[go_sem];try omega) (by simp(disch:=omega)only[go_sem])) ?_
  rintro⟨j,o2,cy⟩ ⟨hj,hol2,hog2,hcy,hov2,hoz2⟩
  dsimp only at hj hol2 hog2 hcy hov2 hoz2 ⊢
  simp(disch:=omega)only[go_sem]
  refine qe (fun h2=>?_) (fun h2=>?_)
  ·have hy:=qJ hB j
   have ho:=qJ hog2 (i+j)
   have hxy:=anL hx hy
   have e1:((i:Int)+(j:Int)).toNat=i+j:=by omega
   simp(disch:=omega)only[go_sem,h2]
   refine qt rfl [⟨0,[],[]⟩,⟨1,[],[]⟩,⟨2,[],[]⟩,⟨3,[],[]⟩,⟨4,[],[]⟩,⟨5,[],[]⟩,⟨6,[5],[]⟩,⟨7,[5],[]⟩,⟨8,[5,7],[]⟩,⟨9,[5],[]⟩,⟨10,[5],[]⟩,⟨11,[5,7,10],[]⟩,⟨12,[5,7,10],[]⟩,⟨13,[5,7,10,12],[]⟩,⟨14,[5,7,10],[]⟩,⟨15,[5,7,10],[]⟩,⟨16,[5],[]⟩,⟨17,[],[]⟩,⟨18,[5,7,10,12,15],[]⟩,⟨19,[],[]⟩,⟨20,[],[]⟩] (by kernel_rfl) ?_
   simp(disch:=omega)only[go_sem,e1]
   generalize hq:o2.getD (i+j) 0+A.getD i 0*B.getD j 0+cy=q
   refine⟨by omega,by omega,by omega,by omega,by omega,by omega,by omega,by omega,qc (j+1,o2.set (i+j) (q % 65536),q/65536) [] ⟨by show j+1≤_;omega,by simp[hol2],yk hog2 (by omega),by show 0≤q/65536∧q/65536<65536;omega,?_,fun k hk=>?_⟩
    (by show B.length-(j+1)<B.length-j;omega) rfl (by simp(disch:=omega)only[go_sem];try omega) (by simp(disch:=omega)only[go_sem])⟩
   ·show vl (o2.set (i+j) (q % 65536))+65536^(i+(j+1))*(q/65536)=vl out+65536^i*(A.getD i 0*vl (B.take (j+1)))
    rw[Qk (by omega),zP (by omega),←Nat.add_assoc,Int.pow_succ]
    have e2:(65536:Int)^(i+j)=65536^i*65536^j:=Int.pow_add _ _ _
    have e3:q % 65536+65536*(q/65536)=q:=Int.emod_add_mul_ediv q 65536
    rw[e2]at hov2 ⊢
    generalize (65536:Int)^i=Pi at*
    generalize (65536:Int)^j=Pj at*
    grind
   ·show(o2.set (i+j) (q % 65536)).getD k 0=0
    rw[List.getD_eq_getElem?_getD,List.getElem?_set_ne (by omega),←List.getD_eq_getElem?_getD]
    exact hoz2 k hk
  ·simp(disch:=omega)only[go_sem,h2]
   have e1:((i:Int)+(B.length:Int)).toNat=i+B.length:=by omega
   have hjB:j=B.length:=by omega
   subst hjB
   rw[List.take_length]at hov2
   have hz:=hoz2 (i+B.length) (Nat.le_refl _)
   refine qt rfl [⟨0,[],[]⟩,⟨1,[],[]⟩,⟨2,[],[]⟩,⟨3,[],[]⟩,⟨4,[],[]⟩,⟨5,[],[]⟩,⟨6,[3],[]⟩,⟨7,[3],[]⟩,⟨8,[3],[]⟩,⟨9,[3],[]⟩,⟨10,[3],[]⟩,⟨11,[3],[]⟩,⟨12,[3],[]⟩,⟨13,[3],[]⟩,⟨14,[3,9,13],[]⟩,⟨15,[3],[]⟩,⟨16,[],[]⟩,⟨17,[],[]⟩] (by kernel_rfl) ?_
   simp(disch:=omega)only[go_sem,e1,hz]
   have e0:(0:Int)+cy=cy:=by omega
   refine⟨by omega,by omega,by omega,by omega,qc (i+1,o2.set (i+B.length) cy) [] ⟨by show i+1≤_;omega,by simp[hol2],yk hog2 hcy,?_,fun k hk=>?_⟩ (by show A.length-(i+1)<A.length-i;omega) rfl (by simp(disch:=omega)only[go_sem];try omega) (by simp(disch:=omega)only[go_sem,e0])⟩
   ·show vl (o2.set (i+B.length) cy)=vl (A.take (i+1))*vl B
    rw[Qk (by omega),hz,zP (by omega)]
    generalize (65536:Int)^i=Pi at*
    grind
   ·show(o2.set (i+B.length) cy).getD k 0=0
    rw[List.getD_eq_getElem?_getD,List.getElem?_set_ne (by show i+B.length≠k;omega),←List.getD_eq_getElem?_getD]
    exact hoz2 k (by omega)
 ·simp(disch:=omega)only[go_sem,h1]
  have hiA:i=A.length:=by omega
  subst hiA
  rw[List.take_length,hvb,hm]at hov
  rw[←hol]
  refine qB (z7 true (out) (m) (by omega) (hog) (hov)) (by simp(disch:=omega)only[go_sem]) ?_
  rintro r hs (⟨h0,rfl,rfl⟩|⟨zs,rfl,rfl⟩)
  ·refine⟨⟨by simp,by simp(disch:=omega)only[go_sem]⟩,?_⟩
   simp(disch:=omega)only[go_sem]
   refine qh [] [] [] [.ag [.v (.slice none 0 0)]] rfl (by simp(disch:=omega)only[go_sem]) (by simp(disch:=omega)only[go_sem]) (by simp) (by intro _;simp[zb,AV.pu,AV.pu.puL,Ob.pu,qS]) (.inl ⟨h0,rfl,rfl⟩)
  ·refine⟨⟨by simp,by simp(disch:=omega)only[go_sem]⟩,?_⟩
   simp(disch:=omega)only[go_sem]
   refine qh [(0,810000000)] [.own 1 (qb (lim (m)++zs))] [] [.ag [.rf 0 0 (lim (m)).length]] rfl (by simp(disch:=omega)only[go_sem]) (by simp(disch:=omega)only[go_sem]) (by simp) (by intro _;simp[zb,AV.pu,AV.pu.puL,Ob.pu,qS]) (.inr ⟨zs,rfl,rfl⟩)
theorem ao0(cl:Bool)(a b:Nat)(la:(lim a).length≤1000000)(lb:(lim b).length≤1000000):Con Tryz.prog 265 cl [.ag [.sl (lim (a)).length (qb (lim (a)))],.ag [.sl (lim (b)).length (qb (lim (b)))]] [] (azY (a*b)):=
 Jl cl (lim a) (qX a) b la lb (a*b) (by rw[qW,Int.natCast_mul])
end Go.Ab
namespace Go.Ab
open Go Go.Proofs
def aMX(m:Nat)(r0:Int):AV→List Ob→List Ob→Prop:=fun r hs bs=>
 (m=0∧r=.tu [.ag [.v (.slice none 0 0)],.v (.int .i64 r0)]∧hs=[])∨∃zs,r=.tu [.ag [.rf 0 0 (lim m).length],.v (.int .i64 r0)]∧hs=[.own 1 (qb (lim m++zs))]
theorem Con.natF2{P:Program}{f:FuncId}{args:List AV}{m:Nat}{r0:Int}(h:Con P f false args [] (aMX m r0)):Con P f false args [] (isA (.tu [.ag [.sl (lim (m)).length (qb (lim (m)))],.v (.int .i64 r0)])):=
 Con.frzA <| h.mono fun r hs bs h=>by
  rcases h with⟨rfl,rfl,rfl⟩|⟨zs,rfl,rfl⟩
  ·show qG _ 6 _=_
   rw[ql];rfl
  ·show qG _ 6 _=_
   rw[JB,List.map_cons,List.map_cons,List.map_nil,acu,List.map_cons,List.map_nil,jB (k:=2) (l:=lim m) (zs:=zs) zd rfl]
   rfl
theorem Kt(cl:Bool)(A:List Int)(d:Nat)(hA:gd A)(lA:A.length≤1000000)(hd:0<d)(hd2:d<65536)(m:Nat)(hm:vl A/(d:Int)=(m:Int)):
  Con Tryz.prog 279 cl [.ag [.sl A.length (qb A)],.v (.int .i64 d)] [] (aMX m (vl A % d)):=by
 refine Con.of_aw Tryz.func279 rfl Tryz.ntmps279 (by simp) (by simp) (by simp) (W.sound ?_)
 show @W Tryz.prog 42 ⟨_⟩ ⟨fun x σ=>@qZ _ _ _ ⟨_⟩ _ ⟨_⟩ x σ⟩ _ _
 simp(disch:=omega)only[go_sem]
 refine⟨by omega,?_⟩
 refine qi (fun x:Nat×List Int×Int=>[(1,.v (.int .i64 d)),(2,.pt 0 0),(4,.pt 1 0),(6,.rf 2 0 A.length),(7,.v (.int .i64 x.2.2)),(8,.v (.int .i64 ((x.1:Int)-1)))])
  (fun x=>[(0,.own 0 [.sl A.length (qb A)]),(1,.own 0 [.v (.slice none 0 0)]),(2,.own 1 (qb x.2.1))])
  (fun x=>x.1≤A.length∧x.2.1.length=A.length∧gd x.2.1∧x.2.2=vl (A.drop x.1) % d∧vl (x.2.1.drop x.1)=vl (A.drop x.1)/d)
  (fun x=>x.1) (A.length,List.replicate A.length 0,0) ⟨Nat.le_refl _,by simp,zg _,by simp[vl],by simp[vl]⟩
  (Le.lst [(0,40000000),(1,60000000),(2,150000000)] _ _ rfl (by simp(disch:=omega)only[go_sem,List.length_replicate];try omega) (by simp(disch:=omega)only[go_sem])) ?_
 rintro⟨k,out,rest⟩ ⟨hk,hol,hog,hr,hov⟩
 dsimp only at hk hol hog hr hov ⊢
 have hr0:0≤rest∧rest<d:=by rw[hr];exact⟨Int.emod_nonneg _ (by omega),Int.emod_lt_of_pos _ (by omega)⟩
 simp(disch:=omega)only[go_sem]
 refine qe (fun h1=>?_) (fun h1=>?_)
 ·obtain⟨i,rfl⟩:∃i,k=i+1:=⟨k-1,by omega⟩
  have ei:((i+1:Nat):Int)-1=(i:Nat):=by omega
  have hx:=qJ hA i
  have hq6:0≤(rest*65536+A.getD i 0)/d∧(rest*65536+A.getD i 0)/d<65536:=by
   refine⟨Int.ediv_nonneg (by omega) (by omega),Int.ediv_lt_of_lt_mul (by omega) ?_⟩
   have:rest+1≤(d:Int):=by omega
   have:=Int.mul_le_mul_of_nonneg_left this (show(0:Int)≤65536 by omega)
   omega
  simp(disch:=omega)only[go_sem,h1,ei]
  generalize hq:rest*65536+A.getD i 0=q at*
  refine⟨by omega,by omega,by omega,by omega,by omega,by omega,qc (i,out.set i (q/d),q % d) [] ⟨by show i≤_;omega,by simp[hol],yk hog hq6,?_,?_⟩ (by show i<i+1;omega) rfl (by simp(disch:=omega)only[go_sem];try omega) (by simp(disch:=omega)only[go_sem])⟩
  ·show q % d=vl (A.drop i) % d
   rw[zq (l:=A) (i:=i) (by omega),←hq,hr]
   have h3:=Int.emod_add_mul_ediv (vl (A.drop (i+1))) d
   rw[show A.getD i 0+65536*vl (A.drop (i+1))=vl (A.drop (i+1)) % d*65536+A.getD i 0+d*(65536*(vl (A.drop (i+1))/d)) by grind,Int.add_mul_emod_self_left]
  ·show vl ((out.set i (q/d)).drop i)=vl (A.drop i)/d
   rw[drop_set (by omega),vl,hov,zq (l:=A) (i:=i) (by omega),←hq,hr]
   have h3:=Int.emod_add_mul_ediv (vl (A.drop (i+1))) d
   rw[show A.getD i 0+65536*vl (A.drop (i+1))=vl (A.drop (i+1)) % d*65536+A.getD i 0+d*(65536*(vl (A.drop (i+1))/d)) by grind,Int.add_mul_ediv_left _ _ (by omega)]
 ·simp(disch:=omega)only[go_sem,h1]
  have:k=0:=by omega
  subst this
  rw[List.drop_zero,List.drop_zero,hm]at hov
  rw[List.drop_zero]at hr
  rw[←hol]
  refine qB (z7 true out m (by omega) hog hov) (by simp(disch:=omega)only[go_sem]) ?_
  rintro r hs (⟨h0,rfl,rfl⟩|⟨zs,rfl,rfl⟩)
  ·refine⟨⟨by simp,by simp(disch:=omega)only[go_sem]⟩,?_⟩
   simp(disch:=omega)only[go_sem]
   rw[hr]
   refine qh [] [] [] [.ag [.v (.slice none 0 0)],.v (.int .i64 (vl A % d))] rfl (by simp(disch:=omega)only[go_sem]) (by simp(disch:=omega)only[go_sem]) (by simp) (by intro _;simp[zb,AV.pu,AV.pu.puL,Ob.pu,qS]) (.inl ⟨h0,rfl,rfl⟩)
  ·refine⟨⟨by simp,by simp(disch:=omega)only[go_sem]⟩,?_⟩
   simp(disch:=omega)only[go_sem]
   rw[hr]
   refine qh [(0,420000000)] [.own 1 (qb (lim m++zs))] [] [.ag [.rf 0 0 (lim m).length],.v (.int .i64 (vl A % d))] rfl (by simp(disch:=omega)only[go_sem]) (by simp(disch:=omega)only[go_sem]) (by simp) (by intro _;simp[zb,AV.pu,AV.pu.puL,Ob.pu,qS]) (.inr ⟨zs,rfl,rfl⟩)
/-! ### Shifts-/
theorem anb{k:Nat}(hk:k<16):IntKind.i64.wrap (1*2^(min ((k:Int)).toNat 64))=((2^k:Nat):Int):=by
 have e:min ((k:Int)).toNat 64=k:=by omega
 rw[e,Int.one_mul]
 have h:=jR k hk
 rw[aiV (by omega) (by omega),Int.natCast_pow];rfl
theorem aoZ(cl:Bool)(a k:Nat)(la:(lim a).length≤400000)(hk:k≤5000000):Con Tryz.prog 235 cl [.ag [.sl (lim (a)).length (qb (lim (a)))],.v (.int .i64 k)] [] (azY (a*2^k)):=by
 refine Con.of_aw Tryz.func235 rfl Tryz.ntmps235 (by simp) (by simp) (by simp) (W.sound ?_)
 show @W Tryz.prog 22 ⟨_⟩ ⟨fun x σ=>@qZ _ _ _ ⟨_⟩ _ ⟨_⟩ x σ⟩ _ _
 have hz:((lim a).length:Int)=0→a=0:=fun h=>qF.1 (List.length_eq_zero_iff.1 (by omega))
 have hvA:=qW a
 have gA:=qX a
 generalize hLA:lim a=A at*
 simp(disch:=omega)only[go_sem]
 refine qe (fun h1=>?_) (fun h1=>?_)
 ·simp(disch:=omega)only[go_sem,h1]
  have h0:=hz h1
  subst h0
  refine qh [] [] [] [.ag [.v (.slice none 0 0)]] rfl (by simp(disch:=omega)only[go_sem]) (by simp(disch:=omega)only[go_sem]) (by simp) (by intro _;simp[zb,AV.pu,AV.pu.puL,Ob.pu,qS]) (.inl ⟨by simp,rfl,rfl⟩)
 ·simp(disch:=omega)only[go_sem,h1]
  refine qt rfl [⟨0,[],[]⟩,⟨1,[],[]⟩,⟨3,[],[]⟩,⟨4,[],[]⟩,⟨7,[4],[]⟩,⟨8,[4],[]⟩,⟨9,[4],[]⟩,⟨2,[4],[]⟩,⟨5,[],[]⟩,⟨6,[],[]⟩,⟨10,[],[]⟩,⟨11,[],[]⟩,⟨12,[],[]⟩] (by kernel_rfl) ?_
  have e16:((k:Int)/16).toNat=k/16:=by omega
  have e17:(k:Int) % 16=((k % 16:Nat):Int):=by omega
  have es:IntKind.i64.wrap (1*2^(min ((k:Int) % 16).toNat 64))=((2^(k % 16):Nat):Int):=by rw[e17];exact anb (by omega)
  have hp15:2^(k % 16)≤2^15:=Nat.pow_le_pow_right (by omega) (by omega)
  have ecut:(List.replicate (k/16) (0:Int)).take (k/16)=List.replicate (k/16) 0:=List.take_of_length_le (by simp)
  simp(disch:=omega)only[go_sem,e16,ecut,es]
  refine⟨by omega,by omega,by simp;omega,?_⟩
  refine qa ((Ye false (2^(k % 16)) (by omega)).natF) ?_
  simp(disch:=omega)only[go_sem]
  have hvA2:vl (List.replicate (k/16) 0++A)*((2^(k % 16):Nat):Int)=((a*2^k:Nat):Int):=by
   rw[yB,zD,hvA,List.length_replicate]
   have h2:a*2^k=65536^(k/16)*a*2^(k % 16):=by
    have:2^k=65536^(k/16)*2^(k % 16):=by rw[Q2,←Nat.pow_add,Nat.div_add_mod]
    rw[this];grind
   rw[h2,Int.natCast_mul,Int.natCast_mul,Int.natCast_pow]
   simp
  have gA2:gd (List.replicate (k/16) 0++A):=qE.2 ⟨zg _,gA⟩
  have lA2:(List.replicate (k/16) (0:Int)++A).length=k/16+A.length:=by simp
  have et:(List.replicate (k/16) (0:Int)++A).take (k/16+A.length)=List.replicate (k/16) 0++A:=List.take_of_length_le (by simp)
  have l2s:(lim (2^(k % 16))).length≤1000000:=by
   have:=qx (m:=2^(k % 16)) (B:=16) (zk.2 (by omega));omega
  refine qB (Jl true (List.replicate (k/16) 0++A) gA2 (2^(k % 16)) (by omega) l2s (a*2^k) hvA2) (by simp(disch:=omega)only[go_sem,lA2,et]) ?_
  rintro r hs (⟨h0,rfl,rfl⟩|⟨zs,rfl,rfl⟩)
  ·refine⟨⟨by simp,by simp(disch:=omega)only[go_sem]⟩,?_⟩
   simp(disch:=omega)only[go_sem]
   refine qh [] [] [] [.ag [.v (.slice none 0 0)]] rfl (by simp(disch:=omega)only[go_sem]) (by simp(disch:=omega)only[go_sem]) (by simp) (by intro _;simp[zb,AV.pu,AV.pu.puL,Ob.pu,qS]) (.inl ⟨h0,rfl,rfl⟩)
  ·refine⟨⟨by simp,by simp(disch:=omega)only[go_sem]⟩,?_⟩
   simp(disch:=omega)only[go_sem]
   refine qh [(0,230000000)] [.own 1 (qb (lim (a*2^k)++zs))] [] [.ag [.rf 0 0 (lim (a*2^k)).length]] rfl (by simp(disch:=omega)only[go_sem]) (by simp(disch:=omega)only[go_sem]) (by simp) (by intro _;simp[zb,AV.pu,AV.pu.puL,Ob.pu,qS]) (.inr ⟨zs,rfl,rfl⟩)
end Go.Ab
namespace Go.Ab
open Go Go.Proofs
theorem aoY(a k:Nat)(la:(lim a).length≤1000000)(hk:k≤100000000):Con Tryz.prog 234 false [.ag [.sl (lim (a)).length (qb (lim (a)))],.v (.int .i64 k)] [] (isA (.ag [.sl (lim (a/2^k)).length (qb (lim (a/2^k)))])):=by
 refine Con.frzA ?_
 refine Con.of_aw Tryz.func234 rfl Tryz.ntmps234 (by simp) (by simp) (by simp) (W.sound ?_)
 show @W Tryz.prog 28 ⟨_⟩ ⟨fun x σ=>@qZ _ _ _ ⟨_⟩ _ ⟨_⟩ x σ⟩ _ _
 simp(disch:=omega)only[go_sem]
 refine qe (fun h1=>?_) (fun h1=>?_)
 ·simp(disch:=omega)only[go_sem,h1]
  have h0:a/2^k=0:=by
   refine Nat.div_eq_of_lt (Nat.lt_of_lt_of_le (Q7 a) ?_)
   rw[Q2];exact Nat.pow_le_pow_right (by omega) (by omega)
  rw[h0,ql]
  exact qj
 ·simp(disch:=omega)only[go_sem,h1]
  refine qt rfl [⟨0,[],[]⟩,⟨1,[],[]⟩,⟨2,[1],[]⟩,⟨3,[1],[]⟩,⟨4,[],[]⟩,⟨5,[],[]⟩,⟨6,[1,4],[]⟩,⟨7,[1,4],[]⟩,⟨8,[1,4],[]⟩,⟨13,[1,4],[]⟩,⟨9,[],[70000000]⟩,⟨10,[],[70000000]⟩,⟨11,[],[70000000]⟩,⟨12,[],[70000000]⟩,⟨14,[],[]⟩,⟨15,[],[]⟩] (by kernel_rfl) ?_
  have e16:((k:Int)/16).toNat=k/16:=by omega
  have e17:(k:Int) % 16=((k % 16:Nat):Int):=by omega
  have e18:(((lim a).length:Int)-(k:Int)/16).toNat=((lim a).drop (k/16)).length:=by simp;omega
  have es:IntKind.i64.wrap (1*2^(min ((k:Int) % 16).toNat 64))=((2^(k % 16):Nat):Int):=by rw[e17];exact anb (by omega)
  have hp15:2^(k % 16)≤2^15:=Nat.pow_le_pow_right (by omega) (by omega)
  have hp0:0<2^(k % 16):=Nat.pow_pos (by omega)
  have hvD:=adl (qX a) (i:=k/16) (by omega)
  have gD:=jW (qX a) (k/16)
  have hlD:((lim a).drop (k/16)).length≤1000000:=by simp;omega
  have hm:vl ((lim a).drop (k/16))/((2^(k % 16):Nat):Int)=((a/2^k:Nat):Int):=by
   rw[←hvD,qW]
   have:a/2^k=a/65536^(k/16)/2^(k % 16):=by rw[Nat.div_div_eq_div_mul,Q2,←Nat.pow_add,Nat.div_add_mod]
   rw[this,Int.natCast_ediv,Int.natCast_ediv,Int.natCast_pow 65536];rfl
  have et:((lim a).drop (k/16)).take ((lim a).drop (k/16)).length=(lim a).drop (k/16):=List.take_length
  simp(disch:=omega)only[go_sem,e16,e18,et,es]
  generalize (lim a).drop (k/16)=D at*
  refine⟨by omega,by omega,?_⟩
  refine qa ((Kt false D (2^(k % 16)) gD hlD hp0 (by omega) (a/2^k) hm).natF2) ?_
  simp(disch:=omega)only[go_sem]
  exact qj
theorem aKV(a:Nat)(la:(lim a).length≤2^40):Con Tryz.prog 290 true [.ag [.sl (lim (a)).length (qb (lim (a)))]] [] (isA (.v (.int .i64 (bl a)))):=by
 refine Con.of_aw Tryz.func290 rfl Tryz.ntmps290 (by simp) (by simp) (by simp) (W.sound ?_)
 show @W Tryz.prog 29 ⟨_⟩ ⟨fun x σ=>@qZ _ _ _ ⟨_⟩ _ ⟨_⟩ x σ⟩ _ _
 simp(disch:=omega)only[go_sem]
 refine qe (fun h1=>?_) (fun h1=>?_)
 ·simp(disch:=omega)only[go_sem,h1]
  have:a=0:=qF.1 (List.length_eq_zero_iff.1 (by omega))
  subst this
  rw[yA]
  exact qz
 ·have hm:a≠0:=fun e=>by rw[e,ql]at h1;simp at h1
  have e2:(((lim a).length:Int)-1).toNat=(lim a).length-1:=by omega
  have ht:=Q9 hm
  have hb:=apu hm
  have eq:(lim a).getD ((lim a).length-1) 0=((a/65536^((lim a).length-1):Nat):Int):=by rw[zF,Nat.mod_eq_of_lt ht.2]
  generalize a/65536^((lim a).length-1)=q at*
  simp(disch:=omega)only[go_sem,h1,e2,eq]
  refine⟨by omega,by omega,?_⟩
  refine qi (fun x:Nat×Nat=>[(3,.v (.int .i64 x.1)),(4,.v (.int .i64 x.2))]) (fun _=>[]) (fun x=>x.1+bl x.2=bl a∧x.2<65536∧x.1≤2^45) (fun x=>x.2) (16*((lim a).length-1),q) ⟨hb.symm,ht.2,by show 16*((lim a).length-1)≤2^45;omega⟩ (Le.lst [] _ _ rfl (by simp(disch:=omega)only[go_sem];try omega) (by simp(disch:=omega)only[go_sem])) ?_
  rintro⟨n,x⟩ ⟨hn,hx,hn2⟩
  dsimp only at hn hx hn2 ⊢
  simp(disch:=omega)only[go_sem]
  refine qe (fun h2=>?_) (fun h2=>?_)
  ·simp(disch:=omega)only[go_sem,h2]
   have hd:=aDd (x:=x) (by omega)
   have hp:=zk.2 (show x<2^16 by omega)
   refine qc (n+1,x/2) [] ⟨by show n+1+bl (x/2)=bl a;omega,by show x/2<65536;omega,?_⟩ (by show x/2<x;omega) rfl (by simp(disch:=omega)only[go_sem];try omega) (by simp(disch:=omega)only[go_sem])
   show n+1≤2^45
   have:=KL (m:=a)
   omega
  ·simp(disch:=omega)only[go_sem,h2]
   have:x=0:=by omega
   subst this
   rw[yA]at hn
   refine qA (by simp(disch:=omega)only[go_sem]) (by simp(disch:=omega)only[go_sem]) ⟨?_,rfl,rfl⟩
   simp[zb];omega
theorem Ku(m:Nat)(i:Int)(hl:(lim m).length≤2^40)(hi:0≤i)(hi2:i<2^62):Con Tryz.prog 138 true [.ag [.sl (lim (m)).length (qb (lim (m)))],.v (.int .i64 i)] [] (isA (.v (.int .i64 ((m/2^i.toNat % 2:Nat):Int)))):=by
 refine Con.of_w (rs:=[.tmp 4]) Tryz.func138 rfl Tryz.ntmps138 rfl ?_
 obtain⟨k,rfl⟩:=Int.eq_ofNat_of_zero_le hi
 rw[Int.toNat_natCast]
 have h0:¬((k:Int)<0):=by omega
 have e16:((k:Int)/16).toNat=k/16:=by omega
 have em:min ((k:Int) % 16).toNat 64=k % 16:=by omega
 have hb:=apv m k
 simp(disch:=omega)only[go_sem,h0]
 refine qe (fun h1=>?_) (fun h1=>?_)
 ·simp(disch:=omega)only[go_sem,h1]
  have:m/2^k % 2=0:=by
   rw[←hb]
   have h2:=zF m (k/16)
   rw[List.getD_eq_getElem?_getD,List.getElem?_eq_none (by omega)]at h2
   have h3:m/65536^(k/16) % 65536=0:=by simp only[Option.getD_none]at h2;omega
   rw[h3];simp
  rw[this]
  exact qz
 ·have hx:=qJ (qX m) (k/16)
  have hp:(0:Int)<2^(k % 16):=Int.pow_pos (by omega)
  have efd:∀x:Int,x.fdiv (2^(k % 16))=x/2^(k % 16):=fun x=>Int.fdiv_eq_ediv_of_nonneg _ (Int.le_of_lt hp)
  have hq:0≤(lim m).getD (k/16) 0/2^(k % 16)∧(lim m).getD (k/16) 0/2^(k % 16)<65536:=by
   refine⟨Int.ediv_nonneg hx.1 (Int.le_of_lt hp),Int.lt_of_le_of_lt (Int.ediv_le_self _ hx.1) hx.2⟩
  have hr:(lim m).getD (k/16) 0/2^(k % 16) % 2=((m/2^k % 2:Nat):Int):=by
   rw[←hb,zF]
   generalize m/65536^(k/16) % 65536=x
   rw[Int.natCast_emod,Int.natCast_ediv,Int.natCast_pow];rfl
  simp(disch:=omega)only[go_sem,h1,e16,em,efd,hr]
  refine⟨by omega,by omega,by omega,?_⟩
  exact qz
theorem ap1{m i:Nat}(hz:∀j,j<i→m/2^j % 2=0)(h1:m/2^i % 2=1):tz m=i:=by
 have key:∀k,k≤i→2^k*(m/2^k)=m:=by
  intro k
  induction k with
  |zero=>intro _;simp
  |succ k ih=>
   intro hk
   have h2:=ih (by omega)
   have h3:=hz k (by omega)
   have h4:m/2^(k+1)=m/2^k/2:=by rw[Nat.pow_succ,Nat.div_div_eq_div_mul]
   rw[h4,Nat.pow_succ,Nat.mul_assoc,show 2*(m/2^k/2)=m/2^k by omega];exact h2
 refine y3 (a:=m/2^i/2) ?_
 have:=key i (Nat.le_refl _)
 rw[show 2*(m/2^i/2)+1=m/2^i by omega];exact this.symm
theorem ac0(m:Nat)(hl:(lim m).length≤2^40):Con Tryz.prog 233 true [.ag [.sl (lim (m)).length (qb (lim (m)))]] [] (isA (.v (.int .i64 (tz m)))):=by
 refine Con.of_w (rs:=[.tmp 2]) Tryz.func233 rfl Tryz.ntmps233 rfl ?_
 simp(disch:=omega)only[go_sem]
 refine qi (fun i:Nat=>[(1,.pt 0 0),(3,.v (.int .i64 i))]) (fun _=>[(0,.own 0 [.sl (lim (m)).length (qb (lim (m)))])]) (fun i=>i≤16*(lim m).length∧∀j,j<i→m/2^j % 2=0) (fun i=>16*(lim m).length-i) 0 ⟨by omega,fun j hj=>by omega⟩ (Le.lst [(0,30000000)] _ _ rfl (by simp(disch:=omega)only[go_sem];try omega) (by simp(disch:=omega)only[go_sem])) ?_
 rintro i ⟨hi,hz⟩
 simp(disch:=omega)only[go_sem]
 refine qe (fun h1=>?_) (fun h1=>?_)
 ·simp(disch:=omega)only[go_sem,h1]
  refine qk (Ku m i hl (by omega) (by omega)) ?_
  simp(disch:=omega)only[go_sem]
  refine qe (fun h2=>?_) (fun h2=>?_)
  ·simp(disch:=omega)only[go_sem,h2]
   have:=ap1 hz (by omega)
   rw[this]
   exact qz
  ·simp(disch:=omega)only[go_sem,h2]
   refine qc (i+1) [] ⟨by omega,fun j hj=>?_⟩ (by show 16*(lim m).length-(i+1)<16*(lim m).length-i;omega) rfl (by simp(disch:=omega)only[go_sem];try omega) (by simp(disch:=omega)only[go_sem])
   rcases(by omega:j<i∨j=i)with h|h
   ·exact hz j h
   ·subst h;omega
 ·simp(disch:=omega)only[go_sem,h1]
  have hm:m=0:=by
   have h3:=KL (m:=m)
   rcases Nat.eq_zero_or_pos m with h|h
   ·exact h
   ·have h4:=yC (n:=m) (by omega)
    have h5:=(yK (n:=m) (by omega)).1
    have:=hz (tz m) (by omega)
    omega
  subst hm
  rw[ai0]
  exact qz
end Go.Ab
namespace Go.Ab
open Go Go.Proofs
theorem aM1(m:Nat):decide ((0:Int)<((lim m).length:Int))=decide (m≠0):=by
 rw[decide_eq_decide]
 exact⟨fun h e=>by rw[e,ql]at h;simp at h,fun h=>by have:=yN h;omega⟩
theorem Zw(m:Nat)(hl:(lim m).length≤2^39):Con Tryz.prog 259 false [.sl (lim (m)).length (qb (lim (m)))] [] (isA (.ag [.sl (lim (m)).length (qb (lim (m)))])):=(z7 false (lim m) m hl (qX m) (qW m)).natF
theorem Zv(n:Nat)(hn:n<2^63):Con Tryz.prog 203 false [.v (.int .i64 n)] [] (isA (.ag [.sl (lim (n)).length (qb (lim (n)))])):=(Ye false n hn).natF
theorem Jn(a b:Nat)(la:(lim a).length≤2000000)(lb:(lim b).length≤2000000):Con Tryz.prog 206 false [.ag [.sl (lim (a)).length (qb (lim (a)))],.ag [.sl (lim (b)).length (qb (lim (b)))]] [] (isA (.ag [.sl (lim (a+b)).length (qb (lim (a+b)))])):=(ao1 false a b la lb).natF
theorem air(a b:Nat)(la:(lim a).length≤1000000)(lb:(lim b).length≤1000000):Con Tryz.prog 265 false [.ag [.sl (lim (a)).length (qb (lim (a)))],.ag [.sl (lim (b)).length (qb (lim (b)))]] [] (isA (.ag [.sl (lim (a*b)).length (qb (lim (a*b)))])):=(ao0 false a b la lb).natF
theorem Jk(a k:Nat)(la:(lim a).length≤400000)(hk:k≤5000000):Con Tryz.prog 235 false [.ag [.sl (lim (a)).length (qb (lim (a)))],.v (.int .i64 k)] [] (isA (.ag [.sl (lim (a*2^k)).length (qb (lim (a*2^k)))])):=(aoZ false a k la hk).natF
theorem ze(s:Bool)(m:Nat)(hl:(lim m).length≤2^39):Con Tryz.prog 202 false [.v (.bool s),.ag [.sl (lim (m)).length (qb (lim (m)))]] [] (isA (.ag [.v (.bool (s&&decide (m≠0))),.sl (lim (m)).length (qb (lim (m)))])):=by
 refine Con.frzA ?_
 refine Con.of_w (rs:=[.cell 4 27]) Tryz.func202 rfl Tryz.ntmps202 rfl ?_
 simp(disch:=omega)only[go_sem]
 refine qt rfl [⟨0,[],[]⟩,⟨1,[],[]⟩,⟨2,[],[]⟩,⟨3,[],[]⟩,⟨4,[],[]⟩,⟨5,[],[]⟩,⟨6,[],[]⟩,⟨7,[3],[]⟩,⟨8,[3],[]⟩,⟨9,[3],[]⟩,⟨10,[],[]⟩,⟨11,[],[]⟩] (by kernel_rfl) ?_
 simp(disch:=omega)only[go_sem]
 refine yf (fun h1=>?_) (fun h1=>?_)
 ·simp(disch:=omega)only[go_sem,h1,aM1]
  refine qa (Zw m hl) ?_
  simp(disch:=omega)only[go_sem]
  exact qj (hp:=by simp(disch:=omega)only[go_sem,h1,Bool.true_and])
 ·simp(disch:=omega)only[go_sem,h1]
  refine qa (Zw m hl) ?_
  simp(disch:=omega)only[go_sem]
  exact qj (hp:=by simp(disch:=omega)only[go_sem,h1,Bool.false_and])
theorem adR(n:Int)(h: -9223372036854775808≤n∧n<9223372036854775808):Con Tryz.prog 129 false [.v (.int .i64 n)] [] (isA (.ag [.v (.bool (decide (n<0))),.sl (lim (n.natAbs)).length (qb (lim (n.natAbs)))])):=by
 refine Con.frzA ?_
 refine Con.of_aw Tryz.func129 rfl Tryz.ntmps129 (by simp) (by simp) (by simp) (W.sound ?_)
 show @W Tryz.prog 15 ⟨_⟩ ⟨fun x σ=>@qZ _ _ _ ⟨_⟩ _ ⟨_⟩ x σ⟩ _ _
 simp(disch:=omega)only[go_sem]
 refine qe (fun h1=>?_) (fun h1=>?_)
 ·simp(disch:=omega)only[go_sem,h1]
  have e1:0-(n+1)=(((0-(n+1)).toNat:Nat):Int):=by omega
  refine qa (Zv (0-(n+1)).toNat (by omega)) ?_ (by simp(disch:=omega)only[go_sem,←e1])
  simp(disch:=omega)only[go_sem]
  refine qa (Zv 1 (by omega)) ?_
  simp(disch:=omega)only[go_sem]
  have l1:=qx (m:=(0-(n+1)).toNat) (B:=64) (zk.2 (by omega))
  have l2:=qx (m:=1) (B:=64) (by decide)
  refine qa (Jn (0-(n+1)).toNat 1 (by omega) (by omega)) ?_
  simp(disch:=omega)only[go_sem]
  have e2:(0-(n+1)).toNat+1=n.natAbs:=by omega
  have l3:=qx (m:=(0-(n+1)).toNat+1) (B:=64) (zk.2 (by omega))
  refine qa (ze true ((0-(n+1)).toNat+1) (by omega)) ?_
  simp(disch:=omega)only[go_sem]
  refine qC (by simp(disch:=omega)only[go_sem]) ?_
  show qG _ 6 _=_
  have e3:decide (n.natAbs≠0)=true:=by simp;omega
  rw[e2]
  simp(disch:=omega)only[go_sem,e3,h1,Bool.true_and]
 ·simp(disch:=omega)only[go_sem,h1]
  have e1:n=((n.natAbs:Nat):Int):=by omega
  refine qa (Zv n.natAbs (by omega)) ?_ (by simp(disch:=omega)only[go_sem,←e1])
  simp(disch:=omega)only[go_sem]
  have l3:=qx (m:=n.natAbs) (B:=64) (zk.2 (by omega))
  refine qa (ze false n.natAbs (by omega)) ?_
  simp(disch:=omega)only[go_sem]
  exact qj (hp:=by simp(disch:=omega)only[go_sem,h1,Bool.false_and])
theorem aoU(s1:Bool)(m1:Nat)(s2:Bool)(m2:Nat)(h1:bl m1≤4000000)(h2:bl m2≤4000000):Con Tryz.prog 213 false [.ag [.v (.bool (s1)),.sl (lim (m1)).length (qb (lim (m1)))],.ag [.v (.bool (s2)),.sl (lim (m2)).length (qb (lim (m2)))]] [] (isA (.ag [.v (.bool ((s1 != s2)&&decide (m1*m2≠0))),.sl (lim (m1*m2)).length (qb (lim (m1*m2)))])):=by
 refine Con.frzA ?_
 refine Con.of_w (rs:=[.cell 4 27]) Tryz.func213 rfl Tryz.ntmps213 rfl ?_
 simp(disch:=omega)only[go_sem]
 have l1:=qx h1
 have l2:=qx h2
 refine qt rfl [⟨0,[],[]⟩,⟨1,[],[]⟩,⟨2,[1],[]⟩,⟨3,[1],[]⟩,⟨4,[],[]⟩,⟨5,[1,3],[]⟩,⟨6,[1,3],[]⟩,⟨7,[1,3,6],[]⟩,⟨8,[1,3,6],[]⟩,⟨9,[1,3],[]⟩,⟨10,[],[]⟩,⟨11,[],[]⟩] (by kernel_rfl) ?_
 simp(disch:=omega)only[go_sem]
 refine qa (air m1 m2 (by omega) (by omega)) ?_
 simp(disch:=omega)only[go_sem]
 have l3:=qx (Nat.le_trans (jj m1 m2) (Nat.add_le_add h1 h2))
 refine qa (ze (s1 != s2) (m1*m2) (by omega)) ?_
 simp(disch:=omega)only[go_sem]
 exact qj
theorem yb(s:Bool)(m:Nat)(e:Int)(hm:bl m≤8000000)(he: -2^40≤e∧e≤2^40):Con Tryz.prog 156 false [.ag [.v (.bool (s)),.sl (lim (m)).length (qb (lim (m)))],.v (.int .i64 e)] [] (isA (.ag [.v (.bool (oS s m)),.sl (lim (oM m)).length (qb (lim (oM m))),.v (.int .i64 (oE m e))])):=by
 refine Con.frzA ?_
 refine Con.of_aw Tryz.func156 rfl Tryz.ntmps156 (by simp) (by simp) (by simp) (W.sound ?_)
 show @W Tryz.prog 26 ⟨_⟩ ⟨fun x σ=>@qZ _ _ _ ⟨_⟩ _ ⟨_⟩ x σ⟩ _ _
 simp(disch:=omega)only[go_sem]
 have hl:=qx hm
 refine qe (fun h1=>?_) (fun h1=>?_)
 ·simp(disch:=omega)only[go_sem,h1]
  have h0:m=0:=qF.1 (List.length_eq_zero_iff.1 (by omega))
  subst h0
  refine qC (by simp(disch:=omega)only[go_sem]) ?_
  show qG _ 6 _=_
  simp only[oS,Q6,oE,ql,if_true]
  simp(disch:=omega)only[go_sem]
 ·have h0:m≠0:=fun e=>h1 (by rw[e,ql];rfl)
  have ht:=yC h0
  simp(disch:=omega)only[go_sem,h1]
  refine qk (ac0 m (by omega)) ?_
  simp(disch:=omega)only[go_sem]
  refine qt rfl [⟨0,[],[]⟩,⟨1,[],[]⟩,⟨2,[1],[]⟩,⟨3,[1],[]⟩,⟨4,[1,3],[]⟩,⟨7,[1,3],[]⟩,⟨8,[1,3],[]⟩,⟨9,[1,3],[]⟩,⟨5,[1],[]⟩,⟨6,[],[]⟩,⟨10,[],[]⟩,⟨11,[],[]⟩] (by kernel_rfl) ?_
  simp(disch:=omega)only[go_sem]
  refine qa (aoY m (tz m) (by omega) (by omega)) ?_
  simp(disch:=omega)only[go_sem]
  have l3:=qx (Nat.le_trans (yc m (2^tz m)) hm)
  refine qa (ze s (m/2^tz m) (by omega)) ?_
  simp(disch:=omega)only[go_sem]
  refine qC (by simp(disch:=omega)only[go_sem]) ?_
  show qG _ 6 _=_
  have h3:decide (m/2^tz m≠0)=true:=by
   have:=(yK h0).1
   simp only[decide_eq_true_eq];omega
  simp only[oS,oM,oE,if_neg h0]
  simp(disch:=omega)only[go_sem,h3,Bool.and_true]
theorem aoQ(s1:Bool)(m1:Nat)(e1:Int)(s2:Bool)(m2:Nat)(e2:Int)(h1:bl m1≤4000000)(h2:bl m2≤4000000)(he1: -2^39≤e1∧e1≤2^39)(he2: -2^39≤e2∧e2≤2^39):
  Con Tryz.prog 140 false [.ag [.v (.bool (s1)),.sl (lim (m1)).length (qb (lim (m1))),.v (.int .i64 (e1))],.ag [.v (.bool (s2)),.sl (lim (m2)).length (qb (lim (m2))),.v (.int .i64 (e2))]] [] (isA (.ag [.v (.bool (oS ((s1 != s2)&&decide (m1*m2≠0)) (m1*m2))),.sl (lim (oM (m1*m2))).length (qb (lim (oM (m1*m2)))),.v (.int .i64 (oE (m1*m2) (e1+e2)))])):=by
 refine Con.frzA ?_
 refine Con.of_w (rs:=[.cell 4 29]) Tryz.func140 rfl Tryz.ntmps140 rfl ?_
 simp(disch:=omega)only[go_sem]
 refine qt rfl [⟨0,[],[]⟩,⟨1,[],[]⟩,⟨2,[1],[]⟩,⟨3,[1],[]⟩,⟨5,[1,3],[]⟩,⟨6,[1,3],[]⟩,⟨7,[1,3,6],[]⟩,⟨8,[1,3,6],[]⟩,⟨9,[1,3],[]⟩,⟨4,[6,8],[]⟩,⟨10,[],[]⟩,⟨11,[],[]⟩] (by kernel_rfl) ?_
 simp(disch:=omega)only[go_sem]
 refine qa (aoU s1 m1 s2 m2 h1 h2) ?_
 simp(disch:=omega)only[go_sem]
 have h3:=Nat.le_trans (jj m1 m2) (Nat.add_le_add h1 h2)
 refine qa (yb ((s1 != s2)&&decide (m1*m2≠0)) (m1*m2) (e1+e2) (by omega) (by omega)) ?_
 simp(disch:=omega)only[go_sem]
 exact qj
end Go.Ab
namespace Go.Ab
open Go Go.Proofs
theorem Zx(a b:Nat)(la:(lim a).length≤2^40)(lb:(lim b).length≤2^40):
  Con Tryz.prog 236 true [.ag [.sl (lim (a)).length (qb (lim (a)))],.ag [.sl (lim (b)).length (qb (lim (b)))]] [] (isA (.v (.int .i64 (zm a b)))):=by
 refine Con.of_w (rs:=[.tmp 4]) Tryz.func236 rfl Tryz.ntmps236 rfl ?_
 simp(disch:=omega)only[go_sem]
 refine zt (fun h1=>?_) (fun h1=>?_)
 ·simp(disch:=omega)only[go_sem,h1]
  refine qe (fun h2=>?_) (fun h2=>?_)
  ·simp(disch:=omega)only[go_sem,h2]
   have:=yP (a:=a) (b:=b) (by omega)
   rw[show zm (a:Int) (b:Int)= -1 by unfold zm;rw[if_pos (by omega)]]
   exact qz
  ·simp(disch:=omega)only[go_sem,h2]
   have:=yP (a:=b) (b:=a) (by omega)
   rw[show zm (a:Int) (b:Int)=1 by unfold zm;rw[if_neg (by omega),if_pos (by omega)]]
   exact qz
 ·simp(disch:=omega)only[go_sem,h1]
  have hl:(lim a).length=(lim b).length:=by omega
  refine qi (fun k:Nat=>[(2,.pt 40000000 0),(3,.pt 50000000 0),(5,.v (.int .i64 ((k:Int)-1)))])
   (fun _=>[(40000000,.own 0 [.sl (lim (a)).length (qb (lim (a)))]),(50000000,.own 0 [.sl (lim (b)).length (qb (lim (b)))])]) (fun k=>k≤(lim a).length∧(lim a).drop k=(lim b).drop k) (fun k=>k) (lim a).length ⟨Nat.le_refl _,by rw[List.drop_length,hl,List.drop_length]⟩ (Le.lst [] _ _ rfl (by simp(disch:=omega)only[go_sem];try omega) (by simp(disch:=omega)only[go_sem])) ?_
  rintro k ⟨hk,hd⟩
  simp(disch:=omega)only[go_sem]
  refine qe (fun h2=>?_) (fun h2=>?_)
  ·obtain⟨i,rfl⟩:∃i,k=i+1:=⟨k-1,by omega⟩
   have ei:((i+1:Nat):Int)-1=(i:Nat):=by omega
   have hva:=qW a
   have hvb:=qW b
   simp(disch:=omega)only[go_sem,h2,ei]
   refine qt rfl [⟨0,[],[]⟩,⟨1,[],[]⟩,⟨2,[1],[]⟩,⟨3,[],[]⟩,⟨4,[],[]⟩,⟨5,[1,4],[]⟩,⟨6,[1,4],[]⟩,⟨7,[1,4,6],[]⟩,⟨8,[1,4],[]⟩,⟨9,[1,4],[]⟩,⟨10,[],[]⟩] (by kernel_rfl) ?_
   simp(disch:=omega)only[go_sem,ei]
   refine⟨by omega,by omega,by omega,by omega,?_⟩
   refine qe (fun h3=>?_) (fun h3=>?_)
   ·simp(disch:=omega)only[go_sem,h3]
    have:=QA (qX a) (qX b) (by omega) hl hd h3
    rw[show zm (a:Int) (b:Int)= -1 by unfold zm;rw[if_pos (by omega)]]
    exact qz
   ·simp(disch:=omega)only[go_sem,h3]
    refine qt rfl [⟨0,[],[]⟩,⟨1,[],[]⟩,⟨2,[1],[]⟩,⟨3,[],[]⟩,⟨4,[],[]⟩,⟨5,[1,4],[]⟩,⟨6,[1,4],[]⟩,⟨7,[1,4,6],[]⟩,⟨8,[1,4],[]⟩,⟨9,[1,4],[]⟩,⟨10,[],[]⟩] (by kernel_rfl) ?_
    simp(disch:=omega)only[go_sem,ei]
    refine⟨by omega,by omega,by omega,by omega,?_⟩
    refine qe (fun h4=>?_) (fun h4=>?_)
    ·simp(disch:=omega)only[go_sem,h4]
     have:=QA (qX b) (qX a) (by omega) hl.symm hd.symm h4
     rw[show zm (a:Int) (b:Int)=1 by unfold zm;rw[if_neg (by omega),if_pos (by omega)]]
     exact qz
    ·simp(disch:=omega)only[go_sem,h4]
     refine qc i [] ⟨by omega,?_⟩ (by show i<i+1;omega) rfl (by simp(disch:=omega)only[go_sem];try omega) (by simp(disch:=omega)only[go_sem])
     have h5:(lim a).getD i 0=(lim b).getD i 0:=by omega
     rw[jZ (l:=lim a) (by omega),jZ (l:=lim b) (by omega),h5,hd]
  ·simp(disch:=omega)only[go_sem,h2]
   have:k=0:=by omega
   subst this
   rw[List.drop_zero,List.drop_zero]at hd
   have:=jc hd
   subst this
   rw[show zm (a:Int) (a:Int)=0 by simp[zm]]
   exact qz
theorem aoX(cl:Bool)(a b:Nat)(hle:b≤a)(la:(lim a).length≤1000000):Con Tryz.prog 258 cl [.ag [.sl (lim (a)).length (qb (lim (a)))],.ag [.sl (lim (b)).length (qb (lim (b)))]] [] (azY (a-b)):=by
 have lB:(lim b).length≤(lim a).length:=yO hle
 have hA:=qX a
 have hB:=qX b
 refine Con.of_aw Tryz.func258 rfl Tryz.ntmps258 (by simp) (by simp) (by simp) (W.sound ?_)
 show @W Tryz.prog 45 ⟨_⟩ ⟨fun x σ=>@qZ _ _ _ ⟨_⟩ _ ⟨_⟩ x σ⟩ _ _
 simp(disch:=omega)only[go_sem]
 refine qi (fun x:Nat×List Int×Int=>[(2,.pt 2 0),(3,.pt 3 0),(4,.pt 4 0),(5,.rf 1 0 x.2.1.length),(6,.v (.int .i64 x.2.2)),(7,.v (.int .i64 x.1))])
  (fun x=>[(1,.own 1 (qb x.2.1)),(2,.own 0 [.sl (lim (a)).length (qb (lim (a)))]),(3,.own 0 [.sl (lim (b)).length (qb (lim (b)))]),(4,.own 0 [.v (.slice none 0 0)])])
  (fun x=>x.1≤(lim a).length∧x.2.1.length=x.1∧gd x.2.1∧(0≤x.2.2∧x.2.2≤1)∧vl x.2.1-65536^x.1*x.2.2=vl ((lim a).take x.1)-vl ((lim b).take x.1))
  (fun x=>(lim a).length-x.1) (0,[],0) ⟨by simp,rfl,Zh,by simp,by simp[vl]⟩
  ((Le.ghost 5 1 1 (by simp(disch:=omega)only[go_sem]) (by simp(disch:=omega)only[go_sem])).trans (Le.lst [(2,40000000),(3,50000000),(4,60000000)] _ _ rfl (by simp(disch:=omega)only[go_sem]) (by simp(disch:=omega)only[go_sem]))) ?_
 rintro⟨i,out,bo⟩ ⟨hi,hol,hog,hbo,hov⟩
 dsimp only at hi hol hog hbo hov ⊢
 simp(disch:=omega)only[go_sem]
 refine qe (fun h1=>?_) (fun h1=>?_)
 ·have hx:=qJ hA i
  have hy:=qJ hB i
  have hstep:∀z b':Int,(lim a).getD i 0-bo-(lim b).getD i 0=z-65536*b'→vl (out++[z])-65536^(i+1)*b'=vl ((lim a).take (i+1))-vl ((lim b).take (i+1)):=by
   intro z b' hz
   rw[z8,qM,qM,hol,Int.pow_succ]
   generalize (65536:Int)^i=Pi at*
   grind
  have hyz:¬i<(lim b).length→(lim b).getD i 0=0:=fun h=>by rw[List.getD_eq_getElem?_getD,List.getElem?_eq_none (by omega)];rfl
  simp(disch:=omega)only[go_sem,h1]
  refine⟨by omega,by omega,qe (fun h2=>?_) (fun h2=>?_)⟩
  ·simp(disch:=omega)only[go_sem,h2]
   refine⟨by omega,by omega,qe (fun h3=>?_) (fun h3=>?_)⟩
   ·simp(disch:=omega)only[go_sem,h3]
    refine⟨by omega,qc (i+1,out++[(lim a).getD i 0-bo-(lim b).getD i 0+65536],1) [(1,440000000)] ⟨by show i+1≤_;omega,by simp[hol],qE.2 ⟨hog,zH.2 (by omega)⟩,by simp,hstep ((lim a).getD i 0-bo-(lim b).getD i 0+65536) 1 (by omega)⟩ (by show(lim a).length-(i+1)<(lim a).length-i;omega) rfl (by simp(disch:=omega)only[go_sem,List.length_append];try omega) (by simp(disch:=omega)only[go_sem])⟩
   ·simp(disch:=omega)only[go_sem,h3]
    refine⟨by omega,qc (i+1,out++[(lim a).getD i 0-bo-(lim b).getD i 0],0) [(1,440000000)] ⟨by show i+1≤_;omega,by simp[hol],qE.2 ⟨hog,zH.2 (by omega)⟩,by simp,hstep ((lim a).getD i 0-bo-(lim b).getD i 0) 0 (by omega)⟩ (by show(lim a).length-(i+1)<(lim a).length-i;omega) rfl (by simp(disch:=omega)only[go_sem,List.length_append];try omega) (by simp(disch:=omega)only[go_sem])⟩
  ·simp(disch:=omega)only[go_sem,h2]
   refine qe (fun h3=>?_) (fun h3=>?_)
   ·simp(disch:=omega)only[go_sem,h3]
    have hy0:=hyz (by omega)
    refine⟨by omega,qc (i+1,out++[(lim a).getD i 0-bo+65536],1) [(1,440000000)] ⟨by show i+1≤_;omega,by simp[hol],qE.2 ⟨hog,zH.2 (by omega)⟩,by simp,hstep ((lim a).getD i 0-bo+65536) 1 (by omega)⟩ (by show(lim a).length-(i+1)<(lim a).length-i;omega) rfl (by simp(disch:=omega)only[go_sem,List.length_append];try omega) (by simp(disch:=omega)only[go_sem])⟩
   ·simp(disch:=omega)only[go_sem,h3]
    have hy0:=hyz (by omega)
    refine⟨by omega,qc (i+1,out++[(lim a).getD i 0-bo],0) [(1,440000000)] ⟨by show i+1≤_;omega,by simp[hol],qE.2 ⟨hog,zH.2 (by omega)⟩,by simp,hstep ((lim a).getD i 0-bo) 0 (by omega)⟩ (by show(lim a).length-(i+1)<(lim a).length-i;omega) rfl (by simp(disch:=omega)only[go_sem,List.length_append];try omega) (by simp(disch:=omega)only[go_sem])⟩
 ·simp(disch:=omega)only[go_sem,h1]
  have hiA:i=(lim a).length:=by omega
  subst hiA
  rw[List.take_length,List.take_of_length_le lB]at hov
  have hva:=qW a
  have hvb:=qW b
  have hb0:bo=0:=by
   have h2:=y0 hog
   rw[hol]at h2
   rcases(by omega:bo=0∨bo=1)with h|h
   ·exact h
   ·subst h;omega
  subst hb0
  have hov2:vl out=((a-b:Nat):Int):=by omega
  refine qB (z7 true out (a-b) (by omega) hog hov2) (by simp(disch:=omega)only[go_sem]) ?_
  rintro r hs (⟨h0,rfl,rfl⟩|⟨zs,rfl,rfl⟩)
  ·refine⟨⟨by simp,by simp(disch:=omega)only[go_sem]⟩,?_⟩
   simp(disch:=omega)only[go_sem]
   refine qh [] [] [] [.ag [.v (.slice none 0 0)]] rfl (by simp(disch:=omega)only[go_sem]) (by simp(disch:=omega)only[go_sem]) (by simp) (by intro _;simp[zb,AV.pu,AV.pu.puL,Ob.pu,qS]) (.inl ⟨h0,rfl,rfl⟩)
  ·refine⟨⟨by simp,by simp(disch:=omega)only[go_sem]⟩,?_⟩
   simp(disch:=omega)only[go_sem]
   refine qh [(0,460000000)] [.own 1 (qb (lim (a-b)++zs))] [] [.ag [.rf 0 0 (lim (a-b)).length]] rfl (by simp(disch:=omega)only[go_sem]) (by simp(disch:=omega)only[go_sem]) (by simp) (by intro _;simp[zb,AV.pu,AV.pu.puL,Ob.pu,qS]) (.inr ⟨zs,rfl,rfl⟩)
end Go.Ab
namespace Go.Ab
open Go Go.Proofs
theorem Jj(a b:Nat)(hle:b≤a)(la:(lim a).length≤1000000):Con Tryz.prog 258 false [.ag [.sl (lim (a)).length (qb (lim (a)))],.ag [.sl (lim (b)).length (qb (lim (b)))]] [] (isA (.ag [.sl (lim (a-b)).length (qb (lim (a-b)))])):=(aoX false a b hle la).natF
theorem aoW(s1:Bool)(m1:Nat)(s2:Bool)(m2:Nat)(h1:bl m1≤6000000)(h2:bl m2≤6000000):
  Con Tryz.prog 201 false [.ag [.v (.bool (s1)),.sl (lim (m1)).length (qb (lim (m1)))],.ag [.v (.bool (s2)),.sl (lim (m2)).length (qb (lim (m2)))]] [] (isA (.ag [.v (.bool (suS s1 m1 s2 m2)),.sl (lim (suM s1 m1 s2 m2)).length (qb (lim (suM s1 m1 s2 m2)))])):=by
 refine Con.frzA ?_
 have l1:=qx h1
 have l2:=qx h2
 have hge:(0≤zm (m1:Int) (m2:Int))↔m2≤m1:=by rw[Yl.2.2];omega
 have hb:=KK (s1:=s1) (s2:=s2) h1 h2
 have l3:=qx hb
 rw[←anc]
 refine Con.of_w (rs:=[.cell 4 27]) Tryz.func201 rfl Tryz.ntmps201 rfl ?_
 simp(disch:=omega)only[go_sem]
 refine yf (fun c1=>?_) (fun c1=>?_)
 ·have c1':s1=s2:=by simpa using c1
  simp(disch:=omega)only[go_sem,c1]
  subst c1'
  rw[adv,adu]at*
  refine qt rfl [⟨0,[],[]⟩,⟨1,[],[]⟩,⟨2,[1],[]⟩,⟨3,[1],[]⟩,⟨4,[1,3],[]⟩,⟨5,[1,3],[]⟩,⟨6,[1],[]⟩,⟨7,[],[]⟩,⟨8,[],[]⟩] (by kernel_rfl) ?_
  simp(disch:=omega)only[go_sem]
  refine qa (Jn m1 m2 (by omega) (by omega)) ?_
  simp(disch:=omega)only[go_sem]
  refine qa (ze s1 (m1+m2) (by omega)) ?_
  simp(disch:=omega)only[go_sem]
  exact qj
 ·have c1':s1≠s2:=by simpa using c1
  simp(disch:=omega)only[go_sem,c1]
  refine qk (Zx m1 m2 (by omega) (by omega)) ?_
  simp(disch:=omega)only[go_sem]
  refine qe (fun c2=>?_) (fun c2=>?_)
  ·have c2':m2≤m1:=hge.1 (by omega)
   rw[aCN c1' c2',aCF c1' c2']at*
   simp(disch:=omega)only[go_sem,c2]
   refine qt rfl [⟨0,[],[]⟩,⟨1,[],[]⟩,⟨2,[1],[]⟩,⟨3,[1],[]⟩,⟨4,[1,3],[]⟩,⟨5,[1,3],[]⟩,⟨6,[1],[]⟩,⟨7,[],[]⟩,⟨8,[],[]⟩] (by kernel_rfl) ?_
   simp(disch:=omega)only[go_sem]
   refine qa (Jj m1 m2 c2' (by omega)) ?_
   simp(disch:=omega)only[go_sem]
   refine qa (ze s1 (m1-m2) (by omega)) ?_
   simp(disch:=omega)only[go_sem]
   exact qj
  ·have c2':¬m2≤m1:=fun h=>c2 (by have:=hge.2 h;omega)
   rw[aCM c1' c2',aCE c1' c2']at*
   simp(disch:=omega)only[go_sem,c2]
   refine qt rfl [⟨0,[],[]⟩,⟨1,[],[]⟩,⟨2,[1],[]⟩,⟨3,[1],[]⟩,⟨4,[1,3],[]⟩,⟨5,[1,3],[]⟩,⟨6,[1],[]⟩,⟨7,[],[]⟩,⟨8,[],[]⟩] (by kernel_rfl) ?_
   simp(disch:=omega)only[go_sem]
   refine qa (Jj m2 m1 (by omega) (by omega)) ?_
   simp(disch:=omega)only[go_sem]
   refine qa (ze s2 (m2-m1) (by omega)) ?_
   simp(disch:=omega)only[go_sem]
   exact qj
theorem aoT(s:Bool)(m:Nat)(hl:(lim m).length≤2^39):Con Tryz.prog 257 false [.ag [.v (.bool (s)),.sl (lim (m)).length (qb (lim (m)))]] [] (isA (.ag [.v (.bool ((!s)&&decide (m≠0))),.sl (lim (m)).length (qb (lim (m)))])):=by
 refine Con.frzA ?_
 refine Con.of_w (rs:=[.cell 2 27]) Tryz.func257 rfl Tryz.ntmps257 rfl ?_
 simp(disch:=omega)only[go_sem]
 refine qa (ze (!s) m hl) ?_
 simp(disch:=omega)only[go_sem]
 exact qj
theorem aoP(s:Bool)(m:Nat)(e:Int)(hl:(lim m).length≤2^39):Con Tryz.prog 199 false [.ag [.v (.bool (s)),.sl (lim (m)).length (qb (lim (m))),.v (.int .i64 (e))]] [] (isA (.ag [.v (.bool ((!s)&&decide (m≠0))),.sl (lim (m)).length (qb (lim (m))),.v (.int .i64 (e))])):=by
 refine Con.frzA ?_
 refine Con.of_w (rs:=[.cell 2 29]) Tryz.func199 rfl Tryz.ntmps199 rfl ?_
 simp(disch:=omega)only[go_sem]
 refine qt rfl [⟨0,[],[]⟩,⟨1,[],[]⟩,⟨3,[1],[]⟩,⟨4,[1],[]⟩,⟨2,[4],[]⟩,⟨5,[],[]⟩,⟨6,[],[]⟩] (by kernel_rfl) ?_
 simp(disch:=omega)only[go_sem]
 refine qa (aoT s m hl) ?_
 simp(disch:=omega)only[go_sem]
 exact qj
def alF(m1:Nat)(e1:Int)(m2:Nat)(e2:Int):Int:=if m1=0 then e2 else if m2=0 then e1 else if e1≤e2 then e1 else e2
theorem aRJ(m1:Nat)(e1:Int)(m2:Nat)(e2:Int)(h:¬(m1=0∧m2=0)):alF m1 e1 m2 e2=alE m1 e1 m2 e2:=by
 unfold alF alE
 repeat' split
 all_goals omega
theorem Zu(s1:Bool)(m1:Nat)(e1:Int)(s2:Bool)(m2:Nat)(e2:Int)(h1:bl m1≤4000000)(h2:bl m2≤4000000)(he1: -1000000≤e1∧e1≤1000000)(he2: -1000000≤e2∧e2≤1000000)(z1:m1=0→s1=false)(z2:m2=0→s2=false):
  Con Tryz.prog 157 false [.ag [.v (.bool (s1)),.sl (lim (m1)).length (qb (lim (m1))),.v (.int .i64 (e1))],.ag [.v (.bool (s2)),.sl (lim (m2)).length (qb (lim (m2))),.v (.int .i64 (e2))]] [] (isA (.tu [.ag [.v (.bool (s1)),.sl (lim (alA m1 e1 (alE m1 e1 m2 e2))).length (qb (lim (alA m1 e1 (alE m1 e1 m2 e2))))],.ag [.v (.bool (s2)),.sl (lim (alA m2 e2 (alE m1 e1 m2 e2))).length (qb (lim (alA m2 e2 (alE m1 e1 m2 e2))))],.v (.int .i64 (alF m1 e1 m2 e2))])):=by
 refine Con.frzA ?_
 have l1:=qx h1
 have l2:=qx h2
 refine Con.of_aw Tryz.func157 rfl Tryz.ntmps157 (by simp) (by simp) (by simp) (W.sound ?_)
 show @W Tryz.prog 70 ⟨_⟩ ⟨fun x σ=>@qZ _ _ _ ⟨_⟩ _ ⟨_⟩ x σ⟩ _ _
 simp(disch:=omega)only[go_sem]
 refine qe (fun c1=>?_) (fun c1=>?_)
 ·have y1:m1=0:=qF.1 (List.length_eq_zero_iff.1 (by omega))
  have eF:alF m1 e1 m2 e2=e2:=by unfold alF;rw[if_pos y1]
  have a1:alA m1 e1 (alE m1 e1 m2 e2)=m1:=by rw[y1];unfold alA;rw[Nat.zero_mul]
  have a2:alA m2 e2 (alE m1 e1 m2 e2)=m2:=by
   by_cases y2:m2=0
   ·rw[y2];unfold alA;rw[Nat.zero_mul]
   ·unfold alA alE;rw[if_neg y2,if_pos y1,Int.sub_self];simp
  simp(disch:=omega)only[go_sem,c1]
  refine qt rfl [⟨0,[],[]⟩,⟨1,[],[]⟩,⟨2,[1],[]⟩,⟨3,[1],[]⟩,⟨4,[1,3],[]⟩,⟨5,[1,3],[]⟩,⟨6,[3,5],[]⟩,⟨7,[5],[]⟩,⟨8,[],[]⟩] (by kernel_rfl) ?_
  simp(disch:=omega)only[go_sem]
  refine qC (by simp(disch:=omega)only[go_sem]) ?_
  show qG _ 6 _=_
  rw[eF,a1,a2]
  simp(disch:=omega)only[go_sem]
 ·have y1:m1≠0:=fun e=>c1 (by rw[e,ql];rfl)
  simp(disch:=omega)only[go_sem,c1]
  refine qe (fun c2=>?_) (fun c2=>?_)
  ·have y2:m2=0:=qF.1 (List.length_eq_zero_iff.1 (by omega))
   have eF:alF m1 e1 m2 e2=e1:=by unfold alF;rw[if_neg y1,if_pos y2]
   have a1:alA m1 e1 (alE m1 e1 m2 e2)=m1:=by unfold alA alE;rw[if_pos y2,Int.sub_self];simp
   have a2:alA m2 e2 (alE m1 e1 m2 e2)=m2:=by rw[y2];unfold alA;rw[Nat.zero_mul]
   simp(disch:=omega)only[go_sem,c2]
   refine qt rfl [⟨0,[],[]⟩,⟨1,[],[]⟩,⟨2,[1],[]⟩,⟨3,[1],[]⟩,⟨4,[1,3],[]⟩,⟨5,[1,3],[]⟩,⟨6,[3,5],[]⟩,⟨7,[5],[]⟩,⟨8,[],[]⟩] (by kernel_rfl) ?_
   simp(disch:=omega)only[go_sem]
   refine qC (by simp(disch:=omega)only[go_sem]) ?_
   show qG _ 6 _=_
   rw[eF,a1,a2]
   simp(disch:=omega)only[go_sem]
  ·have y2:m2≠0:=fun e=>c2 (by rw[e,ql];rfl)
   simp(disch:=omega)only[go_sem,c2]
   refine qe (fun c3=>?_) (fun c3=>?_)
   ·have eF:alF m1 e1 m2 e2=e1:=by unfold alF;rw[if_neg y1,if_neg y2,if_pos c3]
    have eE:alE m1 e1 m2 e2=e1:=by unfold alE;rw[if_neg y2,if_neg y1,if_neg (by omega)]
    have a1:alA m1 e1 (alE m1 e1 m2 e2)=m1:=by rw[eE];unfold alA;rw[Int.sub_self];simp
    have ek:e2-e1=(((e2-e1).toNat:Nat):Int):=by omega
    have hb:bl (m2*2^(e2-e1).toNat)≤6000000:=by have:=Qi m2 (e2-e1).toNat;omega
    have l3:=qx hb
    have hn:m2*2^(e2-e1).toNat≠0:=Nat.mul_ne_zero y2 (Nat.pos_iff_ne_zero.1 (Nat.pow_pos (by omega)))
    have hd:decide (m2*2^(e2-e1).toNat≠0)=true:=decide_eq_true hn
    simp(disch:=omega)only[go_sem,c3]
    refine qt rfl [⟨0,[],[]⟩,⟨1,[],[]⟩,⟨2,[1],[]⟩,⟨3,[1],[]⟩,⟨4,[1],[]⟩,⟨5,[1,4],[]⟩,⟨6,[1,4],[]⟩,⟨7,[1,4],[]⟩,⟨8,[1,4,7],[]⟩,⟨9,[1,4,7],[]⟩,⟨10,[1,4,7,9],[]⟩,⟨11,[1,4,7,9],[]⟩,⟨12,[1,4,7],[]⟩,⟨15,[1,4,7,9,11],[]⟩,⟨16,[1,4,7,9,11],[]⟩,⟨13,[1,4,16],[]⟩,⟨14,[1,16],[]⟩,⟨17,[16],[]⟩,⟨18,[16],[]⟩,⟨19,[],[]⟩] (by kernel_rfl) ?_
    simp(disch:=omega)only[go_sem]
    refine zf (Jk m2 (e2-e1).toNat (by omega) (by omega)) (by simp(disch:=omega)only[go_sem,←ek]) ?_
    rintro r hs ⟨rfl,rfl,_⟩
    refine⟨by simp[qQ],?_⟩
    simp(disch:=omega)only[go_sem]
    refine qa (ze s2 (m2*2^(e2-e1).toNat) (by omega)) ?_
    simp(disch:=omega)only[go_sem]
    refine qC (by simp(disch:=omega)only[go_sem]) ?_
    show qG _ 6 _=_
    rw[eF,a1,eE,hd];unfold alA
    simp(disch:=omega)only[go_sem,Bool.and_true]
   ·have eF:alF m1 e1 m2 e2=e2:=by unfold alF;rw[if_neg y1,if_neg y2,if_neg c3]
    have eE:alE m1 e1 m2 e2=e2:=by unfold alE;rw[if_neg y2,if_neg y1,if_pos (by omega)]
    have a2:alA m2 e2 (alE m1 e1 m2 e2)=m2:=by rw[eE];unfold alA;rw[Int.sub_self];simp
    have ek:e1-e2=(((e1-e2).toNat:Nat):Int):=by omega
    have hb:bl (m1*2^(e1-e2).toNat)≤6000000:=by have:=Qi m1 (e1-e2).toNat;omega
    have l3:=qx hb
    have hn:m1*2^(e1-e2).toNat≠0:=Nat.mul_ne_zero y1 (Nat.pos_iff_ne_zero.1 (Nat.pow_pos (by omega)))
    have hd:decide (m1*2^(e1-e2).toNat≠0)=true:=decide_eq_true hn
    simp(disch:=omega)only[go_sem,c3]
    refine qt rfl [⟨0,[],[]⟩,⟨1,[],[]⟩,⟨2,[],[]⟩,⟨3,[2],[]⟩,⟨4,[2],[]⟩,⟨5,[2],[]⟩,⟨6,[2,5],[]⟩,⟨7,[2,5],[]⟩,⟨8,[2,5,7],[]⟩,⟨9,[2,5,7],[]⟩,⟨10,[2,5],[]⟩,⟨13,[2,5,7,9],[]⟩,⟨14,[2,5,7,9],[]⟩,⟨15,[2,5,7,9,14],[]⟩,⟨16,[2,5,7,9,14],[]⟩,⟨11,[2,14,16],[]⟩,⟨12,[14,16],[]⟩,⟨17,[14,16],[]⟩,⟨18,[16],[]⟩,⟨19,[],[]⟩] (by kernel_rfl) ?_
    simp(disch:=omega)only[go_sem]
    refine zf (Jk m1 (e1-e2).toNat (by omega) (by omega)) (by simp(disch:=omega)only[go_sem,←ek]) ?_
    rintro r hs ⟨rfl,rfl,_⟩
    refine⟨by simp[qQ],?_⟩
    simp(disch:=omega)only[go_sem]
    refine qa (ze s1 (m1*2^(e1-e2).toNat) (by omega)) ?_
    simp(disch:=omega)only[go_sem]
    refine qC (by simp(disch:=omega)only[go_sem]) ?_
    show qG _ 6 _=_
    rw[eF,a2,eE,hd];unfold alA
    simp(disch:=omega)only[go_sem,Bool.and_true]
theorem aoS(s1:Bool)(m1:Nat)(e1:Int)(s2:Bool)(m2:Nat)(e2:Int)(h1:bl m1≤4000000)(h2:bl m2≤4000000)(he1: -1000000≤e1∧e1≤1000000)(he2: -1000000≤e2∧e2≤1000000)(z1:m1=0→s1=false)(z2:m2=0→s2=false):
  Con Tryz.prog 126 false [.ag [.v (.bool (s1)),.sl (lim (m1)).length (qb (lim (m1))),.v (.int .i64 (e1))],.ag [.v (.bool (s2)),.sl (lim (m2)).length (qb (lim (m2))),.v (.int .i64 (e2))]] [] (isA (.ag [.v (.bool (oS (adS s1 m1 e1 s2 m2 e2) (adM s1 m1 e1 s2 m2 e2))),.sl (lim (oM (adM s1 m1 e1 s2 m2 e2))).length (qb (lim (oM (adM s1 m1 e1 s2 m2 e2)))),.v (.int .i64 (oE (adM s1 m1 e1 s2 m2 e2) (alE m1 e1 m2 e2)))])):=by
 refine Con.frzA ?_
 have hE:=ym (m1:=m1) (m2:=m2) he1.1 he2.1
 have b1:=yl (e:=e1) (E:=alE m1 e1 m2 e2) (C:=2000000) h1 (by omega)
 have b2:=yl (e:=e2) (E:=alE m1 e1 m2 e2) (C:=2000000) h2 (by omega)
 have hF: -1000000≤alF m1 e1 m2 e2∧alF m1 e1 m2 e2≤1000000:=by
  unfold alF
  repeat' split
  all_goals omega
 have hX:oE (adM s1 m1 e1 s2 m2 e2) (alE m1 e1 m2 e2)=oE (adM s1 m1 e1 s2 m2 e2) (alF m1 e1 m2 e2):=by
  by_cases h:m1=0∧m2=0
  ·have:adM s1 m1 e1 s2 m2 e2=0:=by rw[h.1,h.2];unfold adM alA;rw[Nat.zero_mul,Nat.zero_mul];unfold suM;rw[jP,jP];rfl
   rw[this];rfl
  ·rw[aRJ _ _ _ _ h]
 rw[hX]
 have l1:=qx h1
 have l2:=qx h2
 refine Con.of_w (rs:=[.cell 4 29]) Tryz.func126 rfl Tryz.ntmps126 rfl ?_
 simp(disch:=omega)only[go_sem]
 refine qa (Zu s1 m1 e1 s2 m2 e2 h1 h2 he1 he2 z1 z2) ?_
 simp(disch:=omega)only[go_sem]
 unfold adS adM
 generalize alA m1 e1 (alE m1 e1 m2 e2)=A at*
 generalize alA m2 e2 (alE m1 e1 m2 e2)=B at*
 generalize alF m1 e1 m2 e2=E at*
 refine qa (aoW s1 A s2 B (by omega) (by omega)) ?_
 simp(disch:=omega)only[go_sem]
 have hb:=KK (s1:=s1) (s2:=s2) b1 b2
 refine qa (yb (suS s1 A s2 B) (suM s1 A s2 B) E (by omega) (by omega)) ?_
 simp(disch:=omega)only[go_sem]
 exact qj
end Go.Ab
namespace Go.Ab
open Go Go.Proofs
def srM(s:Bool)(m:Nat)(e low mode:Int):Nat:=oM (roM s m e low mode)
def srE(s:Bool)(m:Nat)(e low mode:Int):Int:=if low≤e∨m=0 then e else oE (roM s m e low mode) low
end Go.Ab
namespace Go.Ab
open Go Go.Proofs
end Go.Ab
namespace Go.Ab
open Go Go.Proofs
theorem aij(xs:List Int)(hl:xs.length≤2^40):Con Tryz.prog 212 true [.ag [.sl xs.length (qb xs)]] [] (isA (.v (.bool (JO xs)))):=by
 refine Con.of_aw Tryz.func212 rfl Tryz.ntmps212 (by simp) (by simp) (by simp) (W.sound ?_)
 show @W Tryz.prog 44 ⟨_⟩ ⟨fun x σ=>@qZ _ _ _ ⟨_⟩ _ ⟨_⟩ x σ⟩ _ _
 simp(disch:=omega)only[go_sem]
 refine qe (fun h1=>?_) (fun h1=>?_)
 ·simp(disch:=omega)only[go_sem,h1]
  refine qA (by simp(disch:=omega)only[go_sem]) (by simp(disch:=omega)only[go_sem]) ⟨?_,rfl,rfl⟩
  have:¬(xs.length≤100):=by omega
  simp[zb,JO,this]
 ·simp(disch:=omega)only[go_sem,h1]
  refine qi (fun i:Nat=>[(1,.pt 30000000 0),(2,.v (.bool false)),(3,.v (.int .i64 i))]) (fun _=>[(30000000,.own 0 [.sl xs.length (qb xs)])]) (fun i=>i≤xs.length∧∀x∈xs.take i,0≤x∧x≤65535) (fun i=>xs.length-i) 0 ⟨by omega,by simp⟩
   (Le.lst [] _ _ rfl (by simp(disch:=omega)only[go_sem]) (by simp(disch:=omega)only[go_sem])) ?_
  rintro i ⟨hi,hx⟩
  simp(disch:=omega)only[go_sem]
  refine qe (fun h2=>?_) (fun h2=>?_)
  ·simp(disch:=omega)only[go_sem,h2]
   have hmem:xs.getD i 0∈xs:=by
    rw[List.getD_eq_getElem?_getD,List.getElem?_eq_getElem (by omega)];exact List.getElem_mem _
   have bad:¬(0≤xs.getD i 0∧xs.getD i 0≤65535)→JO xs=false:=by
    intro hc
    unfold JO
    have:xs.all (fun x=>decide (0≤x)&&decide (x≤65535))=false:=by
     rw[List.all_eq_false]
     refine⟨_,hmem,?_⟩
     simp only[Bool.and_eq_true,decide_eq_true_eq];exact hc
    rw[this];simp
   refine⟨by omega,by omega,?_⟩
   refine zt (fun h3=>?_) (fun h3=>?_)
   ·simp(disch:=omega)only[go_sem,h3]
    refine⟨by omega,by omega,?_⟩
    refine qe (fun h4=>?_) (fun h4=>?_)
    ·simp(disch:=omega)only[go_sem,h4]
     rw[bad (by omega)]
     exact qz
    ·simp(disch:=omega)only[go_sem,h4]
     refine qc (i+1) [] ⟨by omega,?_⟩ (by show xs.length-(i+1)<xs.length-i;omega) rfl (by simp(disch:=omega)only[go_sem];try omega) (by simp(disch:=omega)only[go_sem])
     intro x hxx
     rw[List.take_add_one]at hxx
     rcases List.mem_append.1 hxx with h|h
     ·exact hx x h
     ·rw[List.getElem?_eq_getElem (by omega)]at h
      simp at h
      rw[List.getD_eq_getElem?_getD,List.getElem?_eq_getElem (by omega)]at h3 h4
      simp at h3 h4
      subst h
      omega
   ·simp(disch:=omega)only[go_sem,h3]
    rw[bad (by omega)]
    exact qz
  ·have:i=xs.length:=by omega
   subst this
   rw[List.take_length]at hx
   have hall:xs.all (fun x=>decide (0≤x)&&decide (x≤65535))=true:=by
    rw[List.all_eq_true]
    intro x h;have:=hx x h;simp only[Bool.and_eq_true,decide_eq_true_eq];exact this
   have e1:decide (xs.length≤100)=true:=by simp;omega
   simp(disch:=omega)only[go_sem,h2]
   refine zt (fun h3=>?_) (fun h3=>?_)
   ·have en:((xs.length:Int)-1).toNat=xs.length-1:=by omega
    have hmem:xs.getD (xs.length-1) 0∈xs:=by
     rw[List.getD_eq_getElem?_getD,List.getElem?_eq_getElem (by omega)];exact List.getElem_mem _
    have hp:=hx _ hmem
    simp(disch:=omega)only[go_sem,h3,en]
    refine⟨by omega,by omega,?_⟩
    refine qA (by simp(disch:=omega)only[go_sem]) (by simp(disch:=omega)only[go_sem]) ⟨?_,rfl,rfl⟩
    have e2:decide (xs.length=0)=false:=by simp;intro h;subst h;simp at h3
    show AV.v (.bool _)=AV.v (.bool _)
    unfold JO
    rw[e1,hall,e2,Bool.false_or,Bool.true_and,Bool.true_and]
    congr 2
    rw[decide_eq_decide]
    omega
   ·simp(disch:=omega)only[go_sem,h3]
    refine qA (by simp(disch:=omega)only[go_sem]) (by simp(disch:=omega)only[go_sem]) ⟨?_,rfl,rfl⟩
    have e2:decide (xs.length=0)=true:=by simp;exact List.length_eq_zero_iff.1 (by omega)
    show AV.v (.bool _)=AV.v (.bool _)
    unfold JO
    rw[e1,hall,e2]
    simp
theorem Qp(s:Bool)(xs:List Int)(hl:xs.length≤2^40):Con Tryz.prog 137 true [.ag [.v (.bool s),.sl xs.length (qb xs)]] [] (isA (.v (.bool (zC s xs)))):=by
 refine Con.of_aw Tryz.func137 rfl Tryz.ntmps137 (by simp) (by simp) (by simp) (W.sound ?_)
 show @W Tryz.prog 18 ⟨_⟩ ⟨fun x σ=>@qZ _ _ _ ⟨_⟩ _ ⟨_⟩ x σ⟩ _ _
 simp(disch:=omega)only[go_sem]
 refine qk (aij xs hl) ?_
 simp(disch:=omega)only[go_sem]
 refine yf (fun h1=>?_) (fun h1=>?_)
 ·simp(disch:=omega)only[go_sem,h1]
  cases s
  ·simp(disch:=omega)only[go_sem]
   refine qA (by simp(disch:=omega)only[go_sem]) (by simp(disch:=omega)only[go_sem]) ⟨?_,rfl,rfl⟩
   simp[zb,zC,h1]
  ·simp(disch:=omega)only[go_sem]
   refine qA (by simp(disch:=omega)only[go_sem]) (by simp(disch:=omega)only[go_sem]) ⟨?_,rfl,rfl⟩
   show AV.v (.bool _)=AV.v (.bool _)
   unfold zC
   rw[h1,Bool.true_and,Bool.true_and,←decide_not]
   congr 2
   rw[decide_eq_decide]
   omega
 ·simp(disch:=omega)only[go_sem,h1]
  refine qA (by simp(disch:=omega)only[go_sem]) (by simp(disch:=omega)only[go_sem]) ⟨?_,rfl,rfl⟩
  simp[zb,zC,h1]
theorem zI(s:Bool)(xs:List Int)(e:Int)(hl:xs.length≤2^40):Con Tryz.prog 59 true [.ag [.v (.bool s),.sl xs.length (qb xs),.v (.int .i64 e)]] [] (isA (.v (.bool (dyB s xs e)))):=by
 refine Con.of_aw Tryz.func59 rfl Tryz.ntmps59 (by simp) (by simp) (by simp) (W.sound ?_)
 show @W Tryz.prog 31 ⟨_⟩ ⟨fun x σ=>@qZ _ _ _ ⟨_⟩ _ ⟨_⟩ x σ⟩ _ _
 simp(disch:=omega)only[go_sem]
 refine qk (Qp s xs hl) ?_
 simp(disch:=omega)only[go_sem]
 refine yf (fun hw=>?_) (fun hw=>?_)
 ·have h1:=hw
  simp only[zC,Bool.and_eq_true]at h1
  obtain⟨hx,hll⟩:=QG h1.1
  have hxs:xs=lim (vl xs).toNat:=hx
  generalize hm:(vl xs).toNat=m at*
  subst hx
  simp(disch:=omega)only[go_sem,hw]
  refine zt (fun h2=>?_) (fun h2=>?_)
  ·simp(disch:=omega)only[go_sem,h2]
   refine qe (fun h3=>?_) (fun h3=>?_)
   ·simp(disch:=omega)only[go_sem,h3]
    refine qA (by simp(disch:=omega)only[go_sem]) (by simp(disch:=omega)only[go_sem]) ⟨?_,rfl,rfl⟩
    have a2:¬e≤3000:=by omega
    simp[zb,dyB,a2]
   ·simp(disch:=omega)only[go_sem,h3]
    refine qe (fun h4=>?_) (fun h4=>?_)
    ·simp(disch:=omega)only[go_sem,h4]
     have h0:m=0:=qF.1 (List.length_eq_zero_iff.1 (by omega))
     refine qA (by simp(disch:=omega)only[go_sem]) (by simp(disch:=omega)only[go_sem]) ⟨?_,rfl,rfl⟩
     have a1: -3000≤e:=by omega
     have a2:e≤3000:=by omega
     have a3:(lim m).length=0:=by omega
     show AV.v (.bool _)=AV.v (.bool _)
     unfold dyB
     rw[hw,hm,decide_eq_true a1,decide_eq_true a2,decide_eq_true a3,h0]
     simp
    ·simp(disch:=omega)only[go_sem,h4]
     refine qk (Ku m 0 (by omega) (by omega) (by omega)) ?_
     simp(disch:=omega)only[go_sem]
     refine qA (by simp(disch:=omega)only[go_sem]) (by simp(disch:=omega)only[go_sem]) ⟨?_,rfl,rfl⟩
     have a1: -3000≤e:=by omega
     have a2:e≤3000:=by omega
     have a3:¬(lim m).length=0:=by omega
     show AV.v (.bool _)=AV.v (.bool _)
     unfold dyB
     rw[hw,hm,decide_eq_true a1,decide_eq_true a2,decide_eq_false a3]
     simp
     omega
  ·simp(disch:=omega)only[go_sem,h2]
   refine qA (by simp(disch:=omega)only[go_sem]) (by simp(disch:=omega)only[go_sem]) ⟨?_,rfl,rfl⟩
   have a1:¬ -3000≤e:=by omega
   simp[zb,dyB,a1]
 ·simp(disch:=omega)only[go_sem,hw]
  refine qA (by simp(disch:=omega)only[go_sem]) (by simp(disch:=omega)only[go_sem]) ⟨?_,rfl,rfl⟩
  simp[zb,dyB,hw]
end Go.Ab
namespace Go.Ab
open Go Go.Proofs
theorem Km(s:Bool)(m:Nat)(e:Int):dyB (oS s m) (lim (oM m)) (oE m e)=zK m e:=by
 unfold dyB zC zK jJ
 rw[qW,Int.toNat_natCast]
 have hod:=aMQ m
 have hz:=bbM s m
 by_cases h:(lim (oM m)).length≤100
 ·rw[anJ _ h,decide_eq_true h,Bool.true_and,Bool.true_and]
  by_cases h0:oM m=0
  ·have hm:m=0:=j4.1 h0
   rw[hz h0,h0,hm]
   simp[oE,ql]
  ·have h1:oM m % 2=1:=hod.resolve_right h0
   have h2:decide ((lim (oM m)).length=0)=false:=by
    have:=yN h0
    exact decide_eq_false (by omega)
   rw[h2,decide_eq_true h1]
   simp
 ·rw[decide_eq_false h]
  have:JO (lim (oM m))=false:=by unfold JO;rw[decide_eq_false h,Bool.false_and]
  rw[this];simp
theorem Qh(s:Bool)(m:Nat)(e:Int)(hl:(lim (oM m)).length≤2^40):Con Tryz.prog 139 false [.ag [.v (.bool (oS s m)),.sl (lim (oM m)).length (qb (lim (oM m))),.v (.int .i64 (oE m e))]] [] (isA (if zK m e=true then .tu [.ag [.v (.bool (oS s m)),.sl (lim (oM m)).length (qb (lim (oM m))),.v (.int .i64 (oE m e))],.v (.bool true)]else .tu [.ag [.v (.bool (false)),.sl (lim (0)).length (qb (lim (0))),.v (.int .i64 (0))],.v (.bool false)])):=by
 refine Con.frzA ?_
 have ck:=zI (oS s m) (lim (oM m)) (oE m e) hl
 rw[Km]at ck
 cases hd:zK m e
 ·rw[hd]at ck
  rw[if_neg (by simp),ql]
  refine Con.of_w (rs:=[.cell 2 29,.tmp 3]) Tryz.func139 rfl Tryz.ntmps139 rfl ?_
  simp(disch:=omega)only[go_sem]
  refine qk (ck) ?_
  simp(disch:=omega)only[go_sem]
  exact qj
 ·rw[hd]at ck
  rw[if_pos rfl]
  refine Con.of_w (rs:=[.cell 2 29,.tmp 3]) Tryz.func139 rfl Tryz.ntmps139 rfl ?_
  simp(disch:=omega)only[go_sem]
  refine qk (ck) ?_
  simp(disch:=omega)only[go_sem]
  exact qj
theorem aiC(s1:Bool)(m1:Nat)(e1:Int)(s2:Bool)(m2:Nat)(e2:Int)(h1:dyB s1 (lim m1) e1=true)(h2:dyB s2 (lim m2) e2=true):
  Con Tryz.prog 71 false [.ag [.v (.bool (s1)),.sl (lim (m1)).length (qb (lim (m1))),.v (.int .i64 (e1))],.ag [.v (.bool (s2)),.sl (lim (m2)).length (qb (lim (m2))),.v (.int .i64 (e2))]] [] (isA (if zK (adM s1 m1 e1 s2 m2 e2) (alE m1 e1 m2 e2)=true then .tu [.ag [.v (.bool (oS (adS s1 m1 e1 s2 m2 e2) (adM s1 m1 e1 s2 m2 e2))),.sl (lim (oM (adM s1 m1 e1 s2 m2 e2))).length (qb (lim (oM (adM s1 m1 e1 s2 m2 e2)))),.v (.int .i64 (oE (adM s1 m1 e1 s2 m2 e2) (alE m1 e1 m2 e2)))],.v (.bool true)]else .tu [.ag [.v (.bool (false)),.sl (lim (0)).length (qb (lim (0))),.v (.int .i64 (0))],.v (.bool false)])):=by
 refine Con.frzA ?_
 obtain⟨n1,q1,b1,c1,d1,_,f1⟩:=jp h1
 obtain⟨n2,q2,b2,c2,d2,_,f2⟩:=jp h2
 obtain rfl:=jc q1
 obtain rfl:=jc q2
 have hE:=ym (m1:=m1) (m2:=m2) d1.1 d2.1
 have b1':=yl (e:=e1) (E:=alE m1 e1 m2 e2) (C:=6000) c1 (by omega)
 have b2':=yl (e:=e2) (E:=alE m1 e1 m2 e2) (C:=6000) c2 (by omega)
 have hM:bl (adM s1 m1 e1 s2 m2 e2)≤7601:=KK b1' b2'
 have hl:=qx (Nat.le_trans (zT (azC _)) hM)
 have cf:=Qh (adS s1 m1 e1 s2 m2 e2) (adM s1 m1 e1 s2 m2 e2) (alE m1 e1 m2 e2) (by omega)
 have ca:=aoS s1 m1 e1 s2 m2 e2 (by omega) (by omega) (by omega) (by omega) f1 f2
 have k1:=zI s1 (lim m1) e1 (by omega)
 have k2:=zI s2 (lim m2) e2 (by omega)
 rw[h1]at k1
 rw[h2]at k2
 cases hd:zK (adM s1 m1 e1 s2 m2 e2) (alE m1 e1 m2 e2)
 ·rw[hd,if_neg (by simp),ql]at cf
  rw[if_neg (by simp),ql]
  refine Con.of_w (rs:=[.cell 4 29,.tmp 5]) Tryz.func71 rfl Tryz.ntmps71 rfl ?_
  simp(disch:=omega)only[go_sem]
  refine qk (k1) ?_
  simp(disch:=omega)only[go_sem]
  refine qk (k2) ?_
  simp(disch:=omega)only[go_sem]
  refine qa (ca) ?_
  simp(disch:=omega)only[go_sem]
  refine qa (cf) ?_
  simp(disch:=omega)only[go_sem]
  exact qj
 ·rw[hd,if_pos rfl]at cf
  rw[if_pos rfl]
  refine Con.of_w (rs:=[.cell 4 29,.tmp 5]) Tryz.func71 rfl Tryz.ntmps71 rfl ?_
  simp(disch:=omega)only[go_sem]
  refine qk (k1) ?_
  simp(disch:=omega)only[go_sem]
  refine qk (k2) ?_
  simp(disch:=omega)only[go_sem]
  refine qa (ca) ?_
  simp(disch:=omega)only[go_sem]
  refine qa (cf) ?_
  simp(disch:=omega)only[go_sem]
  exact qj
def pmS(s1:Bool)(m1:Nat)(s2:Bool)(m2:Nat):Bool:=(s1 != s2)&&decide (m1*m2≠0)
theorem Jr(s1:Bool)(m1:Nat)(e1:Int)(s2:Bool)(m2:Nat)(e2:Int)(h1:dyB s1 (lim m1) e1=true)(h2:dyB s2 (lim m2) e2=true):
  Con Tryz.prog 60 false [.ag [.v (.bool (s1)),.sl (lim (m1)).length (qb (lim (m1))),.v (.int .i64 (e1))],.ag [.v (.bool (s2)),.sl (lim (m2)).length (qb (lim (m2))),.v (.int .i64 (e2))]] [] (isA (if zK (m1*m2) (e1+e2)=true then .tu [.ag [.v (.bool (oS (pmS s1 m1 s2 m2) (m1*m2))),.sl (lim (oM (m1*m2))).length (qb (lim (oM (m1*m2)))),.v (.int .i64 (oE (m1*m2) (e1+e2)))],.v (.bool true)]else .tu [.ag [.v (.bool (false)),.sl (lim (0)).length (qb (lim (0))),.v (.int .i64 (0))],.v (.bool false)])):=by
 refine Con.frzA ?_
 obtain⟨n1,q1,b1,c1,d1,_,f1⟩:=jp h1
 obtain⟨n2,q2,b2,c2,d2,_,f2⟩:=jp h2
 obtain rfl:=jc q1
 obtain rfl:=jc q2
 have hM:=Nat.le_trans (jj m1 m2) (Nat.add_le_add c1 c2)
 have hl:=qx (Nat.le_trans (zT (azC _)) hM)
 have cf:=Qh (pmS s1 m1 s2 m2) (m1*m2) (e1+e2) (by omega)
 have ca:=aoQ s1 m1 e1 s2 m2 e2 (by omega) (by omega) (by omega) (by omega)
 have k1:=zI s1 (lim m1) e1 (by omega)
 have k2:=zI s2 (lim m2) e2 (by omega)
 rw[h1]at k1
 rw[h2]at k2
 unfold pmS at*
 cases hd:zK (m1*m2) (e1+e2)
 ·rw[hd,if_neg (by simp),ql]at cf
  rw[if_neg (by simp),ql]
  refine Con.of_w (rs:=[.cell 4 29,.tmp 5]) Tryz.func60 rfl Tryz.ntmps60 rfl ?_
  simp(disch:=omega)only[go_sem]
  refine qk (k1) ?_
  simp(disch:=omega)only[go_sem]
  refine qk (k2) ?_
  simp(disch:=omega)only[go_sem]
  refine qa (ca) ?_
  simp(disch:=omega)only[go_sem]
  refine qa (cf) ?_
  simp(disch:=omega)only[go_sem]
  exact qj
 ·rw[hd,if_pos rfl]at cf
  rw[if_pos rfl]
  refine Con.of_w (rs:=[.cell 4 29,.tmp 5]) Tryz.func60 rfl Tryz.ntmps60 rfl ?_
  simp(disch:=omega)only[go_sem]
  refine qk (k1) ?_
  simp(disch:=omega)only[go_sem]
  refine qk (k2) ?_
  simp(disch:=omega)only[go_sem]
  refine qa (ca) ?_
  simp(disch:=omega)only[go_sem]
  refine qa (cf) ?_
  simp(disch:=omega)only[go_sem]
  exact qj
theorem ain(s1:Bool)(m1:Nat)(e1:Int)(s2:Bool)(m2:Nat)(e2:Int)(ok:Bool)(h1:dyB s1 (lim m1) e1=true)(h2:dyB s2 (lim m2) e2=true):
  Con Tryz.prog 16 false [.ag [.v (.bool (s1)),.sl (lim (m1)).length (qb (lim (m1))),.v (.int .i64 (e1))],.ag [.v (.bool (s2)),.sl (lim (m2)).length (qb (lim (m2))),.v (.int .i64 (e2))],.v (.bool ok)] [] (isA (if zK (adM s1 m1 e1 s2 m2 e2) (alE m1 e1 m2 e2)=true then .tu [.ag [.v (.bool (oS (adS s1 m1 e1 s2 m2 e2) (adM s1 m1 e1 s2 m2 e2))),.sl (lim (oM (adM s1 m1 e1 s2 m2 e2))).length (qb (lim (oM (adM s1 m1 e1 s2 m2 e2)))),.v (.int .i64 (oE (adM s1 m1 e1 s2 m2 e2) (alE m1 e1 m2 e2)))],.v (.bool ok)]else .tu [.ag [.v (.bool (false)),.sl (lim (0)).length (qb (lim (0))),.v (.int .i64 (0))],.v (.bool false)])):=by
 refine Con.frzA ?_
 have cf:=aiC s1 m1 e1 s2 m2 e2 h1 h2
 cases hd:zK (adM s1 m1 e1 s2 m2 e2) (alE m1 e1 m2 e2)
 ·rw[hd,if_neg (by simp),ql]at cf
  rw[if_neg (by simp),ql]
  cases ok
  ·refine Con.of_w (rs:=[.cell 6 29,.tmp 7]) Tryz.func16 rfl Tryz.ntmps16 rfl ?_
   simp(disch:=omega)only[go_sem]
   refine qa (cf) ?_
   simp(disch:=omega)only[go_sem]
   exact qj
  ·refine Con.of_w (rs:=[.cell 6 29,.tmp 7]) Tryz.func16 rfl Tryz.ntmps16 rfl ?_
   simp(disch:=omega)only[go_sem]
   refine qa (cf) ?_
   simp(disch:=omega)only[go_sem]
   exact qj
 ·rw[hd,if_pos rfl]at cf
  rw[if_pos rfl]
  cases ok
  ·refine Con.of_w (rs:=[.cell 6 29,.tmp 7]) Tryz.func16 rfl Tryz.ntmps16 rfl ?_
   simp(disch:=omega)only[go_sem]
   refine qa (cf) ?_
   simp(disch:=omega)only[go_sem]
   exact qj
  ·refine Con.of_w (rs:=[.cell 6 29,.tmp 7]) Tryz.func16 rfl Tryz.ntmps16 rfl ?_
   simp(disch:=omega)only[go_sem]
   refine qa (cf) ?_
   simp(disch:=omega)only[go_sem]
   exact qj
theorem aim(s1:Bool)(m1:Nat)(e1:Int)(s2:Bool)(m2:Nat)(e2:Int)(ok:Bool)(h1:dyB s1 (lim m1) e1=true)(h2:dyB s2 (lim m2) e2=true):
  Con Tryz.prog 15 false [.ag [.v (.bool (s1)),.sl (lim (m1)).length (qb (lim (m1))),.v (.int .i64 (e1))],.ag [.v (.bool (s2)),.sl (lim (m2)).length (qb (lim (m2))),.v (.int .i64 (e2))],.v (.bool ok)] [] (isA (if zK (m1*m2) (e1+e2)=true then .tu [.ag [.v (.bool (oS (pmS s1 m1 s2 m2) (m1*m2))),.sl (lim (oM (m1*m2))).length (qb (lim (oM (m1*m2)))),.v (.int .i64 (oE (m1*m2) (e1+e2)))],.v (.bool ok)]else .tu [.ag [.v (.bool (false)),.sl (lim (0)).length (qb (lim (0))),.v (.int .i64 (0))],.v (.bool false)])):=by
 refine Con.frzA ?_
 have cf:=Jr s1 m1 e1 s2 m2 e2 h1 h2
 cases hd:zK (m1*m2) (e1+e2)
 ·rw[hd,if_neg (by simp),ql]at cf
  rw[if_neg (by simp),ql]
  cases ok
  ·refine Con.of_w (rs:=[.cell 6 29,.tmp 7]) Tryz.func15 rfl Tryz.ntmps15 rfl ?_
   simp(disch:=omega)only[go_sem]
   refine qa (cf) ?_
   simp(disch:=omega)only[go_sem]
   exact qj
  ·refine Con.of_w (rs:=[.cell 6 29,.tmp 7]) Tryz.func15 rfl Tryz.ntmps15 rfl ?_
   simp(disch:=omega)only[go_sem]
   refine qa (cf) ?_
   simp(disch:=omega)only[go_sem]
   exact qj
 ·rw[hd,if_pos rfl]at cf
  rw[if_pos rfl]
  cases ok
  ·refine Con.of_w (rs:=[.cell 6 29,.tmp 7]) Tryz.func15 rfl Tryz.ntmps15 rfl ?_
   simp(disch:=omega)only[go_sem]
   refine qa (cf) ?_
   simp(disch:=omega)only[go_sem]
   exact qj
  ·refine Con.of_w (rs:=[.cell 6 29,.tmp 7]) Tryz.func15 rfl Tryz.ntmps15 rfl ?_
   simp(disch:=omega)only[go_sem]
   refine qa (cf) ?_
   simp(disch:=omega)only[go_sem]
   exact qj
end Go.Ab
namespace Go.Ab
open Go Go.Proofs
theorem aoV(s1:Bool)(m1:Nat)(s2:Bool)(m2:Nat)(l1:(lim m1).length≤2^40)(l2:(lim m2).length≤2^40)(z1:m1=0→s1=false)(z2:m2=0→s2=false):
  Con Tryz.prog 158 true [.ag [.v (.bool (s1)),.sl (lim (m1)).length (qb (lim (m1)))],.ag [.v (.bool (s2)),.sl (lim (m2)).length (qb (lim (m2)))]] [] (isA (.v (.int .i64 (zm (sv s1 m1) (sv s2 m2))))):=by
 rw[KG z1 z2]
 cases s1<;>cases s2
 ·refine Con.of_w (rs:=[.tmp 4]) Tryz.func158 rfl Tryz.ntmps158 rfl ?_
  simp(disch:=omega)only[go_sem]
  refine qk (Zx m1 m2 l1 l2) ?_
  simp(disch:=omega)only[go_sem]
  exact qz
 ·refine Con.of_w (rs:=[.tmp 4]) Tryz.func158 rfl Tryz.ntmps158 rfl ?_
  simp(disch:=omega)only[go_sem]
  exact qz
 ·refine Con.of_w (rs:=[.tmp 4]) Tryz.func158 rfl Tryz.ntmps158 rfl ?_
  simp(disch:=omega)only[go_sem]
  exact qz
 ·refine Con.of_w (rs:=[.tmp 4]) Tryz.func158 rfl Tryz.ntmps158 rfl ?_
  simp(disch:=omega)only[go_sem]
  refine qk (Zx m2 m1 l2 l1) ?_
  simp(disch:=omega)only[go_sem]
  exact qz
theorem aoR(K:Nat)(s1:Bool)(m1:Nat)(e1:Int)(s2:Bool)(m2:Nat)(e2:Int)(h1:bl m1≤4000000)(h2:bl m2≤4000000)(he1: -1000000≤e1∧e1≤1000000)(he2: -1000000≤e2∧e2≤1000000)(k1: -(K:Int)≤e1)(k2: -(K:Int)≤e2)(z1:m1=0→s1=false)(z2:m2=0→s2=false):
  Con Tryz.prog 74 true [.ag [.v (.bool (s1)),.sl (lim (m1)).length (qb (lim (m1))),.v (.int .i64 (e1))],.ag [.v (.bool (s2)),.sl (lim (m2)).length (qb (lim (m2))),.v (.int .i64 (e2))]] [] (isA (.v (.int .i64 (zm (dv K s1 m1 e1) (dv K s2 m2 e2))))):=by
 have hE:=ym (m1:=m1) (m2:=m2) he1.1 he2.1
 have b1:=qx (yl (e:=e1) (E:=alE m1 e1 m2 e2) (C:=2000000) h1 (by omega))
 have b2:=qx (yl (e:=e2) (E:=alE m1 e1 m2 e2) (C:=2000000) h2 (by omega))
 rw[←apf k1 k2]
 have y1:alA m1 e1 (alE m1 e1 m2 e2)=0→s1=false:=fun h=>z1 (yZ.1 h)
 have y2:alA m2 e2 (alE m1 e1 m2 e2)=0→s2=false:=fun h=>z2 (yZ.1 h)
 refine Con.of_w (rs:=[.tmp 4]) Tryz.func74 rfl Tryz.ntmps74 rfl ?_
 simp(disch:=omega)only[go_sem]
 refine qa (Zu s1 m1 e1 s2 m2 e2 h1 h2 he1 he2 z1 z2) ?_
 simp(disch:=omega)only[go_sem]
 refine qk (aoV s1 (alA m1 e1 (alE m1 e1 m2 e2)) s2 (alA m2 e2 (alE m1 e1 m2 e2)) (by omega) (by omega) y1 y2) ?_
 simp(disch:=omega)only[go_sem]
 exact qz
theorem Js(s1:Bool)(m1:Nat)(e1:Int)(s2:Bool)(m2:Nat)(e2:Int)(h1:dyB s1 (lim m1) e1=true)(h2:dyB s2 (lim m2) e2=true):
  Con Tryz.prog 18 true [.ag [.v (.bool (s1)),.sl (lim (m1)).length (qb (lim (m1))),.v (.int .i64 (e1))],.ag [.v (.bool (s2)),.sl (lim (m2)).length (qb (lim (m2))),.v (.int .i64 (e2))]] [] (isA (.v (.int .i64 (zm (dv 3000 s1 m1 e1) (dv 3000 s2 m2 e2))))):=by
 obtain⟨n1,q1,b1,c1,d1,_,f1⟩:=jp h1
 obtain⟨n2,q2,b2,c2,d2,_,f2⟩:=jp h2
 obtain rfl:=jc q1
 obtain rfl:=jc q2
 have k1:=zI s1 (lim m1) e1 (by omega)
 have k2:=zI s2 (lim m2) e2 (by omega)
 rw[h1]at k1
 rw[h2]at k2
 refine Con.of_w (rs:=[.tmp 4]) Tryz.func18 rfl Tryz.ntmps18 rfl ?_
 simp(disch:=omega)only[go_sem]
 refine qk (k1) ?_
 simp(disch:=omega)only[go_sem]
 refine qk (k2) ?_
 simp(disch:=omega)only[go_sem]
 refine qk (aoR 3000 s1 m1 e1 s2 m2 e2 (by omega) (by omega) (by omega) (by omega) (by omega) (by omega) f1 f2) ?_
 simp(disch:=omega)only[go_sem]
 exact qz
theorem aKW(s:Bool)(m:Nat)(e:Int)(h:dyB s (lim m) e=true):Con Tryz.prog 121 false [.ag [.v (.bool (s)),.sl (lim (m)).length (qb (lim (m))),.v (.int .i64 (e))]] [] (isA (.ag [.v (.bool ((!s)&&decide (m≠0))),.sl (lim (m)).length (qb (lim (m))),.v (.int .i64 (e))])):=by
 refine Con.frzA ?_
 obtain⟨n1,q1,b1,c1,d1,_,f1⟩:=jp h
 obtain rfl:=jc q1
 have k1:=zI s (lim m) e (by omega)
 rw[h]at k1
 refine Con.of_w (rs:=[.cell 2 29]) Tryz.func121 rfl Tryz.ntmps121 rfl ?_
 simp(disch:=omega)only[go_sem]
 refine qk (k1) ?_
 simp(disch:=omega)only[go_sem]
 refine qa (aoP s m e (by omega)) ?_
 simp(disch:=omega)only[go_sem]
 exact qj
theorem KE(n:Int)(h: -9223372036854775808≤n∧n<9223372036854775808):Con Tryz.prog 73 false [.v (.int .i64 n)] [] (isA (.ag [.v (.bool (decide (n<0))),.sl (lim (n.natAbs)).length (qb (lim (n.natAbs)))])):=by
 refine Con.frzA ?_
 refine Con.of_w (rs:=[.cell 2 27]) Tryz.func73 rfl Tryz.ntmps73 rfl ?_
 simp(disch:=omega)only[go_sem]
 refine qa (adR n h) ?_
 simp(disch:=omega)only[go_sem]
 exact qj
theorem aJT(e:Int):Con Tryz.prog 155 true [.v (.int .i64 e)] [] (isA (.v (.bool (decide (-12000≤e)&&decide (e≤12000))))):=by
 refine Con.of_aw Tryz.func155 rfl Tryz.ntmps155 (by simp) (by simp) (by simp) (W.sound ?_)
 show @W Tryz.prog 9 ⟨_⟩ ⟨fun x σ=>@qZ _ _ _ ⟨_⟩ _ ⟨_⟩ x σ⟩ _ _
 simp(disch:=omega)only[go_sem]
 repeat' first
  |simp(disch:=omega)only[go_sem, *]
  |(with_reducible refine qe (fun _=>?_) (fun _=>?_))
  |(with_reducible refine zt (fun _=>?_) (fun _=>?_))
  |(with_reducible refine adF (fun _=>?_) (fun _=>?_))
  |(with_reducible refine yf (fun _=>?_) (fun _=>?_))
 all_goals exact qA (by simp(disch:=omega)only[go_sem]) (by simp(disch:=omega)only[go_sem]) ⟨by simp_all[zb]<;>omega,rfl,rfl⟩
theorem KF(s:Bool)(m:Nat)(e:Int)(h:zC s (lim m)=true)(he: -12000≤e∧e≤12000):
  Con Tryz.prog 72 false [.ag [.v (.bool (s)),.sl (lim (m)).length (qb (lim (m)))],.v (.int .i64 e)] [] (isA (if zK m e=true then .tu [.ag [.v (.bool (oS s m)),.sl (lim (oM m)).length (qb (lim (oM m))),.v (.int .i64 (oE m e))],.v (.bool true)]else .tu [.ag [.v (.bool (false)),.sl (lim (0)).length (qb (lim (0))),.v (.int .i64 (0))],.v (.bool false)])):=by
 refine Con.frzA ?_
 have h':=h
 simp only[zC,Bool.and_eq_true]at h'
 obtain⟨_,hl⟩:=QG h'.1
 have hb:=KL (m:=m)
 have hb2:=qx (Nat.le_trans (zT (azC m)) hb)
 have k1:=Qp s (lim m) (by omega)
 rw[h]at k1
 have k2:=aJT e
 rw[decide_eq_true he.1,decide_eq_true he.2]at k2
 have cf:=Qh s m e (by omega)
 cases hd:zK m e
 ·rw[hd,if_neg (by simp),ql]at cf
  rw[if_neg (by simp),ql]
  refine Con.of_w (rs:=[.cell 4 29,.tmp 5]) Tryz.func72 rfl Tryz.ntmps72 rfl ?_
  simp(disch:=omega)only[go_sem]
  refine qk (k1) ?_
  simp(disch:=omega)only[go_sem]
  refine qk (k2) ?_
  simp(disch:=omega)only[go_sem]
  refine qa (yb s m e (by omega) (by omega)) ?_
  simp(disch:=omega)only[go_sem]
  refine qa (cf) ?_
  simp(disch:=omega)only[go_sem]
  exact qj
 ·rw[hd,if_pos rfl]at cf
  rw[if_pos rfl]
  refine Con.of_w (rs:=[.cell 4 29,.tmp 5]) Tryz.func72 rfl Tryz.ntmps72 rfl ?_
  simp(disch:=omega)only[go_sem]
  refine qk (k1) ?_
  simp(disch:=omega)only[go_sem]
  refine qk (k2) ?_
  simp(disch:=omega)only[go_sem]
  refine qa (yb s m e (by omega) (by omega)) ?_
  simp(disch:=omega)only[go_sem]
  refine qa (cf) ?_
  simp(disch:=omega)only[go_sem]
  exact qj
theorem KR:tz 1=0:=ado rfl
theorem jU:lim 1=[1]:=by rw[jG (by omega)];simp[ql]
theorem aJL{e:Int}(h: -3000≤e∧e≤3000):dyB false (lim 1) e=true:=by
 unfold dyB
 rw[decide_eq_true h.1,decide_eq_true h.2,qW,jU]
 have h1:zC false [1]=true:=by decide
 rw[h1];rfl
/-! ### Sameness-/
theorem acW(a b:Nat)(la:(lim a).length≤2^40)(lb:(lim b).length≤2^40):Con Tryz.prog 146 true [.ag [.sl (lim (a)).length (qb (lim (a)))],.ag [.sl (lim (b)).length (qb (lim (b)))]] [] (isA (.v (.bool (decide (a=b))))):=by
 refine Con.of_w (rs:=[.tmp 4]) Tryz.func146 rfl Tryz.ntmps146 rfl ?_
 simp(disch:=omega)only[go_sem]
 refine zt (fun h1=>?_) (fun h1=>?_)
 ·simp(disch:=omega)only[go_sem,h1]
  rw[decide_eq_false (fun e=>h1 (by rw[e]))]
  exact qz
 ·have hl:(lim a).length=(lim b).length:=by omega
  simp(disch:=omega)only[go_sem,h1]
  refine qi (fun i:Nat=>[(2,.pt 40000000 0),(3,.pt 50000000 0),(5,.v (.int .i64 i))]) (fun _=>[(40000000,.own 0 [.sl (lim (a)).length (qb (lim (a)))]),(50000000,.own 0 [.sl (lim (b)).length (qb (lim (b)))])])
   (fun i=>i≤(lim a).length∧(lim a).take i=(lim b).take i) (fun i=>(lim a).length-i) 0 ⟨by omega,by simp⟩ (Le.lst [] _ _ rfl (by simp(disch:=omega)only[go_sem];try omega) (by simp(disch:=omega)only[go_sem])) ?_
  rintro i ⟨hi,ht⟩
  simp(disch:=omega)only[go_sem]
  refine qe (fun h2=>?_) (fun h2=>?_)
  ·simp(disch:=omega)only[go_sem,h2]
   refine qt rfl [⟨0,[],[]⟩,⟨1,[],[]⟩,⟨2,[1],[]⟩,⟨3,[],[]⟩,⟨4,[],[]⟩,⟨5,[1,4],[]⟩,⟨6,[1,4],[]⟩,⟨7,[1,4,6],[]⟩,⟨8,[1,4],[]⟩,⟨9,[1,4],[]⟩,⟨10,[],[]⟩] (by kernel_rfl) ?_
   simp(disch:=omega)only[go_sem]
   refine⟨by omega,by omega,by omega,by omega,?_⟩
   refine zt (fun h3=>?_) (fun h3=>?_)
   ·simp(disch:=omega)only[go_sem,h3]
    rw[decide_eq_false (fun e=>h3 (by rw[e]))]
    exact qz
   ·simp(disch:=omega)only[go_sem,h3]
    refine qc (i+1) [] ⟨by omega,?_⟩ (by show(lim a).length-(i+1)<(lim a).length-i;omega) rfl (by simp(disch:=omega)only[go_sem];try omega) (by simp(disch:=omega)only[go_sem])
    rw[jr (l:=lim a) (by omega),jr (l:=lim b) (by omega),ht,h3]
  ·simp(disch:=omega)only[go_sem,h2]
   have:i=(lim a).length:=by omega
   subst this
   have ht2:lim a=lim b:=by
    have h4:=List.take_of_length_le (l:=lim b) (i:=(lim a).length) (by omega)
    rw[List.take_length,h4]at ht
    exact ht
   rw[decide_eq_true (jc ht2)]
   exact qz
theorem J9(s1:Bool)(m1:Nat)(s2:Bool)(m2:Nat)(l1:(lim m1).length≤2^40)(l2:(lim m2).length≤2^40):Con Tryz.prog 69 true [.ag [.v (.bool (s1)),.sl (lim (m1)).length (qb (lim (m1)))],.ag [.v (.bool (s2)),.sl (lim (m2)).length (qb (lim (m2)))]] [] (isA (.v (.bool ((s1==s2)&&decide (m1=m2))))):=by
 refine Con.of_w (rs:=[.tmp 4]) Tryz.func69 rfl Tryz.ntmps69 rfl ?_
 cases hs:(s1==s2)
 ·simp(disch:=omega)only[go_sem,hs]
  exact qz
 ·simp(disch:=omega)only[go_sem,hs]
  refine qk (acW m1 m2 l1 l2) ?_
  simp(disch:=omega)only[go_sem]
  exact qz
theorem Jg(s1:Bool)(m1:Nat)(e1:Int)(s2:Bool)(m2:Nat)(e2:Int)(l1:(lim m1).length≤2^40)(l2:(lim m2).length≤2^40):Con Tryz.prog 13 true [.ag [.v (.bool (s1)),.sl (lim (m1)).length (qb (lim (m1))),.v (.int .i64 (e1))],.ag [.v (.bool (s2)),.sl (lim (m2)).length (qb (lim (m2))),.v (.int .i64 (e2))]] [] (isA (.v (.bool (decide (e1=e2)&&((s1==s2)&&decide (m1=m2)))))):=by
 cases he:decide (e1=e2)
 ·have he':¬e1=e2:=by simpa using he
  refine Con.of_w (rs:=[.tmp 4]) Tryz.func13 rfl Tryz.ntmps13 rfl ?_
  simp(disch:=omega)only[go_sem,he']
  exact qz
 ·refine Con.of_w (rs:=[.tmp 4]) Tryz.func13 rfl Tryz.ntmps13 rfl ?_
  simp(disch:=omega)only[go_sem,he]
  refine qk (J9 s1 m1 s2 m2 l1 l2) ?_
  simp(disch:=omega)only[go_sem]
  exact qz
end Go.Ab
namespace Go.Ab
open Go Go.Proofs
theorem ZA(e:Int)(he: -3000≤e∧e≤3000):Con Tryz.prog 17 false [.v (.int .i64 1),.v (.int .i64 e)] [] (isA (.ag [.v (.bool (false)),.sl (lim (1)).length (qb (lim (1))),.v (.int .i64 (e))])):=by
 refine Con.frzA ?_
 have hm:oM 1=1:=by unfold oM;rw[KR]
 have hE:oE 1 e=e:=by unfold oE;rw[KR,if_neg (by decide)];simp
 have hf:zK 1 e=true:=by
  unfold zK jJ;rw[hm,hE,jU]
  simp only[Bool.and_eq_true,decide_eq_true_eq]
  exact⟨by decide,by omega,by omega⟩
 have c1:=KF false 1 e (by rw[jU];decide) (by omega)
 rw[if_pos hf,hm,hE]at c1
 have c0:=KE 1 (by omega)
 have e1:decide ((1:Int)<0)=false:=rfl
 have e2:(1:Int).natAbs=1:=rfl
 rw[e1,e2]at c0
 refine Con.of_aw Tryz.func17 rfl Tryz.ntmps17 (by simp) (by simp) (by simp) (W.sound ?_)
 show @W Tryz.prog 15 ⟨_⟩ ⟨fun x σ=>@qZ _ _ _ ⟨_⟩ _ ⟨_⟩ x σ⟩ _ _
 simp(disch:=omega)only[go_sem]
 refine qa (c0) ?_
 simp(disch:=omega)only[go_sem]
 refine qa (c1) ?_
 simp(disch:=omega)only[go_sem]
 refine qC (by simp(disch:=omega)only[go_sem]) ?_
 show qG _ 6 _=_
 rfl
theorem aDm:tz 1024=10:=y3 (a:=0) (by decide)
theorem aRk:(ExV.can ⟨false,1024, -10⟩)=⟨false,1,0⟩:=by
 show(⟨oS false 1024,oM 1024,oE 1024 (-10)⟩:ExV)=_
 unfold oS oM oE
 rw[aDm];rfl
theorem apl:(ExV.can ⟨false,1, -14⟩)=⟨false,1, -14⟩:=by
 show(⟨oS false 1,oM 1,oE 1 (-14)⟩:ExV)=_
 unfold oS oM oE
 rw[KR];rfl
theorem J2(x:ExV)(a:Nat)(s:Bool)(e:Int)(h:x.can=⟨s,a,e⟩)(h1:(lim a).length≤100)(h2: -3000≤e∧e≤3000):x.fit=true:=by
 have e1:oM x.m=a:=congrArg ExV.m h
 have e2:oE x.m x.e=e:=congrArg ExV.e h
 unfold ExV.fit zK jJ
 rw[e1,e2]
 simp only[Bool.and_eq_true,decide_eq_true_eq]
 exact⟨h1,h2⟩
theorem ac9(n:Nat)(h1:n=1):Con Tryz.prog 70 false [.ag [.v (.int .i64 (n)),.sl ([ex0]).length (qw ExV.cs ([ex0]))],.v (.int .i64 (-10))] [] (isA (.tu [.ag [.v (.int .i64 (n)),.sl ([ex1]).length (qw ExV.cs ([ex1]))],.ag [.v (.bool (false)),.sl (lim (1)).length (qb (lim (1))),.v (.int .i64 (-14))],.v (.bool true)])):=by
 have c:=ac8 n [ex0] (-10) aCZ (by omega) (by rw[h1];rfl) (by omega) (Kx n h1) (ao4 n h1) (by rw[h1];decide+kernel) (by decide+kernel) (by
  rw[show aCZ=[⟨⟨false,16383, -14⟩,⟨false,16385, -14⟩⟩] by decide+kernel,List.all_cons,List.all_nil]
  have t1:tz 16383=0:=ado rfl
  have t2:tz 16385=0:=ado rfl
  have f1:ExV.fit ⟨false,16383, -14⟩=true:=J2 _ 16383 false (-14) (by show(⟨oS false 16383,oM 16383,oE 16383 (-14)⟩:ExV)=_;unfold oS oM oE;rw[t1];rfl) (by have:=qx (m:=16383) (B:=20) (zk.2 (by decide));omega) (by omega)
  have f2:ExV.fit ⟨false,16385, -14⟩=true:=J2 _ 16385 false (-14) (by show(⟨oS false 16385,oM 16385,oE 16385 (-14)⟩:ExV)=_;unfold oS oM oE;rw[t2];rfl) (by have:=qx (m:=16385) (B:=20) (zk.2 (by decide));omega) (by omega)
  unfold SpV.fit
  rw[f1,f2];rfl)
 have eX:adI n aCZ (-10)=[⟨false,1024, -10⟩]:=by rw[h1];decide+kernel
 have eF:jw n aCZ (-10)=⟨false,1, -14⟩:=by rw[h1];decide+kernel
 rw[eX,eF]at c
 have f1:ExV.fit ⟨false,1024, -10⟩=true:=J2 _ 1 false 0 aRk (by rw[jU];decide) (by omega)
 have f2:ExV.fit ⟨false,1, -14⟩=true:=J2 _ 1 false (-14) apl (by rw[jU];decide) (by omega)
 rw[List.all_cons,List.all_nil,f1,f2,if_pos (by rfl),List.map_cons,List.map_nil,aRk,apl]at c
 exact c
set_option maxRecDepth 100000 in
theorem KD:Con Tryz.prog 14 true [] [] (isA (.v (.bool true))):=by
 obtain⟨n,hn⟩:∃n:Nat,n=1:=⟨1,rfl⟩
 have c:=ac9 n hn
 have en:(n:Int)=1:=by omega
 have hrow:qw ExV.cs [ex0]=[.v (.bool false),.sl 0 [],.v (.int .i64 0)]:=by
  simp[qw,ExV.cs,ex0,ql,qb]
 rw[en,hrow]at c
 have hr1:qw ExV.cs [ex1]=[.v (.bool false),.sl (lim 1).length (qb (lim 1)),.v (.int .i64 0)]:=by
  simp[qw,ExV.cs,ex1]
 rw[hr1]at c
 have cd1:=ZA 0 (by omega)
 have cd2:=ZA (-9) (by omega)
 have csd:=Jg false 1 0 false 1 0 (by rw[jU];decide) (by rw[jU];decide)
 rw[show(decide ((0:Int)=0)&&((false==false)&&decide ((1:Nat)=1)))=true from rfl]at csd
 have hb:∀e:Int, -3000≤e∧e≤3000→dyB false (lim 1) e=true:=fun e he=>by
  rw[jU];unfold dyB
  rw[show zC false [1]=true by decide,decide_eq_true he.1,decide_eq_true he.2];rfl
 have ccm:=Js false 1 (-14) false 1 (-9) (hb _ (by omega)) (hb _ (by omega))
 have hle:zm (dv 3000 false 1 (-14)) (dv 3000 false 1 (-9))≤0:=(yz _ _).1.2 (by
  unfold dv sv
  rw[if_neg (by simp),show(-9+((3000:Nat):Int)).toNat=(-14+((3000:Nat):Int)).toNat+5 by rfl,Int.pow_add]
  have:(0:Int)<2^(-14+((3000:Nat):Int)).toNat:=Int.pow_pos (by omega)
  generalize (2:Int)^(-14+((3000:Nat):Int)).toNat=p at*
  omega)
 have q3:decide (zm (dv 3000 false 1 (-14)) (dv 3000 false 1 (-9))≤0)=true:=decide_eq_true hle
 generalize zm (dv 3000 false 1 (-14)) (dv 3000 false 1 (-9))=C at*
 refine Con.of_aw Tryz.func14 rfl Tryz.ntmps14 (by simp) (by simp) (by simp)
  (AW.seqLe (E:=[(0,.v (.bool false))]) (H:=[]) (W.sound ?_) (AW.regSplit (E:=[(0,.v (.bool false)),(7,.ag [.v (.int .i64 1),.sl 1 [.v (.bool false),.sl 0 [],.v (.int .i64 0)]])]) (H:=[]) 3 (by simp only[List.take_succ_cons,List.take_zero];rfl) (by simp only[List.drop_succ_cons,List.drop_zero];rfl) ?_ ?_))
 ·show @W Tryz.prog 38 ⟨_⟩ ⟨_⟩ _ _
  simp(disch:=omega)only[go_sem]
  exact Le.lst [] _ _ rfl (by simp(disch:=omega)only[go_sem]) (by simp(disch:=omega)only[go_sem])
 ·simp(disch:=omega)only[go_sem]
  exact(Le.nilC 80000000 1 (zo:=3) (cs:=[.v (.bool false),.v (.slice none 0 0),.v (.int .i64 0)]) (by simp(disch:=omega)only[go_sem]) rfl).trans ((Le.frz 80000000 (z:=3) (ks:=[.v (.bool false),.sl 0 [],.v (.int .i64 0)]) (by simp(disch:=omega)only[go_sem,List.set_cons_succ,List.set_cons_zero]) rfl (by simp(disch:=omega)only[go_sem])).trans (Le.lst [] _ _ rfl (by simp(disch:=omega)only[go_sem]) (by simp(disch:=omega)only[go_sem])))
 show @Ch Tryz.prog 38 ⟨_⟩ ⟨_⟩ ⟨fun σ=>@W Tryz.prog 38 ⟨_⟩ ⟨fun x σ=>@qZ _ _ _ ⟨_⟩ _ ⟨_⟩ x σ⟩ σ.env σ.hp⟩ _ _
 simp(disch:=omega)only[go_sem]
 refine qa (c) ?_
 simp(disch:=omega)only[go_sem]
 refine qt rfl [⟨0,[],[]⟩,⟨1,[],[]⟩,⟨2,[],[]⟩,⟨3,[],[]⟩,⟨4,[],[]⟩,⟨5,[],[]⟩,⟨6,[],[]⟩,⟨7,[],[]⟩,⟨8,[],[]⟩,⟨9,[],[]⟩,⟨10,[],[]⟩,⟨11,[],[]⟩,⟨12,[],[]⟩,⟨13,[],[]⟩,⟨14,[],[]⟩,⟨15,[],[]⟩,⟨16,[],[]⟩,⟨17,[14,16],[]⟩,⟨18,[],[]⟩,⟨19,[],[]⟩,⟨20,[],[]⟩,⟨21,[],[]⟩,⟨22,[21],[]⟩,⟨23,[],[]⟩,⟨24,[],[]⟩,⟨25,[],[]⟩,⟨26,[],[]⟩] (by kernel_rfl) ?_
 simp(disch:=omega)only[go_sem]
 refine qa (cd1) ?_
 simp(disch:=omega)only[go_sem]
 refine qk (csd) ?_
 simp(disch:=omega)only[go_sem]
 refine qa (cd2) ?_
 simp(disch:=omega)only[go_sem]
 refine qk (ccm) ?_
 simp(disch:=omega)only[go_sem]
 simp(disch:=omega)only[go_sem,q3]
 exact qz
end Go.Ab
namespace Go.Ab
theorem aJN{K:Nat}{s:Bool}{m:Nat}{e:Int}{s':Bool}{m':Nat}{e':Int}(he: -(K:Int)≤e)(he': -(K:Int)≤e')(h:dv K s m e=dv K s' m' e'):oS s m=oS s' m'∧oM m=oM m'∧oE m e=oE m' e':=by
 by_cases h0:m=0
 ·have h0':m'=0:=by rw[h0,Zn]at h;exact ah9.1 h.symm
  rw[h0,h0'];exact⟨rfl,rfl,rfl⟩
 ·obtain⟨rfl,hM,hE,h0'⟩:=aQ4 h0 he he' h
  refine⟨?_,hM,hE⟩
  unfold oS;rw[if_neg h0,if_neg h0']
end Go.Ab
namespace Go.Ab
open Go Go.Proofs
def ExV.val(K:Nat)(x:ExV):Int:=dv K x.s x.m x.e
theorem ji{x:ExV}(h:x.ok=true):(-3000≤x.e∧x.e≤3000)∧bl x.m≤1600∧(lim x.m).length≤100∧(x.m=0→x.s=false∧x.e=0)∧(x.m % 2=1∨x.m=0):=by
 obtain⟨m,e1,h1,h2,h3,h4,h5⟩:=jp h
 obtain rfl:=jc e1
 exact⟨h3,h2,h1,fun h0=>⟨h5 h0,by omega⟩,by omega⟩
theorem aCR{x:ExV}(h:x.ok=true):x.can=x:=by
 obtain⟨h1,h2,h3,h4,h5⟩:=ji h
 show(⟨oS x.s x.m,oM x.m,oE x.m x.e⟩:ExV)=x
 obtain⟨s,m,e⟩:=x
 dsimp only at*
 rcases h5 with o|h0
 ·have h0:m≠0:=by omega
  have ht:=ado o
  have g1:oS s m=s:=by unfold oS;rw[if_neg h0]
  have g2:oM m=m:=by have:=@aCT m;rw[ht]at this;simpa using this
  have g3:oE m e=e:=by unfold oE;rw[if_neg h0,ht];simp
  rw[g1,g2,g3]
 ·obtain⟨rfl,rfl⟩:=h4 h0
  rw[h0,Q6];rfl
theorem Qq{x:ExV}(h:x.fit=true):x.can.ok=true:=by
 show dyB (oS x.s x.m) (lim (oM x.m)) (oE x.m x.e)=true
 rw[Km];exact h
theorem Zl:ex0.ok=true:=by show dyB false (lim 0) 0=true;rw[ql];decide
theorem Yo{K:Nat}{x:ExV}(h: -(K:Int)≤x.e):x.can.val K=x.val K:=by
 show dv K (oS x.s x.m) (oM x.m) (oE x.m x.e)=_
 rw[aJM h,aY2];rfl
theorem azv{K:Nat}{x y:ExV}(h1: -(K:Int)≤x.e)(h2: -(K:Int)≤y.e):(x.plus y).val K=x.val K+y.val K:=aZq h1 h2
theorem Yt{K K':Nat}{x y:ExV}(h1: -(K:Int)≤x.e)(h2: -(K':Int)≤y.e):(x.times y).val (K+K')=x.val K*y.val K':=by
 show dv (K+K') ((x.s != y.s)&&decide (x.m*y.m≠0)) (x.m*y.m) (x.e+y.e)=_
 rw[aQ5];exact aQ3 h1 h2
theorem aBK{K j:Nat}{x:ExV}(h: -(K:Int)≤x.e):x.val (K+j)=x.val K*2^j:=by
 unfold ExV.val dv
 have:(x.e+((K+j:Nat):Int)).toNat=(x.e+(K:Int)).toNat+j:=by omega
 rw[this,Int.pow_add,Int.mul_assoc]
theorem aMf{K:Int}{x y:ExV}(h1:K≤x.e)(h2:K≤y.e):K≤(x.plus y).e:=ym h1 h2
theorem aY7{K:Int}{x:ExV}(h: -K≤x.e)(h0:0≤K): -K≤x.can.e:=aXh h h0
theorem aCQ{K:Nat}{x y:ExV}(h1:x.ok=true)(h2:y.ok=true)(k1: -(K:Int)≤x.e)(k2: -(K:Int)≤y.e)(h:x.val K=y.val K):x=y:=by
 obtain⟨g1,g2,g3⟩:=aJN k1 k2 h
 rw[←aCR h1,←aCR h2]
 show(⟨oS x.s x.m,oM x.m,oE x.m x.e⟩:ExV)=⟨oS y.s y.m,oM y.m,oE y.m y.e⟩
 rw[g1,g2,g3]
def ExV.tel(x:ExV):ExV:=if x.fit=true then x.can else ex0
theorem jO(x:ExV):x.tel.ok=true:=by
 unfold ExV.tel;split
 ·rename_i h;exact Qq h
 ·exact Zl
theorem yp{x:ExV}(h:x.fit=true):x.tel=x.can:=if_pos h
theorem aBg(x y:ExV)(ok:Bool)(hx:x.ok=true)(hy:y.ok=true):Con Tryz.prog 16 false [.ag [.v (.bool (x).s),.sl (lim (x).m).length (qb (lim (x).m)),.v (.int .i64 (x).e)],.ag [.v (.bool (y).s),.sl (lim (y).m).length (qb (lim (y).m)),.v (.int .i64 (y).e)],.v (.bool ok)] [] (isA (.tu [.ag [.v (.bool ((x.plus y).tel).s),.sl (lim ((x.plus y).tel).m).length (qb (lim ((x.plus y).tel).m)),.v (.int .i64 ((x.plus y).tel).e)],.v (.bool ((x.plus y).fit&&ok))])):=by
 have c:=ain x.s x.m x.e y.s y.m y.e ok hx hy
 have e:zK (adM x.s x.m x.e y.s y.m y.e) (alE x.m x.e y.m y.e)=(x.plus y).fit:=rfl
 rw[e]at c
 unfold ExV.tel
 cases h:(x.plus y).fit
 ·rw[h,if_neg (by simp)]at c
  rw[if_neg (by simp)];exact c
 ·rw[h,if_pos rfl]at c
  rw[if_pos rfl];exact c
theorem adP(x y:ExV)(ok:Bool)(hx:x.ok=true)(hy:y.ok=true):Con Tryz.prog 15 false [.ag [.v (.bool (x).s),.sl (lim (x).m).length (qb (lim (x).m)),.v (.int .i64 (x).e)],.ag [.v (.bool (y).s),.sl (lim (y).m).length (qb (lim (y).m)),.v (.int .i64 (y).e)],.v (.bool ok)] [] (isA (.tu [.ag [.v (.bool ((x.times y).tel).s),.sl (lim ((x.times y).tel).m).length (qb (lim ((x.times y).tel).m)),.v (.int .i64 ((x.times y).tel).e)],.v (.bool ((x.times y).fit&&ok))])):=by
 have c:=aim x.s x.m x.e y.s y.m y.e ok hx hy
 have e:zK (x.m*y.m) (x.e+y.e)=(x.times y).fit:=rfl
 rw[e]at c
 unfold ExV.tel
 cases h:(x.times y).fit
 ·rw[h,if_neg (by simp)]at c
  rw[if_neg (by simp)];exact c
 ·rw[h,if_pos rfl]at c
  rw[if_pos rfl];exact c
theorem Zr(x y:ExV)(hx:x.ok=true)(hy:y.ok=true):Con Tryz.prog 13 true [.ag [.v (.bool (x).s),.sl (lim (x).m).length (qb (lim (x).m)),.v (.int .i64 (x).e)],.ag [.v (.bool (y).s),.sl (lim (y).m).length (qb (lim (y).m)),.v (.int .i64 (y).e)]] [] (isA (.v (.bool (decide (x=y))))):=by
 have c:=Jg x.s x.m x.e y.s y.m y.e (by have:=(ji hx).2.2.1;omega) (by have:=(ji hy).2.2.1;omega)
 have e:(decide (x.e=y.e)&&((x.s==y.s)&&decide (x.m=y.m)))=decide (x=y):=by
  obtain⟨s,m,e⟩:=x
  obtain⟨t,n,f⟩:=y
  rw[Bool.eq_iff_iff]
  simp only[Bool.and_eq_true,decide_eq_true_eq,beq_iff_eq,ExV.mk.injEq]
  exact⟨fun⟨a,b,c⟩=>⟨b,c,a⟩,fun⟨a,b,c⟩=>⟨c,a,b⟩⟩
 rw[e]at c;exact c
theorem j1(x y:ExV)(hx:x.ok=true)(hy:y.ok=true):Con Tryz.prog 18 true [.ag [.v (.bool (x).s),.sl (lim (x).m).length (qb (lim (x).m)),.v (.int .i64 (x).e)],.ag [.v (.bool (y).s),.sl (lim (y).m).length (qb (lim (y).m)),.v (.int .i64 (y).e)]] [] (isA (.v (.int .i64 (zm (x.val 3000) (y.val 3000))))):=Js x.s x.m x.e y.s y.m y.e hx hy
/-! ### Floats that are numbers-/
def flD(F:FlV):ExV:=⟨oS (xS F.k F.s) F.m.toNat,oM F.m.toNat,oE F.m.toNat F.e⟩
end Go.Ab
namespace Go.Ab
def stk(A B:Nat):Nat:=2*(A/B)+(if A % B=0 then 0 else 1)
end Go.Ab
namespace Go.Ab
def rtB(a:Nat):Nat→Nat
 |0=>0
 |n+1=>if(n+1)*(n+1)≤a then n+1 else rtB a n
def rt(a:Nat):Nat:=rtB a a
theorem adx(a:Nat):∀n,a<(n+1)*(n+1)→rtB a n*rtB a n≤a∧a<(rtB a n+1)*(rtB a n+1)
 |0,h=>⟨by simp[rtB],by simpa [rtB]using h⟩
 |n+1,h=>by
  unfold rtB
  by_cases c:(n+1)*(n+1)≤a
  ·rw[if_pos c];exact⟨c,h⟩
  ·rw[if_neg c];exact adx a n (by omega)
theorem JD(a:Nat):rt a*rt a≤a∧a<(rt a+1)*(rt a+1):=adx a a (by
 have:(a+1)*(a+1)=a*a+2*a+1:=by grind
 omega)
theorem aLJ{a b:Nat}(h:a*a<b*b):a<b:=by
 rcases Nat.lt_or_ge a b with h'|h'
 ·exact h'
 ·exact absurd h (Nat.not_lt.2 (Nat.mul_le_mul h' h'))
theorem anj{a r:Nat}(h1:r*r≤a)(h2:a<(r+1)*(r+1)):rt a=r:=by
 obtain⟨g1,g2⟩:=JD a
 have k1:=aLJ (Nat.lt_of_le_of_lt h1 g2)
 have k2:=aLJ (Nat.lt_of_le_of_lt g1 h2)
 omega
theorem acC{a x:Nat}(hx:0<x):a<((x+a/x)/2+1)*((x+a/x)/2+1):=by
 obtain⟨q,hq⟩:∃q,q=a/x:=⟨_,rfl⟩
 rw[←hq]
 have h1:a<x*(q+1):=by
  have:=Nat.lt_mul_div_succ a hx
  rw[hq];exact this
 obtain⟨y,hy⟩:∃y,y=(x+q)/2+1:=⟨_,rfl⟩
 rw[←hy]
 have h2:x+(q+1)≤2*y:=by omega
 have h3:(x+(q+1))*(x+(q+1))≤2*y*(2*y):=Nat.mul_le_mul h2 h2
 have h4:4*(x*(q+1))≤(x+(q+1))*(x+(q+1)):=by
  generalize q+1=p
  have e:(x+p)*(x+p)=x*x+p*p+2*(x*p):=by grind
  rw[e]
  rcases Nat.le_total x p with h|h
  ·obtain⟨d,rfl⟩:=Nat.le.dest h
   have:x*(x+d)=x*x+x*d:=by grind
   have:(x+d)*(x+d)=x*x+2*(x*d)+d*d:=by grind
   omega
  ·obtain⟨d,rfl⟩:=Nat.le.dest h
   have:(p+d)*p=p*p+d*p:=by grind
   have:(p+d)*(p+d)=p*p+2*(d*p)+d*d:=by grind
   omega
 have h5:2*y*(2*y)=4*(y*y):=by grind
 omega
theorem ahX{a x:Nat}(hx:0<x)(h:x≤(x+a/x)/2):x*x≤a:=by
 have h1:x≤a/x:=by omega
 exact(Nat.le_div_iff_mul_le hx).1 h1
end Go.Ab
namespace Go.Ab
open Go Go.Proofs
theorem aZn(a:Nat):bl (rt a)≤bl a:=zT (by
 have:=(JD a).1
 by_cases h:rt a=0
 ·omega
 ·exact Nat.le_trans (Nat.le_mul_of_pos_left _ (Nat.pos_of_ne_zero h)) this)
theorem aKa{x y B:Nat}(h1:bl x≤B)(h2:bl y≤B):bl (x+y)≤B+1:=by
 have q1:=zk.1 h1
 have q2:=zk.1 h2
 refine zk.2 ?_
 rw[Nat.pow_succ]
 omega
theorem aih(a:Nat)(la:bl a≤4000000):Con Tryz.prog 215 false [.sl (lim (a)).length (qb (lim (a)))] [] (aCU (lim (rt a))):=by
 have ll:=qx la
 refine Con.frzA (a:=.sl (lim (rt a)).length (qb (lim (rt a)))) ?_
 refine Con.of_aw Tryz.func215 rfl Tryz.ntmps215 (by simp) (by simp) (by simp) (W.sound ?_)
 show @W Tryz.prog 32 ⟨_⟩ ⟨fun x σ=>@qZ _ _ _ ⟨_⟩ _ ⟨_⟩ x σ⟩ _ _
 simp(disch:=omega)only[go_sem]
 refine qe (fun h1=>?_) (fun h1=>?_)
 ·simp(disch:=omega)only[go_sem,h1]
  have h0:a=0:=qF.1 (List.length_eq_zero_iff.1 (by omega))
  have hr:rt a=0:=by subst h0;exact anj (by omega) (by omega)
  refine qC (by simp(disch:=omega)only[go_sem]) ?_
  show qG _ 6 _=_
  rw[hr,ql]
  simp(disch:=omega)only[go_sem]
 ·have h0:a≠0:=fun e=>h1 (by rw[e,ql];rfl)
  have ek:((bl a:Int)+1)/2=(((bl a+1)/2:Nat):Int):=by omega
  simp(disch:=omega)only[go_sem,h1]
  refine qa (q5 1 (by omega)) ?_
  simp(disch:=omega)only[go_sem]
  refine qk (Jq a (by omega)) ?_
  simp(disch:=omega)only[go_sem]
  have l1:(lim 1).length≤1000000:=by have:=qx (m:=1) (B:=1) (by decide);omega
  refine qa (q9 1 ((bl a+1)/2) l1 (by omega)) ?_ (by simp(disch:=omega)only[go_sem,ek])
  simp(disch:=omega)only[go_sem]
  have hb:=ZY a
  have hk:a<2^((bl a+1)/2)*2^((bl a+1)/2):=by
   rw[←Nat.pow_add]
   exact Nat.lt_of_lt_of_le hb (Nat.pow_le_pow_right (by omega) (by omega))
  have hp:=Nat.pow_pos (n:=(bl a+1)/2) (show 0<2 by omega)
  have hx0:bl (1*2^((bl a+1)/2))≤2000010:=by
   have:=Qj (n:=1) (k:=(bl a+1)/2) (by omega)
   have h1:bl 1=1:=by decide
   omega
  have hx1:0<1*2^((bl a+1)/2):=by omega
  have hx2:a<(1*2^((bl a+1)/2)+1)*(1*2^((bl a+1)/2)+1):=by
   refine Nat.lt_of_lt_of_le hk (Nat.mul_le_mul ?_ ?_)<;>omega
  generalize 1*2^((bl a+1)/2)=x0 at*
  refine qi (fun x:Nat=>[(0,.sl (lim (a)).length (qb (lim (a)))),(3,.sl (lim (x)).length (qb (lim (x))))]) (fun _=>[]) (fun x=>0<x∧a<(x+1)*(x+1)∧bl x≤2000010) (fun x=>x) x0 ⟨hx1,hx2,hx0⟩ (Le.lst [] _ _ rfl (by simp(disch:=omega)only[go_sem]) (by simp(disch:=omega)only[go_sem])) ?_
  rintro x ⟨i1,i2,i3⟩
  have lx:=qx i3
  simp(disch:=omega)only[go_sem]
  refine qa (ZC a x (by omega) (by omega) (by omega)) ?_
  simp(disch:=omega)only[go_sem]
  have bq:bl (a/x)≤4000000:=Nat.le_trans (yc a x) la
  have lq:=qx bq
  refine qa (j0 x (a/x) (by omega) (by omega)) ?_
  simp(disch:=omega)only[go_sem]
  have bs:bl (x+a/x)≤4000001:=aKa (Nat.le_trans i3 (by omega)) bq
  have ls:=qx bs
  refine qa (ZB (x+a/x) 1 (by omega) (by omega)) ?_
  simp(disch:=omega)only[go_sem]
  have hy:(x+a/x)/2^1=(x+a/x)/2:=rfl
  rw[hy]
  have n1:=acC (a:=a) i1
  have n2:=ahX (a:=a) i1
  have ny:0<(x+a/x)/2:=by
   have:2≤x+a/x:=by
    by_cases hx:x=1
    ·subst hx;rw[Nat.div_one];omega
    ·exact Nat.le_trans (by omega) (Nat.le_add_right x _)
   omega
  have by2:bl ((x+a/x)/2)≤4000001:=Nat.le_trans (yc _ _) bs
  have ly:=qx by2
  generalize hyy:(x+a/x)/2=y at*
  refine qk (zi y x (by omega) (by omega)) ?_
  simp(disch:=omega)only[go_sem]
  have hc:=(Yl (a:=(y:Int)) (b:=(x:Int))).2.2
  refine qe (fun h2=>?_) (fun h2=>?_)
  ·simp(disch:=omega)only[go_sem,h2]
   have e:rt a=x:=anj (n2 (by have:=hc.1 h2;omega)) i2
   refine qC (by simp(disch:=omega)only[go_sem]) ?_
   show qG _ 6 _=_
   rw[e]
   simp(disch:=omega)only[go_sem]
  ·simp(disch:=omega)only[go_sem,h2]
   have hlt:y<x:=by
    have:=fun h=>h2 (hc.2 h)
    omega
   exact qc y [] ⟨ny,n1,Nat.le_trans (zT (Nat.le_of_lt hlt)) i3⟩ hlt rfl (by simp(disch:=omega)only[go_sem]) (by simp(disch:=omega)only[go_sem])
end Go.Ab
namespace Go.Ab
open Go Go.Proofs
/-! ### A root,rounded-/
def stR(A S:Nat):Nat:=rt (A/S)*4+(if rt (A/S)*rt (A/S)*S=A then 0 else if A*4<(2*rt (A/S)+1)*(2*rt (A/S)+1)*S then 1 else if A*4=(2*rt (A/S)+1)*(2*rt (A/S)+1)*S then 2 else 3)
theorem QU(A S:Nat):stR A S/4=rt (A/S)∧(stR A S % 4=0↔rt (A/S)*rt (A/S)*S=A)∧
  (rt (A/S)*rt (A/S)*S≠A→zm ((stR A S % 4*2:Nat):Int) ((4:Nat):Int)=zm ((A*4:Nat):Int) (((2*rt (A/S)+1)*(2*rt (A/S)+1)*S:Nat):Int)):=by
 unfold stR
 generalize rt (A/S)=r
 generalize (2*r+1)*(2*r+1)*S=h
 refine⟨?_,?_,fun hn=>?_⟩
 ·split
  ·omega
  ·split
   ·omega
   ·split<;>omega
 ·constructor
  ·intro h0
   split at h0
   ·assumption
   ·split at h0
    ·omega
    ·split at h0<;>omega
  ·intro h0;rw[if_pos h0];omega
 ·rw[if_neg hn]
  by_cases c1:A*4<h
  ·rw[if_pos c1,show(r*4+1) % 4*2=2 by omega]
   unfold zm;rw[if_pos (by decide),if_pos (by omega)]
  ·rw[if_neg c1]
   by_cases c2:A*4=h
   ·rw[if_pos c2,show(r*4+2) % 4*2=4 by omega,c2]
    unfold zm
    rw[if_neg (by omega),if_neg (by omega),if_neg (by omega),if_neg (by omega)]
   ·rw[if_neg c2,show(r*4+3) % 4*2=6 by omega]
    unfold zm
    simp only[show ¬(((6:Nat):Int)<((4:Nat):Int)) by decide,show ¬(((A*4:Nat):Int)<((h:Nat):Int)) by omega,if_false]
    first|(rw[if_pos (by omega),if_pos (by omega)])|(rw[if_neg (by omega),if_neg (by omega)])
theorem aLH{A S:Nat}(hS:0<S):rt (A/S)*rt (A/S)*S≤A∧A<(rt (A/S)+1)*(rt (A/S)+1)*S:=by
 obtain⟨h1,h2⟩:=JD (A/S)
 exact⟨(Nat.le_div_iff_mul_le hS).1 h1,(Nat.div_lt_iff_lt_mul hS).1 h2⟩
theorem Ya(a:Nat)(e mode:Int)(la:bl a≤1000000)(he: -1000000≤e∧e≤1000000):
  Con Tryz.prog 143 false [.sl (lim (a)).length (qb (lim (a))),.v (.int .i64 e),.v (.int .i64 mode)] [] (isA (.tu [.sl (lim (rq false (stR (ovA a e) (2^(-e).toNat)) 4 mode)).length (qb (lim (rq false (stR (ovA a e) (2^(-e).toNat)) 4 mode))),.v (.bool (decide (stR (ovA a e) (2^(-e).toNat) % 4=0)))])):=by
 have l1:(lim 1).length≤1000000:=by have:=qx (m:=1) (B:=1) (by decide);omega
 have ll:=qx la
 have bA:=adW (k:=e) (C:=1000000) la (by omega)
 have lA:=qx bA
 obtain⟨f1,f2,f3⟩:=QU (ovA a e) (2^(-e).toNat)
 have bD:=yc (ovA a e) (2^(-e).toNat)
 have bR:=aZn (ovA a e/2^(-e).toNat)
 have ex1:(if 0>e then 0 else e)=((e.toNat:Nat):Int):=by split<;>omega
 have ex2:(if 0>0-e then 0 else 0-e)=(((-e).toNat:Nat):Int):=by split<;>omega
 have hA:a*2^e.toNat=ovA a e:=rfl
 generalize ovA a e=A at*
 generalize hk:(-e).toNat=k at*
 have hk2:k≤1000000:=by omega
 have cR:=aih (A/2^k) (by omega)
 generalize rt (A/2^k)=r at*
 have lR:=qx (m:=r) (B:=2000000) (by omega)
 have bRR:=jj r r
 have lRR:=qx (m:=r*r) (B:=4000000) (by omega)
 have bRS:=Qi (r*r) k
 have lRS:=qx (m:=r*r*2^k) (B:=5000000) (by omega)
 have b2:bl (r*2)≤2000001:=by have:=Qi r 1;simpa using(show bl (r*2^1)≤2000001 by omega)
 have bT:bl (2*r+1)≤2000002:=by
  have:=adc (r*2)
  rw[Nat.mul_comm 2 r];omega
 have lT:=qx bT
 have l2:=qx b2
 have bTT:=jj (2*r+1) (2*r+1)
 have lTT:=qx (m:=(2*r+1)*(2*r+1)) (B:=4000004) (by omega)
 have bTS:=Qi ((2*r+1)*(2*r+1)) k
 have lTS:=qx (m:=(2*r+1)*(2*r+1)*2^k) (B:=5000004) (by omega)
 have bA4:=Qi A 2
 have lA4:=qx (m:=A*2^2) (B:=2000002) (by omega)
 have e2:r*2^1+1=2*r+1:=by omega
 have e4:A*2^2=A*4:=rfl
 refine Con.of_aw Tryz.func143 rfl Tryz.ntmps143 (by simp) (by simp) (by simp) (W.sound ?_)
 show @W Tryz.prog 56 ⟨_⟩ ⟨fun x σ=>@qZ _ _ _ ⟨_⟩ _ ⟨_⟩ x σ⟩ _ _
 simp(disch:=omega)only[go_sem]
 refine qa (q9 a e.toNat (by omega) (by omega)) ?_ (by simp(disch:=omega)only[go_sem,ex1])
 simp(disch:=omega)only[go_sem]
 rw[hA]
 refine qa (ZB A k (by omega) (by omega)) ?_ (by simp(disch:=omega)only[go_sem,ex2])
 simp(disch:=omega)only[go_sem]
 refine qa (cR) ?_
 simp(disch:=omega)only[go_sem]
 refine qa (q9 a e.toNat (by omega) (by omega)) ?_ (by simp(disch:=omega)only[go_sem,ex1])
 simp(disch:=omega)only[go_sem]
 rw[hA]
 refine qa (j9 r r (by omega) (by omega)) ?_
 simp(disch:=omega)only[go_sem]
 refine qa (q9 (r*r) k (by omega) (by omega)) ?_ (by simp(disch:=omega)only[go_sem,ex2])
 simp(disch:=omega)only[go_sem]
 refine qk (zi (r*r*2^k) A (by omega) (by omega)) ?_
 simp(disch:=omega)only[go_sem]
 have hc:=(Yl (a:=((r*r*2^k:Nat):Int)) (b:=(A:Int))).2.1
 refine qe (fun h1=>?_) (fun h1=>?_)
 ·simp(disch:=omega)only[go_sem,h1]
  have h0:=f2.2 (by have:=hc.1 h1;omega)
  have eq:rq false (stR A (2^k)) 4 mode=r:=by unfold rq;rw[if_pos h0];exact f1
  refine qC (by simp(disch:=omega)only[go_sem]) ⟨?_,rfl,rfl⟩
  rw[eq,decide_eq_true h0];rfl
 ·simp(disch:=omega)only[go_sem,h1]
  have hne:r*r*2^k≠A:=fun e=>h1 (hc.2 (by rw[e]))
  have h0:¬stR A (2^k) % 4=0:=fun e=>hne (f2.1 e)
  have f3':=f3 hne
  refine qa (q9 r 1 (by omega) (by omega)) ?_
  simp(disch:=omega)only[go_sem]
  refine qa (q5 1 (by omega)) ?_
  simp(disch:=omega)only[go_sem]
  refine qa (j0 (r*2^1) 1 (by rw[Nat.pow_one];omega) (by omega)) ?_
  simp(disch:=omega)only[go_sem]
  rw[e2]
  refine qk (ZD r 0 (by omega) (by omega) (by omega)) ?_
  simp(disch:=omega)only[go_sem]
  refine qa (q9 A 2 (by omega) (by omega)) ?_
  simp(disch:=omega)only[go_sem]
  refine qa (j9 (2*r+1) (2*r+1) (by omega) (by omega)) ?_
  simp(disch:=omega)only[go_sem]
  refine qa (q9 ((2*r+1)*(2*r+1)) k (by omega) (by omega)) ?_ (by simp(disch:=omega)only[go_sem,ex2])
  simp(disch:=omega)only[go_sem]
  refine qk (zi (A*2^2) ((2*r+1)*(2*r+1)*2^k) (by omega) (by omega)) ?_
  simp(disch:=omega)only[go_sem]
  have e1:(decide (((r/1 % 2:Nat):Int)=1))=decide (r % 2=1):=by simp;omega
  refine qk (Zs false (decide (r % 2=1)) (zm ((A*2^2:Nat):Int) (((2*r+1)*(2*r+1)*2^k:Nat):Int)) mode) ?_ (by simp(disch:=omega)only[go_sem,e1,Int.toNat_zero,Nat.pow_zero])
  simp(disch:=omega)only[go_sem]
  rw[e4,←f3']
  have eq:rq false (stR A (2^k)) 4 mode=if rup false (decide (r % 2=1)) (zm ((stR A (2^k) % 4*2:Nat):Int) ((4:Nat):Int)) mode=true then r+1 else r:=by
   unfold rq;rw[if_neg h0,f1]
  rw[decide_eq_false h0,eq]
  refine yf (fun h2=>?_) (fun h2=>?_)
  ·simp(disch:=omega)only[go_sem,h2]
   refine qa (q5 1 (by omega)) ?_
   simp(disch:=omega)only[go_sem]
   refine qa (j0 r 1 (by omega) (by omega)) ?_
   simp(disch:=omega)only[go_sem]
   refine qC (by simp(disch:=omega)only[go_sem]) ⟨?_,rfl,rfl⟩
   rw[if_pos h2];rfl
  ·simp(disch:=omega)only[go_sem,h2]
   refine qC (by simp(disch:=omega)only[go_sem]) ⟨?_,rfl,rfl⟩
   rw[if_neg (by rw[h2];simp)];rfl
end Go.Ab
namespace Go.Ab
open Go Go.Proofs
end Go.Ab
namespace Go.Ab
open Go Go.Proofs
end Go.Ab
namespace Go.Ab
open Go Go.Proofs
def awV(s:Bool)(m e:Int):FlV:=if m<9007199254740991 then⟨1,s,m+1,e⟩else if e<971 then⟨1,s,4503599627370496,e+1⟩else⟨2,s,0,0⟩
def toV(k:Int)(s:Bool)(m e:Int):FlV:=if k=2 then⟨1,s,9007199254740991,971⟩else if 4503599627370496<m∨(e= -1074∧1<m)then⟨k,s,m-1,e⟩else if-1074<e then⟨k,s,9007199254740991,e-1⟩else⟨0,s,0,0⟩
def nxV(k:Int)(s:Bool)(m e:Int):FlV:=if k=3∨(k=2∧s=false)then⟨k,s,m,e⟩else if k=0 then⟨1,false,1, -1074⟩else if s=true then toV k s m e else awV s m e
def ulE(k e:Int):Int:=if k=0 then-1074 else e
end Go.Ab
namespace Go.Ab
structure Adj(k:Int)(s:Bool)(m e:Int)(n:FlV)(t:Bool)(a:Nat)(E:Int):Prop where
 ha:a<2^53
 hf:2^52≤a∨E= -1074
 hE: -1074≤E∧E≤971
 ho:¬(a+1=2^53∧E=971)
 hu:E≤ulE k e
 lo:dv 1074 (xS k s) m.toNat e=dv 1074 t (if t=true then a+1 else a) E
 hi:dv 1074 (xS n.k n.s) n.m.toNat n.e=dv 1074 t (if t=true then a else a+1) E
theorem bci:ngS 1 false=true:=rfl
theorem bcg:ngS 1 true=false:=rfl
theorem bch:ngS 2 false=true:=rfl
end Go.Ab
namespace Go.Ab
open Go Go.Proofs
def bbG(ok:Bool):AV→List Ob→List Ob→Prop:=fun r hs bs=>hs=[]∧bs=[]∧∃(S:Bool) (M:Nat) (E:Int) (b:Bool),dyB S (lim M) E=true∧(ok=false→b=false)∧r=.tu [.ag [.v (.bool (S)),.sl (lim (M)).length (qb (lim (M))),.v (.int .i64 (E))],.v (.bool b)]
end Go.Ab
namespace Go.Ab
def ivM(s:Bool)(m:Nat)(e mode:Int):Nat:=roM s m e 0 mode*2^(roE m e 0).toNat
end Go.Ab
namespace Go.Ab
open Go Go.Proofs
theorem Kw(n:Int):Con Tryz.prog 64 true [.v (.int .i64 n)] [] (isA (.v (.bool (decide (-3000≤n)&&decide (n≤3000))))):=by
 refine Con.of_w (rs:=[.tmp 2]) Tryz.func64 rfl Tryz.ntmps64 rfl ?_
 simp(disch:=omega)only[go_sem]
 refine qk (zB n (-3000) 3000) ?_
 simp(disch:=omega)only[go_sem]
 exact qz
end Go.Ab
namespace Go.Ab
open Go Go.Proofs
def sqT(m:Nat)(e:Int):Int:=((bl m:Int)+e+1)/2
def sqL(m:Nat)(e:Int):Int:=Zi (sqT m e)
def sqA(m:Nat)(e low:Int):Nat:=stR (ovA m (e-2*low)) (2^(-(e-2*low)).toNat)
theorem aoF(s:Bool)(m:Nat)(e low mode:Int)(hm:bl m≤2000)(he: -5000≤e∧e≤5000)(hl: -5000≤low∧low≤5000):
  Con Tryz.prog 67 false [.ag [.v (.bool (s)),.sl (lim (m)).length (qb (lim (m))),.v (.int .i64 (e))],.v (.int .i64 low),.v (.int .i64 mode)] [] (isA (.tu [.ag [.v (.bool (false)),.sl (lim (rq false (sqA m e low) 4 mode)).length (qb (lim (rq false (sqA m e low) 4 mode))),.v (.int .i64 (low))],.v (.bool (decide (sqA m e low % 4=0)))])):=by
 have e2:low*2=2*low:=by omega
 refine Con.frzA ?_
 refine Con.of_aw Tryz.func67 rfl Tryz.ntmps67 (by simp) (by simp) (by simp) (W.sound ?_)
 show @W Tryz.prog 26 ⟨_⟩ ⟨fun x σ=>@qZ _ _ _ ⟨_⟩ _ ⟨_⟩ x σ⟩ _ _
 simp(disch:=omega)only[go_sem]
 refine qa (Ya m (e-2*low) mode (by omega) (by omega)) ?_
 simp(disch:=omega)only[go_sem]
 refine qC (by simp(disch:=omega)only[go_sem]) ?_
 show qG _ 6 _=_
 unfold sqA
 simp(disch:=omega)only[go_sem]
def sqV(k:Int)(s:Bool)(m e mode:Int):FlV:=
 if k=3∨k=0 then⟨k,s,m,e⟩else if s=true then⟨3,false,0,0⟩else if k=2 then⟨k,s,m,e⟩else
  ⟨flK false mode (rq false (sqA m.toNat e (sqL m.toNat e)) 4 mode) (sqL m.toNat e),false,aZB false mode (rq false (sqA m.toNat e (sqL m.toNat e)) 4 mode) (sqL m.toNat e),aZD false mode (rq false (sqA m.toNat e (sqL m.toNat e)) 4 mode) (sqL m.toNat e)⟩
def sqG(k:Int)(s:Bool)(m e mode:Int):Int:=
 if k=3∨k=0 then 0 else if s=true then 16 else if k=2 then 0 else
  aZC (sqT m.toNat e) (decide (sqA m.toNat e (sqL m.toNat e) % 4=0)) (rq false (sqA m.toNat e (sqL m.toNat e)) 4 mode) (sqL m.toNat e)
end Go.Ab
namespace Go.Ab
open Go Go.Proofs
def bcr(l:List UInt8)(i h:Int):Ob:=.own 0 [.sl l.length (qm l),.v (.int .i64 i),.v (.int .i64 h)]
def Kn(l:List UInt8)(Q:AV→Prop):AV→List Ob→List Ob→Prop:=fun r hs bs=>hs=[]∧Q r∧∃i h:Int,(0≤i∧i≤l.length)∧bs=[.own 0 [.sl l.length (qm l),.v (.int .i64 i),.v (.int .i64 h)]]
section
variable {P:Program}{N f c:Nat}{aa0 args:List AV}{hp:Nat→Ob}{K:KV}{Q:AV→Prop}{e:Nat→AV}{l:List UInt8}{i h:Int}
theorem qn{n:Nat}(hc:Con P f false (.pt 10000000 0::args) [.own 0 [.sl l.length (qm l),.v (.int .i64 i),.v (.int .i64 h)]] (Kn l Q))
  (hk:∀(r:AV) (i' h':Int),(0≤i'∧i'≤l.length)→Q r→K (r.ren (rho c [n])) (upd hp n (.own 0 [.sl l.length (qm l),.v (.int .i64 i'),.v (.int .i64 h')])))
  (ha:aa0.map (snp (hpx false [n] hp) (idx [n]) 6)=args:=by simp(disch:=omega)only[go_sem]) (hn:hp n=.own 0 [.sl l.length (qm l),.v (.int .i64 i),.v (.int .i64 h)]:=by simp(disch:=omega)only[go_sem]):@ZV P f (.pt n 0::aa0) hp c ⟨K⟩:=by
 refine ZH false [n] hc (by rw[List.map_cons,ha];simp[snp,idx]) (by rw[Q8,hn];rfl) rfl (qT hn (by simp[AllL,AV.All])) (by intro m hm;rw[List.mem_singleton.1 hm];exact⟨_,List.mem_cons_self ..,rfl⟩) ?_
 rintro r hs bs ⟨rfl,hq,i',h',hi',rfl⟩-
 exact⟨⟨by simp,trivial,fun h=>by cases h⟩,hk r i' h' hi' hq⟩
theorem aCX{ks:List Nat}:∀{l:List AV},AllL (jN []) l→leL [] ks l l
 | [],_=>trivial
 |a::r,h=>⟨⟨ano a,h.1.mono fun _ h=>h.elim⟩,aCX h.2⟩
theorem qN{vs:List AV}(i h:Int)(hq:Q (zb vs))(hi:0≤i∧i≤l.length:=by omega)(hh:hp 10000000=.own 0 [.sl l.length (qm l),.v (.int .i64 i),.v (.int .i64 h)]:=by simp(disch:=omega)only[go_sem])
  (hl:AllL (jN []) vs:=by simp(disch:=omega)only[go_sem]):@aC2 N false 1 ⟨Kn l Q⟩ ⟨e⟩ vs hp:=
 qh [] [] [.own 0 [.sl l.length (qm l),.v (.int .i64 i),.v (.int .i64 h)]] vs rfl (aCX hl) ⟨⟨hh.symm,by simp[Ob.men,AllL,AV.All],trivial⟩,trivial⟩ ⟨rfl,by simp,by simp⟩ (fun h=>by cases h) ⟨rfl,hq,i,h,hi,rfl⟩
end
def aZF(l:List UInt8)(xs:List Int)(Q:AV→Prop):AV→List Ob→List Ob→Prop:=fun r hs bs=>hs=[]∧Q r∧∃i h:Int,(0≤i∧i≤l.length)∧bs=[.own 0 [.sl l.length (qm l),.v (.int .i64 i),.v (.int .i64 h)],.own 1 (qb xs)]
section
variable {P:Program}{N f c:Nat}{aa0 args:List AV}{hp:Nat→Ob}{K:KV}{Q:AV→Prop}{e:Nat→AV}{l:List UInt8}{i h:Int}
theorem jf{n m k:Nat}{xs:List Int}(hc:Con P f false [.pt 10000000 0,.rf 10000001 0 xs.length] [.own 0 [.sl l.length (qm l),.v (.int .i64 i),.v (.int .i64 h)],.own 1 (qb xs)] (aZF l xs Q))
  (hk:∀(r:AV) (i' h':Int),(0≤i'∧i'≤l.length)→Q r→K (r.ren (rho c [n,m])) (upd (upd hp n (.own 0 [.sl l.length (qm l),.v (.int .i64 i'),.v (.int .i64 h')])) m (.own 1 (qb xs))))
  (hx:xs.length=k:=by rfl)
  (hn:hp n=.own 0 [.sl l.length (qm l),.v (.int .i64 i),.v (.int .i64 h)]:=by simp(disch:=omega)only[go_sem]) (hm:hp m=.own 1 (qb xs):=by simp(disch:=omega)only[go_sem];rfl)
  (hd:Qn [n,m]=true:=by rfl):@ZV P f [.pt n 0,.rf m 0 k] hp c ⟨K⟩:=by
 have hnm:¬m=n:=by
  have:=(ju hd)
  simp only[List.nodup_cons,List.mem_singleton]at this
  exact fun h=>this.1 h.symm
 subst hx
 refine ZH false [n,m] hc (by simp[snp,idx,hnm]) (by rw[Q8,Q8,hn,hm];simp only[Ob.ren,Q1,Q8];rfl) hd (az4 hn (by simp[AllL,AV.All]) hm QI) (by intro q hq;simp only[List.mem_cons,List.not_mem_nil,or_false]at hq;rcases hq with rfl|rfl<;>simp[AV.top]) ?_
 rintro r hs bs ⟨rfl,hq,i',h',hi',rfl⟩-
 refine⟨⟨by simp,trivial,fun h=>by cases h⟩,?_⟩
 have:=hk r i' h' hi' hq
 simp only[List.map_cons,List.map_nil,Ob.ren,Q1]
 exact this
end
section
variable (l:List UInt8)(hl:l.length≤9223372036854775807)(i h:Int)(hi:0≤i∧i≤l.length)
include hl hi
theorem jz:Con Tryz.prog 207 false [.pt 10000000 0] [.own 0 [.sl l.length (qm l),.v (.int .i64 i),.v (.int .i64 h)]] (Kn l fun r=>∃k:Int,(0≤k∧k≤255)∧r=.v (.int .i64 k)):=by
 refine Con.of_aw Tryz.func207 rfl Tryz.ntmps207 (by simp) (by simp) (by simp) (W.sound ?_)
 show @W Tryz.prog 58 ⟨_⟩ ⟨fun x σ=>@qZ _ _ _ ⟨_⟩ _ ⟨_⟩ x σ⟩ _ _
 simp(disch:=omega)only[go_sem]
 generalize IntKind.i64.wrap (IntKind.i64.wrap (h*6364136223846793005)+1442695040888963407)=h1
 refine qt rfl [⟨0,[],[]⟩,⟨1,[],[]⟩,⟨2,[],[]⟩,⟨3,[],[]⟩,⟨4,[],[]⟩,⟨5,[3],[]⟩,⟨6,[3],[]⟩,⟨7,[3],[]⟩,⟨8,[3],[]⟩,⟨9,[3],[]⟩,⟨10,[],[]⟩,⟨11,[],[]⟩,⟨12,[],[]⟩] (by kernel_rfl) ?_
 simp(disch:=omega)only[go_sem]
 generalize aZv (h1.fdiv (2^min 33 64)) (h1.fdiv (2^min 45 64))=y
 have hy:0≤y % 256∧y % 256<256:=by omega
 generalize y % 256=x at*
 refine qt rfl [⟨0,[],[]⟩,⟨1,[],[]⟩,⟨2,[],[]⟩,⟨3,[],[]⟩,⟨4,[3],[]⟩,⟨5,[3],[]⟩,⟨6,[3],[]⟩,⟨7,[3],[]⟩,⟨8,[3],[]⟩,⟨9,[],[]⟩] (by kernel_rfl) ?_
 simp(disch:=omega)only[go_sem]
 refine qe (fun c1=>?_) (fun c1=>?_)
 ·simp(disch:=omega)only[go_sem,c1]
  refine qt rfl [⟨0,[],[]⟩,⟨1,[],[]⟩,⟨2,[],[]⟩,⟨3,[],[]⟩,⟨4,[],[]⟩,⟨5,[4],[]⟩,⟨6,[4],[]⟩,⟨7,[4],[]⟩,⟨8,[4],[]⟩,⟨9,[],[]⟩,⟨10,[],[]⟩,⟨11,[],[]⟩,⟨12,[],[]⟩,⟨13,[],[]⟩,⟨14,[],[]⟩] (by kernel_rfl) ?_
  simp(disch:=omega)only[go_sem]
  refine⟨by omega,by omega,?_⟩
  generalize IntKind.i64.wrap (x+IntKind.i64.wrap ((l.getD i.toNat 0).toNat:Int))=y2
  have hy2:0≤y2 % 256∧y2 % 256<256:=by omega
  refine qN (i+1) (h1) ⟨_,by omega,rfl⟩
 ·simp(disch:=omega)only[go_sem,c1]
  refine qN (i) (h1) ⟨_,by omega,rfl⟩
theorem qO(n:Int)(hn:n≤2^62):Con Tryz.prog 130 false [.pt 10000000 0,.v (.int .i64 n)] [.own 0 [.sl l.length (qm l),.v (.int .i64 i),.v (.int .i64 h)]] (Kn l fun r=>∃k:Int,(0≤k∧(0<n→k<n))∧r=.v (.int .i64 k)):=by
 refine Con.of_aw Tryz.func130 rfl Tryz.ntmps130 (by simp) (by simp) (by simp) (W.sound ?_)
 show @W Tryz.prog 37 ⟨_⟩ ⟨fun x σ=>@qZ _ _ _ ⟨_⟩ _ ⟨_⟩ x σ⟩ _ _
 simp(disch:=omega)only[go_sem]
 refine qe (fun c1=>?_) (fun c1=>?_)
 ·simp(disch:=omega)only[go_sem,c1]
  refine qN (i) (h) ⟨_,⟨by omega,fun h=>by omega⟩,rfl⟩
 ·simp(disch:=omega)only[go_sem,c1]
  refine qe (fun c2=>?_) (fun c2=>?_)
  ·simp(disch:=omega)only[go_sem,c2]
   refine qn (jz l hl i h hi) ?_
   rintro r i1 h1 hi1 ⟨k1,hk1,rfl⟩
   simp(disch:=omega)only[go_sem]
   refine⟨by omega,?_⟩
   have hm:=Int.emod_nonneg k1 (show n≠0 by omega)
   have hm2:=Int.emod_lt_of_pos k1 (show 0<n by omega)
   refine qN (i1) (h1) ⟨_,⟨hm,fun _=>hm2⟩,rfl⟩
  ·simp(disch:=omega)only[go_sem,c2]
   refine qn (jz l hl i h hi) ?_
   rintro r i1 h1 hi1 ⟨k1,hk1,rfl⟩
   simp(disch:=omega)only[go_sem]
   refine qn (jz l hl i1 h1 hi1) ?_
   rintro r i2 h2 hi2 ⟨k2,hk2,rfl⟩
   simp(disch:=omega)only[go_sem]
   refine qn (jz l hl i2 h2 hi2) ?_
   rintro r i3 h3 hi3 ⟨k3,hk3,rfl⟩
   simp(disch:=omega)only[go_sem]
   refine qn (jz l hl i3 h3 hi3) ?_
   rintro r i4 h4 hi4 ⟨k4,hk4,rfl⟩
   simp(disch:=omega)only[go_sem]
   refine⟨by omega,?_⟩
   have hm:=Int.emod_nonneg (k1*16777216+k2*65536+k3*256+k4) (show n≠0 by omega)
   have hm2:=Int.emod_lt_of_pos (k1*16777216+k2*65536+k3*256+k4) (show 0<n by omega)
   refine qN (i4) (h4) ⟨_,⟨hm,fun _=>hm2⟩,rfl⟩
theorem qL(n:Int)(hn:n≤2^62):Con Tryz.prog 58 false [.pt 10000000 0,.v (.int .i64 n)] [.own 0 [.sl l.length (qm l),.v (.int .i64 i),.v (.int .i64 h)]] (Kn l fun r=>∃b:Bool,r=.v (.bool b)):=by
 refine Con.of_aw Tryz.func58 rfl Tryz.ntmps58 (by simp) (by simp) (by simp) (W.sound ?_)
 show @W Tryz.prog 9 ⟨_⟩ ⟨fun x σ=>@qZ _ _ _ ⟨_⟩ _ ⟨_⟩ x σ⟩ _ _
 simp(disch:=omega)only[go_sem]
 refine qn (qO l hl i h hi n hn) ?_
 rintro r i1 h1 hi1 ⟨k1,hk1,rfl⟩
 simp(disch:=omega)only[go_sem]
 refine qN (i1) (h1) ⟨_,rfl⟩
theorem zh(xs:List Int)(h0:0<xs.length)(h1:xs.length≤2^40):Con Tryz.prog 131 false [.pt 10000000 0,.rf 10000001 0 xs.length] [.own 0 [.sl l.length (qm l),.v (.int .i64 i),.v (.int .i64 h)],.own 1 (qb xs)] (aZF l xs fun r=>∃x∈xs,r=.v (.int .i64 x)):=by
 refine Con.of_aw Tryz.func131 rfl Tryz.ntmps131 (by simp) (by simp) (by simp) (W.sound ?_)
 show @W Tryz.prog 12 ⟨_⟩ ⟨fun x σ=>@qZ _ _ _ ⟨_⟩ _ ⟨_⟩ x σ⟩ _ _
 simp(disch:=omega)only[go_sem]
 refine qn (qO l hl i h hi xs.length (by omega)) ?_
 rintro r i1 h1 hi1 ⟨k1,hk1,rfl⟩
 simp(disch:=omega)only[go_sem]
 obtain⟨n1,rfl⟩:=Int.eq_ofNat_of_zero_le hk1.1
 have hlt:n1<xs.length:=by have:=hk1.2 (by omega);omega
 simp(disch:=omega)only[go_sem]
 refine⟨by omega,by omega,?_⟩
 have hm:xs.getD n1 0∈xs:=by rw[List.getD_eq_getElem?_getD,List.getElem?_eq_getElem hlt];exact List.getElem_mem _
 refine qh [] [] [.own 0 [.sl l.length (qm l),.v (.int .i64 i1),.v (.int .i64 h1)],.own 1 (qb xs)] [.v (.int .i64 (xs.getD n1 0))] rfl (by simp(disch:=omega)only[go_sem]) (by simp(disch:=omega)only[go_sem]) (by simp) (by simp) ⟨rfl,⟨_,hm,rfl⟩,_,_,by omega,rfl⟩
end
end Go.Ab
namespace Go.Ab
open Go Go.Proofs
section
variable (l:List UInt8)(hl:l.length≤9223372036854775807)(i h:Int)(hi:0≤i∧i≤l.length)
include hl hi
theorem Yf:Con Tryz.prog 292 false [.pt 10000000 0] [.own 0 [.sl l.length (qm l),.v (.int .i64 i),.v (.int .i64 h)]] (Kn l fun r=>∃k:Int,(0≤k∧k≤100)∧r=.v (.int .i64 k)):=by
 refine Con.of_aw Tryz.func292 rfl Tryz.ntmps292 (by simp) (by simp) (by simp) (W.sound ?_)
 show @W Tryz.prog 10 ⟨_⟩ ⟨fun x σ=>@qZ _ _ _ ⟨_⟩ _ ⟨_⟩ x σ⟩ _ _
 simp(disch:=omega)only[go_sem]
 refine qn (qL l hl i h hi 12 (by omega)) ?_
 rintro r i1 h1 hi1 ⟨b,rfl⟩
 simp(disch:=omega)only[go_sem]
 cases b
 ·simp(disch:=omega)only[go_sem]
  refine qn (qO l hl i1 h1 hi1 6 (by omega)) ?_
  rintro r i2 h2 hi2 ⟨k,hk,rfl⟩
  simp(disch:=omega)only[go_sem]
  have:=hk.2 (by omega)
  refine qN (i2) (h2) ⟨_,by omega,rfl⟩
 ·simp(disch:=omega)only[go_sem]
  refine jf (zh l hl i1 h1 hi1 [100,99,50,20] (by simp) (by simp)) ?_
  rintro r i2 h2 hi2 ⟨x,hx,rfl⟩
  have hx_b:0≤x∧x≤100:=by
   simp only[List.mem_cons,List.not_mem_nil,or_false]at hx
   omega
  clear hx
  simp(disch:=omega)only[go_sem]
  refine qN (i2) (h2) ⟨_,by omega,rfl⟩
theorem Jm:Con Tryz.prog 264 false [.pt 10000000 0] [.own 0 [.sl l.length (qm l),.v (.int .i64 i),.v (.int .i64 h)]] (fun r hs bs=>(∃m:Nat,bl m≤1600∧azY m r hs [])∧∃i h:Int,(0≤i∧i≤l.length)∧bs=[.own 0 [.sl l.length (qm l),.v (.int .i64 i),.v (.int .i64 h)]]):=by
 refine Con.of_aw Tryz.func264 rfl Tryz.ntmps264 (by simp) (by simp) (by simp) (W.sound ?_)
 show @W Tryz.prog 38 ⟨_⟩ ⟨fun x σ=>@qZ _ _ _ ⟨_⟩ _ ⟨_⟩ x σ⟩ _ _
 simp(disch:=omega)only[go_sem]
 refine qn (Yf l hl i h hi) ?_
 rintro r i1 h1 hi1 ⟨k,hk,rfl⟩
 simp(disch:=omega)only[go_sem]
 refine qi (fun x:Nat×List Int×Int×Int=>[(0,.pt 10000000 0),(2,.pt 2 0),(3,.rf 1 0 x.2.1.length),(4,.v (.int .i64 k)),(5,.v (.int .i64 x.1))])
  (fun x=>[(1,.own 1 (qb x.2.1)),(2,.own 0 [.v (.slice none 0 0)]),(10000000,.own 0 [.sl l.length (qm l),.v (.int .i64 x.2.2.1),.v (.int .i64 x.2.2.2)])])
  (fun x=>x.1≤k.toNat∧x.2.1.length=x.1∧gd x.2.1∧(0≤x.2.2.1∧x.2.2.1≤l.length)) (fun x=>k.toNat-x.1) (0,[],i1,h1) ⟨by simp,rfl,by simp[gd],hi1⟩
  ((Le.ghost 3 1 1 (by simp(disch:=omega)only[go_sem]) (by simp(disch:=omega)only[go_sem])).trans (Le.lst [(2,40000000)] _ _ rfl (by simp(disch:=omega)only[go_sem]) (by simp(disch:=omega)only[go_sem]))) ?_
 rintro⟨j,xs,i2,h2⟩ ⟨hj,hxl,hg,hi2⟩
 dsimp only at hj hxl hg hi2 ⊢
 simp(disch:=omega)only[go_sem]
 refine qe (fun c1=>?_) (fun c1=>?_)
 ·simp(disch:=omega)only[go_sem,c1]
  refine qn (qO l hl i2 h2 hi2 4 (by omega)) ?_
  rintro r i3 h3 hi3 ⟨q,hq,rfl⟩
  simp(disch:=omega)only[go_sem]
  by_cases q0:q=0
  ·simp(disch:=omega)only[go_sem,q0]
   exact⟨by omega,qc (j+1,xs++[65535],i3,h3) [(1,260000000)] ⟨by dsimp only;omega,by simp[hxl],qE.2 ⟨hg,by simp[gd]⟩,hi3⟩ (by show k.toNat-(j+1)<k.toNat-j;omega) rfl (by simp(disch:=omega)only[go_sem,List.length_append];try omega) (by simp(disch:=omega)only[go_sem])⟩
  by_cases q1:q=1
  ·simp(disch:=omega)only[go_sem,q0,q1]
   exact⟨by omega,qc (j+1,xs++[0],i3,h3) [(1,310000000)] ⟨by dsimp only;omega,by simp[hxl],qE.2 ⟨hg,by simp[gd]⟩,hi3⟩ (by show k.toNat-(j+1)<k.toNat-j;omega) rfl (by simp(disch:=omega)only[go_sem,List.length_append];try omega) (by simp(disch:=omega)only[go_sem])⟩
  simp(disch:=omega)only[go_sem,q0,q1]
  refine qn (qO l hl i3 h3 hi3 65536 (by omega)) ?_
  rintro r i4 h4 hi4 ⟨d,hd,rfl⟩
  simp(disch:=omega)only[go_sem]
  have hd2:=hd.2 (by omega)
  exact⟨by omega,qc (j+1,xs++[d],i4,h4) [(1,210000000)] ⟨by dsimp only;omega,by simp[hxl],qE.2 ⟨hg,y8.2 ⟨by omega,by simp[gd]⟩⟩,hi4⟩ (by show k.toNat-(j+1)<k.toNat-j;omega) rfl (by simp(disch:=omega)only[go_sem,List.length_append];try omega) (by simp(disch:=omega)only[go_sem])⟩
 ·simp(disch:=omega)only[go_sem,c1]
  refine qn (qL l hl i2 h2 hi2 4 (by omega)) ?_
  rintro r i3 h3 hi3 ⟨b,rfl⟩
  simp(disch:=omega)only[go_sem]
  cases b
  ·simp(disch:=omega)only[go_sem]
   have hv:vl xs=((vl xs).toNat:Int):=(Int.toNat_of_nonneg (qP hg)).symm
   have hb:bl (vl xs).toNat≤1600:=by
    refine zk.2 ?_
    have h1:=y0 hg
    have h2:(65536:Int)^xs.length≤65536^100:=by
     rw[show(65536:Int)=((65536:Nat):Int) from rfl,←Int.natCast_pow,←Int.natCast_pow]
     exact Int.ofNat_le.2 (Nat.pow_le_pow_right (by omega) (by omega))
    have h3:(65536:Int)^100=((2^1600:Nat):Int):=by decide+kernel
    omega
   generalize (vl xs).toNat=m at*
   refine qB (z7 true xs m (by omega) hg hv) (by simp(disch:=omega)only[go_sem]) ?_
   rintro r hs (⟨h0,rfl,rfl⟩|⟨zs,rfl,rfl⟩)
   ·refine⟨⟨by simp,by simp(disch:=omega)only[go_sem]⟩,?_⟩
    simp(disch:=omega)only[go_sem]
    refine qh [] [] [.own 0 [.sl l.length (qm l),.v (.int .i64 i3),.v (.int .i64 h3)]] [.ag [.v (.slice none 0 0)]] rfl (by simp(disch:=omega)only[go_sem]) (by simp(disch:=omega)only[go_sem]) (by simp) (by simp) ⟨⟨m,hb,.inl ⟨h0,rfl,rfl⟩⟩,_,_,hi3,rfl⟩
   ·refine⟨⟨by simp,by simp(disch:=omega)only[go_sem]⟩,?_⟩
    simp(disch:=omega)only[go_sem]
    refine qh [(0,390000000)] [.own 1 (qb (lim m++zs))] [.own 0 [.sl l.length (qm l),.v (.int .i64 i3),.v (.int .i64 h3)]] [.ag [.rf 0 0 (lim m).length]] rfl (by simp(disch:=omega)only[go_sem]) (by simp(disch:=omega)only[go_sem]) (by simp) (by simp) ⟨⟨m,hb,.inr ⟨zs,rfl,rfl⟩⟩,_,_,hi3,rfl⟩
  ·simp(disch:=omega)only[go_sem]
   refine jf (zh l hl i3 h3 hi3 [0,1,2,9,10,65535,65536,1099511627776,4611686018427387903,4611686018427387904] (by simp) (by simp)) ?_
   rintro r i4 h4 hi4 ⟨x,hx,rfl⟩
   have hx_b:0≤x∧x≤4611686018427387904:=by
    simp only[List.mem_cons,List.not_mem_nil,or_false]at hx
    omega
   clear hx
   simp(disch:=omega)only[go_sem]
   obtain⟨n,rfl⟩:=Int.eq_ofNat_of_zero_le hx_b.1
   have hb:bl n≤1600:=Nat.le_trans (show bl n≤63 from zk.2 (by omega)) (by omega)
   refine qB (Ye true n (by omega)) (by simp(disch:=omega)only[go_sem]) ?_
   rintro r hs (⟨h0,rfl,rfl⟩|⟨zs,rfl,rfl⟩)
   ·refine⟨⟨by simp,by simp(disch:=omega)only[go_sem]⟩,?_⟩
    simp(disch:=omega)only[go_sem]
    refine qh [] [] [.own 0 [.sl l.length (qm l),.v (.int .i64 i4),.v (.int .i64 h4)]] [.ag [.v (.slice none 0 0)]] rfl (by simp(disch:=omega)only[go_sem]) (by simp(disch:=omega)only[go_sem]) (by simp) (by simp) ⟨⟨n,hb,.inl ⟨h0,rfl,rfl⟩⟩,_,_,hi4,rfl⟩
   ·refine⟨⟨by simp,by simp(disch:=omega)only[go_sem]⟩,?_⟩
    simp(disch:=omega)only[go_sem]
    refine qh [(0,370000000)] [.own 1 (qb (lim n++zs))] [.own 0 [.sl l.length (qm l),.v (.int .i64 i4),.v (.int .i64 h4)]] [.ag [.rf 0 0 (lim n).length]] rfl (by simp(disch:=omega)only[go_sem]) (by simp(disch:=omega)only[go_sem]) (by simp) (by simp) ⟨⟨n,hb,.inr ⟨zs,rfl,rfl⟩⟩,_,_,hi4,rfl⟩
end
end Go.Ab
namespace Go.Ab
open Go Go.Proofs
end Go.Ab
namespace Go.Ab
open Go Go.Proofs
end Go.Ab
namespace Go.Ab
open Go Go.Proofs
def bcm(k m:Int):Nat:=if k=1 then oM m.toNat else 0
def bcn(k m e:Int):Int:=if k=1 then oE m.toNat e else 0
def bcl(k:Int)(s:Bool)(m:Int):Bool:=if k=1 then oS (s&&decide (m.toNat≠0)) m.toNat else false
end Go.Ab
namespace Go.Ab
open Go Go.Proofs
def bbF:AV→List Ob→List Ob→Prop:=fun r hs bs=>hs=[]∧bs=[]∧∃x:FlV,r=.ag x.cs
section
variable (l:List UInt8)(hl:l.length≤9223372036854775807)(i h:Int)(hi:0≤i∧i≤l.length)
include hl hi
theorem qI:Con Tryz.prog 62 false [.pt 10000000 0] [.own 0 [.sl l.length (qm l),.v (.int .i64 i),.v (.int .i64 h)]] (Kn l fun r=>∃k:Int,r=.v (.int .i64 k)):=by
 refine Con.of_aw Tryz.func62 rfl Tryz.ntmps62 (by simp) (by simp) (by simp) (W.sound ?_)
 show @W Tryz.prog 10 ⟨_⟩ ⟨fun x σ=>@qZ _ _ _ ⟨_⟩ _ ⟨_⟩ x σ⟩ _ _
 simp(disch:=omega)only[go_sem]
 refine qn (qL l hl i h hi 15 (by omega)) ?_
 rintro r i1 h1 hi1 ⟨b,rfl⟩
 simp(disch:=omega)only[go_sem]
 cases b
 ·simp(disch:=omega)only[go_sem]
  refine qn (qO l hl i1 h1 hi1 5 (by omega)) ?_
  rintro r i2 h2 hi2 ⟨k1,hk1,rfl⟩
  simp(disch:=omega)only[go_sem]
  refine qN (i2) (h2) ⟨_,rfl⟩
 ·simp(disch:=omega)only[go_sem]
  refine jf (zh l hl i1 h1 hi1 [-1,5] (by simp) (by simp)) ?_
  rintro r i2 h2 hi2 ⟨k1,hk1,rfl⟩
  clear hk1
  simp(disch:=omega)only[go_sem]
  refine qN (i2) (h2) ⟨_,rfl⟩
end
end Go.Ab
namespace Go.Ab
open Go Go.Proofs
section
variable (l:List UInt8)(hl:l.length≤9223372036854775807)(i h:Int)(hi:0≤i∧i≤l.length)
include hl hi
end
end Go.Ab
namespace Go.Ab
open Go
end Go.Ab
namespace Go.Ab
open Go Go.Proofs
end Go.Ab
namespace Go.Ab
open Go Go.Proofs
end Go.Ab
namespace Go.Ab
open Go Go.Proofs
section
variable (l:List UInt8)(hl:l.length≤9223372036854775807)(i h:Int)(hi:0≤i∧i≤l.length)
include hl hi
end
theorem ao2(l:List UInt8)(hl:l.length≤9223372036854775807):Con Tryz.prog 56 false [.sl l.length (qm l)] [] (fun r hs bs=>r=.pt 0 0∧bs=[]∧∃h:Int,hs=[.own 0 [.sl l.length (qm l),.v (.int .i64 0),.v (.int .i64 h)]]):=by
 refine Con.of_aw Tryz.func56 rfl Tryz.ntmps56 (by simp) (by simp) (by simp) (W.sound ?_)
 show @W Tryz.prog 32 ⟨_⟩ ⟨fun x σ=>@qZ _ _ _ ⟨_⟩ _ ⟨_⟩ x σ⟩ _ _
 simp(disch:=omega)only[go_sem]
 refine qi (fun x:Nat×Int=>[(0,.sl l.length (qm l)),(3,.v (.int .i64 x.2)),(4,.v (.int .i64 x.1))]) (fun _=>[]) (fun x=>x.1≤l.length) (fun x=>l.length-x.1) (0,IntKind.i64.wrap (38282+l.length)) (by simp)
  (Le.lst [] _ _ rfl (by simp(disch:=omega)only[go_sem]) (by simp(disch:=omega)only[go_sem])) ?_
 rintro⟨i,h⟩ hi
 dsimp only at hi ⊢
 have hfin:∀l':List AV,l'=[.pt 0 0]→(fun r hs bs=>r=.pt 0 0∧bs=[]∧∃h:Int,hs=[.own 0 [.sl l.length (qm l),.v (.int .i64 0),.v (.int .i64 h)]]:AV→List Ob→List Ob→Prop) (zb l') [.own 0 [.sl l.length (qm l),.v (.int .i64 0),.v (.int .i64 h)]] []:=fun l' e=>by subst e;exact⟨rfl,rfl,h,rfl⟩
 by_cases h1:(i:Int)<l.length
 ·by_cases h2:(i:Int)<4000
  ·simp(disch:=omega)only[go_sem,h1,h2]
   generalize IntKind.i64.wrap (IntKind.i64.wrap (IntKind.i64.wrap (h*131)+IntKind.i64.wrap ((l.getD i 0).toNat:Int))+7) % 1073741824=h'
   exact⟨⟨by omega,by omega⟩,by omega,qc (i+1,h') [] (by show i+1≤_;omega) (by show l.length-(i+1)<l.length-i;omega) rfl (by simp(disch:=omega)only[go_sem];try omega) (by simp(disch:=omega)only[go_sem])⟩
  ·simp(disch:=omega)only[go_sem,h1,h2]
   refine qh [(0,330000000)] [.own 0 [.sl l.length (qm l),.v (.int .i64 0),.v (.int .i64 h)]] [] [.pt 0 0] rfl (by simp(disch:=omega)only[go_sem]) (by simp(disch:=omega)only[go_sem]) (by simp) (by simp) (hfin _ rfl)
 ·simp(disch:=omega)only[go_sem,h1]
  refine qh [(0,330000000)] [.own 0 [.sl l.length (qm l),.v (.int .i64 0),.v (.int .i64 h)]] [] [.pt 0 0] rfl (by simp(disch:=omega)only[go_sem]) (by simp(disch:=omega)only[go_sem]) (by simp) (by simp) (hfin _ rfl)
end Go.Ab
namespace Go.Ab
open Go Go.Proofs
end Go.Ab
namespace Go.Ab
open Go Go.Proofs
end Go.Ab
namespace Go.Ab
open Go Go.Proofs
end Go.Ab
namespace Go.Ab
open Go Go.Proofs
end Go.Ab
namespace Go.Ab
open Go Go.Proofs
theorem ZZ{s:Bool}{m:Nat}(h:(lim m).length≤100)(hs:m=0→s=false):zC s (lim m)=true:=by
 unfold zC
 rw[anJ m h,Bool.true_and]
 by_cases h0:m=0
 ·rw[hs h0];rfl
 ·have:=yN h0
  rw[decide_eq_false (show ¬(lim m).length=0 by omega),Bool.and_false];rfl
end Go.Ab
namespace Go.Ab
open Go
section
variable {P:Program}{f:FuncId}{args:List AV}{bs:List Ob}{post:AV→List Ob→List Ob→Prop}
theorem Con.frzB(h:Con P f false args bs post)(hm:∀r hs bs',post r hs bs'→(∀ob∈bs',ob.men fun _=>False)∧∀ob∈hs,ob.men fun _=>False):
  Con P f false args bs (fun r' hs' bs'=>hs'=[]∧∃r hs,post r hs bs'∧r'=qG (rhp hs []) 6 r):=by
 intro R ι w vs h1 h2 h3 h4 h5
 refine(h R ι w vs h1 h2 h3 h4 h5).mono ?_
 rintro e w' ⟨x,r,hs,bs',R',ι',he,hp,hF⟩
 obtain⟨mB,mH⟩:=hm _ _ _ hp
 have hfree:∀m,10000000≤m→rhp hs [] m=.free:=fun m hm=>by simp[rhp,hm]
 have hlow:∀m,m<10000000→rhp hs [] m=rhp hs bs' m:=fun m hm=>by unfold rhp;rw[if_neg (by omega),if_neg (by omega)]
 have hnil:∀m,m<10000000→rhp [] bs' m=.free:=fun m hm=>by unfold rhp;rw[if_neg (by omega)];simp
 have hhi:∀m,10000000≤m→rhp [] bs' m=rhp hs bs' m:=fun m hm=>by unfold rhp;rw[if_pos hm,if_pos hm]
 have hsm:∀{m z cs},rhp hs [] m=.own z cs→m<10000000∧rhp hs bs' m=.own z cs:=by
  intro m z cs e
  rcases Nat.lt_or_ge m 10000000 with hm|hm
  ·exact⟨hm,by rw[←hlow m hm];exact e⟩
  ·rw[hfree m hm]at e;cases e
 have hbg:∀{m z cs},rhp [] bs' m=.own z cs→10000000≤m∧rhp hs bs' m=.own z cs:=by
  intro m z cs e
  rcases Nat.lt_or_ge m 10000000 with hm|hm
  ·rw[hnil m hm]at e;cases e
  ·exact⟨hm,by rw[←hhi m hm];exact e⟩
 have hget:∀(l:List Ob) (k z:Nat) (cs:List AV),(∀ob∈l,ob.men fun _=>False)→l.getD k .free=.own z cs→AllL (fun _=>False) cs:=by
  intro l k z cs hl e
  rw[List.getD_eq_getElem?_getD]at e
  rcases Nat.lt_or_ge k l.length with hk|hk
  ·rw[List.getElem?_eq_getElem hk]at e
   have:=hl _ (List.getElem_mem hk)
   simp only[Option.getD_some]at e
   rw[e]at this;exact this
  ·rw[List.getElem?_eq_none hk]at e;cases e
 have hO:HpOk R' ι' w' (rhp hs []):=by
  refine⟨fun m=>?_,fun m z cs B e hB hr=>hF.nR m z cs B (hsm e).2 hB (.inr hr),fun m m' z z' cs cs' B B' e e'=>hF.inj m m' z z' cs cs' B B' (hsm e).2 (hsm e').2,fun m z cs e=>?_⟩
  ·rcases Nat.lt_or_ge m 10000000 with hm|hm
   ·rw[hlow m hm];exact hF.okF m hm
   ·rw[hfree m hm];trivial
  ·have h6:=(hsm e).1
   unfold rhp at e
   rw[if_neg (by omega)]at e
   exact(hget hs m z cs mH e).mono fun _ h=>h.elim
 have hown:∀{m z cs B},rhp hs [] m=.own z cs→ι' m=some B→w.heap.size≤B.b∧B.b<w'.heap.size:=by
  intro m z cs B e hB
  obtain⟨hm,e⟩:=hsm e
  refine⟨hF.fresh m z cs B hm e hB,?_⟩
  have:=hF.okF m hm
  rw[e,hB]at this
  obtain⟨c,T,lo,hi,g1,_⟩:=this
  rcases Nat.lt_or_ge B.b w'.heap.size with h'|h'
  ·exact h'
  ·simp[Array.getElem?_eq_none h']at g1
 refine⟨x,qG (rhp hs []) 6 r,[],bs',fun b=>R' b∨apY (rhp hs []) ι' b,ι',he,⟨rfl,r,hs,hp,rfl⟩,?_⟩
 refine⟨hF.ext,fun b hb=>?_,fun b hb=>?_,.fr _ _ (zx hO (fun _ h=>.inl h) (fun _ h=>.inr h) 6 hF.rep),zW 6 r,fun m hm=>?_,fun m hm=>?_,fun m z cs B e hB=>?_,
  fun m m' z z' cs cs' B B' e e'=>hF.inj m m' z z' cs cs' B B' (hbg e).2 (hbg e').2,fun m z cs e=>?_,fun m z cs B hm e=>?_,hF.len,hF.bown,hF.bnf⟩
 ·rcases hb with hb|⟨m,z,cs,B,e,hB,rfl⟩
  ·exact hF.rlt b hb
  ·exact(hown e hB).2
 ·rcases hb with hb|⟨m,z,cs,B,e,hB,rfl⟩
  ·exact hF.rnew b hb
  ·exact .inl (hown e hB).1
 ·rw[hnil m hm];trivial
 ·rw[hhi m hm]
  exact(hF.okB m hm).mono (fun _ _=>rfl) (fun _ _ _ _ _=>rfl) (fun b hb=>hb.elim .inl fun h=>.inr (.inl h)) (fun z cs e=>AllL.of_mem fun a _=>AV.all_true (fun _=>rfl) a)
 ·obtain⟨hm,e⟩:=hbg e
  have h6:=hF.nR m z cs B e hB
  rintro(hr|hr|⟨m',z',cs',B',e',hB',hb⟩)
  ·exact h6 (.inl hr)
  ·exact h6 (.inr hr)
  ·obtain⟨hm',e'⟩:=hsm e'
   have:=hF.inj m' m z' z cs' cs B' B e' e hB' hB hb
   omega
 ·have h6:=(hbg e).1
  unfold rhp at e
  rw[if_pos h6]at e
  exact(hget bs' _ z cs mB e).mono fun _ h=>h.elim
 ·rw[hnil m hm]at e;cases e
end
end Go.Ab
namespace Go.Ab
open Go Go.Proofs
def aW1(r:AV)(hs:List Ob)(xs:List Int):Prop:=(xs=[]∧r=.ag [.v (.slice none 0 0)]∧hs=[])∨∃zs,r=.ag [.rf 0 0 xs.length]∧hs=[.own 1 (qb (xs++zs))]
section
variable (l:List UInt8)(hl:l.length≤9223372036854775807)(i h:Int)(hi:0≤i∧i≤l.length)
include hl hi
theorem ac2:Con Tryz.prog 211 false [.pt 10000000 0] [.own 0 [.sl l.length (qm l),.v (.int .i64 i),.v (.int .i64 h)]] (fun r hs bs=>(∃xs:List Int,xs.length≤200∧aW1 r hs xs)∧∃i h:Int,(0≤i∧i≤l.length)∧bs=[.own 0 [.sl l.length (qm l),.v (.int .i64 i),.v (.int .i64 h)]]):=by
 refine Con.of_aw Tryz.func211 rfl Tryz.ntmps211 (by simp) (by simp) (by simp) (W.sound ?_)
 show @W Tryz.prog 43 ⟨_⟩ ⟨fun x σ=>@qZ _ _ _ ⟨_⟩ _ ⟨_⟩ x σ⟩ _ _
 simp(disch:=omega)only[go_sem]
 refine ZH false [10000000] (Jm l hl i h hi) (by simp(disch:=omega)only[go_sem]) (by simp(disch:=omega)only[go_sem]) rfl (qT (z:=0) (cs:=[.sl l.length (qm l),.v (.int .i64 i),.v (.int .i64 h)]) (by simp(disch:=omega)only[go_sem]) (by simp(disch:=omega)only[go_sem])) (by intro n hn;exact⟨_,List.mem_cons_self ..,by rw[List.mem_singleton.1 hn];rfl⟩) ?_
 rintro r hs bs ⟨⟨m,hb,(⟨h0,rfl,rfl⟩|⟨zs,rfl,rfl⟩)⟩,i1,h1,hi1,rfl⟩-
 ·refine⟨by simp[qQ],?_⟩
  simp(disch:=omega)only[go_sem]
  refine qn (qL l hl i1 h1 hi1 9 (by omega)) ?_
  rintro r i2 h2 hi2 ⟨b,rfl⟩
  simp(disch:=omega)only[go_sem]
  cases b
  ·simp(disch:=omega)only[go_sem]
   refine qh [] [] [.own 0 [.sl l.length (qm l),.v (.int .i64 i2),.v (.int .i64 h2)]] [.ag [.v (.slice none 0 0)]] rfl (by simp(disch:=omega)only[go_sem]) (by simp(disch:=omega)only[go_sem]) (by simp) (by simp) ⟨⟨[],by simp,.inl ⟨rfl,rfl,rfl⟩⟩,_,_,hi2,rfl⟩
  ·simp(disch:=omega)only[go_sem]
   refine qn (qO l hl i2 h2 hi2 4 (by omega)) ?_
   rintro r i3 h3 hi3 ⟨q,hq,rfl⟩
   simp(disch:=omega)only[go_sem]
   by_cases c0:q=0
   ·simp(disch:=omega)only[go_sem,c0]
    refine qh [(0,280000000)] [.own 1 (qb ([0]++[]))] [.own 0 [.sl l.length (qm l),.v (.int .i64 i3),.v (.int .i64 h3)]] [.ag [.rf 0 0 1]] rfl (by simp(disch:=omega)only[go_sem]) (by simp(disch:=omega)only[go_sem];rfl) (by simp) (by simp) ⟨⟨[0],by simp,.inr ⟨[],rfl,rfl⟩⟩,_,_,hi3,rfl⟩
   by_cases c1:q=1
   ·simp(disch:=omega)only[go_sem,c0,c1]
    refine qh [(0,350000000)] [.own 1 (qb ([-1]++[]))] [.own 0 [.sl l.length (qm l),.v (.int .i64 i3),.v (.int .i64 h3)]] [.ag [.rf 0 0 1]] rfl (by simp(disch:=omega)only[go_sem]) (by simp(disch:=omega)only[go_sem];rfl) (by simp) (by simp) ⟨⟨[-1],by simp,.inr ⟨[],rfl,rfl⟩⟩,_,_,hi3,rfl⟩
   by_cases c2:q=2
   ·simp(disch:=omega)only[go_sem,c0,c1,c2]
    refine qh [(0,420000000)] [.own 1 (qb ([65536]++[]))] [.own 0 [.sl l.length (qm l),.v (.int .i64 i3),.v (.int .i64 h3)]] [.ag [.rf 0 0 1]] rfl (by simp(disch:=omega)only[go_sem]) (by simp(disch:=omega)only[go_sem];rfl) (by simp) (by simp) ⟨⟨[65536],by simp,.inr ⟨[],rfl,rfl⟩⟩,_,_,hi3,rfl⟩
   simp(disch:=omega)only[go_sem,c0,c1,c2]
   refine qi (fun x:List Int×List Int=>[(2,.pt 4 0),(3,.pt 3 0)]) (fun x=>[(1,.own 1 (qb (x.1++x.2))),(3,.own 0 [.rf 1 0 x.1.length]),(4,.own 0 [.v (.slice none 0 0)]),(10000000,.own 0 [.sl l.length (qm l),.v (.int .i64 i3),.v (.int .i64 h3)])])
    (fun x=>x.1.length≤101) (fun x=>101-x.1.length) ([],[])
    (by simp) ((Le.ghostC 50000000 0 1 1 (zo:=0) (cs:=[.v (.slice none 0 0)]) (by simp(disch:=omega)only[go_sem]) rfl (by simp(disch:=omega)only[go_sem])).trans (Le.lst [(3,50000000),(4,40000000)] _ _ rfl (by simp(disch:=omega)only[go_sem]) (by simp(disch:=omega)only[go_sem,List.set_cons_zero]))) ?_
   rintro⟨xs,ys⟩ hx
   dsimp only at hx ⊢
   simp(disch:=omega)only[go_sem]
   refine qe (fun c3=>?_) (fun c3=>?_)
   ·simp(disch:=omega)only[go_sem,c3]
    exact⟨⟨by simp,by omega⟩,qc (xs++[1],[]) [(1,210000000)] (by simp;omega) (by simp;omega) rfl (by simp(disch:=omega)only[go_sem,List.length_append];try omega) (by simp(disch:=omega)only[go_sem,List.length_append,List.append_nil,List.take_left])⟩
   ·simp(disch:=omega)only[go_sem,c3]
    refine qh [(0,1)] [.own 1 (qb (xs++ys))] [.own 0 [.sl l.length (qm l),.v (.int .i64 i3),.v (.int .i64 h3)]] [.ag [.rf 0 0 xs.length]] rfl (by simp(disch:=omega)only[go_sem]) (by simp(disch:=omega)only[go_sem]) (by simp) (by simp) ⟨⟨xs,by omega,.inr ⟨ys,rfl,rfl⟩⟩,_,_,hi3,rfl⟩
 ·have hx:=qx (m:=m) (B:=1600) hb
  refine⟨by simp[qQ];simp(disch:=omega)only[go_sem],?_⟩
  simp(disch:=omega)only[go_sem]
  refine qn (qL l hl i1 h1 hi1 9 (by omega)) ?_
  rintro r i2 h2 hi2 ⟨b,rfl⟩
  simp(disch:=omega)only[go_sem]
  cases b
  ·simp(disch:=omega)only[go_sem]
   refine qh [(0,70000000)] [.own 1 (qb (lim m++zs))] [.own 0 [.sl l.length (qm l),.v (.int .i64 i2),.v (.int .i64 h2)]] [.ag [.rf 0 0 (lim m).length]] rfl (by simp(disch:=omega)only[go_sem]) (by simp(disch:=omega)only[go_sem]) (by simp) (by simp) ⟨⟨lim m,by have:=qx (m:=m) (B:=1600) hb;omega,.inr ⟨zs,rfl,rfl⟩⟩,_,_,hi2,rfl⟩
  ·simp(disch:=omega)only[go_sem]
   refine qn (qO l hl i2 h2 hi2 4 (by omega)) ?_
   rintro r i3 h3 hi3 ⟨q,hq,rfl⟩
   simp(disch:=omega)only[go_sem]
   by_cases c0:q=0
   ·simp(disch:=omega)only[go_sem,c0]
    exact⟨⟨by simp,by omega⟩,qh [(0,280000000)] [.own 1 (qb (lim m++[0]++[]))] [.own 0 [.sl l.length (qm l),.v (.int .i64 i3),.v (.int .i64 h3)]] [.ag [.rf 0 0 ((lim m).length+1)]] rfl (by simp(disch:=omega)only[go_sem]) (by simp(disch:=omega)only[go_sem,List.take_left',List.append_nil]) (by simp) (by simp) ⟨⟨lim m++[0],by simp;omega,.inr ⟨[],by rw[List.length_append];rfl,rfl⟩⟩,_,_,hi3,rfl⟩⟩
   by_cases c1:q=1
   ·simp(disch:=omega)only[go_sem,c0,c1]
    exact⟨⟨by simp,by omega⟩,qh [(0,350000000)] [.own 1 (qb (lim m++[-1]++[]))] [.own 0 [.sl l.length (qm l),.v (.int .i64 i3),.v (.int .i64 h3)]] [.ag [.rf 0 0 ((lim m).length+1)]] rfl (by simp(disch:=omega)only[go_sem]) (by simp(disch:=omega)only[go_sem,List.take_left',List.append_nil]) (by simp) (by simp) ⟨⟨lim m++[-1],by simp;omega,.inr ⟨[],by rw[List.length_append];rfl,rfl⟩⟩,_,_,hi3,rfl⟩⟩
   by_cases c2:q=2
   ·simp(disch:=omega)only[go_sem,c0,c1,c2]
    exact⟨⟨by simp,by omega⟩,qh [(0,420000000)] [.own 1 (qb (lim m++[65536]++[]))] [.own 0 [.sl l.length (qm l),.v (.int .i64 i3),.v (.int .i64 h3)]] [.ag [.rf 0 0 ((lim m).length+1)]] rfl (by simp(disch:=omega)only[go_sem]) (by simp(disch:=omega)only[go_sem,List.take_left',List.append_nil]) (by simp) (by simp) ⟨⟨lim m++[65536],by simp;omega,.inr ⟨[],by rw[List.length_append];rfl,rfl⟩⟩,_,_,hi3,rfl⟩⟩
   simp(disch:=omega)only[go_sem,c0,c1,c2]
   refine qi (fun x:List Int×List Int=>[(2,.pt 4 0),(3,.pt 3 0)]) (fun x=>[(1,.own 1 (qb (x.1++x.2))),(3,.own 0 [.rf 1 0 x.1.length]),(4,.own 0 [.v (.slice none 0 0)]),(10000000,.own 0 [.sl l.length (qm l),.v (.int .i64 i3),.v (.int .i64 h3)])])
    (fun x=>x.1.length≤101) (fun x=>101-x.1.length) (lim m,zs)
    (by show(lim m).length≤101;omega) (Le.lst [(3,50000000),(4,40000000),(1,70000000)] _ _ rfl (by simp(disch:=omega)only[go_sem]) (by simp(disch:=omega)only[go_sem])) ?_
   rintro⟨xs,ys⟩ hx
   dsimp only at hx ⊢
   simp(disch:=omega)only[go_sem]
   refine qe (fun c3=>?_) (fun c3=>?_)
   ·simp(disch:=omega)only[go_sem,c3]
    exact⟨⟨by simp,by omega⟩,qc (xs++[1],[]) [(1,210000000)] (by simp;omega) (by simp;omega) rfl (by simp(disch:=omega)only[go_sem,List.length_append];try omega) (by simp(disch:=omega)only[go_sem,List.length_append,List.append_nil,List.take_left])⟩
   ·simp(disch:=omega)only[go_sem,c3]
    refine qh [(0,1)] [.own 1 (qb (xs++ys))] [.own 0 [.sl l.length (qm l),.v (.int .i64 i3),.v (.int .i64 h3)]] [.ag [.rf 0 0 xs.length]] rfl (by simp(disch:=omega)only[go_sem]) (by simp(disch:=omega)only[go_sem]) (by simp) (by simp) ⟨⟨xs,by omega,.inr ⟨ys,rfl,rfl⟩⟩,_,_,hi3,rfl⟩
omit hi hl in
theorem Con.cur{f:Nat}{args:List AV}{Q:AV→List Ob→Prop}{Q':AV→Prop}(hc:Con Tryz.prog f false args [.own 0 [.sl l.length (qm l),.v (.int .i64 i),.v (.int .i64 h)]] (fun r hs bs=>Q r hs∧∃i h:Int,(0≤i∧i≤l.length)∧bs=[.own 0 [.sl l.length (qm l),.v (.int .i64 i),.v (.int .i64 h)]]))
  (hq:∀r hs,Q r hs→(∀ob∈hs,ob.men fun _=>False)∧Q' (qG (rhp hs []) 6 r)):Con Tryz.prog f false args [.own 0 [.sl l.length (qm l),.v (.int .i64 i),.v (.int .i64 h)]] (Kn l Q'):=
 (Con.frzB hc (by
  rintro r hs bs ⟨h1,i,h, -,rfl⟩
  exact⟨by simp[Ob.men,AllL,AV.All],(hq r hs h1).1⟩)).mono fun r hs bs=>by
   rintro⟨rfl,r0,hs0,⟨h1,h2⟩,rfl⟩
   exact⟨rfl,(hq _ _ h1).2,h2⟩
omit hi hl in
theorem Con.curF{f:Nat}{args:List AV}{Q Q':AV→Prop}(hc:Con Tryz.prog f false args [.own 0 [.sl l.length (qm l),.v (.int .i64 i),.v (.int .i64 h)]] (Kn l Q))(hq:∀r,Q r→Q' (qG (rhp [] []) 6 r)):
  Con Tryz.prog f false args [.own 0 [.sl l.length (qm l),.v (.int .i64 i),.v (.int .i64 h)]] (Kn l Q'):=
 Con.cur l i h (Q:=fun r hs=>hs=[]∧Q r) (hc.mono fun r hs bs ⟨h1,h2,h3⟩=>⟨⟨h1,h2⟩,h3⟩) fun r hs ⟨h1,h2⟩=>by subst h1;exact⟨by simp,hq r h2⟩
omit hi hl in
theorem QE{r:AV}{hs:List Ob}{xs:List Int}(h:aW1 r hs xs):(∀ob∈hs,ob.men fun _=>False)∧qG (rhp hs []) 6 r=.ag [.sl xs.length (qb xs)]:=by
 rcases h with⟨rfl,rfl,rfl⟩|⟨zs,rfl,rfl⟩
 ·exact⟨by simp,rfl⟩
 ·refine⟨by intro ob ho;rw[List.mem_singleton.1 ho];exact QI,?_⟩
  show AV.ag [qG _ 5 (.rf 0 0 xs.length)]=_
  rw[jB zd rfl]
theorem ac1:Con Tryz.prog 264 false [.pt 10000000 0] [.own 0 [.sl l.length (qm l),.v (.int .i64 i),.v (.int .i64 h)]] (Kn l fun r=>∃m:Nat,bl m≤1600∧r=.ag [.sl (lim (m)).length (qb (lim (m)))]):=
 Con.cur l i h (Jm l hl i h hi) fun r hs ⟨m,hb,hr⟩=>by
  have:aW1 r hs (lim m):=hr.elim (fun⟨h0,h1,h2⟩=>.inl ⟨by rw[h0,ql],h1,h2⟩) .inr
  exact⟨(QE this).1,m,hb,(QE this).2⟩
theorem ais:Con Tryz.prog 211 false [.pt 10000000 0] [.own 0 [.sl l.length (qm l),.v (.int .i64 i),.v (.int .i64 h)]] (Kn l fun r=>∃xs:List Int,xs.length≤200∧r=.ag [.sl xs.length (qb xs)]):=
 Con.cur l i h (ac2 l hl i h hi) fun r hs ⟨xs,hb,hr⟩=>⟨(QE hr).1,xs,hb,(QE hr).2⟩
theorem Ji:Con Tryz.prog 210 false [.pt 10000000 0] [.own 0 [.sl l.length (qm l),.v (.int .i64 i),.v (.int .i64 h)]] (Kn l fun r=>∃(s:Bool) (m:Nat),bl m≤1600∧r=.ag [.v (.bool (s&&decide (m≠0))),.sl (lim (m)).length (qb (lim (m)))]):=by
 refine Con.of_aw Tryz.func210 rfl Tryz.ntmps210 (by simp) (by simp) (by simp) (W.sound ?_)
 show @W Tryz.prog 8 ⟨_⟩ ⟨fun x σ=>@qZ _ _ _ ⟨_⟩ _ ⟨_⟩ x σ⟩ _ _
 simp(disch:=omega)only[go_sem]
 refine qn (qL l hl i h hi 2 (by omega)) ?_
 rintro r i1 h1 hi1 ⟨b,rfl⟩
 simp(disch:=omega)only[go_sem]
 refine qn (ac1 l hl i1 h1 hi1) ?_
 rintro r i2 h2 hi2 ⟨m,hm,rfl⟩
 simp(disch:=omega)only[go_sem]
 have hx:=qx (m:=m) (B:=1600) hm
 refine qa (ze b m (by omega)) ?_
 simp(disch:=omega)only[go_sem]
 refine qN (i2) (h2) ⟨b,m,hm,rfl⟩
theorem aiq:Con Tryz.prog 136 false [.pt 10000000 0] [.own 0 [.sl l.length (qm l),.v (.int .i64 i),.v (.int .i64 h)]] (Kn l fun r=>∃(s:Bool) (xs:List Int),xs.length≤200∧r=.ag [.v (.bool s),.sl xs.length (qb xs)]):=by
 refine Con.curF (Q:=fun r=>∃(s:Bool) (xs:List Int),xs.length≤200∧(r=.ag [.v (.bool s),.sl xs.length (qb xs)]∨(xs=[]∧r=.ag [.v (.bool s),.v (.slice none 0 0)]))) l i h ?_ (fun r ⟨s,xs,h1,h2⟩=>⟨s,xs,h1,h2.elim (fun h=>by rw[h];rfl) fun⟨h,h'⟩=>by rw[h,h'];rfl⟩)
 refine Con.of_aw Tryz.func136 rfl Tryz.ntmps136 (by simp) (by simp) (by simp) (W.sound ?_)
 show @W Tryz.prog 15 ⟨_⟩ ⟨fun x σ=>@qZ _ _ _ ⟨_⟩ _ ⟨_⟩ x σ⟩ _ _
 simp(disch:=omega)only[go_sem]
 refine qn (Ji l hl i h hi) ?_
 rintro r i1 h1 hi1 ⟨s,m,hm,rfl⟩
 simp(disch:=omega)only[go_sem]
 have hx:=qx (m:=m) (B:=1600) hm
 refine qn (qL l hl i1 h1 hi1 9 (by omega)) ?_
 rintro r i2 h2 hi2 ⟨b,rfl⟩
 simp(disch:=omega)only[go_sem]
 cases b
 ·simp(disch:=omega)only[go_sem]
  refine qN (i2) (h2) ⟨_,lim m,by omega,.inl rfl⟩
 ·simp(disch:=omega)only[go_sem]
  refine qn (qL l hl i2 h2 hi2 2 (by omega)) ?_
  rintro r i3 h3 hi3 ⟨b,rfl⟩
  simp(disch:=omega)only[go_sem]
  cases b
  ·simp(disch:=omega)only[go_sem]
   refine qn (ais l hl i3 h3 hi3) ?_
   rintro r i4 h4 hi4 ⟨xs,hxs,rfl⟩
   simp(disch:=omega)only[go_sem]
   refine qN (i4) (h4) ⟨_,xs,hxs,.inl rfl⟩
  ·simp(disch:=omega)only[go_sem]
   refine qN (i3) (h3) ⟨true,[],by simp,.inr ⟨rfl,rfl⟩⟩
omit hi hl in
theorem Zm:AV.ag [.v (.bool false),.sl 0 [],.v (.int .i64 0)]=.ag [.v (.bool (ex0).s),.sl (lim (ex0).m).length (qb (lim (ex0).m)),.v (.int .i64 (ex0).e)]:=by
 show _=AV.ag [.v (.bool false),.sl (lim 0).length (qb (lim 0)),.v (.int .i64 0)]
 rw[ql];rfl
omit hi hl in
theorem yX(x:ExV)(h:zC x.s (lim x.m)=true)(he: -12000≤x.e∧x.e≤12000):Con Tryz.prog 72 false [.ag [.v (.bool (x.s)),.sl (lim (x.m)).length (qb (lim (x.m)))],.v (.int .i64 x.e)] [] (isA (.tu [.ag [.v (.bool (x.tel).s),.sl (lim (x.tel).m).length (qb (lim (x.tel).m)),.v (.int .i64 (x.tel).e)],.v (.bool x.fit)])):=by
 have c:=KF x.s x.m x.e h he
 rw[show zK x.m x.e=x.fit from rfl]at c
 unfold ExV.tel
 cases hf:x.fit<;>rw[hf]at c<;>exact c
omit hi hl in
theorem aIv{m:Nat}(h:bl m≤1600):(lim m).length≤100:=jm.2 (Nat.lt_of_lt_of_eq (zk.1 h) (by decide+kernel))
theorem aio:Con Tryz.prog 135 false [.pt 10000000 0] [.own 0 [.sl l.length (qm l),.v (.int .i64 i),.v (.int .i64 h)]] (Kn l fun r=>∃x:ExV,x.ok=true∧r=.ag [.v (.bool (x).s),.sl (lim (x).m).length (qb (lim (x).m)),.v (.int .i64 (x).e)]):=by
 refine Con.curF (Q:=fun r=>∃x:ExV,x.ok=true∧qG (rhp [] []) 6 r=.ag [.v (.bool (x).s),.sl (lim (x).m).length (qb (lim (x).m)),.v (.int .i64 (x).e)]) l i h ?_ fun _ h=>h
 refine Con.of_aw Tryz.func135 rfl Tryz.ntmps135 (by simp) (by simp) (by simp) (W.sound ?_)
 show @W Tryz.prog 33 ⟨_⟩ ⟨fun x σ=>@qZ _ _ _ ⟨_⟩ _ ⟨_⟩ x σ⟩ _ _
 simp(disch:=omega)only[go_sem]
 refine qn (Ji l hl i h hi) ?_
 rintro r i1 h1 hi1 ⟨s,m,hm,rfl⟩
 simp(disch:=omega)only[go_sem]
 have hx:=qx (m:=m) (B:=1600) hm
 refine qn (qL l hl i1 h1 hi1 3 (by omega)) ?_
 rintro r i2 h2 hi2 ⟨b,rfl⟩
 simp(disch:=omega)only[go_sem]
 have ww:∀(s:Bool) (m:Nat),bl m≤1600→zC (s&&decide (m≠0)) (lim m)=true:=fun s m hm=>ZZ (aIv hm) (by intro h;simp[h])
 cases b
 ·simp(disch:=omega)only[go_sem]
  refine qn (qO l hl i2 h2 hi2 24 (by omega)) ?_
  rintro r i3 h3 hi3 ⟨k,hk,rfl⟩
  simp(disch:=omega)only[go_sem]
  have hk2:=hk.2 (by omega)
  refine qn (qL l hl i3 h3 hi3 6 (by omega)) ?_
  rintro r i4 h4 hi4 ⟨b,rfl⟩
  simp(disch:=omega)only[go_sem]
  cases b
  ·simp(disch:=omega)only[go_sem]
   refine qa (yX ⟨s&&decide (m≠0),m,k-12⟩ (ww s m hm) (by show-12000≤k-12∧k-12≤12000;omega)) ?_
   simp(disch:=omega)only[go_sem]
   have ok:=jO ⟨s&&decide (m≠0),m,k-12⟩
   generalize ExV.tel ⟨s&&decide (m≠0),m,k-12⟩=y at*
   cases hf:ExV.fit ⟨s&&decide (m≠0),m,k-12⟩
   ·simp(disch:=omega)only[go_sem,hf]
    refine qN (i4) (h4) ⟨ex0,Zl,by simp(disch:=omega)only[go_sem];exact Zm⟩
   ·simp(disch:=omega)only[go_sem,hf]
    refine qN (i4) (h4) ⟨y,ok,by simp(disch:=omega)only[go_sem]⟩
  ·simp(disch:=omega)only[go_sem]
   refine jf (zh l hl i4 h4 hi4 [0, -60,60, -1074,900, -2990,2990, -100] (by simp) (by simp)) ?_
   rintro r i5 h5 hi5 ⟨x,hx,rfl⟩
   have hx_b: -3000≤x∧x≤3000:=by
    simp only[List.mem_cons,List.not_mem_nil,or_false]at hx
    omega
   clear hx
   simp(disch:=omega)only[go_sem]
   refine qa (yX ⟨s&&decide (m≠0),m,x⟩ (ww s m hm) (by show-12000≤x∧x≤12000;omega)) ?_
   simp(disch:=omega)only[go_sem]
   have ok:=jO ⟨s&&decide (m≠0),m,x⟩
   generalize ExV.tel ⟨s&&decide (m≠0),m,x⟩=y at*
   cases hf:ExV.fit ⟨s&&decide (m≠0),m,x⟩
   ·simp(disch:=omega)only[go_sem,hf]
    refine qN (i5) (h5) ⟨ex0,Zl,by simp(disch:=omega)only[go_sem];exact Zm⟩
   ·simp(disch:=omega)only[go_sem,hf]
    refine qN (i5) (h5) ⟨y,ok,by simp(disch:=omega)only[go_sem]⟩
 ·simp(disch:=omega)only[go_sem]
  refine qn (qO l hl i2 h2 hi2 40 (by omega)) ?_
  rintro r i3 h3 hi3 ⟨q,hq,rfl⟩
  simp(disch:=omega)only[go_sem]
  have hq2:=hq.2 (by omega)
  refine qa (adR (q-20) (by omega)) ?_
  simp(disch:=omega)only[go_sem]
  have wq:zC (decide (q-20<0)) (lim (q-20).natAbs)=true:=ZZ (by have:=qx (m:=(q-20).natAbs) (B:=6) (zk.2 (by omega));omega) (by intro h;simp;omega)
  refine qn (qO l hl i3 h3 hi3 24 (by omega)) ?_
  rintro r i4 h4 hi4 ⟨k,hk,rfl⟩
  simp(disch:=omega)only[go_sem]
  have hk2:=hk.2 (by omega)
  refine qn (qL l hl i4 h4 hi4 6 (by omega)) ?_
  rintro r i5 h5 hi5 ⟨b,rfl⟩
  simp(disch:=omega)only[go_sem]
  cases b
  ·simp(disch:=omega)only[go_sem]
   refine qa (yX ⟨decide (q-20<0),(q-20).natAbs,k-12⟩ (wq) (by show-12000≤k-12∧k-12≤12000;omega)) ?_
   simp(disch:=omega)only[go_sem]
   have ok:=jO ⟨decide (q-20<0),(q-20).natAbs,k-12⟩
   generalize ExV.tel ⟨decide (q-20<0),(q-20).natAbs,k-12⟩=y at*
   cases hf:ExV.fit ⟨decide (q-20<0),(q-20).natAbs,k-12⟩
   ·simp(disch:=omega)only[go_sem,hf]
    refine qN (i5) (h5) ⟨ex0,Zl,by simp(disch:=omega)only[go_sem];exact Zm⟩
   ·simp(disch:=omega)only[go_sem,hf]
    refine qN (i5) (h5) ⟨y,ok,by simp(disch:=omega)only[go_sem]⟩
  ·simp(disch:=omega)only[go_sem]
   refine jf (zh l hl i5 h5 hi5 [0, -60,60, -1074,900, -2990,2990, -100] (by simp) (by simp)) ?_
   rintro r i6 h6 hi6 ⟨x,hx,rfl⟩
   have hx_b: -3000≤x∧x≤3000:=by
    simp only[List.mem_cons,List.not_mem_nil,or_false]at hx
    omega
   clear hx
   simp(disch:=omega)only[go_sem]
   refine qa (yX ⟨decide (q-20<0),(q-20).natAbs,x⟩ (wq) (by show-12000≤x∧x≤12000;omega)) ?_
   simp(disch:=omega)only[go_sem]
   have ok:=jO ⟨decide (q-20<0),(q-20).natAbs,x⟩
   generalize ExV.tel ⟨decide (q-20<0),(q-20).natAbs,x⟩=y at*
   cases hf:ExV.fit ⟨decide (q-20<0),(q-20).natAbs,x⟩
   ·simp(disch:=omega)only[go_sem,hf]
    refine qN (i6) (h6) ⟨ex0,Zl,by simp(disch:=omega)only[go_sem];exact Zm⟩
   ·simp(disch:=omega)only[go_sem,hf]
    refine qN (i6) (h6) ⟨y,ok,by simp(disch:=omega)only[go_sem]⟩
theorem aip:Con Tryz.prog 57 false [.pt 10000000 0] [.own 0 [.sl l.length (qm l),.v (.int .i64 i),.v (.int .i64 h)]] (Kn l fun r=>∃d:DyV,d.xs.length≤200∧r=.ag d.cs):=by
 refine Con.of_aw Tryz.func57 rfl Tryz.ntmps57 (by simp) (by simp) (by simp) (W.sound ?_)
 show @W Tryz.prog 28 ⟨_⟩ ⟨fun x σ=>@qZ _ _ _ ⟨_⟩ _ ⟨_⟩ x σ⟩ _ _
 simp(disch:=omega)only[go_sem]
 refine qn (aio l hl i h hi) ?_
 rintro r i1 h1 hi1 ⟨x,hx,rfl⟩
 simp(disch:=omega)only[go_sem]
 have lx:=(ji hx).2.2.1
 refine qn (qL l hl i1 h1 hi1 9 (by omega)) ?_
 rintro r i2 h2 hi2 ⟨b,rfl⟩
 simp(disch:=omega)only[go_sem]
 cases b
 ·simp(disch:=omega)only[go_sem]
  refine qN (i2) (h2) ⟨⟨x.s,lim x.m,x.e⟩,by show(lim x.m).length≤200;omega,rfl⟩
 ·simp(disch:=omega)only[go_sem]
  refine qn (qO l hl i2 h2 hi2 3 (by omega)) ?_
  rintro r i3 h3 hi3 ⟨q,hq,rfl⟩
  simp(disch:=omega)only[go_sem]
  by_cases c0:q=0
  ·simp(disch:=omega)only[go_sem,c0]
   refine jf (zh l hl i3 h3 hi3 [-3001,3001,3000,4611686018427387904] (by simp) (by simp)) ?_
   rintro r i4 h4 hi4 ⟨y,hy,rfl⟩
   clear hy
   simp(disch:=omega)only[go_sem]
   refine qN (i4) (h4) ⟨⟨x.s,lim x.m,y⟩,by show(lim x.m).length≤200;omega,rfl⟩
  by_cases c1:q=1
  ·simp(disch:=omega)only[go_sem,c0,c1]
   refine qn (aiq l hl i3 h3 hi3) ?_
   rintro r i4 h4 hi4 ⟨s,xs,hxs,rfl⟩
   simp(disch:=omega)only[go_sem]
   refine qN (i4) (h4) ⟨⟨s,xs,x.e⟩,hxs,rfl⟩
  simp(disch:=omega)only[go_sem,c0,c1]
  refine qN (i3) (h3) ⟨⟨!x.s,lim x.m,x.e⟩,by show(lim x.m).length≤200;omega,rfl⟩
theorem zj:Con Tryz.prog 61 false [.pt 10000000 0] [.own 0 [.sl l.length (qm l),.v (.int .i64 i),.v (.int .i64 h)]] (Kn l fun r=>∃k:Int,r=.v (.int .i64 k)):=by
 refine Con.of_aw Tryz.func61 rfl Tryz.ntmps61 (by simp) (by simp) (by simp) (W.sound ?_)
 show @W Tryz.prog 9 ⟨_⟩ ⟨fun x σ=>@qZ _ _ _ ⟨_⟩ _ ⟨_⟩ x σ⟩ _ _
 simp(disch:=omega)only[go_sem]
 refine qn (qO l hl i h hi 30 (by omega)) ?_
 rintro r i1 h1 hi1 ⟨k,hk,rfl⟩
 simp(disch:=omega)only[go_sem]
 have hk2:=hk.2 (by omega)
 refine jf (zh l hl i1 h1 hi1 [0,1, -1,3, -8, -20,10, -53,3000,3001, -3001,k-15] (by simp) (by simp)) ?_
 rintro r i2 h2 hi2 ⟨y,hy,rfl⟩
 clear hy
 simp(disch:=omega)only[go_sem]
 refine qN (i2) (h2) ⟨y,rfl⟩
end
theorem aiB(x y:ExV)(hx:x.ok=true)(hy:y.ok=true):Con Tryz.prog 60 false [.ag [.v (.bool (x).s),.sl (lim (x).m).length (qb (lim (x).m)),.v (.int .i64 (x).e)],.ag [.v (.bool (y).s),.sl (lim (y).m).length (qb (lim (y).m)),.v (.int .i64 (y).e)]] [] (isA (.tu [.ag [.v (.bool ((x.times y).tel).s),.sl (lim ((x.times y).tel).m).length (qb (lim ((x.times y).tel).m)),.v (.int .i64 ((x.times y).tel).e)],.v (.bool (x.times y).fit)])):=by
 have c:=Jr x.s x.m x.e y.s y.m y.e hx hy
 rw[show zK (x.m*y.m) (x.e+y.e)=(x.times y).fit from rfl]at c
 unfold ExV.tel
 cases hf:(x.times y).fit<;>rw[hf]at c<;>exact c
theorem ZU(l:List UInt8)(hl:l.length≤9223372036854775807):Con Tryz.prog 11 false [.sl l.length (qm l)] [] (fun r hs bs=>hs=[]∧bs=[]∧∃(d:DyV) (low m:Int),d.xs.length≤200∧r=.tu [.ag d.cs,.v (.int .i64 low),.v (.int .i64 m)]):=by
 refine Con.of_aw Tryz.func11 rfl Tryz.ntmps11 (by simp) (by simp) (by simp) (W.sound ?_)
 show @W Tryz.prog 42 ⟨_⟩ ⟨fun x σ=>@qZ _ _ _ ⟨_⟩ _ ⟨_⟩ x σ⟩ _ _
 simp(disch:=omega)only[go_sem]
 refine zf (ao2 l hl) (by simp(disch:=omega)only[go_sem]) ?_
 rintro r hs ⟨rfl, -,⟨h,rfl⟩⟩
 refine⟨by simp(disch:=omega)only[go_sem],?_⟩
 simp(disch:=omega)only[go_sem]
 refine qn (aip l hl 0 h (by omega)) ?_
 rintro r i1 h1 hi1 ⟨⟨S,xs,E⟩,hxs,rfl⟩
 simp(disch:=omega)only[go_sem]
 unfold DyV.cs
 simp(disch:=omega)only[go_sem]
 refine qn (qL l hl i1 h1 hi1 3 (by omega)) ?_
 rintro r i2 h2 hi2 ⟨b,rfl⟩
 simp(disch:=omega)only[go_sem]
 dsimp only at hxs
 cases b
 ·simp(disch:=omega)only[go_sem]
  cases S
  ·simp(disch:=omega)only[go_sem]
   refine qt rfl [⟨0,[],[]⟩,⟨1,[0],[]⟩,⟨3,[0],[]⟩,⟨2,[0],[]⟩,⟨4,[0],[]⟩,⟨5,[],[]⟩,⟨6,[],[]⟩,⟨7,[],[]⟩] (by kernel_rfl) ?_
   simp(disch:=omega)only[go_sem]
   refine qn (zj l hl i2 h2 hi2) ?_
   rintro r i3 h3 hi3 ⟨lo,rfl⟩
   simp(disch:=omega)only[go_sem]
   refine qn (qI l hl i3 h3 hi3) ?_
   rintro r i4 h4 hi4 ⟨md,rfl⟩
   simp(disch:=omega)only[go_sem]
   exact qC (by simp(disch:=omega)only[go_sem]) ⟨rfl,rfl,⟨false,xs,E⟩,lo,md,hxs,rfl⟩
  ·simp(disch:=omega)only[go_sem]
   refine qn (qL l hl i2 h2 hi2 6 (by omega)) ?_
   rintro r i3 h3 hi3 ⟨q,rfl⟩
   simp(disch:=omega)only[go_sem]
   cases q
   ·simp(disch:=omega)only[go_sem]
    refine qt rfl [⟨0,[],[]⟩,⟨1,[0],[]⟩,⟨3,[0],[]⟩,⟨2,[0],[]⟩,⟨4,[0],[]⟩,⟨5,[],[]⟩,⟨6,[],[]⟩,⟨7,[],[]⟩] (by kernel_rfl) ?_
    simp(disch:=omega)only[go_sem]
    refine qn (zj l hl i3 h3 hi3) ?_
    rintro r i4 h4 hi4 ⟨lo,rfl⟩
    simp(disch:=omega)only[go_sem]
    refine qn (qI l hl i4 h4 hi4) ?_
    rintro r i5 h5 hi5 ⟨md,rfl⟩
    simp(disch:=omega)only[go_sem]
    exact qC (by simp(disch:=omega)only[go_sem]) ⟨rfl,rfl,⟨false,xs,E⟩,lo,md,hxs,rfl⟩
   ·simp(disch:=omega)only[go_sem]
    refine qt rfl [⟨0,[],[]⟩,⟨1,[0],[]⟩,⟨3,[0],[]⟩,⟨2,[0],[]⟩,⟨4,[0],[]⟩,⟨5,[],[]⟩,⟨6,[],[]⟩,⟨7,[],[]⟩] (by kernel_rfl) ?_
    simp(disch:=omega)only[go_sem]
    refine qn (zj l hl i3 h3 hi3) ?_
    rintro r i4 h4 hi4 ⟨lo,rfl⟩
    simp(disch:=omega)only[go_sem]
    refine qn (qI l hl i4 h4 hi4) ?_
    rintro r i5 h5 hi5 ⟨md,rfl⟩
    simp(disch:=omega)only[go_sem]
    exact qC (by simp(disch:=omega)only[go_sem]) ⟨rfl,rfl,⟨true,xs,E⟩,lo,md,hxs,rfl⟩
 ·simp(disch:=omega)only[go_sem]
  refine qk (zI S xs E (by omega)) ?_
  simp(disch:=omega)only[go_sem]
  cases hd:dyB S xs E
  ·simp(disch:=omega)only[go_sem,hd]
   cases S
   ·simp(disch:=omega)only[go_sem]
    refine qt rfl [⟨0,[],[]⟩,⟨1,[0],[]⟩,⟨3,[0],[]⟩,⟨2,[0],[]⟩,⟨4,[0],[]⟩,⟨5,[],[]⟩,⟨6,[],[]⟩,⟨7,[],[]⟩] (by kernel_rfl) ?_
    simp(disch:=omega)only[go_sem]
    refine qn (zj l hl i2 h2 hi2) ?_
    rintro r i3 h3 hi3 ⟨lo,rfl⟩
    simp(disch:=omega)only[go_sem]
    refine qn (qI l hl i3 h3 hi3) ?_
    rintro r i4 h4 hi4 ⟨md,rfl⟩
    simp(disch:=omega)only[go_sem]
    exact qC (by simp(disch:=omega)only[go_sem]) ⟨rfl,rfl,⟨false,xs,E⟩,lo,md,hxs,rfl⟩
   ·simp(disch:=omega)only[go_sem]
    refine qn (qL l hl i2 h2 hi2 6 (by omega)) ?_
    rintro r i3 h3 hi3 ⟨q,rfl⟩
    simp(disch:=omega)only[go_sem]
    cases q
    ·simp(disch:=omega)only[go_sem]
     refine qt rfl [⟨0,[],[]⟩,⟨1,[0],[]⟩,⟨3,[0],[]⟩,⟨2,[0],[]⟩,⟨4,[0],[]⟩,⟨5,[],[]⟩,⟨6,[],[]⟩,⟨7,[],[]⟩] (by kernel_rfl) ?_
     simp(disch:=omega)only[go_sem]
     refine qn (zj l hl i3 h3 hi3) ?_
     rintro r i4 h4 hi4 ⟨lo,rfl⟩
     simp(disch:=omega)only[go_sem]
     refine qn (qI l hl i4 h4 hi4) ?_
     rintro r i5 h5 hi5 ⟨md,rfl⟩
     simp(disch:=omega)only[go_sem]
     exact qC (by simp(disch:=omega)only[go_sem]) ⟨rfl,rfl,⟨false,xs,E⟩,lo,md,hxs,rfl⟩
    ·simp(disch:=omega)only[go_sem]
     refine qt rfl [⟨0,[],[]⟩,⟨1,[0],[]⟩,⟨3,[0],[]⟩,⟨2,[0],[]⟩,⟨4,[0],[]⟩,⟨5,[],[]⟩,⟨6,[],[]⟩,⟨7,[],[]⟩] (by kernel_rfl) ?_
     simp(disch:=omega)only[go_sem]
     refine qn (zj l hl i3 h3 hi3) ?_
     rintro r i4 h4 hi4 ⟨lo,rfl⟩
     simp(disch:=omega)only[go_sem]
     refine qn (qI l hl i4 h4 hi4) ?_
     rintro r i5 h5 hi5 ⟨md,rfl⟩
     simp(disch:=omega)only[go_sem]
     exact qC (by simp(disch:=omega)only[go_sem]) ⟨rfl,rfl,⟨true,xs,E⟩,lo,md,hxs,rfl⟩
  ·obtain⟨m,rfl, -⟩:=jp hd
   simp(disch:=omega)only[go_sem,hd]
   have hx:ExV.ok ⟨S,m,E⟩=true:=hd
   refine qa (aiB ⟨S,m,E⟩ ⟨S,m,E⟩ hx hx) ?_
   simp(disch:=omega)only[go_sem]
   have ok:=jO (ExV.times ⟨S,m,E⟩ ⟨S,m,E⟩)
   generalize ExV.tel (ExV.times ⟨S,m,E⟩ ⟨S,m,E⟩)=y at*
   have ly:=(ji ok).2.2.1
   cases ExV.fit (ExV.times ⟨S,m,E⟩ ⟨S,m,E⟩)
   ·simp(disch:=omega)only[go_sem]
    cases S
    ·simp(disch:=omega)only[go_sem]
     refine qt rfl [⟨0,[],[]⟩,⟨1,[0],[]⟩,⟨3,[0],[]⟩,⟨2,[0],[]⟩,⟨4,[0],[]⟩,⟨5,[],[]⟩,⟨6,[],[]⟩,⟨7,[],[]⟩] (by kernel_rfl) ?_
     simp(disch:=omega)only[go_sem]
     refine qn (zj l hl i2 h2 hi2) ?_
     rintro r i3 h3 hi3 ⟨lo,rfl⟩
     simp(disch:=omega)only[go_sem]
     refine qn (qI l hl i3 h3 hi3) ?_
     rintro r i4 h4 hi4 ⟨md,rfl⟩
     simp(disch:=omega)only[go_sem]
     exact qC (by simp(disch:=omega)only[go_sem]) ⟨rfl,rfl,⟨false,lim m,E⟩,lo,md,hxs,rfl⟩
    ·simp(disch:=omega)only[go_sem]
     refine qn (qL l hl i2 h2 hi2 6 (by omega)) ?_
     rintro r i3 h3 hi3 ⟨q,rfl⟩
     simp(disch:=omega)only[go_sem]
     cases q
     ·simp(disch:=omega)only[go_sem]
      refine qt rfl [⟨0,[],[]⟩,⟨1,[0],[]⟩,⟨3,[0],[]⟩,⟨2,[0],[]⟩,⟨4,[0],[]⟩,⟨5,[],[]⟩,⟨6,[],[]⟩,⟨7,[],[]⟩] (by kernel_rfl) ?_
      simp(disch:=omega)only[go_sem]
      refine qn (zj l hl i3 h3 hi3) ?_
      rintro r i4 h4 hi4 ⟨lo,rfl⟩
      simp(disch:=omega)only[go_sem]
      refine qn (qI l hl i4 h4 hi4) ?_
      rintro r i5 h5 hi5 ⟨md,rfl⟩
      simp(disch:=omega)only[go_sem]
      exact qC (by simp(disch:=omega)only[go_sem]) ⟨rfl,rfl,⟨false,lim m,E⟩,lo,md,hxs,rfl⟩
     ·simp(disch:=omega)only[go_sem]
      refine qt rfl [⟨0,[],[]⟩,⟨1,[0],[]⟩,⟨3,[0],[]⟩,⟨2,[0],[]⟩,⟨4,[0],[]⟩,⟨5,[],[]⟩,⟨6,[],[]⟩,⟨7,[],[]⟩] (by kernel_rfl) ?_
      simp(disch:=omega)only[go_sem]
      refine qn (zj l hl i3 h3 hi3) ?_
      rintro r i4 h4 hi4 ⟨lo,rfl⟩
      simp(disch:=omega)only[go_sem]
      refine qn (qI l hl i4 h4 hi4) ?_
      rintro r i5 h5 hi5 ⟨md,rfl⟩
      simp(disch:=omega)only[go_sem]
      exact qC (by simp(disch:=omega)only[go_sem]) ⟨rfl,rfl,⟨true,lim m,E⟩,lo,md,hxs,rfl⟩
   ·obtain⟨S',m',E'⟩:=y
    dsimp only at ly
    simp(disch:=omega)only[go_sem]
    cases S'
    ·simp(disch:=omega)only[go_sem]
     refine qt rfl [⟨0,[],[]⟩,⟨1,[0],[]⟩,⟨3,[0],[]⟩,⟨2,[0],[]⟩,⟨4,[0],[]⟩,⟨5,[],[]⟩,⟨6,[],[]⟩,⟨7,[],[]⟩] (by kernel_rfl) ?_
     simp(disch:=omega)only[go_sem]
     refine qn (zj l hl i2 h2 hi2) ?_
     rintro r i3 h3 hi3 ⟨lo,rfl⟩
     simp(disch:=omega)only[go_sem]
     refine qn (qI l hl i3 h3 hi3) ?_
     rintro r i4 h4 hi4 ⟨md,rfl⟩
     simp(disch:=omega)only[go_sem]
     exact qC (by simp(disch:=omega)only[go_sem]) ⟨rfl,rfl,⟨false,lim m',E'⟩,lo,md,by show(lim m').length≤200;omega,rfl⟩
    ·simp(disch:=omega)only[go_sem]
     refine qn (qL l hl i2 h2 hi2 6 (by omega)) ?_
     rintro r i3 h3 hi3 ⟨q,rfl⟩
     simp(disch:=omega)only[go_sem]
     cases q
     ·simp(disch:=omega)only[go_sem]
      refine qt rfl [⟨0,[],[]⟩,⟨1,[0],[]⟩,⟨3,[0],[]⟩,⟨2,[0],[]⟩,⟨4,[0],[]⟩,⟨5,[],[]⟩,⟨6,[],[]⟩,⟨7,[],[]⟩] (by kernel_rfl) ?_
      simp(disch:=omega)only[go_sem]
      refine qn (zj l hl i3 h3 hi3) ?_
      rintro r i4 h4 hi4 ⟨lo,rfl⟩
      simp(disch:=omega)only[go_sem]
      refine qn (qI l hl i4 h4 hi4) ?_
      rintro r i5 h5 hi5 ⟨md,rfl⟩
      simp(disch:=omega)only[go_sem]
      exact qC (by simp(disch:=omega)only[go_sem]) ⟨rfl,rfl,⟨false,lim m',E'⟩,lo,md,by show(lim m').length≤200;omega,rfl⟩
     ·simp(disch:=omega)only[go_sem]
      refine qt rfl [⟨0,[],[]⟩,⟨1,[0],[]⟩,⟨3,[0],[]⟩,⟨2,[0],[]⟩,⟨4,[0],[]⟩,⟨5,[],[]⟩,⟨6,[],[]⟩,⟨7,[],[]⟩] (by kernel_rfl) ?_
      simp(disch:=omega)only[go_sem]
      refine qn (zj l hl i3 h3 hi3) ?_
      rintro r i4 h4 hi4 ⟨lo,rfl⟩
      simp(disch:=omega)only[go_sem]
      refine qn (qI l hl i4 h4 hi4) ?_
      rintro r i5 h5 hi5 ⟨md,rfl⟩
      simp(disch:=omega)only[go_sem]
      exact qC (by simp(disch:=omega)only[go_sem]) ⟨rfl,rfl,⟨true,lim m',E'⟩,lo,md,by show(lim m').length≤200;omega,rfl⟩
end Go.Ab
namespace Go.Ab
open Go Go.Proofs
def rtE(x:ExV)(low md:Int):ExV:=⟨false,rq false (sqA x.m x.e low) 4 md,low⟩
def aKQ(n:Int):Bool:=decide (-3000≤n)&&decide (n≤3000)
theorem aW0{A S:Nat}{md:Int}:rq false (stR A S) 4 md≤A+1:=by
 have h:=aHg false (stR A S) 4 md
 obtain⟨f1, -⟩:=QU A S
 rw[f1]at h
 have h2:rt (A/S)≤A/S:=by
  have:=(JD (A/S)).1
  by_cases h0:rt (A/S)=0
  ·omega
  ·exact Nat.le_trans (Nat.le_mul_of_pos_left _ (by omega)) this
 have h3:A/S≤A:=Nat.div_le_self _ _
 omega
theorem yy(x:ExV)(low md:Int)(hx:x.ok=true)(hs:x.s=false)(hl:aKQ low=true)(hm:anM md=true):
  Con Tryz.prog 12 false [.ag [.v (.bool (x).s),.sl (lim (x).m).length (qb (lim (x).m)),.v (.int .i64 (x).e)],.v (.int .i64 low),.v (.int .i64 md)] [] (isA (.tu [.ag [.v (.bool ((rtE x low md).tel).s),.sl (lim ((rtE x low md).tel).m).length (qb (lim ((rtE x low md).tel).m)),.v (.int .i64 ((rtE x low md).tel).e)],.v (.bool (rtE x low md).fit)])):=by
 refine Con.frzA ?_
 obtain⟨S,n,E⟩:=x
 dsimp only at hs
 subst hs
 obtain⟨r1,r2,r3,r4,r5⟩:=ji hx
 dsimp only at*
 have k1:=Yh false (lim n) E (by omega)
 rw[show dyB false (lim n) E=true from hx]at k1
 have kl:=Kw low
 have km:=Jp md
 unfold aKQ at hl
 unfold anM at hm
 rw[hl]at kl
 rw[hm]at km
 simp only[Bool.and_eq_true,decide_eq_true_eq]at hl
 have cr:=aoF false n E low md (by omega) (by omega) (by omega)
 obtain⟨B,hB⟩:∃B:Nat,B=13600:=⟨_,rfl⟩
 have hA:bl (ovA n (E-2*low))≤B:=Nat.le_trans (adW r2 (C:=12000) (by omega)) (by omega)
 have hq:bl (rq false (sqA n E low) 4 md)≤B+1:=zk.2 (Nat.lt_of_le_of_lt aW0 (by
  have:=zk.1 hA
  rw[Nat.pow_succ]
  have h1:0<2^B:=Nat.pow_pos (by omega)
  generalize 2^B=Z at*
  omega))
 have cd:=Zz (rtE ⟨false,n,E⟩ low md) ⟨fun _=>rfl,by show _≤low;omega,by show(bl (rq false (sqA n E low) 4 md):Int)+low≤_;omega⟩
 have ht:=@yp (rtE ⟨false,n,E⟩ low md)
 cases hf:(rtE ⟨false,n,E⟩ low md).fit
 ·have e0:(rtE ⟨false,n,E⟩ low md).tel=ex0:=by unfold ExV.tel;rw[hf];rfl
  rw[hf,if_neg (by simp)]at cd
  rw[e0]
  simp only[ex0]
  unfold rtE at cd
  dsimp only at cd
  refine Con.of_w (rs:=[.cell 6 29,.tmp 7]) Tryz.func12 rfl Tryz.ntmps12 rfl ?_
  simp(disch:=omega)only[go_sem]
  refine qk (k1) ?_
  simp(disch:=omega)only[go_sem]
  refine qk (kl) ?_
  simp(disch:=omega)only[go_sem]
  refine qk (km) ?_
  simp(disch:=omega)only[go_sem]
  refine qa (yx false n E) ?_
  simp(disch:=omega)only[go_sem]
  refine qa (cr) ?_
  simp(disch:=omega)only[go_sem]
  refine qa (cd) ?_
  simp(disch:=omega)only[go_sem]
  exact qj
 ·rw[hf,if_pos rfl]at cd
  rw[ht hf]
  generalize (rtE ⟨false,n,E⟩ low md).can=y at*
  unfold rtE at cd
  dsimp only at cd
  refine Con.of_w (rs:=[.cell 6 29,.tmp 7]) Tryz.func12 rfl Tryz.ntmps12 rfl ?_
  simp(disch:=omega)only[go_sem]
  refine qk (k1) ?_
  simp(disch:=omega)only[go_sem]
  refine qk (kl) ?_
  simp(disch:=omega)only[go_sem]
  refine qk (km) ?_
  simp(disch:=omega)only[go_sem]
  refine qa (yx false n E) ?_
  simp(disch:=omega)only[go_sem]
  refine qa (cr) ?_
  simp(disch:=omega)only[go_sem]
  refine qa (cd) ?_
  simp(disch:=omega)only[go_sem]
  exact qj
theorem Yk(S:Bool)(xs:List Int)(E low md:Int)(hxs:xs.length≤200)(h:(dyB S xs E&&(!S&&(aKQ low&&anM md)))=false):
  Con Tryz.prog 12 false [.ag [.v (.bool S),.sl xs.length (qb xs),.v (.int .i64 E)],.v (.int .i64 low),.v (.int .i64 md)] [] (isA (.tu [.ag [.v (.bool (false)),.sl (lim (0)).length (qb (lim (0))),.v (.int .i64 (0))],.v (.bool false)])):=by
 refine Con.frzA ?_
 have k1:=Yh S xs E (by omega)
 have kl:=Kw low
 have km:=Jp md
 unfold aKQ anM at h
 rw[ql]
 refine Con.of_w (rs:=[.cell 6 29,.tmp 7]) Tryz.func12 rfl Tryz.ntmps12 rfl ?_
 simp(disch:=omega)only[go_sem]
 refine qk (k1) ?_
 simp(disch:=omega)only[go_sem]
 cases h1:dyB S xs E
 ·simp(disch:=omega)only[go_sem,h1]
  exact qj
 rw[h1,Bool.true_and]at h
 cases S
 ·simp(disch:=omega)only[go_sem,h1]
  refine qk (kl) ?_
  simp(disch:=omega)only[go_sem]
  cases h2:(decide (-3000≤low)&&decide (low≤3000))
  ·simp(disch:=omega)only[go_sem,h2]
   exact qj
  rw[h2]at h
  simp(disch:=omega)only[go_sem,h2]
  refine qk (km) ?_
  simp(disch:=omega)only[go_sem]
  have h3:(decide (0≤md)&&decide (md≤4))=false:=h
  simp(disch:=omega)only[go_sem,h3]
  exact qj
 ·simp(disch:=omega)only[go_sem,h1]
  exact qj
theorem JE(a b:Nat):rq false a b 3=a/b:=by
 unfold rq rup
 by_cases h:a % b=0<;>simp[h]
theorem aL0(a b:Nat):rq false a b 2=if a % b=0 then rq false a b 3 else rq false a b 3+1:=by
 rw[JE]
 unfold rq rup
 by_cases h:a % b=0<;>simp[h]
theorem aL1(a b:Nat)(mode:Int):rq false a b mode=rq false a b 3∨(a % b≠0∧rq false a b mode=rq false a b 3+1):=by
 rw[JE]
 unfold rq
 by_cases h:a % b=0
 ·simp[h]
 ·rw[if_neg h]
  split
  ·exact .inr ⟨h,rfl⟩
  ·exact .inl rfl
theorem aLK(K:Nat){m:Nat}{e low:Int}(h1: -(2*K:Nat)≤e)(hl: -(K:Int)≤low):∃C:Int,0<C∧(∀q:Nat,dv K false q low*dv K false q low=((q*q*2^(-(e-2*low)).toNat:Nat):Int)*C)∧dv (K+K) false m e=(ovA m (e-2*low):Int)*C:=by
 obtain⟨kp,hkp⟩:∃k:Nat,k=(e-2*low).toNat:=⟨_,rfl⟩
 obtain⟨km,hkm⟩:∃k:Nat,k=(-(e-2*low)).toNat:=⟨_,rfl⟩
 obtain⟨c,hc⟩:∃c:Nat,(c:Int)=(if e-2*low≤0 then e+2*K else 2*low+2*K):=⟨(if e-2*low≤0 then e+2*K else 2*low+2*K).toNat,by split<;>omega⟩
 refine⟨2^c,Int.pow_pos (by omega),fun q=>?_,?_⟩
 ·have ee:(low+(K:Int)).toNat+(low+(K:Int)).toNat=km+c:=by split at hc<;>omega
  rw[←hkm]
  unfold dv
  rw[sv,if_neg (by simp)]
  have:(q:Int)*2^(low+(K:Int)).toNat*((q:Int)*2^(low+(K:Int)).toNat)=(q:Int)*q*(2^(low+(K:Int)).toNat*2^(low+(K:Int)).toNat):=by grind
  rw[this,←Int.pow_add,ee,Int.pow_add,Int.natCast_mul,Int.natCast_mul,Int.natCast_pow,Int.mul_assoc (((q:Int)*q))]
  rfl
 ·have ee:(e+((K+K:Nat):Int)).toNat=kp+c:=by split at hc<;>omega
  unfold ovA
  rw[←hkp]
  unfold dv
  rw[sv,if_neg (by simp),ee,Int.pow_add,Int.natCast_mul,Int.natCast_pow,Int.mul_assoc]
  rfl
theorem aiY(j:Nat){x y:ExV}(hx:x.ok=true)(hy:y.ok=true):(x.val 3000≤y.val 3000↔x.val (3000+j)≤y.val (3000+j))∧(x.val 3000<y.val 3000↔x.val (3000+j)<y.val (3000+j))∧(x.val 3000=y.val 3000↔x.val (3000+j)=y.val (3000+j)):=by
 have a:=(ji hx).1
 have b:=(ji hy).1
 rw[aBK (by omega),aBK (by omega)]
 have hp:(0:Int)<2^j:=Int.pow_pos (by omega)
 generalize (2:Int)^j=p at*
 refine⟨⟨fun h=>Int.mul_le_mul_of_nonneg_right h (Int.le_of_lt hp),fun h=>Int.le_of_mul_le_mul_right h hp⟩,⟨fun h=>Int.mul_lt_mul_of_pos_right h hp,fun h=>Int.lt_of_mul_lt_mul_right h (Int.le_of_lt hp)⟩,⟨fun h=>by rw[h],fun h=>Int.eq_of_mul_eq_mul_right (by omega) h⟩⟩
theorem aAU{x:ExV}(hx:x.ok=true)(hs:x.s=false){low:Int}(hl: -3000≤low∧low≤3000)(md:Int)(fR:(rtE x low md).fit=true)(fD:(rtE x low 3).fit=true)(fU:(rtE x low 2).fit=true){st:ExV}
  (hst:(rtE x low 3).can.plus ⟨false,1,low⟩=st) (f1:((rtE x low 3).can.times (rtE x low 3).can).fit=true) (f2:st.fit=true) (f3:(st.can.times st.can).fit=true):
  ((rtE x low 3).can.times (rtE x low 3).can).can.val 3000≤x.val 3000∧x.val 3000<(st.can.times st.can).can.val 3000∧(rtE x low 3).can.val 3000≤(rtE x low md).can.val 3000∧(rtE x low md).can.val 3000≤(rtE x low 2).can.val 3000∧
   ((rtE x low 2).can=st.can∨(((rtE x low 3).can.times (rtE x low 3).can).can.val 3000=x.val 3000∧(rtE x low 2).can=(rtE x low 3).can)):=by
 have r1:=(ji hx).1
 have vv:∀md,(rtE x low md).can.val 3000=dv 3000 false (rq false (sqA x.m x.e low) 4 md) low:=fun md=>Yo (by show _≤low;omega)
 have eD: -3000≤(rtE x low 3).can.e:=aY7 (K:=3000) (by show _≤low;omega) (by omega)
 have vs:st.can.val 3000=dv 3000 false (rq false (sqA x.m x.e low) 4 3+1) low:=by
  have e1: -3000≤st.e:=by rw[←hst];exact aMf eD (by show _≤low;omega)
  rw[Yo (by omega),←hst,azv (by omega) (by show _≤low;omega),vv]
  show _+dv 3000 false 1 low=_
  unfold dv sv
  rw[if_neg (by simp),if_neg (by simp),if_neg (by simp),←Int.add_mul];rfl
 have es: -3000≤st.can.e:=(ji (Qq f2)).1.1
 have w1:((rtE x low 3).can.times (rtE x low 3).can).can.val (3000+3000)=(rtE x low 3).can.val 3000*(rtE x low 3).can.val 3000:=by
  rw[Yo (by show _≤(rtE x low 3).can.e+(rtE x low 3).can.e;omega)]
  exact Yt (K:=3000) (K':=3000) (by omega) (by omega)
 have w2:(st.can.times st.can).can.val (3000+3000)=st.can.val 3000*st.can.val 3000:=by
  rw[Yo (by show _≤st.can.e+st.can.e;omega)]
  exact Yt (K:=3000) (K':=3000) (by omega) (by omega)
 rw[(aiY 3000 (Qq f1) hx).1,(aiY 3000 hx (Qq f3)).2.1,(aiY 3000 (Qq f1) hx).2.2,w1,w2,vv,vv,vv,vs]
 obtain⟨C,hC,hm1,hm2⟩:=aLK 3000 (m:=x.m) (e:=x.e) (low:=low) (by omega) (by omega)
 have hxv:x.val (3000+3000)=dv (3000+3000) false x.m x.e:=by unfold ExV.val;rw[hs]
 rw[hxv,hm1,hm1,hm2]
 have hd:rq false (sqA x.m x.e low) 4 3=sqA x.m x.e low/4:=by have:=JE (sqA x.m x.e low) 4;exact this
 have hU:=aL0 (sqA x.m x.e low) 4
 have hR:=aL1 (sqA x.m x.e low) 4 md
 obtain⟨f1',f2', -⟩:=QU (ovA x.m (x.e-2*low)) (2^(-(x.e-2*low)).toNat)
 obtain⟨g1,g2⟩:=aLH (A:=ovA x.m (x.e-2*low)) (S:=2^(-(x.e-2*low)).toNat) (Nat.pow_pos (by omega))
 have hst':stR (ovA x.m (x.e-2*low)) (2^(-(x.e-2*low)).toNat)=sqA x.m x.e low:=rfl
 rw[hst']at f1' f2'
 have vU:=vv 2
 have vD:=vv 3
 rw[hd,f1']at vs vD hU hR ⊢
 have ok2:=Qq fU
 have oks:=Qq f2
 have okD:=Qq fD
 have dle:∀a b:Nat,a≤b→dv 3000 false a low≤dv 3000 false b low:=fun a b h=>by
  unfold dv sv
  rw[if_neg (by simp),if_neg (by simp)]
  exact Int.mul_le_mul_of_nonneg_right (Int.ofNat_le.2 h) (Int.le_of_lt (Int.pow_pos (by omega)))
 generalize 2^(-(x.e-2*low)).toNat=S at*
 generalize ovA x.m (x.e-2*low)=A at*
 generalize rt (A/S)=r at*
 generalize sqA x.m x.e low=q at*
 refine⟨Int.mul_le_mul_of_nonneg_right (Int.ofNat_le.2 g1) (Int.le_of_lt hC),Int.mul_lt_mul_of_pos_right (Int.ofNat_lt.2 g2) hC,?_,?_,?_⟩
 ·refine dle _ _ ?_;rcases hR with h|h<;>omega
 ·refine dle _ _ ?_;rw[hU];split<;>omega
 ·by_cases h4:q % 4=0
  ·right
   refine⟨by rw[f2'.1 h4],?_⟩
   refine aCQ (K:=3000) ok2 okD (ji ok2).1.1 (ji okD).1.1 ?_
   rw[vU,vD,hU,if_pos h4]
  ·left
   refine aCQ (K:=3000) ok2 oks (ji ok2).1.1 (ji oks).1.1 ?_
   rw[vU,vs,hU,if_neg h4]
theorem Kp(y:ExV)(h:y=ex0):Con Tryz.prog 13 true [.ag [.v (.bool (y).s),.sl (lim (y).m).length (qb (lim (y).m)),.v (.int .i64 (y).e)],.ag [.v (.bool false),.sl 0 [],.v (.int .i64 0)]] [] (isA (.v (.bool true))):=by
 subst h
 rw[Zm]
 have c:=Zr ex0 ex0 Zl Zl
 rw[decide_eq_true rfl]at c
 exact c
theorem aig:Con Tryz.prog 13 true [.ag [.v (.bool (false)),.sl (lim (0)).length (qb (lim (0))),.v (.int .i64 (0))],.ag [.v (.bool false),.sl 0 [],.v (.int .i64 0)]] [] (isA (.v (.bool true))):=Kp ex0 rfl
set_option maxRecDepth 100000 in
set_option maxHeartbeats 4000000 in
theorem acH(l:List UInt8)(hl:l.length≤9223372036854775807):Con Tryz.prog 3 true [.sl l.length (qm l)] [] (isA (.v (.bool true))):=by
 have tel0:∀{y:ExV},y.fit=false→y.tel=ex0:=fun h=>by unfold ExV.tel;rw[h];rfl
 refine Con.of_w (rs:=[.tmp 2]) Tryz.func3 rfl Tryz.ntmps3 rfl ?_
 simp(disch:=omega)only[go_sem]
 refine zf (ZU l hl) (by simp(disch:=omega)only[go_sem]) ?_
 rintro r hs ⟨rfl, -,⟨⟨S,xs,E⟩,low,m,hxs,rfl⟩⟩
 refine⟨by simp[qQ],?_⟩
 dsimp only at hxs
 unfold DyV.cs
 simp(disch:=omega)only[go_sem]
 cases hv:(dyB S xs E&&(!S&&(aKQ low&&anM m)))
 ·refine qa (Yk S xs E low m hxs hv) ?_
  simp(disch:=omega)only[go_sem]
  refine qk (aig) ?_
  simp(disch:=omega)only[go_sem]
  refine qk (KD) ?_
  simp(disch:=omega)only[go_sem]
  exact qz
 ·simp only[Bool.and_eq_true,Bool.not_eq_true']at hv
  obtain⟨h1,rfl,h3,h4⟩:=hv
  obtain⟨n,rfl, -⟩:=jp h1
  have hx:ExV.ok ⟨false,n,E⟩=true:=h1
  have hlow: -3000≤low∧low≤3000:=by simpa [aKQ]using h3
  refine qa (yy ⟨false,n,E⟩ low m hx rfl h3 h4) ?_
  simp(disch:=omega)only[go_sem]
  have hmain:=@aAU _ hx rfl low hlow m
  have cD:=yy ⟨false,n,E⟩ low 3 hx rfl h3 rfl
  have cU:=yy ⟨false,n,E⟩ low 2 hx rfl h3 rfl
  generalize rtE ⟨false,n,E⟩ low m=R at*
  generalize rtE ⟨false,n,E⟩ low 3=D at*
  generalize rtE ⟨false,n,E⟩ low 2=U at*
  have oR:=jO R
  have oD:=jO D
  have oU:=jO U
  cases fR:R.fit
  ·simp(disch:=omega)only[go_sem]
   refine qk (Kp R.tel (tel0 fR)) ?_
   simp(disch:=omega)only[go_sem]
   refine qk (KD) ?_
   simp(disch:=omega)only[go_sem]
   exact qz
  simp(disch:=omega)only[go_sem]
  refine qa (cD) ?_
  simp(disch:=omega)only[go_sem]
  refine qa (cU) ?_
  simp(disch:=omega)only[go_sem]
  cases fD:D.fit
  ·simp(disch:=omega)only[go_sem]
   exact qz
  cases fU:U.fit
  ·simp(disch:=omega)only[go_sem]
   exact qz
  have hmain:=fun st=>@hmain fR fD fU st
  rw[yp fD]at oD ⊢
  rw[yp fU]at oU ⊢
  rw[yp fR]at oR ⊢
  generalize R.can=R at*
  generalize D.can=D at*
  generalize U.can=U at*
  simp(disch:=omega)only[go_sem]
  refine qa (adP D D true oD oD) ?_
  simp(disch:=omega)only[go_sem]
  refine qt rfl [⟨0,[],[]⟩,⟨1,[0],[]⟩,⟨3,[0],[]⟩,⟨8,[0],[]⟩,⟨2,[0],[160000000]⟩,⟨4,[],[160000000]⟩,⟨5,[],[160000000]⟩,⟨6,[],[160000000]⟩,⟨7,[],[160000000]⟩,⟨9,[],[]⟩,⟨10,[],[]⟩] (by kernel_rfl) ?_
  simp(disch:=omega)only[go_sem]
  refine qa (ZA low hlow) ?_
  simp(disch:=omega)only[go_sem]
  refine qa (aBg D ⟨false,1,low⟩ ((D.times D).fit&&true) oD (aJL hlow)) ?_
  simp(disch:=omega)only[go_sem]
  have hmain:=hmain _ rfl
  have oS:=jO (D.times D)
  have oP:=jO (D.plus ⟨false,1,low⟩)
  have tS:=@yp (D.times D)
  have tP:=@yp (D.plus ⟨false,1,low⟩)
  generalize (D.plus ⟨false,1,low⟩)=st at*
  refine qa (adP st.tel st.tel (st.fit&&((D.times D).fit&&true)) oP oP) ?_
  simp(disch:=omega)only[go_sem]
  have oT:=jO (st.tel.times st.tel)
  have tT:=@yp (st.tel.times st.tel)
  cases f1:(D.times D).fit
  ·simp(disch:=omega)only[go_sem,f1]
   exact qz
  cases f2:st.fit
  ·simp(disch:=omega)only[go_sem,f1,f2]
   exact qz
  cases f3:(st.tel.times st.tel).fit
  ·simp(disch:=omega)only[go_sem,f1,f2,f3]
   exact qz
  have tS:=tS f1
  have tP:=tP f2
  have tT:=tT f3
  rw[tP]at f3 tT oT oP ⊢
  obtain⟨m1,m2,m3,m4,m5⟩:=hmain f1 f2 f3
  rw[←tS]at m1 m5
  rw[←tT]at m2
  simp(disch:=omega)only[go_sem,f1,f2,f3]
  generalize (D.times D).tel=s at*
  generalize (st.can.times st.can).tel=t at*
  generalize st.can=p at*
  refine qk (j1 s _ oS hx) ?_
  simp(disch:=omega)only[go_sem]
  have u1:=decide_eq_true ((yz _ _).1.2 m1)
  simp(disch:=omega)only[go_sem,u1]
  refine qk (j1 _ t hx oT) ?_
  simp(disch:=omega)only[go_sem]
  have u2:=decide_eq_true ((yz _ _).2.1.2 m2)
  simp(disch:=omega)only[go_sem,u2]
  refine qk (j1 D R oD oR) ?_
  simp(disch:=omega)only[go_sem]
  have u3:=decide_eq_true ((yz _ _).1.2 m3)
  simp(disch:=omega)only[go_sem,u3]
  refine qk (j1 R U oR oU) ?_
  simp(disch:=omega)only[go_sem]
  have u4:=decide_eq_true ((yz _ _).1.2 m4)
  simp(disch:=omega)only[go_sem,u4]
  refine qk (Zr U p oU oP) ?_
  simp(disch:=omega)only[go_sem]
  by_cases hU:U=p
  ·simp(disch:=omega)only[go_sem,hU]
   exact qz
  obtain⟨e1,e2⟩:=m5.elim (fun h=>absurd h hU) (fun h=>h)
  simp(disch:=omega)only[go_sem,decide_eq_false hU]
  refine qk (j1 s _ oS hx) ?_
  simp(disch:=omega)only[go_sem]
  have u5:=decide_eq_true ((yz _ _).2.2.2 e1)
  simp(disch:=omega)only[go_sem,u5]
  refine qk (Zr U D oU oD) ?_
  simp(disch:=omega)only[go_sem]
  simp(disch:=omega)only[go_sem,decide_eq_true e2]
  exact qz
end Go.Ab
namespace Go.Proofs.YtjkhfpjccemboaaGreatDoor
open Go.ChangeShapes Go.WideShapes Go.ChangeAt Go.RowKit Go.Ab
theorem own:ownKnob Tryz.prog.godebug=none:=by kernel_rfl
theorem aIz:laidOutB Tryz.prog=true:=by kernel_rfl
theorem amZ:Tryz.prog.globalNamed "math/bits.deBruijn64tab" =some 1:=by kernel_rfl
theorem aGU:(Tryz.prog.globals[1]?).map (·.type)=some 257:=by kernel_rfl
theorem aGT:Tryz.prog.underlying 257=some (.array 64 5):=by kernel_rfl
theorem aGX:Tryz.prog.underlying 5=some (.int .u8):=by kernel_rfl
theorem aGY:Tryz.prog.cellsOf 5=1:=by kernel_rfl
theorem aGV:Tryz.prog.cellsOf 257=64:=by kernel_rfl
noncomputable def j8:List (String×DataW Unit):=[("math/bits.deBruijn32tab",Rows.laid_math_bits_deBruijn32tab),("math/bits.deBruijn64tab",Rows.laid_math_bits_deBruijn64tab)]
theorem aGW{W:World}(h:laidMetH Tryz.prog j8 W):Gd W:=by
 have h':laidMet Tryz.prog j8 W:=h
 have h2:laidMet Tryz.prog [("math/bits.deBruijn64tab",Lib.tabData .u8 (Lib.deBruijn64tab.map Int.ofNat))] W:=laidMet.tail h'
 have hT:=Lib.tabIs_of_head amZ aGU aGT aGX aGY aGV h2
 intro g l hg
 unfold glb at hg
 split at hg
 ·rename_i e
  subst e
  cases hg
  have hc:∀i,i<Lib.deBruijn64tab.length→W.cell? ⟨1,i,none⟩=some (.int .u8 ((Lib.deBruijn64tab.getD i 0:Nat):Int)):=fun i hi=>by
   have:=hT.cell amZ i (by simpa using hi)
   rw[this]
   simp[List.getD,hi]
  exact⟨adT (hc 0 (by decide)),hc⟩
 ·cases hg
noncomputable def Ka(os:Os):World:=
 let w0:=World.holding Tryz.prog os ⟨#[],#[],[]⟩
 {w0 with heap:=(w0.heap.modify 1 fun
   | .cells _ t frozen=>.cells (Lib.deBruijn64tab.map fun z=>Value.int .u8 (Int.ofNat z)).toArray t frozen
   |o=>o).modify 0 fun
   | .cells _ t frozen=>.cells (Lib.deBruijn32tab.map fun z=>Value.int .u8 (Int.ofNat z)).toArray t frozen
   |o=>o}
theorem JW(os:Os)(args:Array Value):laidMetH Tryz.prog j8 ((Ka os).forCall (fun _ _=>0) ⟨#[],args,[]⟩).memory:=
 laidMetH_of_parts (laidMet_of_run' 8 (by kernel_rfl) (by kernel_rfl)) (by kernel_rfl)
end Go.Proofs.YtjkhfpjccemboaaGreatDoor
