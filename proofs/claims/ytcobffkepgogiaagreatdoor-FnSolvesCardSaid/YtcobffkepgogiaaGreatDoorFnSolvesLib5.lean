/- What the proof of this claim stands on: the walks of the functions and the plain laws, part 5. -/
import Derived.Test.YtcobffkepgogiaaGreatDoorFnSolvesLib4
set_option linter.unusedVariables false
set_option linter.unusedSimpArgs false
namespace Go.Ab
open Go Go.Proofs
section
variable (g:Nat)(p:DyV→Bool)
theorem akr(x:DyV)(hf:Con Tryz.prog g true [.ag x.cs] [] (isA (.v (.bool (p x)))))(hg:qq Tryz.prog g=True):
  Con Tryz.prog 228 true [.ag x.cs,.fp [.fn g []] 0] [] (isA (.v (.bool (!p x)))):=by
 unfold DyV.cs at hf ⊢
 refine Con.of_w (rs:=[.tmp 3]) Tryz.func228 rfl Tryz.ntmps228 rfl ?_
 simp(disch:=omega)only[go_sem,hg]
 refine qz hf (by simp(disch:=omega)only[go_sem]) ?_
 rintro r hs ⟨rfl,rfl,_⟩
 refine⟨by simp[qO],?_⟩
 simp(disch:=omega)only[go_sem]
 exact qy
theorem aeC(f:Nat)(caps:List AV)(xs:List DyV)(hl:xs.length≤2^40)(hf:∀x∈xs,Con Tryz.prog f true (.ag x.cs::caps) [] (isA (.v (.bool (p x)))))(hg:qq Tryz.prog f=True)
  (hc:∀h:Nat→Ob,caps.map (qE h 6)=caps) (hc5:∀h:Nat→Ob,caps.map (qE h 5)=caps) (hn:∀ks,AllL (ye ks) caps) (hr:∀ρ,zK ρ caps=caps):
  Con Tryz.prog 266 true [.sl xs.length (qm DyV.cs xs),.fn f caps] [] (fun r hs bs=>∃i:Int,r=.v (.int .i64 i)∧hs=[]∧(0≤i↔∃x∈xs,p x=true)):=by
 refine Con.of_aw Tryz.func266 rfl Tryz.ntmps266 (by simp) (by simp) (by simp) (W.sound ?_)
 show @W Tryz.prog 19 ⟨_⟩ ⟨fun x σ=>@qW _ _ _ ⟨_⟩ _ ⟨_⟩ x σ⟩ _ _
 simp(disch:=omega)only[go_sem]
 refine qh (fun i:Nat=>[(0,.sl xs.length (qm DyV.cs xs)),(1,.fn f caps),(6,.sl xs.length (qm DyV.cs xs)),(7,.v (.int .i64 xs.length)),(8,.v (.int .i64 i))])
  (fun _=>[]) (fun i=>i≤xs.length∧∀j,j<i→p (xs.getD j ⟨false,[],0⟩)=false) (fun i=>xs.length-i) 0 ⟨by omega,fun j hj=>by omega⟩ (Le.lst [] _ _ rfl (by simp(disch:=omega)only[go_sem,hr,hn]) (by simp(disch:=omega)only[go_sem])) ?_
 rintro i ⟨hi,hp⟩
 simp(disch:=omega)only[go_sem]
 refine qe (fun h1=>?_) (fun h1=>?_)
 ·have hcut:=QK (l:=xs) Q7 (i:=i) (by omega) ⟨false,[],0⟩
  simp(disch:=omega)only[go_sem,h1,hcut,hg]
  refine⟨by omega,by omega,qz (hf (xs.getD i ⟨false,[],0⟩) (by rw[List.getD_eq_getElem?_getD,List.getElem?_eq_getElem (by omega)];exact List.getElem_mem _)) (by simp(disch:=omega)only[go_sem,hc,hc5]) ?_⟩
  rintro r hs ⟨rfl,rfl,_⟩
  refine⟨by simp[qO],?_⟩
  simp(disch:=omega)only[go_sem]
  refine yT (fun h2=>?_) (fun h2=>?_)
  ·simp(disch:=omega)only[go_sem,h2]
   refine qx (by simp(disch:=omega)only[go_sem]) (by simp(disch:=omega)only[go_sem]) ⟨i,rfl,rfl,?_⟩
   refine⟨fun _=>⟨_,?_,h2⟩,fun _=>by omega⟩
   rw[List.getD_eq_getElem?_getD,List.getElem?_eq_getElem (by omega)];exact List.getElem_mem _
  ·simp(disch:=omega)only[go_sem,h2]
   refine qb (i+1) [] ⟨by omega,fun j hj=>?_⟩ (by show xs.length-(i+1)<xs.length-i;omega) rfl (by simp(disch:=omega)only[go_sem,hr,hn];try omega) (by simp(disch:=omega)only[go_sem])
   rcases(by omega:j<i∨j=i)with h|h
   ·exact hp j h
   ·subst h;exact h2
 ·simp(disch:=omega)only[go_sem,h1]
  refine qx (by simp(disch:=omega)only[go_sem]) (by simp(disch:=omega)only[go_sem]) ⟨-1,rfl,rfl,?_⟩
  refine⟨fun h=>by omega,fun⟨x,hx,hpx⟩=>?_⟩
  obtain⟨j,hj,rfl⟩:=List.getElem_of_mem hx
  have:=hp j (by omega)
  rw[List.getD_eq_getElem?_getD,List.getElem?_eq_getElem hj]at this
  simp only[Option.getD_some]at this
  rw[this]at hpx;cases hpx
theorem JN(f:Nat)(caps:List AV)(xs:List DyV)(hl:xs.length≤2^40)(hf:∀x∈xs,Con Tryz.prog f true (.ag x.cs::caps) [] (isA (.v (.bool (p x)))))(hg:qq Tryz.prog f=True)
  (hc:∀h:Nat→Ob,caps.map (qE h 6)=caps) (hc5:∀h:Nat→Ob,caps.map (qE h 5)=caps) (hn:∀ks,AllL (ye ks) caps) (hr:∀ρ,zK ρ caps=caps):
  Con Tryz.prog 227 true [.sl xs.length (qm DyV.cs xs),.fn f caps] [] (isA (.v (.bool (xs.any p)))):=by
 refine Con.of_aw Tryz.func227 rfl Tryz.ntmps227 (by simp) (by simp) (by simp) (W.sound ?_)
 show @W Tryz.prog 9 ⟨_⟩ ⟨fun x σ=>@qW _ _ _ ⟨_⟩ _ ⟨_⟩ x σ⟩ _ _
 simp(disch:=omega)only[go_sem]
 refine qz (aeC p f caps xs hl hf hg hc hc5 hn hr) (by simp(disch:=omega)only[go_sem,hc,hc5]) ?_
 rintro r hs ⟨i,rfl,rfl,hi⟩
 refine⟨by simp[qO],?_⟩
 simp(disch:=omega)only[go_sem]
 refine qx (by simp(disch:=omega)only[go_sem]) (by simp(disch:=omega)only[go_sem]) ⟨?_,rfl,rfl⟩
 have:decide (0≤i)=xs.any p:=by rw[Bool.eq_iff_iff,decide_eq_true_eq,hi,List.any_eq_true]
 rw[this];rfl
theorem arn(xs:List DyV)(hl:xs.length≤2^40)(hf:∀x∈xs,Con Tryz.prog g true [.ag x.cs] [] (isA (.v (.bool (p x)))))(hg:qq Tryz.prog g=True):
  Con Tryz.prog 164 true [.sl xs.length (qm DyV.cs xs),.fn g []] [] (isA (.v (.bool (xs.all p)))):=by
 refine Con.of_aw Tryz.func164 rfl Tryz.ntmps164 (by simp) (by simp) (by simp) (W.sound ?_)
 show @W Tryz.prog 9 ⟨_⟩ ⟨fun x σ=>@qW _ _ _ ⟨_⟩ _ ⟨_⟩ x σ⟩ _ _
 simp(disch:=omega)only[go_sem]
 refine qz (JN (fun x=> !p x) 228 [.fp [.fn g []] 0] xs hl (fun x hx=>akr g p x (hf x hx) hg) (by simp(disch:=omega)only[go_sem]) (fun h=>rfl) (fun h=>rfl) (fun ks=>by simp(disch:=omega)only[go_sem]) (fun ρ=>rfl)) (by simp(disch:=omega)only[go_sem]) ?_
 rintro r hs ⟨rfl,rfl,_⟩
 refine⟨by simp[qO],?_⟩
 simp(disch:=omega)only[go_sem]
 refine qx (by simp(disch:=omega)only[go_sem]) (by simp(disch:=omega)only[go_sem]) ⟨?_,rfl,rfl⟩
 have:(!xs.any fun x=> !p x)=xs.all p:=by rw[List.all_eq_not_any_not]
 rw[this];rfl
end
def DyV.ok(x:DyV):Bool:=dyB x.s x.xs x.e
theorem jR(xs:List DyV)(hl:xs.length≤2^40)(hx:∀x∈xs,x.xs.length≤2^40):Con Tryz.prog 81 true [.sl xs.length (qm DyV.cs xs)] [] (isA (.v (.bool (xs.all DyV.ok)))):=by
 refine Con.of_w (rs:=[.tmp 2]) Tryz.func81 rfl Tryz.ntmps81 rfl ?_
 simp(disch:=omega)only[go_sem]
 refine qk (arn 92 DyV.ok xs hl (fun x h=>afD x.s x.xs x.e (hx x h)) (by simp(disch:=omega)only[go_sem])) ?_
 simp(disch:=omega)only[go_sem]
 exact qy
def ad6(n:Int)(l:List DyV):Bool:=(decide (1≤n)&&decide (n≤4))&&(decide ((l.length:Int)=n*n)&&l.all DyV.ok)
theorem aaV(n:Int)(l:List DyV)(hl:l.length≤2^40)(hx:∀x∈l,x.xs.length≤2^40):Con Tryz.prog 80 true [.ag [.v (.int .i64 n),.sl l.length (qm DyV.cs l)]] [] (isA (.v (.bool (ad6 n l)))):=by
 unfold ad6
 cases h1:(decide (1≤n)&&decide (n≤4))
 ·rw[Bool.false_and]
  refine Con.of_w (rs:=[.tmp 2]) Tryz.func80 rfl Tryz.ntmps80 rfl ?_
  simp(disch:=omega)only[go_sem]
  refine qk (zN n 1 4) ?_
  simp(disch:=omega)only[go_sem]
  simp(disch:=omega)only[go_sem,h1]
  exact qy
 ·rw[Bool.true_and]
  have h1':1≤n∧n≤4:=by simpa using h1
  have hq:0≤n*n∧n*n≤16:=⟨Int.mul_nonneg (by omega) (by omega),Int.mul_le_mul h1'.2 h1'.2 (by omega) (by omega)⟩
  cases h2:decide ((l.length:Int)=n*n)
  ·rw[Bool.false_and]
   refine Con.of_w (rs:=[.tmp 2]) Tryz.func80 rfl Tryz.ntmps80 rfl ?_
   simp(disch:=omega)only[go_sem]
   refine qk (zN n 1 4) ?_
   simp(disch:=omega)only[go_sem]
   simp(disch:=omega)only[go_sem,h1,h2]
   exact qy
  ·rw[Bool.true_and]
   refine Con.of_w (rs:=[.tmp 2]) Tryz.func80 rfl Tryz.ntmps80 rfl ?_
   simp(disch:=omega)only[go_sem]
   refine qk (zN n 1 4) ?_
   simp(disch:=omega)only[go_sem]
   simp(disch:=omega)only[go_sem,h1,h2]
   refine qk (jR l hl hx) ?_
   simp(disch:=omega)only[go_sem]
   exact qy
end Go.Ab
namespace Go.Ab
open Go Go.Proofs
def ExV.dy(x:ExV):DyV:=⟨x.s,lim x.m,x.e⟩
theorem aFm(l:List ExV):qm ExV.cs l=qm DyV.cs (l.map ExV.dy):=by unfold qm;rw[List.map_map];rfl
def ExV.ok(x:ExV):Bool:=dyB x.s (lim x.m) x.e
def aK5(n:Int)(l:List ExV):Bool:=(decide (1≤n)&&decide (n≤4))&&(decide ((l.length:Int)=n*n)&&l.all ExV.ok)
theorem aK4(n:Int)(l:List ExV):ad6 n (l.map ExV.dy)=aK5 n l:=by
 unfold ad6 aK5
 rw[List.length_map,List.all_map];rfl
theorem Yo(n:Int)(l:List ExV)(hl:l.length≤2^40)(hx:∀x∈l,(lim x.m).length≤2^40):Con Tryz.prog 80 true [.ag [.v (.int .i64 n),.sl l.length (qm ExV.cs l)]] [] (isA (.v (.bool (aK5 n l)))):=by
 have:=aaV n (l.map ExV.dy) (by rw[List.length_map];exact hl) (fun x h=>by
  obtain⟨y,hy,rfl⟩:=List.mem_map.1 h
  exact hx y hy)
 rw[aK4,←aFm,List.length_map]at this
 exact this
theorem Ql{x:ExV}(h:x.ok=true):x.bd (-3000) 4600:=by
 obtain⟨m,e1,h1,h2,h3,_,h4⟩:=QT h
 have e2:x.m=m:=yu e1
 subst e2
 exact⟨h4,by omega,by omega⟩
def ajH(F:List SpV)(X:List ExV)(k:Nat):List ExV:=(List.range k).map fun i=>q8 [((F.getD i sp0).hi.plus (X.getD i ex0).neg).abs,((X.getD i ex0).plus (F.getD i sp0).lo.neg).abs]
theorem Qm{F:List SpV}{X:List ExV}{k:Nat}:(ajH F X k).length=k:=by simp[ajH]
theorem apC{F:List SpV}{X:List ExV}{k:Nat}:ajH F X (k+1)=ajH F X k++[q8 [((F.getD k sp0).hi.plus (X.getD k ex0).neg).abs,((X.getD k ex0).plus (F.getD k sp0).lo.neg).abs]]:=by simp[ajH,List.range_succ]
theorem apB{lo hi:Int}{s:SpV}{x:ExV}(hs:s.bd lo hi)(hx:x.bd lo hi):gbd lo (hi+1) [(s.hi.plus x.neg).abs,(x.plus s.lo.neg).abs]:=by
 intro y hy
 simp only[List.mem_cons,List.not_mem_nil,or_false]at hy
 rcases hy with rfl|rfl
 ·exact ExV.abs_bd (ExV.plus_bd hs.2 (ExV.neg_bd hx))
 ·exact ExV.abs_bd (ExV.plus_bd hx (ExV.neg_bd hs.1))
theorem aKx{lo hi:Int}{F:List SpV}{X:List ExV}{k:Nat}(hF:sbd lo hi F)(hX:gbd lo hi X)(h1:k≤F.length)(h2:k≤X.length):gbd lo (hi+1) (ajH F X k):=by
 intro y hy
 simp only[ajH,List.mem_map,List.mem_range]at hy
 obtain⟨i,hi,rfl⟩:=hy
 exact Zv (apB (jB hF (by omega)) (za hX (by omega))) (by simp)
def aft(n:Nat)(F:List SpV)(low:Int):List ExV:=aLw n (F.map ad5) low 0
def jN(n:Nat)(F:List SpV)(low:Int):ExV:=yq n (ajH F (aft n F low) (n*n)) n
theorem aK1{lo hi:Int}{s:SpV}(hs:s.bd lo hi):(ad5 s).bd (lo-1) hi:=by
 have:=ExV.shift_bd (k:= -1) (ExV.plus_bd hs.1 hs.2)
 exact this.mono (by omega) (by omega)
theorem aLv{lo hi low mode:Int}{n:Nat}{l:List ExV}(hl:l.length=n*n)(h:gbd lo hi l)(h1:lo≤low)(h2:low≤hi):gbd lo (hi+1) (aLw n l low mode):=
 aPP fun i j hi hj=>ExV.rnd_bd (za h (by rw[hl];exact zH hi hj)) h1 h2
set_option maxRecDepth 100000 in
set_option maxHeartbeats 2000000 in
theorem aeM(n:Nat)(L:List ExV)(low:Int)(F:List SpV)(hn:n≤4)(hL:L.length=n*n)(hlow: -1000≤low∧low≤1000)(ca:Con Tryz.prog 146 true [.ag [.v (.int .i64 (n)),.sl (L).length (qm ExV.cs (L))],.v (.int .i64 low)] [] (isA (.v (.bool true))))
  (ch:Con Tryz.prog 170 false [.ag [.v (.int .i64 (n)),.sl (L).length (qm ExV.cs (L))],.v (.int .i64 low)] [] (isA (.ag [.v (.int .i64 (n)),.sl (F).length (qm SpV.cs (F))]))) (hF:F.length=n*n) (hFb:sbd (-300000) 300000 F) (hfit:F.all SpV.fit=true):
  Con Tryz.prog 89 false [.ag [.v (.int .i64 (n)),.sl (L).length (qm ExV.cs (L))],.v (.int .i64 low)] []
   (isA (if((aft n F low).all ExV.fit&&(jN n F low).fit)=true then .tu [.ag [.v (.int .i64 n),.sl (aft n F low).length (qm ExV.cs ((aft n F low).map ExV.can))],.ag [.v (.bool ((jN n F low).can).s),.sl (lim ((jN n F low).can).m).length (qc (lim ((jN n F low).can).m)),.v (.int .i64 ((jN n F low).can).e)],.v (.bool true)]else .tu [.ag [.v (.int .i64 0),.sl 0 []],.ag [.v (.bool (false)),.sl (lim (0)).length (qc (lim (0))),.v (.int .i64 (0))],.v (.bool false)])):=by
 refine Con.frzA ?_
 have hq:=Qf hn
 have cg:=j9 n L (by omega)
 have cv:=arc n F (by omega) (jU hFb (by omega) (by omega))
 rw[hfit,if_pos rfl]at cv
 have cm:=aMq n F (by omega) (jU hFb (by omega) (by omega))
 have hml:(F.map ad5).length=n*n:=by rw[List.length_map,hF]
 have hmb:gbd (-300001) 300000 (F.map ad5):=by
  intro x hx
  obtain⟨s,hs,rfl⟩:=List.mem_map.1 hx
  exact(aK1 (hFb s hs)).mono (by omega) (by omega)
 have cr:=aDB n (F.map ad5) low 0 hn hml (j8 hmb (by omega) (by omega)) (by omega)
 have hXl:(aft n F low).length=n*n:=by unfold aft aLw;exact Q6
 have hXb:gbd (-300001) 300001 (aft n F low):=aLv hml hmb (by omega) (by omega)
 change Con _ _ _ _ _ (isA (.ag [.v (.int .i64 (n)),.sl (aft n F low).length (qm ExV.cs (aft n F low))]))at cr
 have hOb:gbd (-300001) 300002 (ajH F (aft n F low) (n*n)):=aKx (jU hFb (by omega) (by omega)) hXb (by omega) (by omega)
 have cno:=Xa n (ajH F (aft n F low) (n*n)) hn Qm (j8 hOb (by omega) (by omega))
 change Con _ _ _ _ _ (isA (.ag [.v (.bool (jN n F low).s),.sl (lim (jN n F low).m).length (qc (lim (jN n F low).m)),.v (.int .i64 (jN n F low).e)]))at cno
 have hFar:(jN n F low).bd (-300001) 300006:=(YH Qm hOb (by omega) n (Nat.le_refl _)).mono (by omega) (by omega)
 have cw:=JK n (aft n F low) (jN n F low) (by omega) (j8 hXb (by omega) (by omega)) (hFar.mono (by omega) (by omega))
 generalize jN n F low=far at*
 generalize aft n F low=X at*
 generalize F.map ad5=M at*
 generalize F.map SpV.can=FC at*
 refine Con.of_w (rs:=[.cell 4 25,.cell 5 40,.tmp 6]) Tryz.func89 rfl Tryz.ntmps89 rfl ?_
 simp(disch:=omega)only[go_sem]
 refine qk (ca) ?_
 simp(disch:=omega)only[go_sem]
 refine qa (cg) ?_
 simp(disch:=omega)only[go_sem]
 refine qa (ch) ?_
 simp(disch:=omega)only[go_sem]
 refine qa (cv) ?_
 simp(disch:=omega)only[go_sem]
 refine qa (cm) ?_
 simp(disch:=omega)only[go_sem]
 refine qa (cr) ?_
 simp(disch:=omega)only[go_sem]
 refine qh (fun i:Nat=>[(4,.pt 2 0),(5,.pt 3 0),(7,.pt 4 0),(10,.pt 5 0),(11,.pt 0 0),(41,.sl F.length (qm SpV.cs F)),(42,.v (.int .i64 F.length)),(43,.v (.int .i64 i))])
  (fun i=>[(0,.own 0 [.v (.int .i64 n),.rf 1 0 i]),(1,.own 3 (qm ExV.cs (ajH F X i))),(2,.own 0 [.v (.int .i64 0),.v (.slice none 0 0)]),(3,.own 0 [.v (.bool false),.v (.slice none 0 0),.v (.int .i64 0)]),(4,.own 0 [.v (.int .i64 n),.sl F.length (qm SpV.cs F)]),(5,.own 0 [.v (.int .i64 n),.sl X.length (qm ExV.cs X)])])
  (fun i=>i≤F.length) (fun i=>F.length-i) 0 (by omega)
  ((Le.ghostC 130000000 1 1 3 (zo:=0) (cs:=[.v (.int .i64 n),.v (.slice none 0 0)]) (by simp(disch:=omega)only[go_sem]) rfl (by simp(disch:=omega)only[go_sem])).trans (Le.lst [(0,130000000),(2,60000000),(3,70000000),(4,90000000),(5,120000000)] _ _ rfl (by simp(disch:=omega)only[go_sem]) (by simp(disch:=omega)only[go_sem,show ajH F X 0=[] from rfl,QS,List.set_cons_succ,List.set_cons_zero]))) ?_
 intro i hi
 simp(disch:=omega)only[go_sem]
 refine qe (fun h1=>?_) (fun h1=>?_)
 ·have hi2:i<F.length:=by omega
  have hci:=yl hi2
  have hcx:=zC (l:=X) (i:=i) (by omega)
  have hcut:=zL (Qm (F:=F) (X:=X) (k:=i))
  have hs:=apC (F:=F) (X:=X) (k:=i)
  have bs:=jB hFb hi2
  have bx:=za hXb (show i<X.length by omega)
  have b2:=apB (SpV.bd.mono bs (by omega) (by omega)) bx
  generalize F.getD i sp0=s at*
  generalize X.getD i ex0=x at*
  simp(disch:=omega)only[go_sem,h1,hci]
  refine⟨by omega,by omega,?_⟩
  refine qp rfl [⟨0,[],[]⟩,⟨1,[],[]⟩,⟨2,[1],[]⟩,⟨3,[1],[]⟩,⟨4,[1,3],[]⟩,⟨5,[1,3],[]⟩,⟨6,[1,3,5],[]⟩,⟨7,[1,3],[]⟩,⟨8,[1,3],[]⟩,⟨11,[1,3,5,8],[]⟩,⟨12,[1,3,5,8],[]⟩,⟨13,[1,3,5,8,12],[]⟩,⟨14,[1,3,5,8],[]⟩,⟨15,[1,3,5,8],[]⟩,⟨16,[1,3,5,8,12,15],[]⟩,⟨17,[1,3,5,8,12,15],[]⟩,⟨9,[1,12,15,17],[]⟩,⟨10,[1,12,15,17],[]⟩,⟨18,[1],[]⟩,⟨19,[1],[]⟩,⟨20,[1],[]⟩,⟨21,[1],[]⟩,⟨22,[1],[]⟩,⟨23,[],[]⟩,⟨24,[],[]⟩,⟨25,[],[]⟩] (by kernel_rfl) ?_
  simp(disch:=omega)only[go_sem,hcx]
  refine⟨by omega,by omega,by omega,by omega,?_⟩
  refine qa (QZ s.hi x (bs.2.mono (by omega) (by omega)) (bx.mono (by omega) (by omega))) ?_
  simp(disch:=omega)only[go_sem]
  refine qa (Xh (s.hi.plus x.neg)) ?_
  simp(disch:=omega)only[go_sem]
  refine qa (QZ x s.lo (bx.mono (by omega) (by omega)) (bs.1.mono (by omega) (by omega))) ?_
  simp(disch:=omega)only[go_sem]
  refine qa (Xh (x.plus s.lo.neg)) ?_
  simp(disch:=omega)only[go_sem]
  generalize (s.hi.plus x.neg).abs=A at*
  generalize (x.plus s.lo.neg).abs=B at*
  have hrow:([.v (.bool A.s),.sl (lim A.m).length (qc (lim A.m)),.v (.int .i64 A.e),.v (.bool B.s),.sl (lim B.m).length (qc (lim B.m)),.v (.int .i64 B.e)]:List AV)=qm ExV.cs [A,B]:=rfl
  rw[hrow]
  refine q6 false [700000000] (Jn [A,B] (by simp) (by simp) (j8 b2 (by omega) (by omega))) (by simp(disch:=omega)only[go_sem]) (by simp(disch:=omega)only[go_sem]) rfl (qK (z:=3) (cs:=qm ExV.cs [A,B]) (by simp(disch:=omega)only[go_sem]) (by simp(disch:=omega)only[go_sem])) (by intro n hn;exact⟨_,List.mem_cons_self ..,by rw[List.mem_singleton.1 hn];rfl⟩) ?_
  rintro r hs2 bs2 ⟨rfl,rfl,rfl⟩-
  refine⟨by simp[qO],?_⟩
  simp(disch:=omega)only[go_sem,hcut,yO]
  refine⟨⟨by rw[Qm];exact Nat.le_refl _,by omega⟩,qb (i+1) [(1,730000000)] (by show i+1≤_;omega) (by show F.length-(i+1)<F.length-i;omega) rfl (by simp(disch:=omega)only[go_sem];try omega) (by simp(disch:=omega)only[go_sem,hs])⟩
 ·simp(disch:=omega)only[go_sem,h1]
  obtain rfl:i=F.length:=by omega
  have hol:=Qm (F:=F) (X:=X) (k:=n*n)
  rw[hF]
  generalize ajH F X (n*n)=O at*
  rw[hol]at cno
  refine aMm (E:=[(4,.pt 2 0),(5,.pt 3 0),(10,.pt 5 0),(11,.pt 0 0)]) (H:=[(0,.own 0 [.v (.int .i64 n),.sl (n*n) (qm ExV.cs O)]),(2,.own 0 [.v (.int .i64 0),.v (.slice none 0 0)]),(3,.own 0 [.v (.bool false),.v (.slice none 0 0),.v (.int .i64 0)]),(5,.own 0 [.v (.int .i64 n),.sl X.length (qm ExV.cs X)])])
   ((Le.frz 1 (z:=3) (ks:=qm ExV.cs O) (by simp(disch:=omega)only[go_sem]) rfl (by simp(disch:=omega)only[go_sem])).trans (Le.lst [] _ _ rfl (by simp(disch:=omega)only[go_sem]) (by simp(disch:=omega)only[go_sem,zL hol]))) ?_
  refine qp rfl [⟨0,[],[]⟩,⟨1,[0],[]⟩,⟨2,[0],[]⟩,⟨3,[],[]⟩,⟨4,[],[]⟩,⟨5,[],[]⟩,⟨6,[],[]⟩,⟨7,[],[]⟩,⟨8,[],[]⟩,⟨9,[],[]⟩] (by kernel_rfl) ?_
  simp(disch:=omega)only[go_sem]
  refine qa (cno) ?_
  simp(disch:=omega)only[go_sem]
  cases hc:(X.all ExV.fit&&far.fit)
  ·rw[hc,if_neg (by simp)]at cw
   rw[if_neg (by simp)]
   refine qa (cw) ?_
   simp(disch:=omega)only[go_sem]
   exact ql (hp:=by simp(disch:=omega)only[go_sem,qn,List.length_nil,jl])
  ·rw[hc,if_pos rfl]at cw
   rw[if_pos rfl]
   refine qa (cw) ?_
   simp(disch:=omega)only[go_sem]
   exact ql
theorem aaL(n:Nat)(h1:n=1):Con Tryz.prog 146 true [.ag [.v (.int .i64 (n)),.sl ([ex0]).length (qm ExV.cs ([ex0]))],.v (.int .i64 (-10))] [] (isA (.v (.bool true))):=by
 have cm:=Yo n [ex0] (by decide) (by intro x hx;rw[List.mem_singleton.1 hx];show(lim 0).length≤_;rw[qn];decide)
 have hm:aK5 n [ex0]=true:=by
  rw[h1];unfold aK5;rw[List.all_cons,List.all_nil,show ex0.ok=true by show dyB false (lim 0) 0=true;rw[qn];decide];decide
 rw[hm]at cm
 have cg:=j9 n [ex0] (by decide)
 have cn:=Xa n [ex0] (by omega) (by rw[h1];rfl) (by decide+kernel)
 rw[show yq n [ex0] n=ex0 by rw[h1];decide+kernel]at cn
 have cc:=jp ex0 (exN 64) (by decide+kernel) (by decide+kernel)
 rw[show ex0.cmp (exN 64)= -1 by decide+kernel]at cc
 have q:decide ((-1:Int)≤0)=true:=rfl
 have q1:(decide ((-120:Int)≤ -10)&&decide ((-10:Int)≤0))=true:=rfl
 have cwi:=zN (-10) (-120) 0
 rw[q1]at cwi
 refine Con.of_w (rs:=[.tmp 4]) Tryz.func146 rfl Tryz.ntmps146 rfl ?_
 simp(disch:=omega)only[go_sem]
 refine qk (cm) ?_
 simp(disch:=omega)only[go_sem]
 refine qk (cwi) ?_
 simp(disch:=omega)only[go_sem]
 refine qa (cg) ?_
 simp(disch:=omega)only[go_sem]
 refine qa (cn) ?_
 simp(disch:=omega)only[go_sem]
 refine qa (zz 64 (by omega)) ?_
 simp(disch:=omega)only[go_sem]
 refine qz cc (by simp(disch:=omega)only[go_sem,exN]) ?_
 rintro r hs ⟨rfl,rfl,_⟩
 refine⟨by simp[qO],?_⟩
 simp(disch:=omega)only[go_sem,q]
 exact qy
end Go.Ab
namespace Go.Ab
open Go Go.Proofs
theorem jr(cl:Bool)(xs:List Int)(m:Nat)(hl:xs.length≤2^39)(hx:gd xs)(hv:vl xs=(m:Int)):Con Tryz.prog 276 cl [.sl xs.length (qc xs)] [] (aFt m):=by
 refine Con.of_aw Tryz.func276 rfl Tryz.ntmps276 (by simp) (by simp) (by simp) (W.sound ?_)
 show @W Tryz.prog 24 ⟨_⟩ ⟨fun x σ=>@qW _ _ _ ⟨_⟩ _ ⟨_⟩ x σ⟩ _ _
 simp(disch:=omega)only[go_sem]
 have hcz:Ji xs=lim m:=by rw[ja hx,hv,Int.toNat_natCast]
 refine qh (fun k:Nat=>[(0,.sl xs.length (qc xs)),(2,.pt 40000000 0),(3,.v (.int .i64 k))]) (fun _=>[(40000000,.own 0 [.v (.slice none 0 0)])]) (fun k=>k≤xs.length∧Ji (xs.take k)=Ji xs) id xs.length ⟨Nat.le_refl _,by simp⟩
  (Le.lst [] _ _ rfl (by simp(disch:=omega)only[go_sem]) (by simp(disch:=omega)only[go_sem])) ?_
 intro k ⟨hk,hc⟩
 have hkx:∀j,j+1=k→xs.take k=xs.take j++[xs.getD j 0]:=fun j hj=>by rw[←hj];exact jG (by omega)
 simp(disch:=omega)only[go_sem]
 refine qe (fun h1=>?_) (fun h1=>?_)
 ·obtain⟨j,rfl⟩:∃j,k=j+1:=⟨k-1,by omega⟩
  have e1:((j+1:Nat):Int)-1=(j:Nat):=by omega
  rw[hkx j rfl]at hc
  simp(disch:=omega)only[go_sem,h1,e1]
  refine⟨by omega,by omega,qe (fun h2=>?_) (fun h2=>?_)⟩
  ·simp(disch:=omega)only[go_sem,h2,e1]
   rw[h2,Qw]at hc
   exact qb j [] ⟨by omega,hc⟩ (by show j<j+1;omega) rfl (by simp(disch:=omega)only[go_sem];try omega) (by simp(disch:=omega)only[go_sem])
  ·rw[Y6 _ h2,←hkx j rfl,hcz]at hc
   have hlm:j+1=(lim m).length:=by rw[←hc,List.length_take];omega
   have e0:(((j+1:Nat):Int)-0).toNat=(lim m).length:=by omega
   rw[hlm]at hc
   simp(disch:=omega)only[go_sem,h2,e0,hc]
   refine⟨by omega,by omega,?_⟩
   refine qg [(0,240000000)] [.own 1 (qc (lim m))] [] [.ag [.rf 0 0 (lim m).length]] rfl (by simp(disch:=omega)only[go_sem]) (by simp(disch:=omega)only[go_sem]) (by simp) (by intro _;simp[zi,AV.pu,AV.pu.puL,Ob.pu,qY]) (.inr ⟨[],rfl,by rw[List.append_nil]⟩)
 ·have hlm:k=(lim m).length:=by
   have:k=0:=by omega
   rw[←hcz,←hc,this];rfl
  subst hlm
  have hc:xs.take (lim m).length=lim m:=by
   have:lim m=[]:=List.length_eq_zero_iff.1 (by omega)
   rw[this];simp
  have e0:(((lim m).length:Int)-0).toNat=(lim m).length:=by omega
  simp(disch:=omega)only[go_sem,h1,e0,hc]
  refine⟨by omega,by omega,?_⟩
  refine qg [(0,240000000)] [.own 1 (qc (lim m))] [] [.ag [.rf 0 0 (lim m).length]] rfl (by simp(disch:=omega)only[go_sem]) (by simp(disch:=omega)only[go_sem]) (by simp) (by intro _;simp[zi,AV.pu,AV.pu.puL,Ob.pu,qY]) (.inr ⟨[],rfl,by rw[List.append_nil]⟩)
theorem Xc(cl:Bool)(n:Nat)(hn:n<2^63):Con Tryz.prog 259 cl [.v (.int .i64 n)] [] (aFt n):=by
 refine Con.of_aw Tryz.func259 rfl Tryz.ntmps259 (by simp) (by simp) (by simp) (W.sound ?_)
 show @W Tryz.prog 15 ⟨_⟩ ⟨fun x σ=>@qW _ _ _ ⟨_⟩ _ ⟨_⟩ x σ⟩ _ _
 simp(disch:=omega)only[go_sem]
 refine qh (fun x:Nat×List Int=>[(0,.v (.int .i64 x.1)),(2,.pt 2 0),(3,.rf 1 0 x.2.length)]) (fun x=>[(1,.own 1 (qc x.2)),(2,.own 0 [.v (.slice none 0 0)])]) (fun x=>x.1<2^63∧x.2++lim x.1=lim n) (fun x=>x.1) (n,[]) ⟨hn,rfl⟩
  ((Le.ghost 3 1 1 (by simp(disch:=omega)only[go_sem]) (by simp(disch:=omega)only[go_sem])).trans (Le.lst [(2,40000000)] _ _ rfl (by simp(disch:=omega)only[go_sem]) (by simp(disch:=omega)only[go_sem]))) ?_
 rintro⟨k,l⟩ ⟨hk,hl⟩
 dsimp only at hk hl ⊢
 have hlen:l.length≤4:=by
  have h1:=congrArg List.length hl
  have h2:=jC (n:=n) (k:=4) |>.2 (by omega)
  rw[List.length_append]at h1;omega
 simp(disch:=omega)only[go_sem]
 refine qe (fun h1=>?_) (fun h1=>?_)
 ·simp(disch:=omega)only[go_sem,h1]
  have hk0:k≠0:=by omega
  refine⟨by omega,qb (k/65536,l++[(k:Int) % 65536]) [(1,120000000)] ⟨by show k/65536<2^63;omega,?_⟩ (by show k/65536<k;omega) rfl (by simp(disch:=omega)only[go_sem,List.length_append];try omega) (by simp(disch:=omega)only[go_sem])⟩
  rw[j6 hk0]at hl
  rw[←hl,List.append_assoc];rfl
 ·simp(disch:=omega)only[go_sem,h1]
  have hk0:k=0:=by omega
  subst hk0
  rw[qn,List.append_nil]at hl
  subst hl
  refine qg [(0,1)] [.own 1 (qc (lim n++[]))] [] [.ag [.rf 0 0 (lim n).length]] rfl (by simp(disch:=omega)only[go_sem]) (by simp(disch:=omega)only[go_sem]) (by simp) (by intro _;simp[zi,AV.pu,AV.pu.puL,Ob.pu,qY]) (.inr ⟨[],rfl,rfl⟩)
end Go.Ab
namespace Go.Ab
open Go Go.Proofs
set_option maxRecDepth 100000 in
theorem ara(cl:Bool)(a b:Nat)(la:(lim a).length≤2000000)(lb:(lim b).length≤2000000):Con Tryz.prog 258 cl [.ag [.sl (lim (a)).length (qc (lim (a)))],.ag [.sl (lim (b)).length (qc (lim (b)))]] [] (aFt (a+b)):=by
 refine Con.of_aw Tryz.func258 rfl Tryz.ntmps258 (by simp) (by simp) (by simp) (W.sound ?_)
 show @W Tryz.prog 61 ⟨_⟩ ⟨fun x σ=>@qW _ _ _ ⟨_⟩ _ ⟨_⟩ x σ⟩ _ _
 simp(disch:=omega)only[go_sem]
 have hA:=q9 a
 have hB:=q9 b
 refine qh (fun x:Nat×List Int×Int=>[(2,.pt 3 0),(3,.pt 4 0),(4,.pt 2 0),(5,.rf 1 0 x.2.1.length),(6,.v (.int .i64 x.2.2)),(7,.v (.int .i64 x.1))])
  (fun x=>[(1,.own 1 (qc x.2.1)),(2,.own 0 [.v (.slice none 0 0)]),(3,.own 0 [.sl (lim (a)).length (qc (lim (a)))]),(4,.own 0 [.sl (lim (b)).length (qc (lim (b)))])])
  (fun x=>x.1≤max (lim a).length (lim b).length+1∧x.2.1.length=x.1∧gd x.2.1∧(0≤x.2.2∧x.2.2≤1)∧vl x.2.1+65536^x.1*x.2.2=vl ((lim a).take x.1)+vl ((lim b).take x.1)∧(max (lim a).length (lim b).length<x.1→x.2.2=0))
  (fun x=>2*(max (lim a).length (lim b).length-x.1)+x.2.2.toNat) (0,[],0) ⟨by simp,rfl,Ja,by simp,by simp[vl],fun h=>rfl⟩
  ((Le.ghost 5 1 1 (by simp(disch:=omega)only[go_sem]) (by simp(disch:=omega)only[go_sem])).trans (Le.lst [(2,60000000),(3,40000000),(4,50000000)] _ _ rfl (by simp(disch:=omega)only[go_sem]) (by simp(disch:=omega)only[go_sem]))) ?_
 rintro⟨i,out,cy⟩ ⟨hi,hol,hog,hcy,hov,hcz⟩
 dsimp only at hi hol hog hcy hov hcz ⊢
 have hx:=qJ hA i
 have hy:=qJ hB i
 have hxz:¬(i:Int)<(lim a).length→(lim a).getD i 0=0:=fun h=>by rw[List.getD_eq_getElem?_getD,List.getElem?_eq_none (by omega)];rfl
 have hyz:¬(i:Int)<(lim b).length→(lim b).getD i 0=0:=fun h=>by rw[List.getD_eq_getElem?_getD,List.getElem?_eq_none (by omega)];rfl
 have hstep:∀q:Int,q=cy+(lim a).getD i 0+(lim b).getD i 0→vl (out++[q % 65536])+65536^(i+1)*(q/65536)=vl ((lim a).take (i+1))+vl ((lim b).take (i+1)):=by
  intro q hq
  rw[js,qP,qP,hol,Int.pow_succ]
  have e3:q % 65536+65536*(q/65536)=q:=Int.emod_add_mul_ediv q 65536
  generalize (65536:Int)^i=Pi at*
  grind
 have key:∀q:Int,q=cy+(lim a).getD i 0+(lim b).getD i 0→(i:Int)<(lim a).length∨(i:Int)<(lim b).length∨0<cy→
   ((i+1≤max (lim a).length (lim b).length+1∧(out++[q % 65536]).length=i+1∧gd (out++[q % 65536])∧(0≤q/65536∧q/65536≤1)∧vl (out++[q % 65536])+65536^(i+1)*(q/65536)=vl ((lim a).take (i+1))+vl ((lim b).take (i+1))∧(max (lim a).length (lim b).length<i+1→q/65536=0))∧
   2*(max (lim a).length (lim b).length-(i+1))+(q/65536).toNat<2*(max (lim a).length (lim b).length-i)+cy.toNat):=by
  intro q hq hc
  have hle:i≤max (lim a).length (lim b).length:=by
   rcases Nat.lt_or_ge (max (lim a).length (lim b).length) i with h|h
   ·have:=hcz h;omega
   ·exact h
  have hbig:max (lim a).length (lim b).length<i+1→q/65536=0:=fun h=>by
   have:=hxz (by omega)
   have:=hyz (by omega)
   omega
  refine⟨⟨by omega,by simp[hol],qF.2 ⟨hog,zS.2 (by omega)⟩,by omega,hstep q hq,hbig⟩,?_⟩
  by_cases hm:max (lim a).length (lim b).length<i+1
  ·have:=hbig hm;omega
  ·omega
 by_cases h1:(i:Int)<(lim a).length<;>by_cases h2:(i:Int)<(lim b).length
 ·simp(disch:=omega)only[go_sem,h1,h2]
  obtain⟨k1,k2⟩:=key _ rfl (.inl h1)
  refine⟨by omega,by omega,by omega,by omega,by omega,qb (i+1,out++[(cy+(lim a).getD i 0+(lim b).getD i 0) % 65536],(cy+(lim a).getD i 0+(lim b).getD i 0)/65536) [(1,580000000)] k1 k2 rfl (by simp(disch:=omega)only[go_sem,List.length_append];try omega) (by simp(disch:=omega)only[go_sem])⟩
 ·simp(disch:=omega)only[go_sem,h1,h2]
  have e0:cy+(lim a).getD i 0=cy+(lim a).getD i 0+(lim b).getD i 0:=by rw[hyz h2];omega
  obtain⟨k1,k2⟩:=key (cy+(lim a).getD i 0) e0 (.inl h1)
  refine⟨by omega,by omega,by omega,qb (i+1,out++[(cy+(lim a).getD i 0) % 65536],(cy+(lim a).getD i 0)/65536) [(1,580000000)] k1 k2 rfl (by simp(disch:=omega)only[go_sem,List.length_append];try omega) (by simp(disch:=omega)only[go_sem])⟩
 ·simp(disch:=omega)only[go_sem,h1,h2]
  have e0:cy+(lim b).getD i 0=cy+(lim a).getD i 0+(lim b).getD i 0:=by rw[hxz h1];omega
  obtain⟨k1,k2⟩:=key (cy+(lim b).getD i 0) e0 (.inr (.inl h2))
  refine⟨by omega,by omega,by omega,qb (i+1,out++[(cy+(lim b).getD i 0) % 65536],(cy+(lim b).getD i 0)/65536) [(1,580000000)] k1 k2 rfl (by simp(disch:=omega)only[go_sem,List.length_append];try omega) (by simp(disch:=omega)only[go_sem])⟩
 ·by_cases h3:0<cy
  ·simp(disch:=omega)only[go_sem,h1,h2,h3]
   have e0:cy=cy+(lim a).getD i 0+(lim b).getD i 0:=by rw[hxz h1,hyz h2];omega
   obtain⟨k1,k2⟩:=key cy e0 (.inr (.inr h3))
   refine⟨by omega,qb (i+1,out++[cy % 65536],cy/65536) [(1,580000000)] k1 k2 rfl (by simp(disch:=omega)only[go_sem,List.length_append];try omega) (by simp(disch:=omega)only[go_sem])⟩
  ·have hcy0:cy=0:=by omega
   have hov2:vl out=((a+b:Nat):Int):=by
    rw[List.take_of_length_le (by omega),List.take_of_length_le (by omega),q7,q7,hcy0]at hov
    simp at hov;omega
   simp(disch:=omega)only[go_sem,h1,h2,h3]
   refine qz (jr true out (a+b) (by omega) hog hov2) (by simp(disch:=omega)only[go_sem]) ?_
   rintro r hs (⟨h0,rfl,rfl⟩|⟨zs,rfl,rfl⟩)
   ·refine⟨⟨by simp,by simp(disch:=omega)only[go_sem]⟩,?_⟩
    simp(disch:=omega)only[go_sem]
    refine qg [] [] [] [.ag [.v (.slice none 0 0)]] rfl (by simp(disch:=omega)only[go_sem]) (by simp(disch:=omega)only[go_sem]) (by simp) (by intro _;simp[zi,AV.pu,AV.pu.puL,Ob.pu,qY]) (.inl ⟨h0,rfl,rfl⟩)
   ·refine⟨⟨by simp,by simp(disch:=omega)only[go_sem]⟩,?_⟩
    simp(disch:=omega)only[go_sem]
    refine qg [(0,620000000)] [.own 1 (qc (lim (a+b)++zs))] [] [.ag [.rf 0 0 (lim (a+b)).length]] rfl (by simp(disch:=omega)only[go_sem]) (by simp(disch:=omega)only[go_sem]) (by simp) (by intro _;simp[zi,AV.pu,AV.pu.puL,Ob.pu,qY]) (.inr ⟨zs,rfl,rfl⟩)
end Go.Ab
namespace Go.Ab
open Go Go.Proofs
set_option maxRecDepth 100000 in
theorem akh(cl:Bool)(A:List Int)(hA:gd A)(b:Nat)(lA:A.length≤1000000)(lB:(lim b).length≤1000000)(m:Nat)(hm:vl A*(b:Int)=(m:Int)):
  Con Tryz.prog 273 cl [.ag [.sl A.length (qc A)],.ag [.sl (lim (b)).length (qc (lim (b)))]] [] (aFt m):=by
 refine Con.of_aw Tryz.func273 rfl Tryz.ntmps273 (by simp) (by simp) (by simp) (W.sound ?_)
 show @W Tryz.prog 80 ⟨_⟩ ⟨fun x σ=>@qW _ _ _ ⟨_⟩ _ ⟨_⟩ x σ⟩ _ _
 have hvb:=q7 b
 have hB:=q9 b
 generalize lim b=B at*
 simp(disch:=omega)only[go_sem]
 refine⟨by omega,?_⟩
 refine qh (fun x:Nat×List Int=>[(2,.pt 0 0),(3,.pt 1 0),(4,.pt 2 0),(5,.rf 3 0 (A.length+B.length)),(6,.v (.int .i64 x.1))])
  (fun x=>[(0,.own 0 [.sl A.length (qc A)]),(1,.own 0 [.sl B.length (qc B)]),(2,.own 0 [.v (.slice none 0 0)]),(3,.own 1 (qc x.2))])
  (fun x=>x.1≤A.length∧x.2.length=A.length+B.length∧gd x.2∧vl x.2=vl (A.take x.1)*vl B∧∀j,x.1+B.length≤j→x.2.getD j 0=0)
  (fun x=>A.length-x.1) (0,List.replicate (A.length+B.length) 0) ⟨by simp,by simp,zn _,by simp[zO,vl],fun j _=>by
   rw[List.getD_eq_getElem?_getD,List.getElem?_replicate];split<;>rfl⟩
  (Le.lst [(0,40000000),(1,50000000),(2,60000000),(3,190000000)] _ _ rfl (by simp(disch:=omega)only[go_sem];try omega) (by simp(disch:=omega)only[go_sem,show((A.length:Int)+(B.length:Int)).toNat=A.length+B.length by omega])) ?_
 rintro⟨i,out⟩ ⟨hi,hol,hog,hov,hoz⟩
 dsimp only at hi hol hog hov hoz ⊢
 simp(disch:=omega)only[go_sem]
 refine qe (fun h1=>?_) (fun h1=>?_)
 ·have hx:=qJ hA i
  simp(disch:=omega)only[go_sem,h1]
  refine qh (fun x:Nat×List Int×Int=>[(2,.pt 0 0),(3,.pt 1 0),(4,.pt 2 0),(5,.rf 3 0 (A.length+B.length)),(6,.v (.int .i64 i)),(7,.v (.int .i64 x.2.2)),(8,.v (.int .i64 x.1))])
   (fun x=>[(0,.own 0 [.sl A.length (qc A)]),(1,.own 0 [.sl B.length (qc B)]),(2,.own 0 [.v (.slice none 0 0)]),(3,.own 1 (qc x.2.1))])
   (fun x=>x.1≤B.length∧x.2.1.length=A.length+B.length∧gd x.2.1∧(0≤x.2.2∧x.2.2<65536)∧vl x.2.1+65536^(i+x.1)*x.2.2=vl out+65536^i*(A.getD i 0*vl (B.take x.1))∧∀j,i+B.length≤j→x.2.1.getD j 0=0)
   (fun x=>B.length-x.1) (0,out,0) ⟨by simp,hol,hog,by simp,by simp[vl],hoz⟩
   (Le.lst [] _ _ rfl (by simp(disch:=omega)only[go_sem];try omega) (by simp(disch:=omega)only[go_sem])) ?_
  rintro⟨j,o2,cy⟩ ⟨hj,hol2,hog2,hcy,hov2,hoz2⟩
  dsimp only at hj hol2 hog2 hcy hov2 hoz2 ⊢
  simp(disch:=omega)only[go_sem]
  refine qe (fun h2=>?_) (fun h2=>?_)
  ·have hy:=qJ hB j
   have ho:=qJ hog2 (i+j)
   have hxy:=apO hx hy
   have e1:((i:Int)+(j:Int)).toNat=i+j:=by omega
   simp(disch:=omega)only[go_sem,h2]
   refine qp rfl [⟨0,[],[]⟩,⟨1,[],[]⟩,⟨2,[],[]⟩,⟨3,[],[]⟩,⟨4,[],[]⟩,⟨5,[],[]⟩,⟨6,[5],[]⟩,⟨7,[5],[]⟩,⟨8,[5,7],[]⟩,⟨9,[5],[]⟩,⟨10,[5],[]⟩,⟨11,[5,7,10],[]⟩,⟨12,[5,7,10],[]⟩,⟨13,[5,7,10,12],[]⟩,⟨14,[5,7,10],[]⟩,⟨15,[5,7,10],[]⟩,⟨16,[5],[]⟩,⟨17,[],[]⟩,⟨18,[5,7,10,12,15],[]⟩,⟨19,[],[]⟩,⟨20,[],[]⟩] (by kernel_rfl) ?_
   simp(disch:=omega)only[go_sem,e1]
   generalize hq:o2.getD (i+j) 0+A.getD i 0*B.getD j 0+cy=q
   refine⟨by omega,by omega,by omega,by omega,by omega,by omega,by omega,by omega,qb (j+1,o2.set (i+j) (q % 65536),q/65536) [] ⟨by show j+1≤_;omega,by simp[hol2],yZ hog2 (by omega),by show 0≤q/65536∧q/65536<65536;omega,?_,fun k hk=>?_⟩
    (by show B.length-(j+1)<B.length-j;omega) rfl (by simp(disch:=omega)only[go_sem];try omega) (by simp(disch:=omega)only[go_sem])⟩
   ·show vl (o2.set (i+j) (q % 65536))+65536^(i+(j+1))*(q/65536)=vl out+65536^i*(A.getD i 0*vl (B.take (j+1)))
    rw[Q1 (by omega),jc (by omega),←Nat.add_assoc,Int.pow_succ]
    have e2:(65536:Int)^(i+j)=65536^i*65536^j:=Int.pow_add _ _ _
    have e3:q % 65536+65536*(q/65536)=q:=Int.emod_add_mul_ediv q 65536
    rw[e2]at hov2 ⊢
    generalize (65536:Int)^i=Pi at*
    generalize (65536:Int)^j=Pj at*
    grind
   ·show(o2.set (i+j) (q % 65536)).getD k 0=0
    rw[List.getD_eq_getElem?_getD,List.getElem?_set_ne (by omega),←List.getD_eq_getElem?_getD]
    exact hoz2 k hk
  ·simp(disch:=omega)only[go_sem,h2]
   have e1:((i:Int)+(B.length:Int)).toNat=i+B.length:=by omega
   have hjB:j=B.length:=by omega
   subst hjB
   rw[List.take_length]at hov2
   have hz:=hoz2 (i+B.length) (Nat.le_refl _)
   refine qp rfl [⟨0,[],[]⟩,⟨1,[],[]⟩,⟨2,[],[]⟩,⟨3,[],[]⟩,⟨4,[],[]⟩,⟨5,[],[]⟩,⟨6,[3],[]⟩,⟨7,[3],[]⟩,⟨8,[3],[]⟩,⟨9,[3],[]⟩,⟨10,[3],[]⟩,⟨11,[3],[]⟩,⟨12,[3],[]⟩,⟨13,[3],[]⟩,⟨14,[3,9,13],[]⟩,⟨15,[3],[]⟩,⟨16,[],[]⟩,⟨17,[],[]⟩] (by kernel_rfl) ?_
   simp(disch:=omega)only[go_sem,e1,hz]
   have e0:(0:Int)+cy=cy:=by omega
   refine⟨by omega,by omega,by omega,by omega,qb (i+1,o2.set (i+B.length) cy) [] ⟨by show i+1≤_;omega,by simp[hol2],yZ hog2 hcy,?_,fun k hk=>?_⟩ (by show A.length-(i+1)<A.length-i;omega) rfl (by simp(disch:=omega)only[go_sem];try omega) (by simp(disch:=omega)only[go_sem,e0])⟩
   ·show vl (o2.set (i+B.length) cy)=vl (A.take (i+1))*vl B
    rw[Q1 (by omega),hz,jc (by omega)]
    generalize (65536:Int)^i=Pi at*
    grind
   ·show(o2.set (i+B.length) cy).getD k 0=0
    rw[List.getD_eq_getElem?_getD,List.getElem?_set_ne (by show i+B.length≠k;omega),←List.getD_eq_getElem?_getD]
    exact hoz2 k (by omega)
 ·simp(disch:=omega)only[go_sem,h1]
  have hiA:i=A.length:=by omega
  subst hiA
  rw[List.take_length,hvb,hm]at hov
  rw[←hol]
  refine qz (jr true (out) (m) (by omega) (hog) (hov)) (by simp(disch:=omega)only[go_sem]) ?_
  rintro r hs (⟨h0,rfl,rfl⟩|⟨zs,rfl,rfl⟩)
  ·refine⟨⟨by simp,by simp(disch:=omega)only[go_sem]⟩,?_⟩
   simp(disch:=omega)only[go_sem]
   refine qg [] [] [] [.ag [.v (.slice none 0 0)]] rfl (by simp(disch:=omega)only[go_sem]) (by simp(disch:=omega)only[go_sem]) (by simp) (by intro _;simp[zi,AV.pu,AV.pu.puL,Ob.pu,qY]) (.inl ⟨h0,rfl,rfl⟩)
  ·refine⟨⟨by simp,by simp(disch:=omega)only[go_sem]⟩,?_⟩
   simp(disch:=omega)only[go_sem]
   refine qg [(0,810000000)] [.own 1 (qc (lim (m)++zs))] [] [.ag [.rf 0 0 (lim (m)).length]] rfl (by simp(disch:=omega)only[go_sem]) (by simp(disch:=omega)only[go_sem]) (by simp) (by intro _;simp[zi,AV.pu,AV.pu.puL,Ob.pu,qY]) (.inr ⟨zs,rfl,rfl⟩)
end Go.Ab
namespace Go.Ab
open Go Go.Proofs
def aPs(m:Nat)(r0:Int):AV→List Ob→List Ob→Prop:=fun r hs bs=>
 (m=0∧r=.tu [.ag [.v (.slice none 0 0)],.v (.int .i64 r0)]∧hs=[])∨∃zs,r=.tu [.ag [.rf 0 0 (lim m).length],.v (.int .i64 r0)]∧hs=[.own 1 (qc (lim m++zs))]
theorem Con.natF2{P:Program}{f:FuncId}{args:List AV}{m:Nat}{r0:Int}(h:Con P f false args [] (aPs m r0)):Con P f false args [] (isA (.tu [.ag [.sl (lim (m)).length (qc (lim (m)))],.v (.int .i64 r0)])):=
 Con.frzA <| h.mono fun r hs bs h=>by
  rcases h with⟨rfl,rfl,rfl⟩|⟨zs,rfl,rfl⟩
  ·show qE _ 6 _=_
   rw[qn];rfl
  ·show qE _ 6 _=_
   rw[ZO,List.map_cons,List.map_cons,List.map_nil,adO,List.map_cons,List.map_nil,jT (k:=2) (l:=lim m) (zs:=zs) qX rfl]
   rfl
theorem aaI(cl:Bool)(A:List Int)(d:Nat)(hA:gd A)(lA:A.length≤1000000)(hd:0<d)(hd2:d<65536)(m:Nat)(hm:vl A/(d:Int)=(m:Int)):
  Con Tryz.prog 279 cl [.ag [.sl A.length (qc A)],.v (.int .i64 d)] [] (aPs m (vl A % d)):=by
 refine Con.of_aw Tryz.func279 rfl Tryz.ntmps279 (by simp) (by simp) (by simp) (W.sound ?_)
 show @W Tryz.prog 42 ⟨_⟩ ⟨fun x σ=>@qW _ _ _ ⟨_⟩ _ ⟨_⟩ x σ⟩ _ _
 simp(disch:=omega)only[go_sem]
 refine⟨by omega,?_⟩
 refine qh (fun x:Nat×List Int×Int=>[(1,.v (.int .i64 d)),(2,.pt 0 0),(4,.pt 1 0),(6,.rf 2 0 A.length),(7,.v (.int .i64 x.2.2)),(8,.v (.int .i64 ((x.1:Int)-1)))])
  (fun x=>[(0,.own 0 [.sl A.length (qc A)]),(1,.own 0 [.v (.slice none 0 0)]),(2,.own 1 (qc x.2.1))])
  (fun x=>x.1≤A.length∧x.2.1.length=A.length∧gd x.2.1∧x.2.2=vl (A.drop x.1) % d∧vl (x.2.1.drop x.1)=vl (A.drop x.1)/d)
  (fun x=>x.1) (A.length,List.replicate A.length 0,0) ⟨Nat.le_refl _,by simp,zn _,by simp[vl],by simp[vl]⟩
  (Le.lst [(0,40000000),(1,60000000),(2,150000000)] _ _ rfl (by simp(disch:=omega)only[go_sem,List.length_replicate];try omega) (by simp(disch:=omega)only[go_sem])) ?_
 rintro⟨k,out,rest⟩ ⟨hk,hol,hog,hr,hov⟩
 dsimp only at hk hol hog hr hov ⊢
 have hr0:0≤rest∧rest<d:=by rw[hr];exact⟨Int.emod_nonneg _ (by omega),Int.emod_lt_of_pos _ (by omega)⟩
 simp(disch:=omega)only[go_sem]
 refine qe (fun h1=>?_) (fun h1=>?_)
 ·obtain⟨i,rfl⟩:∃i,k=i+1:=⟨k-1,by omega⟩
  have ei:((i+1:Nat):Int)-1=(i:Nat):=by omega
  have hx:=qJ hA i
  have hq6:0≤(rest*65536+A.getD i 0)/d∧(rest*65536+A.getD i 0)/d<65536:=by
   refine⟨Int.ediv_nonneg (by omega) (by omega),Int.ediv_lt_of_lt_mul (by omega) ?_⟩
   have:rest+1≤(d:Int):=by omega
   have:=Int.mul_le_mul_of_nonneg_left this (show(0:Int)≤65536 by omega)
   omega
  simp(disch:=omega)only[go_sem,h1,ei]
  generalize hq:rest*65536+A.getD i 0=q at*
  refine⟨by omega,by omega,by omega,by omega,by omega,by omega,qb (i,out.set i (q/d),q % d) [] ⟨by show i≤_;omega,by simp[hol],yZ hog hq6,?_,?_⟩ (by show i<i+1;omega) rfl (by simp(disch:=omega)only[go_sem];try omega) (by simp(disch:=omega)only[go_sem])⟩
  ·show q % d=vl (A.drop i) % d
   rw[zA (l:=A) (i:=i) (by omega),←hq,hr]
   have h3:=Int.emod_add_mul_ediv (vl (A.drop (i+1))) d
   rw[show A.getD i 0+65536*vl (A.drop (i+1))=vl (A.drop (i+1)) % d*65536+A.getD i 0+d*(65536*(vl (A.drop (i+1))/d)) by grind,Int.add_mul_emod_self_left]
  ·show vl ((out.set i (q/d)).drop i)=vl (A.drop i)/d
   rw[drop_set (by omega),vl,hov,zA (l:=A) (i:=i) (by omega),←hq,hr]
   have h3:=Int.emod_add_mul_ediv (vl (A.drop (i+1))) d
   rw[show A.getD i 0+65536*vl (A.drop (i+1))=vl (A.drop (i+1)) % d*65536+A.getD i 0+d*(65536*(vl (A.drop (i+1))/d)) by grind,Int.add_mul_ediv_left _ _ (by omega)]
 ·simp(disch:=omega)only[go_sem,h1]
  have:k=0:=by omega
  subst this
  rw[List.drop_zero,List.drop_zero,hm]at hov
  rw[List.drop_zero]at hr
  rw[←hol]
  refine qz (jr true out m (by omega) hog hov) (by simp(disch:=omega)only[go_sem]) ?_
  rintro r hs (⟨h0,rfl,rfl⟩|⟨zs,rfl,rfl⟩)
  ·refine⟨⟨by simp,by simp(disch:=omega)only[go_sem]⟩,?_⟩
   simp(disch:=omega)only[go_sem]
   rw[hr]
   refine qg [] [] [] [.ag [.v (.slice none 0 0)],.v (.int .i64 (vl A % d))] rfl (by simp(disch:=omega)only[go_sem]) (by simp(disch:=omega)only[go_sem]) (by simp) (by intro _;simp[zi,AV.pu,AV.pu.puL,Ob.pu,qY]) (.inl ⟨h0,rfl,rfl⟩)
  ·refine⟨⟨by simp,by simp(disch:=omega)only[go_sem]⟩,?_⟩
   simp(disch:=omega)only[go_sem]
   rw[hr]
   refine qg [(0,420000000)] [.own 1 (qc (lim m++zs))] [] [.ag [.rf 0 0 (lim m).length],.v (.int .i64 (vl A % d))] rfl (by simp(disch:=omega)only[go_sem]) (by simp(disch:=omega)only[go_sem]) (by simp) (by intro _;simp[zi,AV.pu,AV.pu.puL,Ob.pu,qY]) (.inr ⟨zs,rfl,rfl⟩)
/-! ### Shifts-/
theorem apg{k:Nat}(hk:k<16):IntKind.i64.wrap (1*2^(min ((k:Int)).toNat 64))=((2^k:Nat):Int):=by
 have e:min ((k:Int)).toNat 64=k:=by omega
 rw[e,Int.one_mul]
 have h:=yp k hk
 rw[akU (by omega) (by omega),Int.natCast_pow];rfl
theorem aq9(cl:Bool)(a k:Nat)(la:(lim a).length≤400000)(hk:k≤5000000):Con Tryz.prog 260 cl [.ag [.sl (lim (a)).length (qc (lim (a)))],.v (.int .i64 k)] [] (aFt (a*2^k)):=by
 refine Con.of_aw Tryz.func260 rfl Tryz.ntmps260 (by simp) (by simp) (by simp) (W.sound ?_)
 show @W Tryz.prog 22 ⟨_⟩ ⟨fun x σ=>@qW _ _ _ ⟨_⟩ _ ⟨_⟩ x σ⟩ _ _
 have hz:((lim a).length:Int)=0→a=0:=fun h=>qI.1 (List.length_eq_zero_iff.1 (by omega))
 have hvA:=q7 a
 have gA:=q9 a
 generalize hLA:lim a=A at*
 simp(disch:=omega)only[go_sem]
 refine qe (fun h1=>?_) (fun h1=>?_)
 ·simp(disch:=omega)only[go_sem,h1]
  have h0:=hz h1
  subst h0
  refine qg [] [] [] [.ag [.v (.slice none 0 0)]] rfl (by simp(disch:=omega)only[go_sem]) (by simp(disch:=omega)only[go_sem]) (by simp) (by intro _;simp[zi,AV.pu,AV.pu.puL,Ob.pu,qY]) (.inl ⟨by simp,rfl,rfl⟩)
 ·simp(disch:=omega)only[go_sem,h1]
  refine qp rfl [⟨0,[],[]⟩,⟨1,[],[]⟩,⟨3,[],[]⟩,⟨4,[],[]⟩,⟨7,[4],[]⟩,⟨8,[4],[]⟩,⟨9,[4],[]⟩,⟨2,[4],[]⟩,⟨5,[],[]⟩,⟨6,[],[]⟩,⟨10,[],[]⟩,⟨11,[],[]⟩,⟨12,[],[]⟩] (by kernel_rfl) ?_
  have e16:((k:Int)/16).toNat=k/16:=by omega
  have e17:(k:Int) % 16=((k % 16:Nat):Int):=by omega
  have es:IntKind.i64.wrap (1*2^(min ((k:Int) % 16).toNat 64))=((2^(k % 16):Nat):Int):=by rw[e17];exact apg (by omega)
  have hp15:2^(k % 16)≤2^15:=Nat.pow_le_pow_right (by omega) (by omega)
  have ecut:(List.replicate (k/16) (0:Int)).take (k/16)=List.replicate (k/16) 0:=List.take_of_length_le (by simp)
  simp(disch:=omega)only[go_sem,e16,ecut,es]
  refine⟨by omega,by omega,by simp;omega,?_⟩
  refine qa ((Xc false (2^(k % 16)) (by omega)).natF) ?_
  simp(disch:=omega)only[go_sem]
  have hvA2:vl (List.replicate (k/16) 0++A)*((2^(k % 16):Nat):Int)=((a*2^k:Nat):Int):=by
   rw[Qc,zO,hvA,List.length_replicate]
   have h2:a*2^k=65536^(k/16)*a*2^(k % 16):=by
    have:2^k=65536^(k/16)*2^(k % 16):=by rw[ZW,←Nat.pow_add,Nat.div_add_mod]
    rw[this];grind
   rw[h2,Int.natCast_mul,Int.natCast_mul,Int.natCast_pow]
   simp
  have gA2:gd (List.replicate (k/16) 0++A):=qF.2 ⟨zn _,gA⟩
  have lA2:(List.replicate (k/16) (0:Int)++A).length=k/16+A.length:=by simp
  have et:(List.replicate (k/16) (0:Int)++A).take (k/16+A.length)=List.replicate (k/16) 0++A:=List.take_of_length_le (by simp)
  have l2s:(lim (2^(k % 16))).length≤1000000:=by
   have:=qD (m:=2^(k % 16)) (B:=16) (zE.2 (by omega));omega
  refine qz (akh true (List.replicate (k/16) 0++A) gA2 (2^(k % 16)) (by omega) l2s (a*2^k) hvA2) (by simp(disch:=omega)only[go_sem,lA2,et]) ?_
  rintro r hs (⟨h0,rfl,rfl⟩|⟨zs,rfl,rfl⟩)
  ·refine⟨⟨by simp,by simp(disch:=omega)only[go_sem]⟩,?_⟩
   simp(disch:=omega)only[go_sem]
   refine qg [] [] [] [.ag [.v (.slice none 0 0)]] rfl (by simp(disch:=omega)only[go_sem]) (by simp(disch:=omega)only[go_sem]) (by simp) (by intro _;simp[zi,AV.pu,AV.pu.puL,Ob.pu,qY]) (.inl ⟨h0,rfl,rfl⟩)
  ·refine⟨⟨by simp,by simp(disch:=omega)only[go_sem]⟩,?_⟩
   simp(disch:=omega)only[go_sem]
   refine qg [(0,230000000)] [.own 1 (qc (lim (a*2^k)++zs))] [] [.ag [.rf 0 0 (lim (a*2^k)).length]] rfl (by simp(disch:=omega)only[go_sem]) (by simp(disch:=omega)only[go_sem]) (by simp) (by intro _;simp[zi,AV.pu,AV.pu.puL,Ob.pu,qY]) (.inr ⟨zs,rfl,rfl⟩)
end Go.Ab
namespace Go.Ab
open Go Go.Proofs
theorem aq8(a k:Nat)(la:(lim a).length≤1000000)(hk:k≤100000000):Con Tryz.prog 257 false [.ag [.sl (lim (a)).length (qc (lim (a)))],.v (.int .i64 k)] [] (isA (.ag [.sl (lim (a/2^k)).length (qc (lim (a/2^k)))])):=by
 refine Con.frzA ?_
 refine Con.of_aw Tryz.func257 rfl Tryz.ntmps257 (by simp) (by simp) (by simp) (W.sound ?_)
 show @W Tryz.prog 28 ⟨_⟩ ⟨fun x σ=>@qW _ _ _ ⟨_⟩ _ ⟨_⟩ x σ⟩ _ _
 simp(disch:=omega)only[go_sem]
 refine qe (fun h1=>?_) (fun h1=>?_)
 ·simp(disch:=omega)only[go_sem,h1]
  have h0:a/2^k=0:=by
   refine Nat.div_eq_of_lt (Nat.lt_of_lt_of_le (Z2 a) ?_)
   rw[ZW];exact Nat.pow_le_pow_right (by omega) (by omega)
  rw[h0,qn]
  exact ql
 ·simp(disch:=omega)only[go_sem,h1]
  refine qp rfl [⟨0,[],[]⟩,⟨1,[],[]⟩,⟨2,[1],[]⟩,⟨3,[1],[]⟩,⟨4,[],[]⟩,⟨5,[],[]⟩,⟨6,[1,4],[]⟩,⟨7,[1,4],[]⟩,⟨8,[1,4],[]⟩,⟨13,[1,4],[]⟩,⟨9,[],[70000000]⟩,⟨10,[],[70000000]⟩,⟨11,[],[70000000]⟩,⟨12,[],[70000000]⟩,⟨14,[],[]⟩,⟨15,[],[]⟩] (by kernel_rfl) ?_
  have e16:((k:Int)/16).toNat=k/16:=by omega
  have e17:(k:Int) % 16=((k % 16:Nat):Int):=by omega
  have e18:(((lim a).length:Int)-(k:Int)/16).toNat=((lim a).drop (k/16)).length:=by simp;omega
  have es:IntKind.i64.wrap (1*2^(min ((k:Int) % 16).toNat 64))=((2^(k % 16):Nat):Int):=by rw[e17];exact apg (by omega)
  have hp15:2^(k % 16)≤2^15:=Nat.pow_le_pow_right (by omega) (by omega)
  have hp0:0<2^(k % 16):=Nat.pow_pos (by omega)
  have hvD:=ae0 (q9 a) (i:=k/16) (by omega)
  have gD:=yw (q9 a) (k/16)
  have hlD:((lim a).drop (k/16)).length≤1000000:=by simp;omega
  have hm:vl ((lim a).drop (k/16))/((2^(k % 16):Nat):Int)=((a/2^k:Nat):Int):=by
   rw[←hvD,q7]
   have:a/2^k=a/65536^(k/16)/2^(k % 16):=by rw[Nat.div_div_eq_div_mul,ZW,←Nat.pow_add,Nat.div_add_mod]
   rw[this,Int.natCast_ediv,Int.natCast_ediv,Int.natCast_pow 65536];rfl
  have et:((lim a).drop (k/16)).take ((lim a).drop (k/16)).length=(lim a).drop (k/16):=List.take_length
  simp(disch:=omega)only[go_sem,e16,e18,et,es]
  generalize (lim a).drop (k/16)=D at*
  refine⟨by omega,by omega,?_⟩
  refine qa ((aaI false D (2^(k % 16)) gD hlD hp0 (by omega) (a/2^k) hm).natF2) ?_
  simp(disch:=omega)only[go_sem]
  exact ql
theorem aaJ(m:Nat)(i:Int)(hl:(lim m).length≤2^40)(hi:0≤i)(hi2:i<2^62):Con Tryz.prog 197 true [.ag [.sl (lim (m)).length (qc (lim (m)))],.v (.int .i64 i)] [] (isA (.v (.int .i64 ((m/2^i.toNat % 2:Nat):Int)))):=by
 refine Con.of_w (rs:=[.tmp 4]) Tryz.func197 rfl Tryz.ntmps197 rfl ?_
 obtain⟨k,rfl⟩:=Int.eq_ofNat_of_zero_le hi
 rw[Int.toNat_natCast]
 have h0:¬((k:Int)<0):=by omega
 have e16:((k:Int)/16).toNat=k/16:=by omega
 have em:min ((k:Int) % 16).toNat 64=k % 16:=by omega
 have hb:=arI m k
 simp(disch:=omega)only[go_sem,h0]
 refine qe (fun h1=>?_) (fun h1=>?_)
 ·simp(disch:=omega)only[go_sem,h1]
  have:m/2^k % 2=0:=by
   rw[←hb]
   have h2:=zX m (k/16)
   rw[List.getD_eq_getElem?_getD,List.getElem?_eq_none (by omega)]at h2
   have h3:m/65536^(k/16) % 65536=0:=by simp only[Option.getD_none]at h2;omega
   rw[h3];simp
  rw[this]
  exact qy
 ·have hx:=qJ (q9 m) (k/16)
  have hp:(0:Int)<2^(k % 16):=Int.pow_pos (by omega)
  have efd:∀x:Int,x.fdiv (2^(k % 16))=x/2^(k % 16):=fun x=>Int.fdiv_eq_ediv_of_nonneg _ (Int.le_of_lt hp)
  have hq:0≤(lim m).getD (k/16) 0/2^(k % 16)∧(lim m).getD (k/16) 0/2^(k % 16)<65536:=by
   refine⟨Int.ediv_nonneg hx.1 (Int.le_of_lt hp),Int.lt_of_le_of_lt (Int.ediv_le_self _ hx.1) hx.2⟩
  have hr:(lim m).getD (k/16) 0/2^(k % 16) % 2=((m/2^k % 2:Nat):Int):=by
   rw[←hb,zX]
   generalize m/65536^(k/16) % 65536=x
   rw[Int.natCast_emod,Int.natCast_ediv,Int.natCast_pow];rfl
  simp(disch:=omega)only[go_sem,h1,e16,em,efd,hr]
  refine⟨by omega,by omega,by omega,?_⟩
  exact qy
theorem asg{m i:Nat}(hz:∀j,j<i→m/2^j % 2=0)(h1:m/2^i % 2=1):tz m=i:=by
 have key:∀k,k≤i→2^k*(m/2^k)=m:=by
  intro k
  induction k with
  |zero=>intro _;simp
  |succ k ih=>
   intro hk
   have h2:=ih (by omega)
   have h3:=hz k (by omega)
   have h4:m/2^(k+1)=m/2^k/2:=by rw[Nat.pow_succ,Nat.div_div_eq_div_mul]
   rw[h4,Nat.pow_succ,Nat.mul_assoc,show 2*(m/2^k/2)=m/2^k by omega];exact h2
 refine QD (a:=m/2^i/2) ?_
 have:=key i (Nat.le_refl _)
 rw[show 2*(m/2^i/2)+1=m/2^i by omega];exact this.symm
theorem aey(m:Nat)(hl:(lim m).length≤2^40):Con Tryz.prog 256 true [.ag [.sl (lim (m)).length (qc (lim (m)))]] [] (isA (.v (.int .i64 (tz m)))):=by
 refine Con.of_w (rs:=[.tmp 2]) Tryz.func256 rfl Tryz.ntmps256 rfl ?_
 simp(disch:=omega)only[go_sem]
 refine qh (fun i:Nat=>[(1,.pt 0 0),(3,.v (.int .i64 i))]) (fun _=>[(0,.own 0 [.sl (lim (m)).length (qc (lim (m)))])]) (fun i=>i≤16*(lim m).length∧∀j,j<i→m/2^j % 2=0) (fun i=>16*(lim m).length-i) 0 ⟨by omega,fun j hj=>by omega⟩ (Le.lst [(0,30000000)] _ _ rfl (by simp(disch:=omega)only[go_sem];try omega) (by simp(disch:=omega)only[go_sem])) ?_
 rintro i ⟨hi,hz⟩
 simp(disch:=omega)only[go_sem]
 refine qe (fun h1=>?_) (fun h1=>?_)
 ·simp(disch:=omega)only[go_sem,h1]
  refine qk (aaJ m i hl (by omega) (by omega)) ?_
  simp(disch:=omega)only[go_sem]
  refine qe (fun h2=>?_) (fun h2=>?_)
  ·simp(disch:=omega)only[go_sem,h2]
   have:=asg hz (by omega)
   rw[this]
   exact qy
  ·simp(disch:=omega)only[go_sem,h2]
   refine qb (i+1) [] ⟨by omega,fun j hj=>?_⟩ (by show 16*(lim m).length-(i+1)<16*(lim m).length-i;omega) rfl (by simp(disch:=omega)only[go_sem];try omega) (by simp(disch:=omega)only[go_sem])
   rcases(by omega:j<i∨j=i)with h|h
   ·exact hz j h
   ·subst h;omega
 ·simp(disch:=omega)only[go_sem,h1]
  have hm:m=0:=by
   have h3:=afK (m:=m)
   rcases Nat.eq_zero_or_pos m with h|h
   ·exact h
   ·have h4:=yD (n:=m) (by omega)
    have h5:=(Qn (n:=m) (by omega)).1
    have:=hz (tz m) (by omega)
    omega
  subst hm
  rw[akY]
  exact qy
end Go.Ab
namespace Go.Ab
open Go Go.Proofs
theorem aPC(m:Nat):decide ((0:Int)<((lim m).length:Int))=decide (m≠0):=by
 rw[decide_eq_decide]
 exact⟨fun h e=>by rw[e,qn]at h;simp at h,fun h=>by have:=Qp h;omega⟩
theorem Js(m:Nat)(hl:(lim m).length≤2^39):Con Tryz.prog 276 false [.sl (lim (m)).length (qc (lim (m)))] [] (isA (.ag [.sl (lim (m)).length (qc (lim (m)))])):=(jr false (lim m) m hl (q9 m) (q7 m)).natF
theorem Jr(n:Nat)(hn:n<2^63):Con Tryz.prog 259 false [.v (.int .i64 n)] [] (isA (.ag [.sl (lim (n)).length (qc (lim (n)))])):=(Xc false n hn).natF
theorem Yl(a b:Nat)(la:(lim a).length≤2000000)(lb:(lim b).length≤2000000):Con Tryz.prog 258 false [.ag [.sl (lim (a)).length (qc (lim (a)))],.ag [.sl (lim (b)).length (qc (lim (b)))]] [] (isA (.ag [.sl (lim (a+b)).length (qc (lim (a+b)))])):=(ara false a b la lb).natF
theorem Yj(a k:Nat)(la:(lim a).length≤400000)(hk:k≤5000000):Con Tryz.prog 260 false [.ag [.sl (lim (a)).length (qc (lim (a)))],.v (.int .i64 k)] [] (isA (.ag [.sl (lim (a*2^k)).length (qc (lim (a*2^k)))])):=(aq9 false a k la hk).natF
theorem zv(s:Bool)(m:Nat)(hl:(lim m).length≤2^39):Con Tryz.prog 246 false [.v (.bool s),.ag [.sl (lim (m)).length (qc (lim (m)))]] [] (isA (.ag [.v (.bool (s&&decide (m≠0))),.sl (lim (m)).length (qc (lim (m)))])):=by
 refine Con.frzA ?_
 refine Con.of_w (rs:=[.cell 4 38]) Tryz.func246 rfl Tryz.ntmps246 rfl ?_
 simp(disch:=omega)only[go_sem]
 refine qp rfl [⟨0,[],[]⟩,⟨1,[],[]⟩,⟨2,[],[]⟩,⟨3,[],[]⟩,⟨4,[],[]⟩,⟨5,[],[]⟩,⟨6,[],[]⟩,⟨7,[3],[]⟩,⟨8,[3],[]⟩,⟨9,[3],[]⟩,⟨10,[],[]⟩,⟨11,[],[]⟩] (by kernel_rfl) ?_
 simp(disch:=omega)only[go_sem]
 refine yT (fun h1=>?_) (fun h1=>?_)
 ·simp(disch:=omega)only[go_sem,h1,aPC]
  refine qa (Js m hl) ?_
  simp(disch:=omega)only[go_sem]
  exact ql (hp:=by simp(disch:=omega)only[go_sem,h1,Bool.true_and])
 ·simp(disch:=omega)only[go_sem,h1]
  refine qa (Js m hl) ?_
  simp(disch:=omega)only[go_sem]
  exact ql (hp:=by simp(disch:=omega)only[go_sem,h1,Bool.false_and])
theorem Xb(n:Int)(h: -9223372036854775808≤n∧n<9223372036854775808):Con Tryz.prog 205 false [.v (.int .i64 n)] [] (isA (.ag [.v (.bool (decide (n<0))),.sl (lim (n.natAbs)).length (qc (lim (n.natAbs)))])):=by
 refine Con.frzA ?_
 refine Con.of_aw Tryz.func205 rfl Tryz.ntmps205 (by simp) (by simp) (by simp) (W.sound ?_)
 show @W Tryz.prog 15 ⟨_⟩ ⟨fun x σ=>@qW _ _ _ ⟨_⟩ _ ⟨_⟩ x σ⟩ _ _
 simp(disch:=omega)only[go_sem]
 refine qe (fun h1=>?_) (fun h1=>?_)
 ·simp(disch:=omega)only[go_sem,h1]
  have e1:0-(n+1)=(((0-(n+1)).toNat:Nat):Int):=by omega
  refine qa (Jr (0-(n+1)).toNat (by omega)) ?_ (by simp(disch:=omega)only[go_sem,←e1])
  simp(disch:=omega)only[go_sem]
  refine qa (Jr 1 (by omega)) ?_
  simp(disch:=omega)only[go_sem]
  have l1:=qD (m:=(0-(n+1)).toNat) (B:=64) (zE.2 (by omega))
  have l2:=qD (m:=1) (B:=64) (by decide)
  refine qa (Yl (0-(n+1)).toNat 1 (by omega) (by omega)) ?_
  simp(disch:=omega)only[go_sem]
  have e2:(0-(n+1)).toNat+1=n.natAbs:=by omega
  have l3:=qD (m:=(0-(n+1)).toNat+1) (B:=64) (zE.2 (by omega))
  refine qa (zv true ((0-(n+1)).toNat+1) (by omega)) ?_
  simp(disch:=omega)only[go_sem]
  refine qQ (by simp(disch:=omega)only[go_sem]) ?_
  show qE _ 6 _=_
  have e3:decide (n.natAbs≠0)=true:=by simp;omega
  rw[e2]
  simp(disch:=omega)only[go_sem,e3,h1,Bool.true_and]
 ·simp(disch:=omega)only[go_sem,h1]
  have e1:n=((n.natAbs:Nat):Int):=by omega
  refine qa (Jr n.natAbs (by omega)) ?_ (by simp(disch:=omega)only[go_sem,←e1])
  simp(disch:=omega)only[go_sem]
  have l3:=qD (m:=n.natAbs) (B:=64) (zE.2 (by omega))
  refine qa (zv false n.natAbs (by omega)) ?_
  simp(disch:=omega)only[go_sem]
  exact ql (hp:=by simp(disch:=omega)only[go_sem,h1,Bool.false_and])
theorem yQ(s:Bool)(m:Nat)(e:Int)(hm:bl m≤8000000)(he: -2^40≤e∧e≤2^40):Con Tryz.prog 204 false [.ag [.v (.bool (s)),.sl (lim (m)).length (qc (lim (m)))],.v (.int .i64 e)] [] (isA (.ag [.v (.bool (oS s m)),.sl (lim (oM m)).length (qc (lim (oM m))),.v (.int .i64 (oE m e))])):=by
 refine Con.frzA ?_
 refine Con.of_aw Tryz.func204 rfl Tryz.ntmps204 (by simp) (by simp) (by simp) (W.sound ?_)
 show @W Tryz.prog 26 ⟨_⟩ ⟨fun x σ=>@qW _ _ _ ⟨_⟩ _ ⟨_⟩ x σ⟩ _ _
 simp(disch:=omega)only[go_sem]
 have hl:=qD hm
 refine qe (fun h1=>?_) (fun h1=>?_)
 ·simp(disch:=omega)only[go_sem,h1]
  have h0:m=0:=qI.1 (List.length_eq_zero_iff.1 (by omega))
  subst h0
  refine qQ (by simp(disch:=omega)only[go_sem]) ?_
  show qE _ 6 _=_
  simp only[oS,Z1,oE,qn,if_true]
  simp(disch:=omega)only[go_sem]
 ·have h0:m≠0:=fun e=>h1 (by rw[e,qn];rfl)
  have ht:=yD h0
  simp(disch:=omega)only[go_sem,h1]
  refine qk (aey m (by omega)) ?_
  simp(disch:=omega)only[go_sem]
  refine qp rfl [⟨0,[],[]⟩,⟨1,[],[]⟩,⟨2,[1],[]⟩,⟨3,[1],[]⟩,⟨4,[1,3],[]⟩,⟨7,[1,3],[]⟩,⟨8,[1,3],[]⟩,⟨9,[1,3],[]⟩,⟨5,[1],[]⟩,⟨6,[],[]⟩,⟨10,[],[]⟩,⟨11,[],[]⟩] (by kernel_rfl) ?_
  simp(disch:=omega)only[go_sem]
  refine qa (aq8 m (tz m) (by omega) (by omega)) ?_
  simp(disch:=omega)only[go_sem]
  have l3:=qD (Nat.le_trans (Xq m (2^tz m)) hm)
  refine qa (zv s (m/2^tz m) (by omega)) ?_
  simp(disch:=omega)only[go_sem]
  refine qQ (by simp(disch:=omega)only[go_sem]) ?_
  show qE _ 6 _=_
  have h3:decide (m/2^tz m≠0)=true:=by
   have:=(Qn h0).1
   simp only[decide_eq_true_eq];omega
  simp only[oS,oM,oE,if_neg h0]
  simp(disch:=omega)only[go_sem,h3,Bool.and_true]
end Go.Ab
namespace Go.Ab
open Go Go.Proofs
theorem Jt(a b:Nat)(la:(lim a).length≤2^40)(lb:(lim b).length≤2^40):
  Con Tryz.prog 261 true [.ag [.sl (lim (a)).length (qc (lim (a)))],.ag [.sl (lim (b)).length (qc (lim (b)))]] [] (isA (.v (.int .i64 (zt a b)))):=by
 refine Con.of_w (rs:=[.tmp 4]) Tryz.func261 rfl Tryz.ntmps261 rfl ?_
 simp(disch:=omega)only[go_sem]
 refine zB (fun h1=>?_) (fun h1=>?_)
 ·simp(disch:=omega)only[go_sem,h1]
  refine qe (fun h2=>?_) (fun h2=>?_)
  ·simp(disch:=omega)only[go_sem,h2]
   have:=Qq (a:=a) (b:=b) (by omega)
   rw[show zt (a:Int) (b:Int)= -1 by unfold zt;rw[if_pos (by omega)]]
   exact qy
  ·simp(disch:=omega)only[go_sem,h2]
   have:=Qq (a:=b) (b:=a) (by omega)
   rw[show zt (a:Int) (b:Int)=1 by unfold zt;rw[if_neg (by omega),if_pos (by omega)]]
   exact qy
 ·simp(disch:=omega)only[go_sem,h1]
  have hl:(lim a).length=(lim b).length:=by omega
  refine qh (fun k:Nat=>[(2,.pt 40000000 0),(3,.pt 50000000 0),(5,.v (.int .i64 ((k:Int)-1)))])
   (fun _=>[(40000000,.own 0 [.sl (lim (a)).length (qc (lim (a)))]),(50000000,.own 0 [.sl (lim (b)).length (qc (lim (b)))])]) (fun k=>k≤(lim a).length∧(lim a).drop k=(lim b).drop k) (fun k=>k) (lim a).length ⟨Nat.le_refl _,by rw[List.drop_length,hl,List.drop_length]⟩ (Le.lst [] _ _ rfl (by simp(disch:=omega)only[go_sem];try omega) (by simp(disch:=omega)only[go_sem])) ?_
  rintro k ⟨hk,hd⟩
  simp(disch:=omega)only[go_sem]
  refine qe (fun h2=>?_) (fun h2=>?_)
  ·obtain⟨i,rfl⟩:∃i,k=i+1:=⟨k-1,by omega⟩
   have ei:((i+1:Nat):Int)-1=(i:Nat):=by omega
   have hva:=q7 a
   have hvb:=q7 b
   simp(disch:=omega)only[go_sem,h2,ei]
   refine qp rfl [⟨0,[],[]⟩,⟨1,[],[]⟩,⟨2,[1],[]⟩,⟨3,[],[]⟩,⟨4,[],[]⟩,⟨5,[1,4],[]⟩,⟨6,[1,4],[]⟩,⟨7,[1,4,6],[]⟩,⟨8,[1,4],[]⟩,⟨9,[1,4],[]⟩,⟨10,[],[]⟩] (by kernel_rfl) ?_
   simp(disch:=omega)only[go_sem,ei]
   refine⟨by omega,by omega,by omega,by omega,?_⟩
   refine qe (fun h3=>?_) (fun h3=>?_)
   ·simp(disch:=omega)only[go_sem,h3]
    have:=Zn (q9 a) (q9 b) (by omega) hl hd h3
    rw[show zt (a:Int) (b:Int)= -1 by unfold zt;rw[if_pos (by omega)]]
    exact qy
   ·simp(disch:=omega)only[go_sem,h3]
    refine qp rfl [⟨0,[],[]⟩,⟨1,[],[]⟩,⟨2,[1],[]⟩,⟨3,[],[]⟩,⟨4,[],[]⟩,⟨5,[1,4],[]⟩,⟨6,[1,4],[]⟩,⟨7,[1,4,6],[]⟩,⟨8,[1,4],[]⟩,⟨9,[1,4],[]⟩,⟨10,[],[]⟩] (by kernel_rfl) ?_
    simp(disch:=omega)only[go_sem,ei]
    refine⟨by omega,by omega,by omega,by omega,?_⟩
    refine qe (fun h4=>?_) (fun h4=>?_)
    ·simp(disch:=omega)only[go_sem,h4]
     have:=Zn (q9 b) (q9 a) (by omega) hl.symm hd.symm h4
     rw[show zt (a:Int) (b:Int)=1 by unfold zt;rw[if_neg (by omega),if_pos (by omega)]]
     exact qy
    ·simp(disch:=omega)only[go_sem,h4]
     refine qb i [] ⟨by omega,?_⟩ (by show i<i+1;omega) rfl (by simp(disch:=omega)only[go_sem];try omega) (by simp(disch:=omega)only[go_sem])
     have h5:(lim a).getD i 0=(lim b).getD i 0:=by omega
     rw[yy (l:=lim a) (by omega),yy (l:=lim b) (by omega),h5,hd]
  ·simp(disch:=omega)only[go_sem,h2]
   have:k=0:=by omega
   subst this
   rw[List.drop_zero,List.drop_zero]at hd
   have:=yu hd
   subst this
   rw[show zt (a:Int) (a:Int)=0 by simp[zt]]
   exact qy
theorem aq7(cl:Bool)(a b:Nat)(hle:b≤a)(la:(lim a).length≤1000000):Con Tryz.prog 278 cl [.ag [.sl (lim (a)).length (qc (lim (a)))],.ag [.sl (lim (b)).length (qc (lim (b)))]] [] (aFt (a-b)):=by
 have lB:(lim b).length≤(lim a).length:=yM hle
 have hA:=q9 a
 have hB:=q9 b
 refine Con.of_aw Tryz.func278 rfl Tryz.ntmps278 (by simp) (by simp) (by simp) (W.sound ?_)
 show @W Tryz.prog 45 ⟨_⟩ ⟨fun x σ=>@qW _ _ _ ⟨_⟩ _ ⟨_⟩ x σ⟩ _ _
 simp(disch:=omega)only[go_sem]
 refine qh (fun x:Nat×List Int×Int=>[(2,.pt 2 0),(3,.pt 3 0),(4,.pt 4 0),(5,.rf 1 0 x.2.1.length),(6,.v (.int .i64 x.2.2)),(7,.v (.int .i64 x.1))])
  (fun x=>[(1,.own 1 (qc x.2.1)),(2,.own 0 [.sl (lim (a)).length (qc (lim (a)))]),(3,.own 0 [.sl (lim (b)).length (qc (lim (b)))]),(4,.own 0 [.v (.slice none 0 0)])])
  (fun x=>x.1≤(lim a).length∧x.2.1.length=x.1∧gd x.2.1∧(0≤x.2.2∧x.2.2≤1)∧vl x.2.1-65536^x.1*x.2.2=vl ((lim a).take x.1)-vl ((lim b).take x.1))
  (fun x=>(lim a).length-x.1) (0,[],0) ⟨by simp,rfl,Ja,by simp,by simp[vl]⟩
  ((Le.ghost 5 1 1 (by simp(disch:=omega)only[go_sem]) (by simp(disch:=omega)only[go_sem])).trans (Le.lst [(2,40000000),(3,50000000),(4,60000000)] _ _ rfl (by simp(disch:=omega)only[go_sem]) (by simp(disch:=omega)only[go_sem]))) ?_
 rintro⟨i,out,bo⟩ ⟨hi,hol,hog,hbo,hov⟩
 dsimp only at hi hol hog hbo hov ⊢
 simp(disch:=omega)only[go_sem]
 refine qe (fun h1=>?_) (fun h1=>?_)
 ·have hx:=qJ hA i
  have hy:=qJ hB i
  have hstep:∀z b':Int,(lim a).getD i 0-bo-(lim b).getD i 0=z-65536*b'→vl (out++[z])-65536^(i+1)*b'=vl ((lim a).take (i+1))-vl ((lim b).take (i+1)):=by
   intro z b' hz
   rw[js,qP,qP,hol,Int.pow_succ]
   generalize (65536:Int)^i=Pi at*
   grind
  have hyz:¬i<(lim b).length→(lim b).getD i 0=0:=fun h=>by rw[List.getD_eq_getElem?_getD,List.getElem?_eq_none (by omega)];rfl
  simp(disch:=omega)only[go_sem,h1]
  refine⟨by omega,by omega,qe (fun h2=>?_) (fun h2=>?_)⟩
  ·simp(disch:=omega)only[go_sem,h2]
   refine⟨by omega,by omega,qe (fun h3=>?_) (fun h3=>?_)⟩
   ·simp(disch:=omega)only[go_sem,h3]
    refine⟨by omega,qb (i+1,out++[(lim a).getD i 0-bo-(lim b).getD i 0+65536],1) [(1,440000000)] ⟨by show i+1≤_;omega,by simp[hol],qF.2 ⟨hog,zS.2 (by omega)⟩,by simp,hstep ((lim a).getD i 0-bo-(lim b).getD i 0+65536) 1 (by omega)⟩ (by show(lim a).length-(i+1)<(lim a).length-i;omega) rfl (by simp(disch:=omega)only[go_sem,List.length_append];try omega) (by simp(disch:=omega)only[go_sem])⟩
   ·simp(disch:=omega)only[go_sem,h3]
    refine⟨by omega,qb (i+1,out++[(lim a).getD i 0-bo-(lim b).getD i 0],0) [(1,440000000)] ⟨by show i+1≤_;omega,by simp[hol],qF.2 ⟨hog,zS.2 (by omega)⟩,by simp,hstep ((lim a).getD i 0-bo-(lim b).getD i 0) 0 (by omega)⟩ (by show(lim a).length-(i+1)<(lim a).length-i;omega) rfl (by simp(disch:=omega)only[go_sem,List.length_append];try omega) (by simp(disch:=omega)only[go_sem])⟩
  ·simp(disch:=omega)only[go_sem,h2]
   refine qe (fun h3=>?_) (fun h3=>?_)
   ·simp(disch:=omega)only[go_sem,h3]
    have hy0:=hyz (by omega)
    refine⟨by omega,qb (i+1,out++[(lim a).getD i 0-bo+65536],1) [(1,440000000)] ⟨by show i+1≤_;omega,by simp[hol],qF.2 ⟨hog,zS.2 (by omega)⟩,by simp,hstep ((lim a).getD i 0-bo+65536) 1 (by omega)⟩ (by show(lim a).length-(i+1)<(lim a).length-i;omega) rfl (by simp(disch:=omega)only[go_sem,List.length_append];try omega) (by simp(disch:=omega)only[go_sem])⟩
   ·simp(disch:=omega)only[go_sem,h3]
    have hy0:=hyz (by omega)
    refine⟨by omega,qb (i+1,out++[(lim a).getD i 0-bo],0) [(1,440000000)] ⟨by show i+1≤_;omega,by simp[hol],qF.2 ⟨hog,zS.2 (by omega)⟩,by simp,hstep ((lim a).getD i 0-bo) 0 (by omega)⟩ (by show(lim a).length-(i+1)<(lim a).length-i;omega) rfl (by simp(disch:=omega)only[go_sem,List.length_append];try omega) (by simp(disch:=omega)only[go_sem])⟩
 ·simp(disch:=omega)only[go_sem,h1]
  have hiA:i=(lim a).length:=by omega
  subst hiA
  rw[List.take_length,List.take_of_length_le lB]at hov
  have hva:=q7 a
  have hvb:=q7 b
  have hb0:bo=0:=by
   have h2:=QB hog
   rw[hol]at h2
   rcases(by omega:bo=0∨bo=1)with h|h
   ·exact h
   ·subst h;omega
  subst hb0
  have hov2:vl out=((a-b:Nat):Int):=by omega
  refine qz (jr true out (a-b) (by omega) hog hov2) (by simp(disch:=omega)only[go_sem]) ?_
  rintro r hs (⟨h0,rfl,rfl⟩|⟨zs,rfl,rfl⟩)
  ·refine⟨⟨by simp,by simp(disch:=omega)only[go_sem]⟩,?_⟩
   simp(disch:=omega)only[go_sem]
   refine qg [] [] [] [.ag [.v (.slice none 0 0)]] rfl (by simp(disch:=omega)only[go_sem]) (by simp(disch:=omega)only[go_sem]) (by simp) (by intro _;simp[zi,AV.pu,AV.pu.puL,Ob.pu,qY]) (.inl ⟨h0,rfl,rfl⟩)
  ·refine⟨⟨by simp,by simp(disch:=omega)only[go_sem]⟩,?_⟩
   simp(disch:=omega)only[go_sem]
   refine qg [(0,460000000)] [.own 1 (qc (lim (a-b)++zs))] [] [.ag [.rf 0 0 (lim (a-b)).length]] rfl (by simp(disch:=omega)only[go_sem]) (by simp(disch:=omega)only[go_sem]) (by simp) (by intro _;simp[zi,AV.pu,AV.pu.puL,Ob.pu,qY]) (.inr ⟨zs,rfl,rfl⟩)
end Go.Ab
namespace Go.Ab
open Go Go.Proofs
theorem Yi(a b:Nat)(hle:b≤a)(la:(lim a).length≤1000000):Con Tryz.prog 278 false [.ag [.sl (lim (a)).length (qc (lim (a)))],.ag [.sl (lim (b)).length (qc (lim (b)))]] [] (isA (.ag [.sl (lim (a-b)).length (qc (lim (a-b)))])):=(aq7 false a b hle la).natF
theorem aq6(s1:Bool)(m1:Nat)(s2:Bool)(m2:Nat)(h1:bl m1≤6000000)(h2:bl m2≤6000000):
  Con Tryz.prog 251 false [.ag [.v (.bool (s1)),.sl (lim (m1)).length (qc (lim (m1)))],.ag [.v (.bool (s2)),.sl (lim (m2)).length (qc (lim (m2)))]] [] (isA (.ag [.v (.bool (suS s1 m1 s2 m2)),.sl (lim (suM s1 m1 s2 m2)).length (qc (lim (suM s1 m1 s2 m2)))])):=by
 refine Con.frzA ?_
 have l1:=qD h1
 have l2:=qD h2
 have hge:(0≤zt (m1:Int) (m2:Int))↔m2≤m1:=by rw[ars.2.2];omega
 have hb:=afI (s1:=s1) (s2:=s2) h1 h2
 have l3:=qD hb
 rw[←api]
 refine Con.of_w (rs:=[.cell 4 38]) Tryz.func251 rfl Tryz.ntmps251 rfl ?_
 simp(disch:=omega)only[go_sem]
 refine yT (fun c1=>?_) (fun c1=>?_)
 ·have c1':s1=s2:=by simpa using c1
  simp(disch:=omega)only[go_sem,c1]
  subst c1'
  rw[afc,afb]at*
  refine qp rfl [⟨0,[],[]⟩,⟨1,[],[]⟩,⟨2,[1],[]⟩,⟨3,[1],[]⟩,⟨4,[1,3],[]⟩,⟨5,[1,3],[]⟩,⟨6,[1],[]⟩,⟨7,[],[]⟩,⟨8,[],[]⟩] (by kernel_rfl) ?_
  simp(disch:=omega)only[go_sem]
  refine qa (Yl m1 m2 (by omega) (by omega)) ?_
  simp(disch:=omega)only[go_sem]
  refine qa (zv s1 (m1+m2) (by omega)) ?_
  simp(disch:=omega)only[go_sem]
  exact ql
 ·have c1':s1≠s2:=by simpa using c1
  simp(disch:=omega)only[go_sem,c1]
  refine qk (Jt m1 m2 (by omega) (by omega)) ?_
  simp(disch:=omega)only[go_sem]
  refine qe (fun c2=>?_) (fun c2=>?_)
  ·have c2':m2≤m1:=hge.1 (by omega)
   rw[aFk c1' c2',aFd c1' c2']at*
   simp(disch:=omega)only[go_sem,c2]
   refine qp rfl [⟨0,[],[]⟩,⟨1,[],[]⟩,⟨2,[1],[]⟩,⟨3,[1],[]⟩,⟨4,[1,3],[]⟩,⟨5,[1,3],[]⟩,⟨6,[1],[]⟩,⟨7,[],[]⟩,⟨8,[],[]⟩] (by kernel_rfl) ?_
   simp(disch:=omega)only[go_sem]
   refine qa (Yi m1 m2 c2' (by omega)) ?_
   simp(disch:=omega)only[go_sem]
   refine qa (zv s1 (m1-m2) (by omega)) ?_
   simp(disch:=omega)only[go_sem]
   exact ql
  ·have c2':¬m2≤m1:=fun h=>c2 (by have:=hge.2 h;omega)
   rw[aFj c1' c2',aFc c1' c2']at*
   simp(disch:=omega)only[go_sem,c2]
   refine qp rfl [⟨0,[],[]⟩,⟨1,[],[]⟩,⟨2,[1],[]⟩,⟨3,[1],[]⟩,⟨4,[1,3],[]⟩,⟨5,[1,3],[]⟩,⟨6,[1],[]⟩,⟨7,[],[]⟩,⟨8,[],[]⟩] (by kernel_rfl) ?_
   simp(disch:=omega)only[go_sem]
   refine qa (Yi m2 m1 (by omega) (by omega)) ?_
   simp(disch:=omega)only[go_sem]
   refine qa (zv s2 (m2-m1) (by omega)) ?_
   simp(disch:=omega)only[go_sem]
   exact ql
theorem aq4(s:Bool)(m:Nat)(hl:(lim m).length≤2^39):Con Tryz.prog 190 false [.ag [.v (.bool (s)),.sl (lim (m)).length (qc (lim (m)))]] [] (isA (.ag [.v (.bool ((!s)&&decide (m≠0))),.sl (lim (m)).length (qc (lim (m)))])):=by
 refine Con.frzA ?_
 refine Con.of_w (rs:=[.cell 2 38]) Tryz.func190 rfl Tryz.ntmps190 rfl ?_
 simp(disch:=omega)only[go_sem]
 refine qa (zv (!s) m hl) ?_
 simp(disch:=omega)only[go_sem]
 exact ql
theorem aq1(s:Bool)(m:Nat)(e:Int)(hl:(lim m).length≤2^39):Con Tryz.prog 112 false [.ag [.v (.bool (s)),.sl (lim (m)).length (qc (lim (m))),.v (.int .i64 (e))]] [] (isA (.ag [.v (.bool ((!s)&&decide (m≠0))),.sl (lim (m)).length (qc (lim (m))),.v (.int .i64 (e))])):=by
 refine Con.frzA ?_
 refine Con.of_w (rs:=[.cell 2 40]) Tryz.func112 rfl Tryz.ntmps112 rfl ?_
 simp(disch:=omega)only[go_sem]
 refine qp rfl [⟨0,[],[]⟩,⟨1,[],[]⟩,⟨3,[1],[]⟩,⟨4,[1],[]⟩,⟨2,[4],[]⟩,⟨5,[],[]⟩,⟨6,[],[]⟩] (by kernel_rfl) ?_
 simp(disch:=omega)only[go_sem]
 refine qa (aq4 s m hl) ?_
 simp(disch:=omega)only[go_sem]
 exact ql
def alF(m1:Nat)(e1:Int)(m2:Nat)(e2:Int):Int:=if m1=0 then e2 else if m2=0 then e1 else if e1≤e2 then e1 else e2
theorem aUk(m1:Nat)(e1:Int)(m2:Nat)(e2:Int)(h:¬(m1=0∧m2=0)):alF m1 e1 m2 e2=alE m1 e1 m2 e2:=by
 unfold alF alE
 repeat' split
 all_goals omega
theorem Jq(s1:Bool)(m1:Nat)(e1:Int)(s2:Bool)(m2:Nat)(e2:Int)(h1:bl m1≤4000000)(h2:bl m2≤4000000)(he1: -1000000≤e1∧e1≤1000000)(he2: -1000000≤e2∧e2≤1000000)(z1:m1=0→s1=false)(z2:m2=0→s2=false):
  Con Tryz.prog 208 false [.ag [.v (.bool (s1)),.sl (lim (m1)).length (qc (lim (m1))),.v (.int .i64 (e1))],.ag [.v (.bool (s2)),.sl (lim (m2)).length (qc (lim (m2))),.v (.int .i64 (e2))]] [] (isA (.tu [.ag [.v (.bool (s1)),.sl (lim (alA m1 e1 (alE m1 e1 m2 e2))).length (qc (lim (alA m1 e1 (alE m1 e1 m2 e2))))],.ag [.v (.bool (s2)),.sl (lim (alA m2 e2 (alE m1 e1 m2 e2))).length (qc (lim (alA m2 e2 (alE m1 e1 m2 e2))))],.v (.int .i64 (alF m1 e1 m2 e2))])):=by
 refine Con.frzA ?_
 have l1:=qD h1
 have l2:=qD h2
 refine Con.of_aw Tryz.func208 rfl Tryz.ntmps208 (by simp) (by simp) (by simp) (W.sound ?_)
 show @W Tryz.prog 70 ⟨_⟩ ⟨fun x σ=>@qW _ _ _ ⟨_⟩ _ ⟨_⟩ x σ⟩ _ _
 simp(disch:=omega)only[go_sem]
 refine qe (fun c1=>?_) (fun c1=>?_)
 ·have y1:m1=0:=qI.1 (List.length_eq_zero_iff.1 (by omega))
  have eF:alF m1 e1 m2 e2=e2:=by unfold alF;rw[if_pos y1]
  have a1:alA m1 e1 (alE m1 e1 m2 e2)=m1:=by rw[y1];unfold alA;rw[Nat.zero_mul]
  have a2:alA m2 e2 (alE m1 e1 m2 e2)=m2:=by
   by_cases y2:m2=0
   ·rw[y2];unfold alA;rw[Nat.zero_mul]
   ·unfold alA alE;rw[if_neg y2,if_pos y1,Int.sub_self];simp
  simp(disch:=omega)only[go_sem,c1]
  refine qp rfl [⟨0,[],[]⟩,⟨1,[],[]⟩,⟨2,[1],[]⟩,⟨3,[1],[]⟩,⟨4,[1,3],[]⟩,⟨5,[1,3],[]⟩,⟨6,[3,5],[]⟩,⟨7,[5],[]⟩,⟨8,[],[]⟩] (by kernel_rfl) ?_
  simp(disch:=omega)only[go_sem]
  refine qQ (by simp(disch:=omega)only[go_sem]) ?_
  show qE _ 6 _=_
  rw[eF,a1,a2]
  simp(disch:=omega)only[go_sem]
 ·have y1:m1≠0:=fun e=>c1 (by rw[e,qn];rfl)
  simp(disch:=omega)only[go_sem,c1]
  refine qe (fun c2=>?_) (fun c2=>?_)
  ·have y2:m2=0:=qI.1 (List.length_eq_zero_iff.1 (by omega))
   have eF:alF m1 e1 m2 e2=e1:=by unfold alF;rw[if_neg y1,if_pos y2]
   have a1:alA m1 e1 (alE m1 e1 m2 e2)=m1:=by unfold alA alE;rw[if_pos y2,Int.sub_self];simp
   have a2:alA m2 e2 (alE m1 e1 m2 e2)=m2:=by rw[y2];unfold alA;rw[Nat.zero_mul]
   simp(disch:=omega)only[go_sem,c2]
   refine qp rfl [⟨0,[],[]⟩,⟨1,[],[]⟩,⟨2,[1],[]⟩,⟨3,[1],[]⟩,⟨4,[1,3],[]⟩,⟨5,[1,3],[]⟩,⟨6,[3,5],[]⟩,⟨7,[5],[]⟩,⟨8,[],[]⟩] (by kernel_rfl) ?_
   simp(disch:=omega)only[go_sem]
   refine qQ (by simp(disch:=omega)only[go_sem]) ?_
   show qE _ 6 _=_
   rw[eF,a1,a2]
   simp(disch:=omega)only[go_sem]
  ·have y2:m2≠0:=fun e=>c2 (by rw[e,qn];rfl)
   simp(disch:=omega)only[go_sem,c2]
   refine qe (fun c3=>?_) (fun c3=>?_)
   ·have eF:alF m1 e1 m2 e2=e1:=by unfold alF;rw[if_neg y1,if_neg y2,if_pos c3]
    have eE:alE m1 e1 m2 e2=e1:=by unfold alE;rw[if_neg y2,if_neg y1,if_neg (by omega)]
    have a1:alA m1 e1 (alE m1 e1 m2 e2)=m1:=by rw[eE];unfold alA;rw[Int.sub_self];simp
    have ek:e2-e1=(((e2-e1).toNat:Nat):Int):=by omega
    have hb:bl (m2*2^(e2-e1).toNat)≤6000000:=by have:=Xn m2 (e2-e1).toNat;omega
    have l3:=qD hb
    have hn:m2*2^(e2-e1).toNat≠0:=Nat.mul_ne_zero y2 (Nat.pos_iff_ne_zero.1 (Nat.pow_pos (by omega)))
    have hd:decide (m2*2^(e2-e1).toNat≠0)=true:=decide_eq_true hn
    simp(disch:=omega)only[go_sem,c3]
    refine qp rfl [⟨0,[],[]⟩,⟨1,[],[]⟩,⟨2,[1],[]⟩,⟨3,[1],[]⟩,⟨4,[1],[]⟩,⟨5,[1,4],[]⟩,⟨6,[1,4],[]⟩,⟨7,[1,4],[]⟩,⟨8,[1,4,7],[]⟩,⟨9,[1,4,7],[]⟩,⟨10,[1,4,7,9],[]⟩,⟨11,[1,4,7,9],[]⟩,⟨12,[1,4,7],[]⟩,⟨15,[1,4,7,9,11],[]⟩,⟨16,[1,4,7,9,11],[]⟩,⟨13,[1,4,16],[]⟩,⟨14,[1,16],[]⟩,⟨17,[16],[]⟩,⟨18,[16],[]⟩,⟨19,[],[]⟩] (by kernel_rfl) ?_
    simp(disch:=omega)only[go_sem]
    refine ze (Yj m2 (e2-e1).toNat (by omega) (by omega)) (by simp(disch:=omega)only[go_sem,←ek]) ?_
    rintro r hs ⟨rfl,rfl,_⟩
    refine⟨by simp[qO],?_⟩
    simp(disch:=omega)only[go_sem]
    refine qa (zv s2 (m2*2^(e2-e1).toNat) (by omega)) ?_
    simp(disch:=omega)only[go_sem]
    refine qQ (by simp(disch:=omega)only[go_sem]) ?_
    show qE _ 6 _=_
    rw[eF,a1,eE,hd];unfold alA
    simp(disch:=omega)only[go_sem,Bool.and_true]
   ·have eF:alF m1 e1 m2 e2=e2:=by unfold alF;rw[if_neg y1,if_neg y2,if_neg c3]
    have eE:alE m1 e1 m2 e2=e2:=by unfold alE;rw[if_neg y2,if_neg y1,if_pos (by omega)]
    have a2:alA m2 e2 (alE m1 e1 m2 e2)=m2:=by rw[eE];unfold alA;rw[Int.sub_self];simp
    have ek:e1-e2=(((e1-e2).toNat:Nat):Int):=by omega
    have hb:bl (m1*2^(e1-e2).toNat)≤6000000:=by have:=Xn m1 (e1-e2).toNat;omega
    have l3:=qD hb
    have hn:m1*2^(e1-e2).toNat≠0:=Nat.mul_ne_zero y1 (Nat.pos_iff_ne_zero.1 (Nat.pow_pos (by omega)))
    have hd:decide (m1*2^(e1-e2).toNat≠0)=true:=decide_eq_true hn
    simp(disch:=omega)only[go_sem,c3]
    refine qp rfl [⟨0,[],[]⟩,⟨1,[],[]⟩,⟨2,[],[]⟩,⟨3,[2],[]⟩,⟨4,[2],[]⟩,⟨5,[2],[]⟩,⟨6,[2,5],[]⟩,⟨7,[2,5],[]⟩,⟨8,[2,5,7],[]⟩,⟨9,[2,5,7],[]⟩,⟨10,[2,5],[]⟩,⟨13,[2,5,7,9],[]⟩,⟨14,[2,5,7,9],[]⟩,⟨15,[2,5,7,9,14],[]⟩,⟨16,[2,5,7,9,14],[]⟩,⟨11,[2,14,16],[]⟩,⟨12,[14,16],[]⟩,⟨17,[14,16],[]⟩,⟨18,[16],[]⟩,⟨19,[],[]⟩] (by kernel_rfl) ?_
    simp(disch:=omega)only[go_sem]
    refine ze (Yj m1 (e1-e2).toNat (by omega) (by omega)) (by simp(disch:=omega)only[go_sem,←ek]) ?_
    rintro r hs ⟨rfl,rfl,_⟩
    refine⟨by simp[qO],?_⟩
    simp(disch:=omega)only[go_sem]
    refine qa (zv s1 (m1*2^(e1-e2).toNat) (by omega)) ?_
    simp(disch:=omega)only[go_sem]
    refine qQ (by simp(disch:=omega)only[go_sem]) ?_
    show qE _ 6 _=_
    rw[eF,a2,eE,hd];unfold alA
    simp(disch:=omega)only[go_sem,Bool.and_true]
theorem aq3(s1:Bool)(m1:Nat)(e1:Int)(s2:Bool)(m2:Nat)(e2:Int)(h1:bl m1≤4000000)(h2:bl m2≤4000000)(he1: -1000000≤e1∧e1≤1000000)(he2: -1000000≤e2∧e2≤1000000)(z1:m1=0→s1=false)(z2:m2=0→s2=false):
  Con Tryz.prog 192 false [.ag [.v (.bool (s1)),.sl (lim (m1)).length (qc (lim (m1))),.v (.int .i64 (e1))],.ag [.v (.bool (s2)),.sl (lim (m2)).length (qc (lim (m2))),.v (.int .i64 (e2))]] [] (isA (.ag [.v (.bool (oS (adS s1 m1 e1 s2 m2 e2) (adM s1 m1 e1 s2 m2 e2))),.sl (lim (oM (adM s1 m1 e1 s2 m2 e2))).length (qc (lim (oM (adM s1 m1 e1 s2 m2 e2)))),.v (.int .i64 (oE (adM s1 m1 e1 s2 m2 e2) (alE m1 e1 m2 e2)))])):=by
 refine Con.frzA ?_
 have hE:=Qz (m1:=m1) (m2:=m2) he1.1 he2.1
 have b1:=Za (e:=e1) (E:=alE m1 e1 m2 e2) (C:=2000000) h1 (by omega)
 have b2:=Za (e:=e2) (E:=alE m1 e1 m2 e2) (C:=2000000) h2 (by omega)
 have hF: -1000000≤alF m1 e1 m2 e2∧alF m1 e1 m2 e2≤1000000:=by
  unfold alF
  repeat' split
  all_goals omega
 have hX:oE (adM s1 m1 e1 s2 m2 e2) (alE m1 e1 m2 e2)=oE (adM s1 m1 e1 s2 m2 e2) (alF m1 e1 m2 e2):=by
  by_cases h:m1=0∧m2=0
  ·have:adM s1 m1 e1 s2 m2 e2=0:=by rw[h.1,h.2];unfold adM alA;rw[Nat.zero_mul,Nat.zero_mul];unfold suM;rw[yk,yk];rfl
   rw[this];rfl
  ·rw[aUk _ _ _ _ h]
 rw[hX]
 have l1:=qD h1
 have l2:=qD h2
 refine Con.of_w (rs:=[.cell 4 40]) Tryz.func192 rfl Tryz.ntmps192 rfl ?_
 simp(disch:=omega)only[go_sem]
 refine qa (Jq s1 m1 e1 s2 m2 e2 h1 h2 he1 he2 z1 z2) ?_
 simp(disch:=omega)only[go_sem]
 unfold adS adM
 generalize alA m1 e1 (alE m1 e1 m2 e2)=A at*
 generalize alA m2 e2 (alE m1 e1 m2 e2)=B at*
 generalize alF m1 e1 m2 e2=E at*
 refine qa (aq6 s1 A s2 B (by omega) (by omega)) ?_
 simp(disch:=omega)only[go_sem]
 have hb:=afI (s1:=s1) (s2:=s2) b1 b2
 refine qa (yQ (suS s1 A s2 B) (suM s1 A s2 B) E (by omega) (by omega)) ?_
 simp(disch:=omega)only[go_sem]
 exact ql
end Go.Ab
namespace Go.Ab
open Go Go.Proofs
def srM(s:Bool)(m:Nat)(e low mode:Int):Nat:=oM (roM s m e low mode)
def srE(s:Bool)(m:Nat)(e low mode:Int):Int:=if low≤e∨m=0 then e else oE (roM s m e low mode) low
end Go.Ab
namespace Go.Ab
open Go Go.Proofs
end Go.Ab
namespace Go.Ab
open Go Go.Proofs
theorem aj8(xs:List Int)(hl:xs.length≤2^40):Con Tryz.prog 252 true [.ag [.sl xs.length (qc xs)]] [] (isA (.v (.bool (YJ xs)))):=by
 refine Con.of_aw Tryz.func252 rfl Tryz.ntmps252 (by simp) (by simp) (by simp) (W.sound ?_)
 show @W Tryz.prog 44 ⟨_⟩ ⟨fun x σ=>@qW _ _ _ ⟨_⟩ _ ⟨_⟩ x σ⟩ _ _
 simp(disch:=omega)only[go_sem]
 refine qe (fun h1=>?_) (fun h1=>?_)
 ·simp(disch:=omega)only[go_sem,h1]
  refine qx (by simp(disch:=omega)only[go_sem]) (by simp(disch:=omega)only[go_sem]) ⟨?_,rfl,rfl⟩
  have:¬(xs.length≤100):=by omega
  simp[zi,YJ,this]
 ·simp(disch:=omega)only[go_sem,h1]
  refine qh (fun i:Nat=>[(1,.pt 30000000 0),(2,.v (.bool false)),(3,.v (.int .i64 i))]) (fun _=>[(30000000,.own 0 [.sl xs.length (qc xs)])]) (fun i=>i≤xs.length∧∀x∈xs.take i,0≤x∧x≤65535) (fun i=>xs.length-i) 0 ⟨by omega,by simp⟩
   (Le.lst [] _ _ rfl (by simp(disch:=omega)only[go_sem]) (by simp(disch:=omega)only[go_sem])) ?_
  rintro i ⟨hi,hx⟩
  simp(disch:=omega)only[go_sem]
  refine qe (fun h2=>?_) (fun h2=>?_)
  ·simp(disch:=omega)only[go_sem,h2]
   have hmem:xs.getD i 0∈xs:=by
    rw[List.getD_eq_getElem?_getD,List.getElem?_eq_getElem (by omega)];exact List.getElem_mem _
   have bad:¬(0≤xs.getD i 0∧xs.getD i 0≤65535)→YJ xs=false:=by
    intro hc
    unfold YJ
    have:xs.all (fun x=>decide (0≤x)&&decide (x≤65535))=false:=by
     rw[List.all_eq_false]
     refine⟨_,hmem,?_⟩
     simp only[Bool.and_eq_true,decide_eq_true_eq];exact hc
    rw[this];simp
   refine⟨by omega,by omega,?_⟩
   refine zB (fun h3=>?_) (fun h3=>?_)
   ·simp(disch:=omega)only[go_sem,h3]
    refine⟨by omega,by omega,?_⟩
    refine qe (fun h4=>?_) (fun h4=>?_)
    ·simp(disch:=omega)only[go_sem,h4]
     rw[bad (by omega)]
     exact qy
    ·simp(disch:=omega)only[go_sem,h4]
     refine qb (i+1) [] ⟨by omega,?_⟩ (by show xs.length-(i+1)<xs.length-i;omega) rfl (by simp(disch:=omega)only[go_sem];try omega) (by simp(disch:=omega)only[go_sem])
     intro x hxx
     rw[List.take_add_one]at hxx
     rcases List.mem_append.1 hxx with h|h
     ·exact hx x h
     ·rw[List.getElem?_eq_getElem (by omega)]at h
      simp at h
      rw[List.getD_eq_getElem?_getD,List.getElem?_eq_getElem (by omega)]at h3 h4
      simp at h3 h4
      subst h
      omega
   ·simp(disch:=omega)only[go_sem,h3]
    rw[bad (by omega)]
    exact qy
  ·have:i=xs.length:=by omega
   subst this
   rw[List.take_length]at hx
   have hall:xs.all (fun x=>decide (0≤x)&&decide (x≤65535))=true:=by
    rw[List.all_eq_true]
    intro x h;have:=hx x h;simp only[Bool.and_eq_true,decide_eq_true_eq];exact this
   have e1:decide (xs.length≤100)=true:=by simp;omega
   simp(disch:=omega)only[go_sem,h2]
   refine zB (fun h3=>?_) (fun h3=>?_)
   ·have en:((xs.length:Int)-1).toNat=xs.length-1:=by omega
    have hmem:xs.getD (xs.length-1) 0∈xs:=by
     rw[List.getD_eq_getElem?_getD,List.getElem?_eq_getElem (by omega)];exact List.getElem_mem _
    have hp:=hx _ hmem
    simp(disch:=omega)only[go_sem,h3,en]
    refine⟨by omega,by omega,?_⟩
    refine qx (by simp(disch:=omega)only[go_sem]) (by simp(disch:=omega)only[go_sem]) ⟨?_,rfl,rfl⟩
    have e2:decide (xs.length=0)=false:=by simp;intro h;subst h;simp at h3
    show AV.v (.bool _)=AV.v (.bool _)
    unfold YJ
    rw[e1,hall,e2,Bool.false_or,Bool.true_and,Bool.true_and]
    congr 2
    rw[decide_eq_decide]
    omega
   ·simp(disch:=omega)only[go_sem,h3]
    refine qx (by simp(disch:=omega)only[go_sem]) (by simp(disch:=omega)only[go_sem]) ⟨?_,rfl,rfl⟩
    have e2:decide (xs.length=0)=true:=by simp;exact List.length_eq_zero_iff.1 (by omega)
    show AV.v (.bool _)=AV.v (.bool _)
    unfold YJ
    rw[e1,hall,e2]
    simp
theorem Q8(s:Bool)(xs:List Int)(hl:xs.length≤2^40):Con Tryz.prog 196 true [.ag [.v (.bool s),.sl xs.length (qc xs)]] [] (isA (.v (.bool (zQ s xs)))):=by
 refine Con.of_aw Tryz.func196 rfl Tryz.ntmps196 (by simp) (by simp) (by simp) (W.sound ?_)
 show @W Tryz.prog 18 ⟨_⟩ ⟨fun x σ=>@qW _ _ _ ⟨_⟩ _ ⟨_⟩ x σ⟩ _ _
 simp(disch:=omega)only[go_sem]
 refine qk (aj8 xs hl) ?_
 simp(disch:=omega)only[go_sem]
 refine yT (fun h1=>?_) (fun h1=>?_)
 ·simp(disch:=omega)only[go_sem,h1]
  cases s
  ·simp(disch:=omega)only[go_sem]
   refine qx (by simp(disch:=omega)only[go_sem]) (by simp(disch:=omega)only[go_sem]) ⟨?_,rfl,rfl⟩
   simp[zi,zQ,h1]
  ·simp(disch:=omega)only[go_sem]
   refine qx (by simp(disch:=omega)only[go_sem]) (by simp(disch:=omega)only[go_sem]) ⟨?_,rfl,rfl⟩
   show AV.v (.bool _)=AV.v (.bool _)
   unfold zQ
   rw[h1,Bool.true_and,Bool.true_and,←decide_not]
   congr 2
   rw[decide_eq_decide]
   omega
 ·simp(disch:=omega)only[go_sem,h1]
  refine qx (by simp(disch:=omega)only[go_sem]) (by simp(disch:=omega)only[go_sem]) ⟨?_,rfl,rfl⟩
  simp[zi,zQ,h1]
theorem yz(s:Bool)(xs:List Int)(e:Int)(hl:xs.length≤2^40):Con Tryz.prog 116 true [.ag [.v (.bool s),.sl xs.length (qc xs),.v (.int .i64 e)]] [] (isA (.v (.bool (dyB s xs e)))):=by
 refine Con.of_aw Tryz.func116 rfl Tryz.ntmps116 (by simp) (by simp) (by simp) (W.sound ?_)
 show @W Tryz.prog 31 ⟨_⟩ ⟨fun x σ=>@qW _ _ _ ⟨_⟩ _ ⟨_⟩ x σ⟩ _ _
 simp(disch:=omega)only[go_sem]
 refine qk (Q8 s xs hl) ?_
 simp(disch:=omega)only[go_sem]
 refine yT (fun hw=>?_) (fun hw=>?_)
 ·have h1:=hw
  simp only[zQ,Bool.and_eq_true]at h1
  obtain⟨hx,hll⟩:=Zu h1.1
  have hxs:xs=lim (vl xs).toNat:=hx
  generalize hm:(vl xs).toNat=m at*
  subst hx
  simp(disch:=omega)only[go_sem,hw]
  refine zB (fun h2=>?_) (fun h2=>?_)
  ·simp(disch:=omega)only[go_sem,h2]
   refine qe (fun h3=>?_) (fun h3=>?_)
   ·simp(disch:=omega)only[go_sem,h3]
    refine qx (by simp(disch:=omega)only[go_sem]) (by simp(disch:=omega)only[go_sem]) ⟨?_,rfl,rfl⟩
    have a2:¬e≤3000:=by omega
    simp[zi,dyB,a2]
   ·simp(disch:=omega)only[go_sem,h3]
    refine qe (fun h4=>?_) (fun h4=>?_)
    ·simp(disch:=omega)only[go_sem,h4]
     have h0:m=0:=qI.1 (List.length_eq_zero_iff.1 (by omega))
     refine qx (by simp(disch:=omega)only[go_sem]) (by simp(disch:=omega)only[go_sem]) ⟨?_,rfl,rfl⟩
     have a1: -3000≤e:=by omega
     have a2:e≤3000:=by omega
     have a3:(lim m).length=0:=by omega
     show AV.v (.bool _)=AV.v (.bool _)
     unfold dyB
     rw[hw,hm,decide_eq_true a1,decide_eq_true a2,decide_eq_true a3,h0]
     simp
    ·simp(disch:=omega)only[go_sem,h4]
     refine qk (aaJ m 0 (by omega) (by omega) (by omega)) ?_
     simp(disch:=omega)only[go_sem]
     refine qx (by simp(disch:=omega)only[go_sem]) (by simp(disch:=omega)only[go_sem]) ⟨?_,rfl,rfl⟩
     have a1: -3000≤e:=by omega
     have a2:e≤3000:=by omega
     have a3:¬(lim m).length=0:=by omega
     show AV.v (.bool _)=AV.v (.bool _)
     unfold dyB
     rw[hw,hm,decide_eq_true a1,decide_eq_true a2,decide_eq_false a3]
     simp
     omega
  ·simp(disch:=omega)only[go_sem,h2]
   refine qx (by simp(disch:=omega)only[go_sem]) (by simp(disch:=omega)only[go_sem]) ⟨?_,rfl,rfl⟩
   have a1:¬ -3000≤e:=by omega
   simp[zi,dyB,a1]
 ·simp(disch:=omega)only[go_sem,hw]
  refine qx (by simp(disch:=omega)only[go_sem]) (by simp(disch:=omega)only[go_sem]) ⟨?_,rfl,rfl⟩
  simp[zi,dyB,hw]
end Go.Ab
namespace Go.Ab
open Go Go.Proofs
theorem Qv(s:Bool)(m:Nat)(e:Int):dyB (oS s m) (lim (oM m)) (oE m e)=jP m e:=by
 unfold dyB zQ jP jK
 rw[q7,Int.toNat_natCast]
 have hod:=aPl m
 have hz:=beG s m
 by_cases h:(lim (oM m)).length≤100
 ·rw[apM _ h,decide_eq_true h,Bool.true_and,Bool.true_and]
  by_cases h0:oM m=0
  ·have hm:m=0:=yH.1 h0
   rw[hz h0,h0,hm]
   simp[oE,qn]
  ·have h1:oM m % 2=1:=hod.resolve_right h0
   have h2:decide ((lim (oM m)).length=0)=false:=by
    have:=Qp h0
    exact decide_eq_false (by omega)
   rw[h2,decide_eq_true h1]
   simp
 ·rw[decide_eq_false h]
  have:YJ (lim (oM m))=false:=by unfold YJ;rw[decide_eq_false h,Bool.false_and]
  rw[this];simp
theorem ake(s:Bool)(m:Nat)(e:Int)(hl:(lim (oM m)).length≤2^40):Con Tryz.prog 179 false [.ag [.v (.bool (oS s m)),.sl (lim (oM m)).length (qc (lim (oM m))),.v (.int .i64 (oE m e))]] [] (isA (if jP m e=true then .tu [.ag [.v (.bool (oS s m)),.sl (lim (oM m)).length (qc (lim (oM m))),.v (.int .i64 (oE m e))],.v (.bool true)]else .tu [.ag [.v (.bool (false)),.sl (lim (0)).length (qc (lim (0))),.v (.int .i64 (0))],.v (.bool false)])):=by
 refine Con.frzA ?_
 have ck:=yz (oS s m) (lim (oM m)) (oE m e) hl
 rw[Qv]at ck
 cases hd:jP m e
 ·rw[hd]at ck
  rw[if_neg (by simp),qn]
  refine Con.of_w (rs:=[.cell 2 40,.tmp 3]) Tryz.func179 rfl Tryz.ntmps179 rfl ?_
  simp(disch:=omega)only[go_sem]
  refine qk (ck) ?_
  simp(disch:=omega)only[go_sem]
  exact ql
 ·rw[hd]at ck
  rw[if_pos rfl]
  refine Con.of_w (rs:=[.cell 2 40,.tmp 3]) Tryz.func179 rfl Tryz.ntmps179 rfl ?_
  simp(disch:=omega)only[go_sem]
  refine qk (ck) ?_
  simp(disch:=omega)only[go_sem]
  exact ql
def pmS(s1:Bool)(m1:Nat)(s2:Bool)(m2:Nat):Bool:=(s1 != s2)&&decide (m1*m2≠0)
end Go.Ab
namespace Go.Ab
open Go Go.Proofs
theorem aq5(s1:Bool)(m1:Nat)(s2:Bool)(m2:Nat)(l1:(lim m1).length≤2^40)(l2:(lim m2).length≤2^40)(z1:m1=0→s1=false)(z2:m2=0→s2=false):
  Con Tryz.prog 209 true [.ag [.v (.bool (s1)),.sl (lim (m1)).length (qc (lim (m1)))],.ag [.v (.bool (s2)),.sl (lim (m2)).length (qc (lim (m2)))]] [] (isA (.v (.int .i64 (zt (sv s1 m1) (sv s2 m2))))):=by
 rw[aaY z1 z2]
 cases s1<;>cases s2
 ·refine Con.of_w (rs:=[.tmp 4]) Tryz.func209 rfl Tryz.ntmps209 rfl ?_
  simp(disch:=omega)only[go_sem]
  refine qk (Jt m1 m2 l1 l2) ?_
  simp(disch:=omega)only[go_sem]
  exact qy
 ·refine Con.of_w (rs:=[.tmp 4]) Tryz.func209 rfl Tryz.ntmps209 rfl ?_
  simp(disch:=omega)only[go_sem]
  exact qy
 ·refine Con.of_w (rs:=[.tmp 4]) Tryz.func209 rfl Tryz.ntmps209 rfl ?_
  simp(disch:=omega)only[go_sem]
  exact qy
 ·refine Con.of_w (rs:=[.tmp 4]) Tryz.func209 rfl Tryz.ntmps209 rfl ?_
  simp(disch:=omega)only[go_sem]
  refine qk (Jt m2 m1 l2 l1) ?_
  simp(disch:=omega)only[go_sem]
  exact qy
theorem aq2(K:Nat)(s1:Bool)(m1:Nat)(e1:Int)(s2:Bool)(m2:Nat)(e2:Int)(h1:bl m1≤4000000)(h2:bl m2≤4000000)(he1: -1000000≤e1∧e1≤1000000)(he2: -1000000≤e2∧e2≤1000000)(k1: -(K:Int)≤e1)(k2: -(K:Int)≤e2)(z1:m1=0→s1=false)(z2:m2=0→s2=false):
  Con Tryz.prog 132 true [.ag [.v (.bool (s1)),.sl (lim (m1)).length (qc (lim (m1))),.v (.int .i64 (e1))],.ag [.v (.bool (s2)),.sl (lim (m2)).length (qc (lim (m2))),.v (.int .i64 (e2))]] [] (isA (.v (.int .i64 (zt (dv K s1 m1 e1) (dv K s2 m2 e2))))):=by
 have hE:=Qz (m1:=m1) (m2:=m2) he1.1 he2.1
 have b1:=qD (Za (e:=e1) (E:=alE m1 e1 m2 e2) (C:=2000000) h1 (by omega))
 have b2:=qD (Za (e:=e2) (E:=alE m1 e1 m2 e2) (C:=2000000) h2 (by omega))
 rw[←afF k1 k2]
 have y1:alA m1 e1 (alE m1 e1 m2 e2)=0→s1=false:=fun h=>z1 (QA.1 h)
 have y2:alA m2 e2 (alE m1 e1 m2 e2)=0→s2=false:=fun h=>z2 (QA.1 h)
 refine Con.of_w (rs:=[.tmp 4]) Tryz.func132 rfl Tryz.ntmps132 rfl ?_
 simp(disch:=omega)only[go_sem]
 refine qa (Jq s1 m1 e1 s2 m2 e2 h1 h2 he1 he2 z1 z2) ?_
 simp(disch:=omega)only[go_sem]
 refine qk (aq5 s1 (alA m1 e1 (alE m1 e1 m2 e2)) s2 (alA m2 e2 (alE m1 e1 m2 e2)) (by omega) (by omega) y1 y2) ?_
 simp(disch:=omega)only[go_sem]
 exact qy
theorem aky(s1:Bool)(m1:Nat)(e1:Int)(s2:Bool)(m2:Nat)(e2:Int)(h1:dyB s1 (lim m1) e1=true)(h2:dyB s2 (lim m2) e2=true):
  Con Tryz.prog 52 true [.ag [.v (.bool (s1)),.sl (lim (m1)).length (qc (lim (m1))),.v (.int .i64 (e1))],.ag [.v (.bool (s2)),.sl (lim (m2)).length (qc (lim (m2))),.v (.int .i64 (e2))]] [] (isA (.v (.int .i64 (zt (dv 3000 s1 m1 e1) (dv 3000 s2 m2 e2))))):=by
 obtain⟨n1,q1,b1,c1,d1,_,f1⟩:=QT h1
 obtain⟨n2,q2,b2,c2,d2,_,f2⟩:=QT h2
 obtain rfl:=yu q1
 obtain rfl:=yu q2
 have k1:=yz s1 (lim m1) e1 (by omega)
 have k2:=yz s2 (lim m2) e2 (by omega)
 rw[h1]at k1
 rw[h2]at k2
 refine Con.of_w (rs:=[.tmp 4]) Tryz.func52 rfl Tryz.ntmps52 rfl ?_
 simp(disch:=omega)only[go_sem]
 refine qk (k1) ?_
 simp(disch:=omega)only[go_sem]
 refine qk (k2) ?_
 simp(disch:=omega)only[go_sem]
 refine qk (aq2 3000 s1 m1 e1 s2 m2 e2 (by omega) (by omega) (by omega) (by omega) (by omega) (by omega) f1 f2) ?_
 simp(disch:=omega)only[go_sem]
 exact qy
theorem aNx(s:Bool)(m:Nat)(e:Int)(h:dyB s (lim m) e=true):Con Tryz.prog 125 false [.ag [.v (.bool (s)),.sl (lim (m)).length (qc (lim (m))),.v (.int .i64 (e))]] [] (isA (.ag [.v (.bool ((!s)&&decide (m≠0))),.sl (lim (m)).length (qc (lim (m))),.v (.int .i64 (e))])):=by
 refine Con.frzA ?_
 obtain⟨n1,q1,b1,c1,d1,_,f1⟩:=QT h
 obtain rfl:=yu q1
 have k1:=yz s (lim m) e (by omega)
 rw[h]at k1
 refine Con.of_w (rs:=[.cell 2 40]) Tryz.func125 rfl Tryz.ntmps125 rfl ?_
 simp(disch:=omega)only[go_sem]
 refine qk (k1) ?_
 simp(disch:=omega)only[go_sem]
 refine qa (aq1 s m e (by omega)) ?_
 simp(disch:=omega)only[go_sem]
 exact ql
theorem aaT(n:Int)(h: -9223372036854775808≤n∧n<9223372036854775808):Con Tryz.prog 127 false [.v (.int .i64 n)] [] (isA (.ag [.v (.bool (decide (n<0))),.sl (lim (n.natAbs)).length (qc (lim (n.natAbs)))])):=by
 refine Con.frzA ?_
 refine Con.of_w (rs:=[.cell 2 38]) Tryz.func127 rfl Tryz.ntmps127 rfl ?_
 simp(disch:=omega)only[go_sem]
 refine qa (Xb n h) ?_
 simp(disch:=omega)only[go_sem]
 exact ql
theorem aMt(e:Int):Con Tryz.prog 203 true [.v (.int .i64 e)] [] (isA (.v (.bool (decide (-12000≤e)&&decide (e≤12000))))):=by
 refine Con.of_aw Tryz.func203 rfl Tryz.ntmps203 (by simp) (by simp) (by simp) (W.sound ?_)
 show @W Tryz.prog 9 ⟨_⟩ ⟨fun x σ=>@qW _ _ _ ⟨_⟩ _ ⟨_⟩ x σ⟩ _ _
 simp(disch:=omega)only[go_sem]
 repeat' first
  |simp(disch:=omega)only[go_sem, *]
  |(with_reducible refine qe (fun _=>?_) (fun _=>?_))
  |(with_reducible refine zB (fun _=>?_) (fun _=>?_))
  |(with_reducible refine afq (fun _=>?_) (fun _=>?_))
  |(with_reducible refine yT (fun _=>?_) (fun _=>?_))
 all_goals exact qx (by simp(disch:=omega)only[go_sem]) (by simp(disch:=omega)only[go_sem]) ⟨by simp_all[zi]<;>omega,rfl,rfl⟩
theorem aaX(s:Bool)(m:Nat)(e:Int)(h:zQ s (lim m)=true)(he: -12000≤e∧e≤12000):
  Con Tryz.prog 126 false [.ag [.v (.bool (s)),.sl (lim (m)).length (qc (lim (m)))],.v (.int .i64 e)] [] (isA (if jP m e=true then .tu [.ag [.v (.bool (oS s m)),.sl (lim (oM m)).length (qc (lim (oM m))),.v (.int .i64 (oE m e))],.v (.bool true)]else .tu [.ag [.v (.bool (false)),.sl (lim (0)).length (qc (lim (0))),.v (.int .i64 (0))],.v (.bool false)])):=by
 refine Con.frzA ?_
 have h':=h
 simp only[zQ,Bool.and_eq_true]at h'
 obtain⟨_,hl⟩:=Zu h'.1
 have hb:=afK (m:=m)
 have hb2:=qD (Nat.le_trans (yc (aBZ m)) hb)
 have k1:=Q8 s (lim m) (by omega)
 rw[h]at k1
 have k2:=aMt e
 rw[decide_eq_true he.1,decide_eq_true he.2]at k2
 have cf:=ake s m e (by omega)
 cases hd:jP m e
 ·rw[hd,if_neg (by simp),qn]at cf
  rw[if_neg (by simp),qn]
  refine Con.of_w (rs:=[.cell 4 40,.tmp 5]) Tryz.func126 rfl Tryz.ntmps126 rfl ?_
  simp(disch:=omega)only[go_sem]
  refine qk (k1) ?_
  simp(disch:=omega)only[go_sem]
  refine qk (k2) ?_
  simp(disch:=omega)only[go_sem]
  refine qa (yQ s m e (by omega) (by omega)) ?_
  simp(disch:=omega)only[go_sem]
  refine qa (cf) ?_
  simp(disch:=omega)only[go_sem]
  exact ql
 ·rw[hd,if_pos rfl]at cf
  rw[if_pos rfl]
  refine Con.of_w (rs:=[.cell 4 40,.tmp 5]) Tryz.func126 rfl Tryz.ntmps126 rfl ?_
  simp(disch:=omega)only[go_sem]
  refine qk (k1) ?_
  simp(disch:=omega)only[go_sem]
  refine qk (k2) ?_
  simp(disch:=omega)only[go_sem]
  refine qa (yQ s m e (by omega) (by omega)) ?_
  simp(disch:=omega)only[go_sem]
  refine qa (cf) ?_
  simp(disch:=omega)only[go_sem]
  exact ql
theorem aa8:tz 1=0:=ae3 rfl
theorem y7:lim 1=[1]:=by rw[j6 (by omega)];simp[qn]
/-! ### Sameness-/
theorem aet(a b:Nat)(la:(lim a).length≤2^40)(lb:(lim b).length≤2^40):Con Tryz.prog 181 true [.ag [.sl (lim (a)).length (qc (lim (a)))],.ag [.sl (lim (b)).length (qc (lim (b)))]] [] (isA (.v (.bool (decide (a=b))))):=by
 refine Con.of_w (rs:=[.tmp 4]) Tryz.func181 rfl Tryz.ntmps181 rfl ?_
 simp(disch:=omega)only[go_sem]
 refine zB (fun h1=>?_) (fun h1=>?_)
 ·simp(disch:=omega)only[go_sem,h1]
  rw[decide_eq_false (fun e=>h1 (by rw[e]))]
  exact qy
 ·have hl:(lim a).length=(lim b).length:=by omega
  simp(disch:=omega)only[go_sem,h1]
  refine qh (fun i:Nat=>[(2,.pt 40000000 0),(3,.pt 50000000 0),(5,.v (.int .i64 i))]) (fun _=>[(40000000,.own 0 [.sl (lim (a)).length (qc (lim (a)))]),(50000000,.own 0 [.sl (lim (b)).length (qc (lim (b)))])])
   (fun i=>i≤(lim a).length∧(lim a).take i=(lim b).take i) (fun i=>(lim a).length-i) 0 ⟨by omega,by simp⟩ (Le.lst [] _ _ rfl (by simp(disch:=omega)only[go_sem];try omega) (by simp(disch:=omega)only[go_sem])) ?_
  rintro i ⟨hi,ht⟩
  simp(disch:=omega)only[go_sem]
  refine qe (fun h2=>?_) (fun h2=>?_)
  ·simp(disch:=omega)only[go_sem,h2]
   refine qp rfl [⟨0,[],[]⟩,⟨1,[],[]⟩,⟨2,[1],[]⟩,⟨3,[],[]⟩,⟨4,[],[]⟩,⟨5,[1,4],[]⟩,⟨6,[1,4],[]⟩,⟨7,[1,4,6],[]⟩,⟨8,[1,4],[]⟩,⟨9,[1,4],[]⟩,⟨10,[],[]⟩] (by kernel_rfl) ?_
   simp(disch:=omega)only[go_sem]
   refine⟨by omega,by omega,by omega,by omega,?_⟩
   refine zB (fun h3=>?_) (fun h3=>?_)
   ·simp(disch:=omega)only[go_sem,h3]
    rw[decide_eq_false (fun e=>h3 (by rw[e]))]
    exact qy
   ·simp(disch:=omega)only[go_sem,h3]
    refine qb (i+1) [] ⟨by omega,?_⟩ (by show(lim a).length-(i+1)<(lim a).length-i;omega) rfl (by simp(disch:=omega)only[go_sem];try omega) (by simp(disch:=omega)only[go_sem])
    rw[jG (l:=lim a) (by omega),jG (l:=lim b) (by omega),ht,h3]
  ·simp(disch:=omega)only[go_sem,h2]
   have:i=(lim a).length:=by omega
   subst this
   have ht2:lim a=lim b:=by
    have h4:=List.take_of_length_le (l:=lim b) (i:=(lim a).length) (by omega)
    rw[List.take_length,h4]at ht
    exact ht
   rw[decide_eq_true (yu ht2)]
   exact qy
theorem Y8(s1:Bool)(m1:Nat)(s2:Bool)(m2:Nat)(l1:(lim m1).length≤2^40)(l2:(lim m2).length≤2^40):Con Tryz.prog 100 true [.ag [.v (.bool (s1)),.sl (lim (m1)).length (qc (lim (m1)))],.ag [.v (.bool (s2)),.sl (lim (m2)).length (qc (lim (m2)))]] [] (isA (.v (.bool ((s1==s2)&&decide (m1=m2))))):=by
 refine Con.of_w (rs:=[.tmp 4]) Tryz.func100 rfl Tryz.ntmps100 rfl ?_
 cases hs:(s1==s2)
 ·simp(disch:=omega)only[go_sem,hs]
  exact qy
 ·simp(disch:=omega)only[go_sem,hs]
  refine qk (aet m1 m2 l1 l2) ?_
  simp(disch:=omega)only[go_sem]
  exact qy
theorem aj6(s1:Bool)(m1:Nat)(e1:Int)(s2:Bool)(m2:Nat)(e2:Int)(l1:(lim m1).length≤2^40)(l2:(lim m2).length≤2^40):Con Tryz.prog 27 true [.ag [.v (.bool (s1)),.sl (lim (m1)).length (qc (lim (m1))),.v (.int .i64 (e1))],.ag [.v (.bool (s2)),.sl (lim (m2)).length (qc (lim (m2))),.v (.int .i64 (e2))]] [] (isA (.v (.bool (decide (e1=e2)&&((s1==s2)&&decide (m1=m2)))))):=by
 cases he:decide (e1=e2)
 ·have he':¬e1=e2:=by simpa using he
  refine Con.of_w (rs:=[.tmp 4]) Tryz.func27 rfl Tryz.ntmps27 rfl ?_
  simp(disch:=omega)only[go_sem,he']
  exact qy
 ·refine Con.of_w (rs:=[.tmp 4]) Tryz.func27 rfl Tryz.ntmps27 rfl ?_
  simp(disch:=omega)only[go_sem,he]
  refine qk (Y8 s1 m1 s2 m2 l1 l2) ?_
  simp(disch:=omega)only[go_sem]
  exact qy
end Go.Ab
namespace Go.Ab
open Go Go.Proofs
theorem aaN(e:Int)(he: -3000≤e∧e≤3000):Con Tryz.prog 47 false [.v (.int .i64 1),.v (.int .i64 e)] [] (isA (.ag [.v (.bool (false)),.sl (lim (1)).length (qc (lim (1))),.v (.int .i64 (e))])):=by
 refine Con.frzA ?_
 have hm:oM 1=1:=by unfold oM;rw[aa8]
 have hE:oE 1 e=e:=by unfold oE;rw[aa8,if_neg (by decide)];simp
 have hf:jP 1 e=true:=by
  unfold jP jK;rw[hm,hE,y7]
  simp only[Bool.and_eq_true,decide_eq_true_eq]
  exact⟨by decide,by omega,by omega⟩
 have c1:=aaX false 1 e (by rw[y7];decide) (by omega)
 rw[if_pos hf,hm,hE]at c1
 have c0:=aaT 1 (by omega)
 have e1:decide ((1:Int)<0)=false:=rfl
 have e2:(1:Int).natAbs=1:=rfl
 rw[e1,e2]at c0
 refine Con.of_aw Tryz.func47 rfl Tryz.ntmps47 (by simp) (by simp) (by simp) (W.sound ?_)
 show @W Tryz.prog 15 ⟨_⟩ ⟨fun x σ=>@qW _ _ _ ⟨_⟩ _ ⟨_⟩ x σ⟩ _ _
 simp(disch:=omega)only[go_sem]
 refine qa (c0) ?_
 simp(disch:=omega)only[go_sem]
 refine qa (c1) ?_
 simp(disch:=omega)only[go_sem]
 refine qQ (by simp(disch:=omega)only[go_sem]) ?_
 show qE _ 6 _=_
 rfl
theorem aFY:tz 1024=10:=QD (a:=0) (by decide)
theorem aTS:(ExV.can ⟨false,1024, -10⟩)=⟨false,1,0⟩:=by
 show(⟨oS false 1024,oM 1024,oE 1024 (-10)⟩:ExV)=_
 unfold oS oM oE
 rw[aFY];rfl
theorem arz:(ExV.can ⟨false,1, -14⟩)=⟨false,1, -14⟩:=by
 show(⟨oS false 1,oM 1,oE 1 (-14)⟩:ExV)=_
 unfold oS oM oE
 rw[aa8];rfl
theorem YY(x:ExV)(a:Nat)(s:Bool)(e:Int)(h:x.can=⟨s,a,e⟩)(h1:(lim a).length≤100)(h2: -3000≤e∧e≤3000):x.fit=true:=by
 have e1:oM x.m=a:=congrArg ExV.m h
 have e2:oE x.m x.e=e:=congrArg ExV.e h
 unfold ExV.fit jP jK
 rw[e1,e2]
 simp only[Bool.and_eq_true,decide_eq_true_eq]
 exact⟨h1,h2⟩
theorem aeN(n:Nat)(h1:n=1):Con Tryz.prog 89 false [.ag [.v (.int .i64 (n)),.sl ([ex0]).length (qm ExV.cs ([ex0]))],.v (.int .i64 (-10))] [] (isA (.tu [.ag [.v (.int .i64 (n)),.sl ([ex1]).length (qm ExV.cs ([ex1]))],.ag [.v (.bool (false)),.sl (lim (1)).length (qc (lim (1))),.v (.int .i64 (-14))],.v (.bool true)])):=by
 have c:=aeM n [ex0] (-10) aFB (by omega) (by rw[h1];rfl) (by omega) (aaL n h1) (ard n h1) (by rw[h1];decide+kernel) (by decide+kernel) (by
  rw[show aFB=[⟨⟨false,16383, -14⟩,⟨false,16385, -14⟩⟩] by decide+kernel,List.all_cons,List.all_nil]
  have t1:tz 16383=0:=ae3 rfl
  have t2:tz 16385=0:=ae3 rfl
  have f1:ExV.fit ⟨false,16383, -14⟩=true:=YY _ 16383 false (-14) (by show(⟨oS false 16383,oM 16383,oE 16383 (-14)⟩:ExV)=_;unfold oS oM oE;rw[t1];rfl) (by have:=qD (m:=16383) (B:=20) (zE.2 (by decide));omega) (by omega)
  have f2:ExV.fit ⟨false,16385, -14⟩=true:=YY _ 16385 false (-14) (by show(⟨oS false 16385,oM 16385,oE 16385 (-14)⟩:ExV)=_;unfold oS oM oE;rw[t2];rfl) (by have:=qD (m:=16385) (B:=20) (zE.2 (by decide));omega) (by omega)
  unfold SpV.fit
  rw[f1,f2];rfl)
 have eX:aft n aFB (-10)=[⟨false,1024, -10⟩]:=by rw[h1];decide+kernel
 have eF:jN n aFB (-10)=⟨false,1, -14⟩:=by rw[h1];decide+kernel
 rw[eX,eF]at c
 have f1:ExV.fit ⟨false,1024, -10⟩=true:=YY _ 1 false 0 aTS (by rw[y7];decide) (by omega)
 have f2:ExV.fit ⟨false,1, -14⟩=true:=YY _ 1 false (-14) arz (by rw[y7];decide) (by omega)
 rw[List.all_cons,List.all_nil,f1,f2,if_pos (by rfl),List.map_cons,List.map_nil,aTS,arz]at c
 exact c
set_option maxRecDepth 100000 in
theorem Jv:Con Tryz.prog 16 true [] [] (isA (.v (.bool true))):=by
 obtain⟨n,hn⟩:∃n:Nat,n=1:=⟨1,rfl⟩
 have c:=aeN n hn
 have en:(n:Int)=1:=by omega
 have hrow:qm ExV.cs [ex0]=[.v (.bool false),.sl 0 [],.v (.int .i64 0)]:=by
  simp[qm,ExV.cs,ex0,qn,qc]
 rw[en,hrow]at c
 have hr1:qm ExV.cs [ex1]=[.v (.bool false),.sl (lim 1).length (qc (lim 1)),.v (.int .i64 0)]:=by
  simp[qm,ExV.cs,ex1]
 rw[hr1]at c
 have cd1:=aaN 0 (by omega)
 have cd2:=aaN (-9) (by omega)
 have csd:=aj6 false 1 0 false 1 0 (by rw[y7];decide) (by rw[y7];decide)
 rw[show(decide ((0:Int)=0)&&((false==false)&&decide ((1:Nat)=1)))=true from rfl]at csd
 have hb:∀e:Int, -3000≤e∧e≤3000→dyB false (lim 1) e=true:=fun e he=>by
  rw[y7];unfold dyB
  rw[show zQ false [1]=true by decide,decide_eq_true he.1,decide_eq_true he.2];rfl
 have ccm:=aky false 1 (-14) false 1 (-9) (hb _ (by omega)) (hb _ (by omega))
 have hle:zt (dv 3000 false 1 (-14)) (dv 3000 false 1 (-9))≤0:=(yB _ _).1.2 (by
  unfold dv sv
  rw[if_neg (by simp),show(-9+((3000:Nat):Int)).toNat=(-14+((3000:Nat):Int)).toNat+5 by rfl,Int.pow_add]
  have:(0:Int)<2^(-14+((3000:Nat):Int)).toNat:=Int.pow_pos (by omega)
  generalize (2:Int)^(-14+((3000:Nat):Int)).toNat=p at*
  omega)
 have q3:decide (zt (dv 3000 false 1 (-14)) (dv 3000 false 1 (-9))≤0)=true:=decide_eq_true hle
 generalize zt (dv 3000 false 1 (-14)) (dv 3000 false 1 (-9))=C at*
 refine Con.of_aw Tryz.func16 rfl Tryz.ntmps16 (by simp) (by simp) (by simp)
  (AW.seqLe (E:=[(0,.v (.bool false))]) (H:=[]) (W.sound ?_) (AW.regSplit (E:=[(0,.v (.bool false)),(7,.ag [.v (.int .i64 1),.sl 1 [.v (.bool false),.sl 0 [],.v (.int .i64 0)]])]) (H:=[]) 3 (by simp only[List.take_succ_cons,List.take_zero];rfl) (by simp only[List.drop_succ_cons,List.drop_zero];rfl) ?_ ?_))
 ·show @W Tryz.prog 38 ⟨_⟩ ⟨_⟩ _ _
  simp(disch:=omega)only[go_sem]
  exact Le.lst [] _ _ rfl (by simp(disch:=omega)only[go_sem]) (by simp(disch:=omega)only[go_sem])
 ·simp(disch:=omega)only[go_sem]
  exact(Le.nilC 80000000 1 (zo:=3) (cs:=[.v (.bool false),.v (.slice none 0 0),.v (.int .i64 0)]) (by simp(disch:=omega)only[go_sem]) rfl).trans ((Le.frz 80000000 (z:=3) (ks:=[.v (.bool false),.sl 0 [],.v (.int .i64 0)]) (by simp(disch:=omega)only[go_sem,List.set_cons_succ,List.set_cons_zero]) rfl (by simp(disch:=omega)only[go_sem])).trans (Le.lst [] _ _ rfl (by simp(disch:=omega)only[go_sem]) (by simp(disch:=omega)only[go_sem])))
 show @Ch Tryz.prog 38 ⟨_⟩ ⟨_⟩ ⟨fun σ=>@W Tryz.prog 38 ⟨_⟩ ⟨fun x σ=>@qW _ _ _ ⟨_⟩ _ ⟨_⟩ x σ⟩ σ.env σ.hp⟩ _ _
 simp(disch:=omega)only[go_sem]
 refine qa (c) ?_
 simp(disch:=omega)only[go_sem]
 refine qp rfl [⟨0,[],[]⟩,⟨1,[],[]⟩,⟨2,[],[]⟩,⟨3,[],[]⟩,⟨4,[],[]⟩,⟨5,[],[]⟩,⟨6,[],[]⟩,⟨7,[],[]⟩,⟨8,[],[]⟩,⟨9,[],[]⟩,⟨10,[],[]⟩,⟨11,[],[]⟩,⟨12,[],[]⟩,⟨13,[],[]⟩,⟨14,[],[]⟩,⟨15,[],[]⟩,⟨16,[],[]⟩,⟨17,[14,16],[]⟩,⟨18,[],[]⟩,⟨19,[],[]⟩,⟨20,[],[]⟩,⟨21,[],[]⟩,⟨22,[21],[]⟩,⟨23,[],[]⟩,⟨24,[],[]⟩,⟨25,[],[]⟩,⟨26,[],[]⟩] (by kernel_rfl) ?_
 simp(disch:=omega)only[go_sem]
 refine qa (cd1) ?_
 simp(disch:=omega)only[go_sem]
 refine qk (csd) ?_
 simp(disch:=omega)only[go_sem]
 refine qa (cd2) ?_
 simp(disch:=omega)only[go_sem]
 refine qk (ccm) ?_
 simp(disch:=omega)only[go_sem]
 simp(disch:=omega)only[go_sem,q3]
 exact qy
end Go.Ab
namespace Go.Ab
theorem aMl{K:Nat}{s:Bool}{m:Nat}{e:Int}{s':Bool}{m':Nat}{e':Int}(he: -(K:Int)≤e)(he': -(K:Int)≤e')(h:dv K s m e=dv K s' m' e'):oS s m=oS s' m'∧oM m=oM m'∧oE m e=oE m' e':=by
 by_cases h0:m=0
 ·have h0':m'=0:=by rw[h0,QU]at h;exact aj0.1 h.symm
  rw[h0,h0'];exact⟨rfl,rfl,rfl⟩
 ·obtain⟨rfl,hM,hE,h0'⟩:=aTC h0 he he' h
  refine⟨?_,hM,hE⟩
  unfold oS;rw[if_neg h0,if_neg h0']
end Go.Ab
namespace Go.Ab
open Go Go.Proofs
def ExV.val(K:Nat)(x:ExV):Int:=dv K x.s x.m x.e
theorem zG{x:ExV}(h:x.ok=true):(-3000≤x.e∧x.e≤3000)∧bl x.m≤1600∧(lim x.m).length≤100∧(x.m=0→x.s=false∧x.e=0)∧(x.m % 2=1∨x.m=0):=by
 obtain⟨m,e1,h1,h2,h3,h4,h5⟩:=QT h
 obtain rfl:=yu e1
 exact⟨h3,h2,h1,fun h0=>⟨h5 h0,by omega⟩,by omega⟩
theorem apA{x:ExV}(h:x.ok=true):x.can=x:=by
 obtain⟨h1,h2,h3,h4,h5⟩:=zG h
 show(⟨oS x.s x.m,oM x.m,oE x.m x.e⟩:ExV)=x
 obtain⟨s,m,e⟩:=x
 dsimp only at*
 rcases h5 with o|h0
 ·have h0:m≠0:=by omega
  have ht:=ae3 o
  have g1:oS s m=s:=by unfold oS;rw[if_neg h0]
  have g2:oM m=m:=by have:=@aFr m;rw[ht]at this;simpa using this
  have g3:oE m e=e:=by unfold oE;rw[if_neg h0,ht];simp
  rw[g1,g2,g3]
 ·obtain⟨rfl,rfl⟩:=h4 h0
  rw[h0,Z1];rfl
theorem ary{x:ExV}(h:x.fit=true):x.can.ok=true:=by
 show dyB (oS x.s x.m) (lim (oM x.m)) (oE x.m x.e)=true
 rw[Qv];exact h
theorem J7:ex0.ok=true:=by show dyB false (lim 0) 0=true;rw[qn];decide
theorem Xl{K:Nat}{x:ExV}(h: -(K:Int)≤x.e):x.can.val K=x.val K:=by
 show dv K (oS x.s x.m) (oM x.m) (oE x.m x.e)=_
 rw[aMk h,bbS];rfl
theorem jZ{K:Nat}{x y:ExV}(h1: -(K:Int)≤x.e)(h2: -(K:Int)≤y.e):(x.plus y).val K=x.val K+y.val K:=bcc h1 h2
theorem ZD{K K':Nat}{x y:ExV}(h1: -(K:Int)≤x.e)(h2: -(K':Int)≤y.e):(x.times y).val (K+K')=x.val K*y.val K':=by
 show dv (K+K') ((x.s != y.s)&&decide (x.m*y.m≠0)) (x.m*y.m) (x.e+y.e)=_
 rw[aqG];exact aTB h1 h2
theorem aKY{K:Nat}{x:ExV}:x.neg.val K= -x.val K:=by
 show dv K ((!x.s)&&decide (x.m≠0)) x.m x.e= -dv K x.s x.m x.e
 rw[aqG];unfold dv;rw[aOg,Int.neg_mul]
theorem akW{K j:Nat}{x:ExV}(h: -(K:Int)≤x.e):x.val (K+j)=x.val K*2^j:=by
 unfold ExV.val dv
 have:(x.e+((K+j:Nat):Int)).toNat=(x.e+(K:Int)).toNat+j:=by omega
 rw[this,Int.pow_add,Int.mul_assoc]
theorem K8{K:Int}{x y:ExV}(h1:K≤x.e)(h2:K≤y.e):K≤(x.plus y).e:=Qz h1 h2
theorem aTT{K:Int}{x:ExV}(h: -K≤x.e)(h0:0≤K): -K≤x.can.e:=aZ1 h h0
theorem aMC(x:ExV):x.can.ok=x.fit:=Qv x.s x.m x.e
def ExV.tel(x:ExV):ExV:=if x.fit=true then x.can else ex0
theorem ae8(x:ExV):x.tel.ok=true:=by
 unfold ExV.tel;split
 ·rename_i h;exact ary h
 ·exact J7
/-! ### Floats that are numbers-/
def flD(F:FlV):ExV:=⟨oS (xS F.k F.s) F.m.toNat,oM F.m.toNat,oE F.m.toNat F.e⟩
end Go.Ab
namespace Go.Ab
open Go
section
variable {P:Program}{f:FuncId}{args:List AV}{bs:List Ob}{post:AV→List Ob→List Ob→Prop}
theorem Con.frzB(h:Con P f false args bs post)(hm:∀r hs bs',post r hs bs'→(∀ob∈bs',ob.men fun _=>False)∧∀ob∈hs,ob.men fun _=>False):
  Con P f false args bs (fun r' hs' bs'=>hs'=[]∧∃r hs,post r hs bs'∧r'=qE (rhp hs []) 6 r):=by
 intro R ι w vs h1 h2 h3 h4 h5
 refine(h R ι w vs h1 h2 h3 h4 h5).mono ?_
 rintro e w' ⟨x,r,hs,bs',R',ι',he,hp,hF⟩
 obtain⟨mB,mH⟩:=hm _ _ _ hp
 have hfree:∀m,10000000≤m→rhp hs [] m=.free:=fun m hm=>by simp[rhp,hm]
 have hlow:∀m,m<10000000→rhp hs [] m=rhp hs bs' m:=fun m hm=>by unfold rhp;rw[if_neg (by omega),if_neg (by omega)]
 have hnil:∀m,m<10000000→rhp [] bs' m=.free:=fun m hm=>by unfold rhp;rw[if_neg (by omega)];simp
 have hhi:∀m,10000000≤m→rhp [] bs' m=rhp hs bs' m:=fun m hm=>by unfold rhp;rw[if_pos hm,if_pos hm]
 have hsm:∀{m z cs},rhp hs [] m=.own z cs→m<10000000∧rhp hs bs' m=.own z cs:=by
  intro m z cs e
  rcases Nat.lt_or_ge m 10000000 with hm|hm
  ·exact⟨hm,by rw[←hlow m hm];exact e⟩
  ·rw[hfree m hm]at e;cases e
 have hbg:∀{m z cs},rhp [] bs' m=.own z cs→10000000≤m∧rhp hs bs' m=.own z cs:=by
  intro m z cs e
  rcases Nat.lt_or_ge m 10000000 with hm|hm
  ·rw[hnil m hm]at e;cases e
  ·exact⟨hm,by rw[←hhi m hm];exact e⟩
 have hget:∀(l:List Ob) (k z:Nat) (cs:List AV),(∀ob∈l,ob.men fun _=>False)→l.getD k .free=.own z cs→AllL (fun _=>False) cs:=by
  intro l k z cs hl e
  rw[List.getD_eq_getElem?_getD]at e
  rcases Nat.lt_or_ge k l.length with hk|hk
  ·rw[List.getElem?_eq_getElem hk]at e
   have:=hl _ (List.getElem_mem hk)
   simp only[Option.getD_some]at e
   rw[e]at this;exact this
  ·rw[List.getElem?_eq_none hk]at e;cases e
 have hO:HpOk R' ι' w' (rhp hs []):=by
  refine⟨fun m=>?_,fun m z cs B e hB hr=>hF.nR m z cs B (hsm e).2 hB (.inr hr),fun m m' z z' cs cs' B B' e e'=>hF.inj m m' z z' cs cs' B B' (hsm e).2 (hsm e').2,fun m z cs e=>?_⟩
  ·rcases Nat.lt_or_ge m 10000000 with hm|hm
   ·rw[hlow m hm];exact hF.okF m hm
   ·rw[hfree m hm];trivial
  ·have h6:=(hsm e).1
   unfold rhp at e
   rw[if_neg (by omega)]at e
   exact(hget hs m z cs mH e).mono fun _ h=>h.elim
 have hown:∀{m z cs B},rhp hs [] m=.own z cs→ι' m=some B→w.heap.size≤B.b∧B.b<w'.heap.size:=by
  intro m z cs B e hB
  obtain⟨hm,e⟩:=hsm e
  refine⟨hF.fresh m z cs B hm e hB,?_⟩
  have:=hF.okF m hm
  rw[e,hB]at this
  obtain⟨c,T,lo,hi,g1,_⟩:=this
  rcases Nat.lt_or_ge B.b w'.heap.size with h'|h'
  ·exact h'
  ·simp[Array.getElem?_eq_none h']at g1
 refine⟨x,qE (rhp hs []) 6 r,[],bs',fun b=>R' b∨asd (rhp hs []) ι' b,ι',he,⟨rfl,r,hs,hp,rfl⟩,?_⟩
 refine⟨hF.ext,fun b hb=>?_,fun b hb=>?_,.fr _ _ (zJ hO (fun _ h=>.inl h) (fun _ h=>.inr h) 6 hF.rep),jk 6 r,fun m hm=>?_,fun m hm=>?_,fun m z cs B e hB=>?_,
  fun m m' z z' cs cs' B B' e e'=>hF.inj m m' z z' cs cs' B B' (hbg e).2 (hbg e').2,fun m z cs e=>?_,fun m z cs B hm e=>?_,hF.len,hF.bown,hF.bnf⟩
 ·rcases hb with hb|⟨m,z,cs,B,e,hB,rfl⟩
  ·exact hF.rlt b hb
  ·exact(hown e hB).2
 ·rcases hb with hb|⟨m,z,cs,B,e,hB,rfl⟩
  ·exact hF.rnew b hb
  ·exact .inl (hown e hB).1
 ·rw[hnil m hm];trivial
 ·rw[hhi m hm]
  exact(hF.okB m hm).mono (fun _ _=>rfl) (fun _ _ _ _ _=>rfl) (fun b hb=>hb.elim .inl fun h=>.inr (.inl h)) (fun z cs e=>AllL.of_mem fun a _=>AV.all_true (fun _=>rfl) a)
 ·obtain⟨hm,e⟩:=hbg e
  have h6:=hF.nR m z cs B e hB
  rintro(hr|hr|⟨m',z',cs',B',e',hB',hb⟩)
  ·exact h6 (.inl hr)
  ·exact h6 (.inr hr)
  ·obtain⟨hm',e'⟩:=hsm e'
   have:=hF.inj m' m z' z cs' cs B' B e' e hB' hB hb
   omega
 ·have h6:=(hbg e).1
  unfold rhp at e
  rw[if_pos h6]at e
  exact(hget bs' _ z cs mB e).mono fun _ h=>h.elim
 ·rw[hnil m hm]at e;cases e
end
end Go.Ab
namespace Go.Ab
open Go
structure IvV where
 lo:DyV
 hi:DyV
def IvV.cs(x:IvV):List AV:=x.lo.cs++x.hi.cs
def dy0:DyV:=⟨false,[],0⟩
def iv0:IvV:=⟨dy0,dy0⟩
theorem aFz(x:IvV):x.cs.length=6:=rfl
theorem aFy{ρ:Nat→Nat}(x:IvV):zK ρ x.cs=x.cs:=rfl
theorem ap9{hp:Nat→Ob}{k:Nat}(x:IvV):x.cs.map (qE hp (k+1))=x.cs:=rfl
theorem aFA{p:Nat→Prop}(x:IvV):AllL p x.cs:=by simp[IvV.cs,DyV.cs,AllL,AV.All]
theorem aLi{l:List IvV}:(qm IvV.cs l).length=l.length*6:=yo aFz
theorem aLh{ρ:Nat→Nat}{l:List IvV}:zK ρ (qm IvV.cs l)=qm IvV.cs l:=ZT aFy
theorem aCv{hp:Nat→Ob}{k:Nat}{l:List IvV}:(qm IvV.cs l).map (qE hp (k+1))=qm IvV.cs l:=Qj ap9
theorem aLj{p:Nat→Prop}{l:List IvV}:AllL p (qm IvV.cs l)=True:=eq_true (ZU aFA)
theorem aCw{p:Nat→Prop}{x:IvV}:AllL p x.cs=True:=eq_true (aFA x)
attribute [go_sem] aLi aLh aCv aLj aCw aFy ap9
end Go.Ab
namespace Go.Ab
open Go Go.Proofs
section
variable (g:Nat)(p:IvV→Bool)
theorem akq(x:IvV)(hf:Con Tryz.prog g true [.ag x.cs] [] (isA (.v (.bool (p x)))))(hg:qq Tryz.prog g=True):
  Con Tryz.prog 241 true [.ag x.cs,.fp [.fn g []] 0] [] (isA (.v (.bool (!p x)))):=by
 unfold IvV.cs DyV.cs at hf ⊢
 refine Con.of_w (rs:=[.tmp 3]) Tryz.func241 rfl Tryz.ntmps241 rfl ?_
 simp(disch:=omega)only[go_sem,hg]
 refine qz hf (by simp(disch:=omega)only[go_sem]) ?_
 rintro r hs ⟨rfl,rfl,_⟩
 refine⟨by simp[qO],?_⟩
 simp(disch:=omega)only[go_sem]
 exact qy
theorem aeB(f:Nat)(caps:List AV)(xs:List IvV)(hl:xs.length≤2^40)(hf:∀x∈xs,Con Tryz.prog f true (.ag x.cs::caps) [] (isA (.v (.bool (p x)))))(hg:qq Tryz.prog f=True)
  (hc:∀h:Nat→Ob,caps.map (qE h 6)=caps) (hc5:∀h:Nat→Ob,caps.map (qE h 5)=caps) (hn:∀ks,AllL (ye ks) caps) (hr:∀ρ,zK ρ caps=caps):
  Con Tryz.prog 274 true [.sl xs.length (qm IvV.cs xs),.fn f caps] [] (fun r hs bs=>∃i:Int,r=.v (.int .i64 i)∧hs=[]∧(0≤i↔∃x∈xs,p x=true)):=by
 refine Con.of_aw Tryz.func274 rfl Tryz.ntmps274 (by simp) (by simp) (by simp) (W.sound ?_)
 show @W Tryz.prog 19 ⟨_⟩ ⟨fun x σ=>@qW _ _ _ ⟨_⟩ _ ⟨_⟩ x σ⟩ _ _
 simp(disch:=omega)only[go_sem]
 refine qh (fun i:Nat=>[(0,.sl xs.length (qm IvV.cs xs)),(1,.fn f caps),(6,.sl xs.length (qm IvV.cs xs)),(7,.v (.int .i64 xs.length)),(8,.v (.int .i64 i))])
  (fun _=>[]) (fun i=>i≤xs.length∧∀j,j<i→p (xs.getD j iv0)=false) (fun i=>xs.length-i) 0 ⟨by omega,fun j hj=>by omega⟩ (Le.lst [] _ _ rfl (by simp(disch:=omega)only[go_sem,hr,hn]) (by simp(disch:=omega)only[go_sem])) ?_
 rintro i ⟨hi,hp⟩
 simp(disch:=omega)only[go_sem]
 refine qe (fun h1=>?_) (fun h1=>?_)
 ·have hcut:=QK (l:=xs) aFz (i:=i) (by omega) iv0
  simp(disch:=omega)only[go_sem,h1,hcut,hg]
  refine⟨by omega,by omega,qz (hf (xs.getD i iv0) (by rw[List.getD_eq_getElem?_getD,List.getElem?_eq_getElem (by omega)];exact List.getElem_mem _)) (by simp(disch:=omega)only[go_sem,hc,hc5]) ?_⟩
  rintro r hs ⟨rfl,rfl,_⟩
  refine⟨by simp[qO],?_⟩
  simp(disch:=omega)only[go_sem]
  refine yT (fun h2=>?_) (fun h2=>?_)
  ·simp(disch:=omega)only[go_sem,h2]
   refine qx (by simp(disch:=omega)only[go_sem]) (by simp(disch:=omega)only[go_sem]) ⟨i,rfl,rfl,?_⟩
   refine⟨fun _=>⟨_,?_,h2⟩,fun _=>by omega⟩
   rw[List.getD_eq_getElem?_getD,List.getElem?_eq_getElem (by omega)];exact List.getElem_mem _
  ·simp(disch:=omega)only[go_sem,h2]
   refine qb (i+1) [] ⟨by omega,fun j hj=>?_⟩ (by show xs.length-(i+1)<xs.length-i;omega) rfl (by simp(disch:=omega)only[go_sem,hr,hn];try omega) (by simp(disch:=omega)only[go_sem])
   rcases(by omega:j<i∨j=i)with h|h
   ·exact hp j h
   ·subst h;exact h2
 ·simp(disch:=omega)only[go_sem,h1]
  refine qx (by simp(disch:=omega)only[go_sem]) (by simp(disch:=omega)only[go_sem]) ⟨-1,rfl,rfl,?_⟩
  refine⟨fun h=>by omega,fun⟨x,hx,hpx⟩=>?_⟩
  obtain⟨j,hj,rfl⟩:=List.getElem_of_mem hx
  have:=hp j (by omega)
  rw[List.getD_eq_getElem?_getD,List.getElem?_eq_getElem hj]at this
  simp only[Option.getD_some]at this
  rw[this]at hpx;cases hpx
theorem JM(f:Nat)(caps:List AV)(xs:List IvV)(hl:xs.length≤2^40)(hf:∀x∈xs,Con Tryz.prog f true (.ag x.cs::caps) [] (isA (.v (.bool (p x)))))(hg:qq Tryz.prog f=True)
  (hc:∀h:Nat→Ob,caps.map (qE h 6)=caps) (hc5:∀h:Nat→Ob,caps.map (qE h 5)=caps) (hn:∀ks,AllL (ye ks) caps) (hr:∀ρ,zK ρ caps=caps):
  Con Tryz.prog 240 true [.sl xs.length (qm IvV.cs xs),.fn f caps] [] (isA (.v (.bool (xs.any p)))):=by
 refine Con.of_aw Tryz.func240 rfl Tryz.ntmps240 (by simp) (by simp) (by simp) (W.sound ?_)
 show @W Tryz.prog 9 ⟨_⟩ ⟨fun x σ=>@qW _ _ _ ⟨_⟩ _ ⟨_⟩ x σ⟩ _ _
 simp(disch:=omega)only[go_sem]
 refine qz (aeB p f caps xs hl hf hg hc hc5 hn hr) (by simp(disch:=omega)only[go_sem,hc,hc5]) ?_
 rintro r hs ⟨i,rfl,rfl,hi⟩
 refine⟨by simp[qO],?_⟩
 simp(disch:=omega)only[go_sem]
 refine qx (by simp(disch:=omega)only[go_sem]) (by simp(disch:=omega)only[go_sem]) ⟨?_,rfl,rfl⟩
 have:decide (0≤i)=xs.any p:=by rw[Bool.eq_iff_iff,decide_eq_true_eq,hi,List.any_eq_true]
 rw[this];rfl
theorem arm(xs:List IvV)(hl:xs.length≤2^40)(hf:∀x∈xs,Con Tryz.prog g true [.ag x.cs] [] (isA (.v (.bool (p x)))))(hg:qq Tryz.prog g=True):
  Con Tryz.prog 183 true [.sl xs.length (qm IvV.cs xs),.fn g []] [] (isA (.v (.bool (xs.all p)))):=by
 refine Con.of_aw Tryz.func183 rfl Tryz.ntmps183 (by simp) (by simp) (by simp) (W.sound ?_)
 show @W Tryz.prog 9 ⟨_⟩ ⟨fun x σ=>@qW _ _ _ ⟨_⟩ _ ⟨_⟩ x σ⟩ _ _
 simp(disch:=omega)only[go_sem]
 refine qz (JM (fun x=> !p x) 241 [.fp [.fn g []] 0] xs hl (fun x hx=>akq g p x (hf x hx) hg) (by simp(disch:=omega)only[go_sem]) (fun h=>rfl) (fun h=>rfl) (fun ks=>by simp(disch:=omega)only[go_sem]) (fun ρ=>rfl)) (by simp(disch:=omega)only[go_sem]) ?_
 rintro r hs ⟨rfl,rfl,_⟩
 refine⟨by simp[qO],?_⟩
 simp(disch:=omega)only[go_sem]
 refine qx (by simp(disch:=omega)only[go_sem]) (by simp(disch:=omega)only[go_sem]) ⟨?_,rfl,rfl⟩
 have:(!xs.any fun x=> !p x)=xs.all p:=by rw[List.all_eq_not_any_not]
 rw[this];rfl
end
end Go.Ab
namespace Go.Ab
open Go Go.Proofs
/-! ### Intervals that were drawn,and those that are valid-/
def DyV.ex(d:DyV):ExV:=⟨d.s,(vl d.xs).toNat,d.e⟩
def ExV.dyv(x:ExV):DyV:=⟨x.s,lim x.m,x.e⟩
theorem aMc(x:ExV):x.dyv.ex=x:=by unfold ExV.dyv DyV.ex;rw[q7,Int.toNat_natCast]
theorem ajY{d:DyV}(h:d.ok=true):d=d.ex.dyv∧d.ex.ok=true:=by
 obtain⟨s,xs,e⟩:=d
 obtain⟨m,hm, -⟩:=QT (show dyB s xs e=true from h)
 subst hm
 have e1:(DyV.mk s (lim m) e).ex=⟨s,m,e⟩:=aMc ⟨s,m,e⟩
 rw[e1]
 exact⟨rfl,h⟩
def ivB(v:IvV):Bool:=v.lo.ok&&(v.hi.ok&&decide (v.lo.ex.val 3000≤v.hi.ex.val 3000))
def IvV.sp(v:IvV):SpV:=⟨v.lo.ex,v.hi.ex⟩
def SpV.iv(s:SpV):IvV:=⟨s.lo.dyv,s.hi.dyv⟩
def SpV.ok(s:SpV):Bool:=s.lo.ok&&(s.hi.ok&&decide (s.lo.val 3000≤s.hi.val 3000))
theorem aqa(s:SpV):ivB s.iv=s.ok:=by
 unfold ivB SpV.ok SpV.iv
 rw[aMc,aMc];rfl
theorem Zg{s:SpV}(h:s.ok=true):s.lo.ok=true∧s.hi.ok=true∧s.lo.val 3000≤s.hi.val 3000:=by
 simpa [SpV.ok]using h
theorem ym{s:SpV}(h:s.ok=true):s.bd (-3000) 4600:=⟨Ql (Zg h).1,Ql (Zg h).2.1⟩
theorem Jx{K:Nat}{x y:ExV}(h1: -(K:Int)≤x.e)(h2: -(K:Int)≤y.e):x.cmp y=zt (x.val K) (y.val K):=by
 unfold ExV.cmp
 exact afF h1 h2
theorem Yp{x y:ExV}(hx:x.ok=true)(hy:y.ok=true):x.cmp y=zt (x.val 3000) (y.val 3000):=Jx (zG hx).1.1 (zG hy).1.1
theorem aeJ(a b:DyV)(ha:a.xs.length≤1000)(hb:b.xs.length≤1000):Con Tryz.prog 81 true [.sl 2 [.v (.bool a.s),.sl a.xs.length (qc a.xs),.v (.int .i64 a.e),.v (.bool b.s),.sl b.xs.length (qc b.xs),.v (.int .i64 b.e)]] [] (isA (.v (.bool (a.ok&&b.ok)))):=by
 have c:=jR [a,b] (by simp) (by intro x hx;simp at hx;rcases hx with rfl|rfl<;>omega)
 rw[show [a,b].all DyV.ok=(a.ok&&b.ok) by simp]at c
 exact c
theorem afE(v:IvV)(h1:v.lo.xs.length≤1000)(h2:v.hi.xs.length≤1000):Con Tryz.prog 109 true [.ag [.v (.bool (v).lo.s),.sl (v).lo.xs.length (qc (v).lo.xs),.v (.int .i64 (v).lo.e),.v (.bool (v).hi.s),.sl (v).hi.xs.length (qc (v).hi.xs),.v (.int .i64 (v).hi.e)]] [] (isA (.v (.bool (ivB v)))):=by
 unfold ivB
 have ca:=aeJ v.lo v.hi h1 h2
 cases k1:v.lo.ok
 ·rw[k1]at ca
  refine Con.of_aw Tryz.func109 rfl Tryz.ntmps109 (by simp) (by simp) (by simp) (W.sound ?_)
  show @W Tryz.prog 19 ⟨_⟩ ⟨fun x σ=>@qW _ _ _ ⟨_⟩ _ ⟨_⟩ x σ⟩ _ _
  simp(disch:=omega)only[go_sem]
  refine qp rfl [⟨0,[],[]⟩,⟨1,[],[]⟩,⟨2,[1],[]⟩,⟨3,[1],[]⟩,⟨4,[],[]⟩,⟨5,[],[]⟩,⟨6,[],[]⟩,⟨7,[],[]⟩,⟨8,[],[]⟩,⟨10,[8],[]⟩,⟨11,[8],[]⟩,⟨9,[11],[]⟩,⟨12,[],[]⟩,⟨13,[],[]⟩,⟨14,[],[]⟩,⟨15,[],[]⟩,⟨16,[],[]⟩] (by kernel_rfl) ?_
  simp(disch:=omega)only[go_sem]
  refine qk (ca) ?_
  simp(disch:=omega)only[go_sem]
  exact qy
 cases k2:v.hi.ok
 ·rw[k1,k2]at ca
  refine Con.of_aw Tryz.func109 rfl Tryz.ntmps109 (by simp) (by simp) (by simp) (W.sound ?_)
  show @W Tryz.prog 19 ⟨_⟩ ⟨fun x σ=>@qW _ _ _ ⟨_⟩ _ ⟨_⟩ x σ⟩ _ _
  simp(disch:=omega)only[go_sem]
  refine qp rfl [⟨0,[],[]⟩,⟨1,[],[]⟩,⟨2,[1],[]⟩,⟨3,[1],[]⟩,⟨4,[],[]⟩,⟨5,[],[]⟩,⟨6,[],[]⟩,⟨7,[],[]⟩,⟨8,[],[]⟩,⟨10,[8],[]⟩,⟨11,[8],[]⟩,⟨9,[11],[]⟩,⟨12,[],[]⟩,⟨13,[],[]⟩,⟨14,[],[]⟩,⟨15,[],[]⟩,⟨16,[],[]⟩] (by kernel_rfl) ?_
  simp(disch:=omega)only[go_sem]
  refine qk (ca) ?_
  simp(disch:=omega)only[go_sem]
  exact qy
 ·rw[k1,k2]at ca
  obtain⟨lo,hi⟩:=v
  dsimp only at k1 k2 ca ⊢
  obtain⟨e1,o1⟩:=ajY k1
  obtain⟨e2,o2⟩:=ajY k2
  generalize lo.ex=x at*
  generalize hi.ex=y at*
  subst e1 e2
  unfold ExV.dyv at*
  refine Con.of_aw Tryz.func109 rfl Tryz.ntmps109 (by simp) (by simp) (by simp) (W.sound ?_)
  show @W Tryz.prog 19 ⟨_⟩ ⟨fun x σ=>@qW _ _ _ ⟨_⟩ _ ⟨_⟩ x σ⟩ _ _
  simp(disch:=omega)only[go_sem]
  refine qp rfl [⟨0,[],[]⟩,⟨1,[],[]⟩,⟨2,[1],[]⟩,⟨3,[1],[]⟩,⟨4,[],[]⟩,⟨5,[],[]⟩,⟨6,[],[]⟩,⟨7,[],[]⟩,⟨8,[],[]⟩,⟨10,[8],[]⟩,⟨11,[8],[]⟩,⟨9,[11],[]⟩,⟨12,[],[]⟩,⟨13,[],[]⟩,⟨14,[],[]⟩,⟨15,[],[]⟩,⟨16,[],[]⟩] (by kernel_rfl) ?_
  simp(disch:=omega)only[go_sem]
  refine qk (ca) ?_
  simp(disch:=omega)only[go_sem]
  refine qa (zr x.s x.m x.e) ?_
  simp(disch:=omega)only[go_sem]
  refine qa (zr y.s y.m y.e) ?_
  simp(disch:=omega)only[go_sem]
  refine qk (jp x y ((Ql o1).mono (by omega) (by omega)) ((Ql o2).mono (by omega) (by omega))) ?_
  simp(disch:=omega)only[go_sem]
  refine qx (by simp(disch:=omega)only[go_sem]) (by simp(disch:=omega)only[go_sem]) ⟨?_,rfl,rfl⟩
  rw[Yp o1 o2]
  show AV.v (.bool _)=AV.v (.bool (true&&(true&&decide (ExV.val 3000 x≤ExV.val 3000 y))))
  rw[Bool.true_and,Bool.true_and]
  congr 2
  exact decide_eq_decide.2 (yB _ _).1
theorem akp(l:List IvV)(hl:l.length≤1000)(hx:∀v∈l,v.lo.xs.length≤1000∧v.hi.xs.length≤1000):Con Tryz.prog 103 true [.sl l.length (qm IvV.cs l)] [] (isA (.v (.bool (l.all ivB)))):=by
 refine Con.of_w (rs:=[.tmp 2]) Tryz.func103 rfl Tryz.ntmps103 rfl ?_
 simp(disch:=omega)only[go_sem]
 refine qk (arm 109 ivB l (by omega) (fun v h=>afE v (hx v h).1 (hx v h).2) (by simp(disch:=omega)only[go_sem])) ?_
 simp(disch:=omega)only[go_sem]
 exact qy
def aZ5(v:IvV):Prop:=v.lo.xs.length≤1000∧v.hi.xs.length≤1000
theorem aeI(a b:IvV)(ha:aZ5 a)(hb:aZ5 b):Con Tryz.prog 103 true [.sl 2 [.v (.bool a.lo.s),.sl a.lo.xs.length (qc a.lo.xs),.v (.int .i64 a.lo.e),.v (.bool a.hi.s),.sl a.hi.xs.length (qc a.hi.xs),.v (.int .i64 a.hi.e),.v (.bool b.lo.s),.sl b.lo.xs.length (qc b.lo.xs),.v (.int .i64 b.lo.e),.v (.bool b.hi.s),.sl b.hi.xs.length (qc b.hi.xs),.v (.int .i64 b.hi.e)]] []
  (isA (.v (.bool (ivB a&&ivB b)))):=by
 have c:=akp [a,b] (by simp) (by intro x hx;simp at hx;rcases hx with rfl|rfl;exact ha;exact hb)
 rw[show [a,b].all ivB=(ivB a&&ivB b) by simp]at c
 exact c
theorem YQ{s:SpV}(h:s.ok=true):aZ5 s.iv:=by
 have h1:=zG (Zg h).1
 have h2:=zG (Zg h).2.1
 exact⟨by show(lim s.lo.m).length≤1000;omega,by show(lim s.hi.m).length≤1000;omega⟩
theorem yA(a b:SpV)(ha:a.ok=true)(hb:b.ok=true):Con Tryz.prog 103 true [.sl 2 [.v (.bool a.lo.s),.sl (lim a.lo.m).length (qc (lim a.lo.m)),.v (.int .i64 a.lo.e),.v (.bool a.hi.s),.sl (lim a.hi.m).length (qc (lim a.hi.m)),.v (.int .i64 a.hi.e),.v (.bool b.lo.s),.sl (lim b.lo.m).length (qc (lim b.lo.m)),.v (.int .i64 b.lo.e),.v (.bool b.hi.s),.sl (lim b.hi.m).length (qc (lim b.hi.m)),.v (.int .i64 b.hi.e)]] []
  (isA (.v (.bool true))):=by
 have c:=aeI a.iv b.iv (YQ ha) (YQ hb)
 rw[aqa,aqa,ha,hb]at c
 exact c
theorem aaW(s:SpV)(h:s.ok=true):Con Tryz.prog 109 true [.ag [.v (.bool (s).lo.s),.sl (lim (s).lo.m).length (qc (lim (s).lo.m)),.v (.int .i64 (s).lo.e),.v (.bool (s).hi.s),.sl (lim (s).hi.m).length (qc (lim (s).hi.m)),.v (.int .i64 (s).hi.e)]] [] (isA (.v (.bool true))):=by
 have c:=afE s.iv (YQ h).1 (YQ h).2
 rw[aqa,h]at c
 exact c
theorem zP(s:SpV):Con Tryz.prog 105 false [.ag [.v (.bool (s).lo.s),.sl (lim (s).lo.m).length (qc (lim (s).lo.m)),.v (.int .i64 (s).lo.e),.v (.bool (s).hi.s),.sl (lim (s).hi.m).length (qc (lim (s).hi.m)),.v (.int .i64 (s).hi.e)]] [] (isA (.ag [.v (.bool (s).lo.s),.sl (lim (s).lo.m).length (qc (lim (s).lo.m)),.v (.int .i64 (s).lo.e),.v (.bool (s).hi.s),.sl (lim (s).hi.m).length (qc (lim (s).hi.m)),.v (.int .i64 (s).hi.e)])):=by
 refine Con.frzA ?_
 refine Con.of_w (rs:=[.cell 2 133]) Tryz.func105 rfl Tryz.ntmps105 rfl ?_
 simp(disch:=omega)only[go_sem]
 refine qp rfl [⟨0,[],[]⟩,⟨1,[],[]⟩,⟨3,[1],[]⟩,⟨4,[1],[]⟩,⟨2,[4],[]⟩,⟨5,[],[]⟩,⟨6,[],[]⟩,⟨7,[],[]⟩] (by kernel_rfl) ?_
 simp(disch:=omega)only[go_sem]
 refine qa (zr s.lo.s s.lo.m s.lo.e) ?_
 simp(disch:=omega)only[go_sem]
 refine qa (zr s.hi.s s.hi.m s.hi.e) ?_
 simp(disch:=omega)only[go_sem]
 exact ql
theorem Jm(s:SpV)(x:ExV)(hs:s.ok=true)(hx:x.ok=true):Con Tryz.prog 106 true [.ag [.v (.bool (s).lo.s),.sl (lim (s).lo.m).length (qc (lim (s).lo.m)),.v (.int .i64 (s).lo.e),.v (.bool (s).hi.s),.sl (lim (s).hi.m).length (qc (lim (s).hi.m)),.v (.int .i64 (s).hi.e)],.ag [.v (.bool (x).s),.sl (lim (x).m).length (qc (lim (x).m)),.v (.int .i64 (x).e)]] [] (isA (.v (.bool (decide (s.lo.val 3000≤x.val 3000)&&decide (x.val 3000≤s.hi.val 3000))))):=by
 obtain⟨o1,o2, -⟩:=Zg hs
 have c1:=jp s.lo x ((Ql o1).mono (by omega) (by omega)) ((Ql hx).mono (by omega) (by omega))
 have c2:=jp x s.hi ((Ql hx).mono (by omega) (by omega)) ((Ql o2).mono (by omega) (by omega))
 rw[Yp o1 hx]at c1
 rw[Yp hx o2]at c2
 have e1:decide (zt (s.lo.val 3000) (x.val 3000)≤0)=decide (s.lo.val 3000≤x.val 3000):=decide_eq_decide.2 (yB _ _).1
 have e2:decide (zt (x.val 3000) (s.hi.val 3000)≤0)=decide (x.val 3000≤s.hi.val 3000):=decide_eq_decide.2 (yB _ _).1
 refine Con.of_aw Tryz.func106 rfl Tryz.ntmps106 (by simp) (by simp) (by simp) (W.sound ?_)
 show @W Tryz.prog 17 ⟨_⟩ ⟨fun x σ=>@qW _ _ _ ⟨_⟩ _ ⟨_⟩ x σ⟩ _ _
 simp(disch:=omega)only[go_sem]
 refine qk (c1) ?_
 simp(disch:=omega)only[go_sem]
 cases h1:decide (s.lo.val 3000≤x.val 3000)
 ·simp(disch:=omega)only[go_sem,e1,h1]
  exact qy
 ·simp(disch:=omega)only[go_sem,e1,h1]
  refine qk (c2) ?_
  simp(disch:=omega)only[go_sem]
  exact qx (by simp(disch:=omega)only[go_sem]) (by simp(disch:=omega)only[go_sem]) ⟨by rw[e2];rfl,rfl,rfl⟩
theorem akA{m c:Nat}{hp:Nat→Ob}{K:KV}(x y:ExV)(hx:x.bd (-400000) 400000)(hy:y.bd (-400000) 400000)
  (hk:K (.ag [.v (.bool (q8 [x,y]).s),.sl (lim (q8 [x,y]).m).length (qc (lim (q8 [x,y]).m)),.v (.int .i64 (q8 [x,y]).e)]) (upd hp m (.own 3 [.v (.bool x.s),.sl (lim x.m).length (qc (lim x.m)),.v (.int .i64 x.e),.v (.bool y.s),.sl (lim y.m).length (qc (lim y.m)),.v (.int .i64 y.e)])))
  (hm:hp m=.own 3 [.v (.bool x.s),.sl (lim x.m).length (qc (lim x.m)),.v (.int .i64 x.e),.v (.bool y.s),.sl (lim y.m).length (qc (lim y.m)),.v (.int .i64 y.e)]:=by simp(disch:=omega)only[go_sem]):@Zj Tryz.prog 171 [.rf m 0 2] hp c ⟨K⟩:=by
 refine jx false [m] (Jn [x,y] (by simp) (by simp) (fun z hz=>?_)) (by simp[snp,idx]) (by rw[QN,hm];rfl) rfl (qK hm (of_eq_true (aej (l:=[x,y])))) (by intro n hn;exact⟨_,List.mem_cons_self ..,by rw[List.mem_singleton.1 hn];rfl⟩) ?_
 ·simp only[List.mem_cons,List.not_mem_nil,or_false]at hz
  rcases hz with rfl|rfl
  ·exact hx
  ·exact hy
 rintro r hs bs ⟨rfl,rfl,rfl⟩-
 exact⟨⟨by simp,trivial,fun h=>by cases h⟩,hk⟩
theorem aeQ{m c:Nat}{hp:Nat→Ob}{K:KV}(x y:ExV)(hx:x.bd (-400000) 400000)(hy:y.bd (-400000) 400000)
  (hk:K (.ag [.v (.bool (qL [x,y]).s),.sl (lim (qL [x,y]).m).length (qc (lim (qL [x,y]).m)),.v (.int .i64 (qL [x,y]).e)]) (upd hp m (.own 3 [.v (.bool x.s),.sl (lim x.m).length (qc (lim x.m)),.v (.int .i64 x.e),.v (.bool y.s),.sl (lim y.m).length (qc (lim y.m)),.v (.int .i64 y.e)])))
  (hm:hp m=.own 3 [.v (.bool x.s),.sl (lim x.m).length (qc (lim x.m)),.v (.int .i64 x.e),.v (.bool y.s),.sl (lim y.m).length (qc (lim y.m)),.v (.int .i64 y.e)]:=by simp(disch:=omega)only[go_sem]):@Zj Tryz.prog 189 [.rf m 0 2] hp c ⟨K⟩:=by
 refine jx false [m] (akb [x,y] (by simp) (by simp) (fun z hz=>?_)) (by simp[snp,idx]) (by rw[QN,hm];rfl) rfl (qK hm (of_eq_true (aej (l:=[x,y])))) (by intro n hn;exact⟨_,List.mem_cons_self ..,by rw[List.mem_singleton.1 hn];rfl⟩) ?_
 ·simp only[List.mem_cons,List.not_mem_nil,or_false]at hz
  rcases hz with rfl|rfl
  ·exact hx
  ·exact hy
 rintro r hs bs ⟨rfl,rfl,rfl⟩-
 exact⟨⟨by simp,trivial,fun h=>by cases h⟩,hk⟩
def Qo(s t:SpV):SpV:=⟨q8 [s.lo,t.lo],qL [s.hi,t.hi]⟩
def beR(s t:SpV):SpV:=⟨qL [s.lo,t.lo],q8 [s.hi,t.hi]⟩
theorem aZ3{x y:ExV}(hx:x.ok=true)(hy:y.ok=true):(q8 [x,y]).ok=true∧(q8 [x,y]).val 3000=if x.val 3000<y.val 3000 then y.val 3000 else x.val 3000:=by
 show(zV x y).ok=true∧(zV x y).val 3000=_
 unfold zV
 rw[Yp hy hx]
 by_cases h:x.val 3000<y.val 3000
 ·have:0<zt (y.val 3000) (x.val 3000):=by unfold zt;rw[if_neg (by omega),if_pos h];omega
  rw[if_pos this,if_pos h];exact⟨hy,rfl⟩
 ·have:¬0<zt (y.val 3000) (x.val 3000):=by unfold zt;split<;>(try split)<;>omega
  rw[if_neg this,if_neg h];exact⟨hx,rfl⟩
theorem aPF{x y:ExV}(hx:x.ok=true)(hy:y.ok=true):(qL [x,y]).ok=true∧(qL [x,y]).val 3000=if y.val 3000<x.val 3000 then y.val 3000 else x.val 3000:=by
 show(zf x y).ok=true∧(zf x y).val 3000=_
 unfold zf
 rw[Yp hy hx]
 by_cases h:y.val 3000<x.val 3000
 ·rw[if_pos ((yB _ _).2.1.2 h),if_pos h];exact⟨hy,rfl⟩
 ·rw[if_neg (fun h'=>h ((yB _ _).2.1.1 h')),if_neg h];exact⟨hx,rfl⟩
theorem aNw(s t:SpV)(hs:s.ok=true)(ht:t.ok=true):Con Tryz.prog 160 false [.ag [.v (.bool (s).lo.s),.sl (lim (s).lo.m).length (qc (lim (s).lo.m)),.v (.int .i64 (s).lo.e),.v (.bool (s).hi.s),.sl (lim (s).hi.m).length (qc (lim (s).hi.m)),.v (.int .i64 (s).hi.e)],.ag [.v (.bool (t).lo.s),.sl (lim (t).lo.m).length (qc (lim (t).lo.m)),.v (.int .i64 (t).lo.e),.v (.bool (t).hi.s),.sl (lim (t).hi.m).length (qc (lim (t).hi.m)),.v (.int .i64 (t).hi.e)]] [] (isA (.tu [.ag [.v (.bool (Qo s t).lo.s),.sl (lim (Qo s t).lo.m).length (qc (lim (Qo s t).lo.m)),.v (.int .i64 (Qo s t).lo.e),.v (.bool (Qo s t).hi.s),.sl (lim (Qo s t).hi.m).length (qc (lim (Qo s t).hi.m)),.v (.int .i64 (Qo s t).hi.e)],.v (.bool (decide ((Qo s t).lo.val 3000≤(Qo s t).hi.val 3000)))])):=by
 refine Con.frzA ?_
 have bs:=ym hs
 have bt:=ym ht
 have o1:=(aZ3 (Zg hs).1 (Zg ht).1).1
 have o2:=(aPF (Zg hs).2.1 (Zg ht).2.1).1
 have cc:=jp _ _ ((Ql o1).mono (by omega) (by omega)) ((Ql o2).mono (by omega) (by omega))
 rw[Yp o1 o2]at cc
 have e1:decide (zt ((q8 [s.lo,t.lo]).val 3000) ((qL [s.hi,t.hi]).val 3000)≤0)=decide ((q8 [s.lo,t.lo]).val 3000≤(qL [s.hi,t.hi]).val 3000):=decide_eq_decide.2 (yB _ _).1
 unfold Qo
 refine Con.of_w (rs:=[.cell 4 133,.tmp 5]) Tryz.func160 rfl Tryz.ntmps160 rfl ?_
 simp(disch:=omega)only[go_sem]
 refine qp rfl [⟨0,[],[]⟩,⟨1,[],[]⟩,⟨2,[1],[]⟩,⟨3,[1],[]⟩,⟨6,[1,3],[]⟩,⟨7,[1,3],[]⟩,⟨8,[1,3,7],[]⟩,⟨9,[1,3,7],[]⟩,⟨4,[7,9],[]⟩,⟨10,[1,3],[130000000]⟩,⟨13,[1,3,7,9],[130000000,190000000]⟩,⟨5,[7,9],[190000000,80000000]⟩,⟨11,[],[80000000]⟩,⟨12,[],[80000000]⟩,⟨14,[],[]⟩] (by kernel_rfl) ?_
 simp(disch:=omega)only[go_sem]
 refine akA s.lo t.lo (bs.1.mono (by omega) (by omega)) (bt.1.mono (by omega) (by omega)) ?_
 simp(disch:=omega)only[go_sem]
 refine aeQ s.hi t.hi (bs.2.mono (by omega) (by omega)) (bt.2.mono (by omega) (by omega)) ?_
 generalize q8 [s.lo,t.lo]=x at*
 generalize qL [s.hi,t.hi]=y at*
 simp(disch:=omega)only[go_sem]
 refine qp rfl [⟨0,[],[]⟩,⟨1,[0],[]⟩,⟨2,[0],[]⟩,⟨3,[0,2],[]⟩,⟨4,[0,2],[]⟩,⟨5,[0],[]⟩,⟨6,[0],[]⟩,⟨7,[],[]⟩,⟨8,[],[]⟩] (by kernel_rfl) ?_
 simp(disch:=omega)only[go_sem]
 refine qk (cc) ?_
 simp(disch:=omega)only[go_sem]
 exact ql (hp:=by simp(disch:=omega)only[go_sem,e1])
theorem aFp{x:ExV}(h:x.ok=true):x.fit=true:=by
 show jP x.m x.e=true
 rw[←Qv x.s x.m x.e]
 exact(show x.can.ok=true by rw[apA h];exact h)
def SpV.tel(s:SpV):SpV:=if s.fit=true then s.can else sp0
theorem Jk(s:SpV)(hs:s.bd (-400000) 400000):Con Tryz.prog 108 false [.ag [.v (.bool (s).lo.s),.sl (lim (s).lo.m).length (qc (lim (s).lo.m)),.v (.int .i64 (s).lo.e),.v (.bool (s).hi.s),.sl (lim (s).hi.m).length (qc (lim (s).hi.m)),.v (.int .i64 (s).hi.e)]] [] (isA (.tu [.ag [.v (.bool (s.tel).lo.s),.sl (lim (s.tel).lo.m).length (qc (lim (s.tel).lo.m)),.v (.int .i64 (s.tel).lo.e),.v (.bool (s.tel).hi.s),.sl (lim (s.tel).hi.m).length (qc (lim (s.tel).hi.m)),.v (.int .i64 (s.tel).hi.e)],.v (.bool s.fit)])):=by
 have c:=Jl s hs
 unfold SpV.tel
 cases hf:s.fit<;>rw[hf]at c<;>exact c
theorem ao3{s:SpV}(h:s.ok=true):s.tel=s∧s.fit=true:=by
 obtain⟨o1,o2, -⟩:=Zg h
 have f1:s.fit=true:=by
  unfold SpV.fit
  have:=aFp o1
  have:=aFp o2
  simp[*]
 unfold SpV.tel
 rw[if_pos f1]
 exact⟨by unfold SpV.can;rw[apA o1,apA o2],f1⟩
def beO(s t:SpV):SpV:=if(Qo s t).lo.val 3000≤(Qo s t).hi.val 3000 then Qo s t else sp0
theorem Q0(n:Int):Con Tryz.prog 104 true [.v (.int .i64 n)] [] (isA (.v (.bool (decide (-200≤n)&&decide (n≤200))))):=by
 refine Con.of_w (rs:=[.tmp 2]) Tryz.func104 rfl Tryz.ntmps104 rfl ?_
 simp(disch:=omega)only[go_sem]
 refine qk (zN n (-200) 200) ?_
 simp(disch:=omega)only[go_sem]
 exact qy
def aNq(s:SpV)(x:ExV):Bool:=decide (s.lo.val 3000≤x.val 3000)&&decide (x.val 3000≤s.hi.val 3000)
theorem aDK(s t:SpV)(hs:s.ok=true)(ht:t.ok=true):Con Tryz.prog 35 true [.ag [.v (.bool (s).lo.s),.sl (lim (s).lo.m).length (qc (lim (s).lo.m)),.v (.int .i64 (s).lo.e),.v (.bool (s).hi.s),.sl (lim (s).hi.m).length (qc (lim (s).hi.m)),.v (.int .i64 (s).hi.e)],.ag [.v (.bool (t).lo.s),.sl (lim (t).lo.m).length (qc (lim (t).lo.m)),.v (.int .i64 (t).lo.e),.v (.bool (t).hi.s),.sl (lim (t).hi.m).length (qc (lim (t).hi.m)),.v (.int .i64 (t).hi.e)]] [] (isA (.v (.bool (aNq t s.lo&&aNq t s.hi)))):=by
 have ca:=yA s t hs ht
 have c1:=Jm t s.lo ht (Zg hs).1
 have c2:=Jm t s.hi ht (Zg hs).2.1
 unfold aNq
 generalize (decide (t.lo.val 3000≤s.lo.val 3000)&&decide (s.lo.val 3000≤t.hi.val 3000))=b1 at*
 generalize (decide (t.lo.val 3000≤s.hi.val 3000)&&decide (s.hi.val 3000≤t.hi.val 3000))=b2 at*
 refine Con.of_w (rs:=[.tmp 4]) Tryz.func35 rfl Tryz.ntmps35 rfl ?_
 simp(disch:=omega)only[go_sem]
 refine qp rfl [⟨0,[],[]⟩,⟨1,[0],[]⟩,⟨2,[],[]⟩,⟨3,[],[]⟩,⟨4,[],[]⟩,⟨5,[],[]⟩,⟨7,[5],[]⟩,⟨8,[5],[]⟩,⟨6,[8],[]⟩,⟨9,[],[]⟩,⟨10,[],[]⟩,⟨11,[],[]⟩,⟨12,[],[]⟩,⟨13,[],[]⟩,⟨15,[13],[]⟩,⟨16,[13],[]⟩,⟨14,[16],[]⟩,⟨17,[],[]⟩,⟨18,[],[]⟩,⟨19,[],[]⟩,⟨20,[],[]⟩] (by kernel_rfl) ?_
 simp(disch:=omega)only[go_sem]
 refine qk (ca) ?_
 simp(disch:=omega)only[go_sem]
 refine qa (zP t) ?_
 simp(disch:=omega)only[go_sem]
 refine qa (zr s.lo.s s.lo.m s.lo.e) ?_
 simp(disch:=omega)only[go_sem]
 refine qk (c1) ?_
 simp(disch:=omega)only[go_sem]
 cases b1
 ·simp(disch:=omega)only[go_sem]
  exact qy
 ·simp(disch:=omega)only[go_sem]
  refine qa (zP t) ?_
  simp(disch:=omega)only[go_sem]
  refine qa (zr s.hi.s s.hi.m s.hi.e) ?_
  simp(disch:=omega)only[go_sem]
  refine qk (c2) ?_
  simp(disch:=omega)only[go_sem]
  exact qy
theorem akw(s:SpV)(x:ExV)(hs:s.ok=true)(hx:x.ok=true):Con Tryz.prog 32 true [.ag [.v (.bool (s).lo.s),.sl (lim (s).lo.m).length (qc (lim (s).lo.m)),.v (.int .i64 (s).lo.e),.v (.bool (s).hi.s),.sl (lim (s).hi.m).length (qc (lim (s).hi.m)),.v (.int .i64 (s).hi.e)],.ag [.v (.bool (x).s),.sl (lim (x).m).length (qc (lim (x).m)),.v (.int .i64 (x).e)]] [] (isA (.v (.bool (aNq s x)))):=by
 have k1:=afD x.s (lim x.m) x.e (by have:=(zG hx).2.2.1;omega)
 rw[show dyB x.s (lim x.m) x.e=true from hx]at k1
 refine Con.of_w (rs:=[.tmp 4]) Tryz.func32 rfl Tryz.ntmps32 rfl ?_
 simp(disch:=omega)only[go_sem]
 refine qp rfl [⟨0,[],[]⟩,⟨1,[],[]⟩,⟨2,[],[]⟩,⟨3,[],[]⟩,⟨4,[],[]⟩,⟨5,[],[]⟩,⟨6,[],[]⟩,⟨7,[],[]⟩,⟨9,[7],[]⟩,⟨8,[9],[]⟩,⟨10,[],[]⟩,⟨11,[],[]⟩,⟨12,[],[]⟩,⟨13,[],[]⟩] (by kernel_rfl) ?_
 simp(disch:=omega)only[go_sem]
 refine qk (aaW s hs) ?_
 simp(disch:=omega)only[go_sem]
 refine qk (k1) ?_
 simp(disch:=omega)only[go_sem]
 refine qa (zP s) ?_
 simp(disch:=omega)only[go_sem]
 refine qa (zr x.s x.m x.e) ?_
 simp(disch:=omega)only[go_sem]
 refine qk (Jm s x hs hx) ?_
 simp(disch:=omega)only[go_sem]
 exact qy
theorem aro(x y:ExV)(h:SpV.ok ⟨x,y⟩=true):Con Tryz.prog 30 false [.ag [.v (.bool (x).s),.sl (lim (x).m).length (qc (lim (x).m)),.v (.int .i64 (x).e)],.ag [.v (.bool (y).s),.sl (lim (y).m).length (qc (lim (y).m)),.v (.int .i64 (y).e)]] [] (isA (.tu [.ag [.v (.bool (SpV.mk x y).lo.s),.sl (lim (SpV.mk x y).lo.m).length (qc (lim (SpV.mk x y).lo.m)),.v (.int .i64 (SpV.mk x y).lo.e),.v (.bool (SpV.mk x y).hi.s),.sl (lim (SpV.mk x y).hi.m).length (qc (lim (SpV.mk x y).hi.m)),.v (.int .i64 (SpV.mk x y).hi.e)],.v (.bool true)])):=by
 refine Con.frzA ?_
 have ci:=Jk ⟨x,y⟩ ⟨(ym h).1.mono (by omega) (by omega),(ym h).2.mono (by omega) (by omega)⟩
 rw[(ao3 h).1,(ao3 h).2]at ci
 refine Con.of_w (rs:=[.cell 4 51,.tmp 5]) Tryz.func30 rfl Tryz.ntmps30 rfl ?_
 simp(disch:=omega)only[go_sem]
 refine qk (aaW ⟨x,y⟩ h) ?_
 simp(disch:=omega)only[go_sem]
 refine qa (zP ⟨x,y⟩) ?_
 simp(disch:=omega)only[go_sem]
 refine qa (ci) ?_
 simp(disch:=omega)only[go_sem]
 exact ql
theorem akx(s t:SpV)(hs:s.ok=true)(ht:t.ok=true):Con Tryz.prog 42 false [.ag [.v (.bool (s).lo.s),.sl (lim (s).lo.m).length (qc (lim (s).lo.m)),.v (.int .i64 (s).lo.e),.v (.bool (s).hi.s),.sl (lim (s).hi.m).length (qc (lim (s).hi.m)),.v (.int .i64 (s).hi.e)],.ag [.v (.bool (t).lo.s),.sl (lim (t).lo.m).length (qc (lim (t).lo.m)),.v (.int .i64 (t).lo.e),.v (.bool (t).hi.s),.sl (lim (t).hi.m).length (qc (lim (t).hi.m)),.v (.int .i64 (t).hi.e)]] [] (isA (.tu [.ag [.v (.bool ((s.plus t).tel).lo.s),.sl (lim ((s.plus t).tel).lo.m).length (qc (lim ((s.plus t).tel).lo.m)),.v (.int .i64 ((s.plus t).tel).lo.e),.v (.bool ((s.plus t).tel).hi.s),.sl (lim ((s.plus t).tel).hi.m).length (qc (lim ((s.plus t).tel).hi.m)),.v (.int .i64 ((s.plus t).tel).hi.e)],.v (.bool (s.plus t).fit)])):=by
 refine Con.frzA ?_
 have ca:=yA s t hs ht
 have bs:=ym hs
 have bt:=ym ht
 have bp:(s.plus t).bd (-3000) 4601:=⟨ExV.plus_bd bs.1 bt.1,ExV.plus_bd bs.2 bt.2⟩
 have ci:=Jk (s.plus t) ⟨bp.1.mono (by omega) (by omega),bp.2.mono (by omega) (by omega)⟩
 have cp:=QV s t ⟨bs.1.mono (by omega) (by omega),bs.2.mono (by omega) (by omega)⟩ ⟨bt.1.mono (by omega) (by omega),bt.2.mono (by omega) (by omega)⟩
 generalize s.plus t=y at*
 refine Con.of_w (rs:=[.cell 4 51,.tmp 5]) Tryz.func42 rfl Tryz.ntmps42 rfl ?_
 simp(disch:=omega)only[go_sem]
 refine qk (ca) ?_
 simp(disch:=omega)only[go_sem]
 refine qp rfl [⟨0,[],[]⟩,⟨2,[0],[]⟩,⟨1,[2],[]⟩,⟨3,[],[]⟩,⟨4,[],[]⟩,⟨5,[],[]⟩,⟨6,[],[]⟩,⟨7,[],[]⟩,⟨8,[],[]⟩,⟨9,[],[]⟩] (by kernel_rfl) ?_
 simp(disch:=omega)only[go_sem]
 refine qa (zP s) ?_
 simp(disch:=omega)only[go_sem]
 refine qa (zP t) ?_
 simp(disch:=omega)only[go_sem]
 refine qa (cp) ?_
 simp(disch:=omega)only[go_sem]
 refine qa (ci) ?_
 simp(disch:=omega)only[go_sem]
 exact ql
end Go.Ab
namespace Go.Ab
open Go Go.Proofs
/-! ### Matrices that were drawn,and those that are valid-/
structure matV(n:Nat)(L:List ExV):Prop where
 n1:1≤n
 n4:n≤4
 len:L.length=n*n
 ok:∀x∈L,x.ok=true
theorem aFv{k:Int}{M:List DyV}(h:ad6 k M=true):∃(n:Nat) (L:List ExV),k=n∧M=L.map ExV.dyv∧matV n L:=by
 simp only[ad6,Bool.and_eq_true,decide_eq_true_eq,List.all_eq_true]at h
 obtain⟨⟨h1,h2⟩,h3,h4⟩:=h
 obtain⟨n,rfl⟩:=Int.eq_ofNat_of_zero_le (show 0≤k by omega)
 have hm:M=(M.map DyV.ex).map ExV.dyv:=by
  rw[List.map_map]
  conv=>lhs;rw[←List.map_id M]
  exact List.map_congr_left fun d hd=>(ajY (h4 d hd)).1
 refine⟨n,M.map DyV.ex,rfl,hm,by omega,by omega,?_,fun x hx=>?_⟩
 ·rw[List.length_map];exact_mod_cast h3
 ·obtain⟨d,hd,rfl⟩:=List.mem_map.1 hx
  exact(ajY (h4 d hd)).2
theorem Zr(L:List ExV):qm DyV.cs (L.map ExV.dyv)=qm ExV.cs L:=by unfold qm;rw[List.map_map];rfl
theorem matV.bd{n:Nat}{L:List ExV}(h:matV n L):gbd (-3000) 4600 L:=fun x hx=>Ql (h.ok x hx)
theorem matV.l16{n:Nat}{L:List ExV}(h:matV n L):L.length≤16:=by rw[h.len];exact Qf h.n4
theorem Yn(n:Nat)(L:List ExV)(h:matV n L):Con Tryz.prog 80 true [.ag [.v (.int .i64 (n)),.sl (L).length (qm ExV.cs (L))]] [] (isA (.v (.bool true))):=by
 have c:=Yo n L (by have:=h.l16;omega) (fun x hx=>by have:=(zG (h.ok x hx)).2.2.1;omega)
 rw[show aK5 n L=true by
  unfold aK5
  simp only[Bool.and_eq_true,decide_eq_true_eq,List.all_eq_true]
  exact⟨⟨by have:=h.n1;omega,by have:=h.n4;omega⟩,by rw[h.len,Int.natCast_mul],h.ok⟩]at c
 exact c
theorem aku(k:Int)(M:List DyV)(h1:M.length≤16)(h2:∀d∈M,d.xs.length≤200):Con Tryz.prog 80 true [.ag [.v (.int .i64 k),.sl M.length (qm DyV.cs M)]] [] (isA (.v (.bool (ad6 k M)))):=
 aaV k M (by omega) fun d hd=>by have:=h2 d hd;omega
def gN(n:Nat)(l:List ExV):Nat:=if l.all ExV.fit=true then n else 0
def gT(l:List ExV):List ExV:=if l.all ExV.fit=true then l.map ExV.can else []
def bfC(k:Int)(M:List DyV)(k':Int)(M':List DyV):Bool:=ad6 k M&&(ad6 k' M'&&decide (k=k'))
end Go.Ab
namespace Go.Ab
/-! ### Sums and greatest ones of whole numbers-/
def qA(f:Nat→Int):Nat→Int
 |0=>0
 |k+1=>qA f k+f k
def aK2(f:Nat→Int):Nat→Int
 |0=>0
 |k+1=>if aK2 f k<f k then f k else aK2 f k
theorem qG{f g:Nat→Int}:∀{k:Nat},(∀i,i<k→f i=g i)→qA f k=qA g k
 |0,_=>rfl
 |k+1,h=>by rw[qA,qA,qG fun i hi=>h i (by omega),h k (by omega)]
theorem ZK(f g:Nat→Int):∀k:Nat,qA (fun i=>f i+g i) k=qA f k+qA g k
 |0=>rfl
 |k+1=>by rw[qA,qA,qA,ZK f g k];omega
theorem QH(f:Nat→Int)(c:Int):∀k:Nat,qA (fun i=>f i*c) k=qA f k*c
 |0=>by simp[qA]
 |k+1=>by rw[qA,qA,QH f c k,Int.add_mul]
theorem yE(f:Nat→Int)(c:Int):∀k:Nat,qA (fun i=>c*f i) k=c*qA f k
 |0=>by simp[qA]
 |k+1=>by rw[qA,qA,yE f c k,Int.mul_add]
theorem QG:∀k:Nat,qA (fun _=>0) k=0
 |0=>rfl
 |k+1=>by rw[qA,QG k];rfl
theorem JT(g:Nat→Nat→Int)(m:Nat):∀k:Nat,qA (fun i=>qA (fun t=>g i t) m) k=qA (fun t=>qA (fun i=>g i t) k) m
 |0=>(QG m).symm
 |k+1=>by
  rw[qA,JT g m k,←ZK]
  exact qG fun t _=>rfl
theorem je{f:Nat→Int}{j:Nat}:∀{k:Nat},j<k→(∀i,i<k→i≠j→f i=0)→qA f k=f j
 |0,h,_=>by omega
 |k+1,h,h2=>by
  rw[qA]
  by_cases hj:j=k
  ·subst hj
   have:qA f j=qA (fun _=>0) j:=qG fun i hi=>h2 i (by omega) (by omega)
   rw[this,QG];omega
  ·rw[je (by omega) (fun i hi=>h2 i (by omega)),h2 k (by omega) (by omega)];omega
def nrm(A:Nat→Nat→Int)(n:Nat):Int:=aK2 (fun j=>qA (fun i=>((A i j).natAbs:Int)) n) n
end Go.Ab
namespace Go.Ab
open Go Go.Proofs
/-! ### What matrices tell-/
def mv(K:Nat)(L:List ExV)(n i j:Nat):Int:=(L.getD (i*n+j) ex0).val K
def eK(K:Nat)(L:List ExV):Prop:=∀x∈L, -(K:Int)≤x.e
theorem aTA{K:Nat}{L:List ExV}{i:Nat}(h:eK K L)(hi:i<L.length): -(K:Int)≤(L.getD i ex0).e:=by
 rw[List.getD_eq_getElem?_getD,List.getElem?_eq_getElem hi]
 exact h _ (List.getElem_mem hi)
theorem matV.eK{n:Nat}{L:List ExV}(h:matV n L){K:Nat}(hK:3000≤K):eK K L:=fun x hx=>by have:=(zG (h.ok x hx)).1;omega
theorem aek(K:Nat):ex0.val K=0:=QU
theorem aFu{n i j:Nat}(hj:j<n):(i*n+j)/n=i∧(i*n+j) % n=j:=by
 constructor
 ·rw[Nat.mul_comm,Nat.mul_add_div (by omega),Nat.div_eq_of_lt hj,Nat.add_zero]
 ·rw[Nat.mul_comm,Nat.mul_add_mod,Nat.mod_eq_of_lt hj]
theorem baa{n:Nat}{g:Nat→Nat→ExV}{i j:Nat}(hi:i<n)(hj:j<n):(gl n g (n*n)).getD (i*n+j) ex0=g i j:=by
 rw[aPO (zH hi hj),(aFu hj).1,(aFu hj).2]
end Go.Ab
namespace Go.Ab
open Go Go.Proofs
def bfy(l:List UInt8)(i h:Int):Ob:=.own 0 [.sl l.length (qj l),.v (.int .i64 i),.v (.int .i64 h)]
def J8(l:List UInt8)(Q:AV→Prop):AV→List Ob→List Ob→Prop:=fun r hs bs=>hs=[]∧Q r∧∃i h:Int,(0≤i∧i≤l.length)∧bs=[.own 0 [.sl l.length (qj l),.v (.int .i64 i),.v (.int .i64 h)]]
section
variable {P:Program}{N f c:Nat}{aa0 args:List AV}{hp:Nat→Ob}{K:KV}{Q:AV→Prop}{e:Nat→AV}{l:List UInt8}{i h:Int}
theorem qu{n:Nat}(hc:Con P f false (.pt 10000000 0::args) [.own 0 [.sl l.length (qj l),.v (.int .i64 i),.v (.int .i64 h)]] (J8 l Q))
  (hk:∀(r:AV) (i' h':Int),(0≤i'∧i'≤l.length)→Q r→K (r.ren (rho c [n])) (upd hp n (.own 0 [.sl l.length (qj l),.v (.int .i64 i'),.v (.int .i64 h')])))
  (ha:aa0.map (snp (hpx false [n] hp) (idx [n]) 6)=args:=by simp(disch:=omega)only[go_sem]) (hn:hp n=.own 0 [.sl l.length (qj l),.v (.int .i64 i),.v (.int .i64 h)]:=by simp(disch:=omega)only[go_sem]):@Zj P f (.pt n 0::aa0) hp c ⟨K⟩:=by
 refine jx false [n] hc (by rw[List.map_cons,ha];simp[snp,idx]) (by rw[QN,hn];rfl) rfl (qK hn (by simp[AllL,AV.All])) (by intro m hm;rw[List.mem_singleton.1 hm];exact⟨_,List.mem_cons_self ..,rfl⟩) ?_
 rintro r hs bs ⟨rfl,hq,i',h',hi',rfl⟩-
 exact⟨⟨by simp,trivial,fun h=>by cases h⟩,hk r i' h' hi' hq⟩
theorem aFx{ks:List Nat}:∀{l:List AV},AllL (ye []) l→leL [] ks l l
 | [],_=>trivial
 |a::r,h=>⟨⟨apr a,h.1.mono fun _ h=>h.elim⟩,aFx h.2⟩
theorem qR{vs:List AV}(i h:Int)(hq:Q (zi vs))(hi:0≤i∧i≤l.length:=by omega)(hh:hp 10000000=.own 0 [.sl l.length (qj l),.v (.int .i64 i),.v (.int .i64 h)]:=by simp(disch:=omega)only[go_sem])
  (hl:AllL (ye []) vs:=by simp(disch:=omega)only[go_sem]):@aFE N false 1 ⟨J8 l Q⟩ ⟨e⟩ vs hp:=
 qg [] [] [.own 0 [.sl l.length (qj l),.v (.int .i64 i),.v (.int .i64 h)]] vs rfl (aFx hl) ⟨⟨hh.symm,by simp[Ob.men,AllL,AV.All],trivial⟩,trivial⟩ ⟨rfl,by simp,by simp⟩ (fun h=>by cases h) ⟨rfl,hq,i,h,hi,rfl⟩
end
def bcu(l:List UInt8)(xs:List Int)(Q:AV→Prop):AV→List Ob→List Ob→Prop:=fun r hs bs=>hs=[]∧Q r∧∃i h:Int,(0≤i∧i≤l.length)∧bs=[.own 0 [.sl l.length (qj l),.v (.int .i64 i),.v (.int .i64 h)],.own 1 (qc xs)]
section
variable {P:Program}{N f c:Nat}{aa0 args:List AV}{hp:Nat→Ob}{K:KV}{Q:AV→Prop}{e:Nat→AV}{l:List UInt8}{i h:Int}
theorem jy{n m k:Nat}{xs:List Int}(hc:Con P f false [.pt 10000000 0,.rf 10000001 0 xs.length] [.own 0 [.sl l.length (qj l),.v (.int .i64 i),.v (.int .i64 h)],.own 1 (qc xs)] (bcu l xs Q))
  (hk:∀(r:AV) (i' h':Int),(0≤i'∧i'≤l.length)→Q r→K (r.ren (rho c [n,m])) (upd (upd hp n (.own 0 [.sl l.length (qj l),.v (.int .i64 i'),.v (.int .i64 h')])) m (.own 1 (qc xs))))
  (hx:xs.length=k:=by rfl)
  (hn:hp n=.own 0 [.sl l.length (qj l),.v (.int .i64 i),.v (.int .i64 h)]:=by simp(disch:=omega)only[go_sem]) (hm:hp m=.own 1 (qc xs):=by simp(disch:=omega)only[go_sem];rfl)
  (hd:Q4 [n,m]=true:=by rfl):@Zj P f [.pt n 0,.rf m 0 k] hp c ⟨K⟩:=by
 have hnm:¬m=n:=by
  have:=(jJ hd)
  simp only[List.nodup_cons,List.mem_singleton]at this
  exact fun h=>this.1 h.symm
 subst hx
 refine jx false [n,m] hc (by simp[snp,idx,hnm]) (by rw[QN,QN,hn,hm];simp only[Ob.ren,ZV,QN];rfl) hd (aCr hn (by simp[AllL,AV.All]) hm Zy) (by intro q hq;simp only[List.mem_cons,List.not_mem_nil,or_false]at hq;rcases hq with rfl|rfl<;>simp[AV.top]) ?_
 rintro r hs bs ⟨rfl,hq,i',h',hi',rfl⟩-
 refine⟨⟨by simp,trivial,fun h=>by cases h⟩,?_⟩
 have:=hk r i' h' hi' hq
 simp only[List.map_cons,List.map_nil,Ob.ren,ZV]
 exact this
end
section
variable (l:List UInt8)(hl:l.length≤9223372036854775807)(i h:Int)(hi:0≤i∧i≤l.length)
include hl hi
theorem jQ:Con Tryz.prog 163 false [.pt 10000000 0] [.own 0 [.sl l.length (qj l),.v (.int .i64 i),.v (.int .i64 h)]] (J8 l fun r=>∃k:Int,(0≤k∧k≤255)∧r=.v (.int .i64 k)):=by
 refine Con.of_aw Tryz.func163 rfl Tryz.ntmps163 (by simp) (by simp) (by simp) (W.sound ?_)
 show @W Tryz.prog 58 ⟨_⟩ ⟨fun x σ=>@qW _ _ _ ⟨_⟩ _ ⟨_⟩ x σ⟩ _ _
 simp(disch:=omega)only[go_sem]
 generalize IntKind.i64.wrap (IntKind.i64.wrap (h*6364136223846793005)+1442695040888963407)=h1
 refine qp rfl [⟨0,[],[]⟩,⟨1,[],[]⟩,⟨2,[],[]⟩,⟨3,[],[]⟩,⟨4,[],[]⟩,⟨5,[3],[]⟩,⟨6,[3],[]⟩,⟨7,[3],[]⟩,⟨8,[3],[]⟩,⟨9,[3],[]⟩,⟨10,[],[]⟩,⟨11,[],[]⟩,⟨12,[],[]⟩] (by kernel_rfl) ?_
 simp(disch:=omega)only[go_sem]
 generalize bch (h1.fdiv (2^min 33 64)) (h1.fdiv (2^min 45 64))=y
 have hy:0≤y % 256∧y % 256<256:=by omega
 generalize y % 256=x at*
 refine qp rfl [⟨0,[],[]⟩,⟨1,[],[]⟩,⟨2,[],[]⟩,⟨3,[],[]⟩,⟨4,[3],[]⟩,⟨5,[3],[]⟩,⟨6,[3],[]⟩,⟨7,[3],[]⟩,⟨8,[3],[]⟩,⟨9,[],[]⟩] (by kernel_rfl) ?_
 simp(disch:=omega)only[go_sem]
 refine qe (fun c1=>?_) (fun c1=>?_)
 ·simp(disch:=omega)only[go_sem,c1]
  refine qp rfl [⟨0,[],[]⟩,⟨1,[],[]⟩,⟨2,[],[]⟩,⟨3,[],[]⟩,⟨4,[],[]⟩,⟨5,[4],[]⟩,⟨6,[4],[]⟩,⟨7,[4],[]⟩,⟨8,[4],[]⟩,⟨9,[],[]⟩,⟨10,[],[]⟩,⟨11,[],[]⟩,⟨12,[],[]⟩,⟨13,[],[]⟩,⟨14,[],[]⟩] (by kernel_rfl) ?_
  simp(disch:=omega)only[go_sem]
  refine⟨by omega,by omega,?_⟩
  generalize IntKind.i64.wrap (x+IntKind.i64.wrap ((l.getD i.toNat 0).toNat:Int))=y2
  have hy2:0≤y2 % 256∧y2 % 256<256:=by omega
  refine qR (i+1) (h1) ⟨_,by omega,rfl⟩
 ·simp(disch:=omega)only[go_sem,c1]
  refine qR (i) (h1) ⟨_,by omega,rfl⟩
theorem qM(n:Int)(hn:n≤2^62):Con Tryz.prog 79 false [.pt 10000000 0,.v (.int .i64 n)] [.own 0 [.sl l.length (qj l),.v (.int .i64 i),.v (.int .i64 h)]] (J8 l fun r=>∃k:Int,(0≤k∧(0<n→k<n))∧r=.v (.int .i64 k)):=by
 refine Con.of_aw Tryz.func79 rfl Tryz.ntmps79 (by simp) (by simp) (by simp) (W.sound ?_)
 show @W Tryz.prog 37 ⟨_⟩ ⟨fun x σ=>@qW _ _ _ ⟨_⟩ _ ⟨_⟩ x σ⟩ _ _
 simp(disch:=omega)only[go_sem]
 refine qe (fun c1=>?_) (fun c1=>?_)
 ·simp(disch:=omega)only[go_sem,c1]
  refine qR (i) (h) ⟨_,⟨by omega,fun h=>by omega⟩,rfl⟩
 ·simp(disch:=omega)only[go_sem,c1]
  refine qe (fun c2=>?_) (fun c2=>?_)
  ·simp(disch:=omega)only[go_sem,c2]
   refine qu (jQ l hl i h hi) ?_
   rintro r i1 h1 hi1 ⟨k1,hk1,rfl⟩
   simp(disch:=omega)only[go_sem]
   refine⟨by omega,?_⟩
   have hm:=Int.emod_nonneg k1 (show n≠0 by omega)
   have hm2:=Int.emod_lt_of_pos k1 (show 0<n by omega)
   refine qR (i1) (h1) ⟨_,⟨hm,fun _=>hm2⟩,rfl⟩
  ·simp(disch:=omega)only[go_sem,c2]
   refine qu (jQ l hl i h hi) ?_
   rintro r i1 h1 hi1 ⟨k1,hk1,rfl⟩
   simp(disch:=omega)only[go_sem]
   refine qu (jQ l hl i1 h1 hi1) ?_
   rintro r i2 h2 hi2 ⟨k2,hk2,rfl⟩
   simp(disch:=omega)only[go_sem]
   refine qu (jQ l hl i2 h2 hi2) ?_
   rintro r i3 h3 hi3 ⟨k3,hk3,rfl⟩
   simp(disch:=omega)only[go_sem]
   refine qu (jQ l hl i3 h3 hi3) ?_
   rintro r i4 h4 hi4 ⟨k4,hk4,rfl⟩
   simp(disch:=omega)only[go_sem]
   refine⟨by omega,?_⟩
   have hm:=Int.emod_nonneg (k1*16777216+k2*65536+k3*256+k4) (show n≠0 by omega)
   have hm2:=Int.emod_lt_of_pos (k1*16777216+k2*65536+k3*256+k4) (show 0<n by omega)
   refine qR (i4) (h4) ⟨_,⟨hm,fun _=>hm2⟩,rfl⟩
theorem qS(n:Int)(hn:n≤2^62):Con Tryz.prog 111 false [.pt 10000000 0,.v (.int .i64 n)] [.own 0 [.sl l.length (qj l),.v (.int .i64 i),.v (.int .i64 h)]] (J8 l fun r=>∃b:Bool,r=.v (.bool b)):=by
 refine Con.of_aw Tryz.func111 rfl Tryz.ntmps111 (by simp) (by simp) (by simp) (W.sound ?_)
 show @W Tryz.prog 9 ⟨_⟩ ⟨fun x σ=>@qW _ _ _ ⟨_⟩ _ ⟨_⟩ x σ⟩ _ _
 simp(disch:=omega)only[go_sem]
 refine qu (qM l hl i h hi n hn) ?_
 rintro r i1 h1 hi1 ⟨k1,hk1,rfl⟩
 simp(disch:=omega)only[go_sem]
 refine qR (i1) (h1) ⟨_,rfl⟩
theorem zq(xs:List Int)(h0:0<xs.length)(h1:xs.length≤2^40):Con Tryz.prog 145 false [.pt 10000000 0,.rf 10000001 0 xs.length] [.own 0 [.sl l.length (qj l),.v (.int .i64 i),.v (.int .i64 h)],.own 1 (qc xs)] (bcu l xs fun r=>∃x∈xs,r=.v (.int .i64 x)):=by
 refine Con.of_aw Tryz.func145 rfl Tryz.ntmps145 (by simp) (by simp) (by simp) (W.sound ?_)
 show @W Tryz.prog 12 ⟨_⟩ ⟨fun x σ=>@qW _ _ _ ⟨_⟩ _ ⟨_⟩ x σ⟩ _ _
 simp(disch:=omega)only[go_sem]
 refine qu (qM l hl i h hi xs.length (by omega)) ?_
 rintro r i1 h1 hi1 ⟨k1,hk1,rfl⟩
 simp(disch:=omega)only[go_sem]
 obtain⟨n1,rfl⟩:=Int.eq_ofNat_of_zero_le hk1.1
 have hlt:n1<xs.length:=by have:=hk1.2 (by omega);omega
 simp(disch:=omega)only[go_sem]
 refine⟨by omega,by omega,?_⟩
 have hm:xs.getD n1 0∈xs:=by rw[List.getD_eq_getElem?_getD,List.getElem?_eq_getElem hlt];exact List.getElem_mem _
 refine qg [] [] [.own 0 [.sl l.length (qj l),.v (.int .i64 i1),.v (.int .i64 h1)],.own 1 (qc xs)] [.v (.int .i64 (xs.getD n1 0))] rfl (by simp(disch:=omega)only[go_sem]) (by simp(disch:=omega)only[go_sem]) (by simp) (by simp) ⟨rfl,⟨_,hm,rfl⟩,_,_,by omega,rfl⟩
end
end Go.Ab
namespace Go.Ab
open Go Go.Proofs
section
variable (l:List UInt8)(hl:l.length≤9223372036854775807)(i h:Int)(hi:0≤i∧i≤l.length)
include hl hi
theorem Xd:Con Tryz.prog 293 false [.pt 10000000 0] [.own 0 [.sl l.length (qj l),.v (.int .i64 i),.v (.int .i64 h)]] (J8 l fun r=>∃k:Int,(0≤k∧k≤100)∧r=.v (.int .i64 k)):=by
 refine Con.of_aw Tryz.func293 rfl Tryz.ntmps293 (by simp) (by simp) (by simp) (W.sound ?_)
 show @W Tryz.prog 10 ⟨_⟩ ⟨fun x σ=>@qW _ _ _ ⟨_⟩ _ ⟨_⟩ x σ⟩ _ _
 simp(disch:=omega)only[go_sem]
 refine qu (qS l hl i h hi 12 (by omega)) ?_
 rintro r i1 h1 hi1 ⟨b,rfl⟩
 simp(disch:=omega)only[go_sem]
 cases b
 ·simp(disch:=omega)only[go_sem]
  refine qu (qM l hl i1 h1 hi1 6 (by omega)) ?_
  rintro r i2 h2 hi2 ⟨k,hk,rfl⟩
  simp(disch:=omega)only[go_sem]
  have:=hk.2 (by omega)
  refine qR (i2) (h2) ⟨_,by omega,rfl⟩
 ·simp(disch:=omega)only[go_sem]
  refine jy (zq l hl i1 h1 hi1 [100,99,50,20] (by simp) (by simp)) ?_
  rintro r i2 h2 hi2 ⟨x,hx,rfl⟩
  have hx_b:0≤x∧x≤100:=by
   simp only[List.mem_cons,List.not_mem_nil,or_false]at hx
   omega
  clear hx
  simp(disch:=omega)only[go_sem]
  refine qR (i2) (h2) ⟨_,by omega,rfl⟩
theorem Yk:Con Tryz.prog 282 false [.pt 10000000 0] [.own 0 [.sl l.length (qj l),.v (.int .i64 i),.v (.int .i64 h)]] (fun r hs bs=>(∃m:Nat,bl m≤1600∧aFt m r hs [])∧∃i h:Int,(0≤i∧i≤l.length)∧bs=[.own 0 [.sl l.length (qj l),.v (.int .i64 i),.v (.int .i64 h)]]):=by
 refine Con.of_aw Tryz.func282 rfl Tryz.ntmps282 (by simp) (by simp) (by simp) (W.sound ?_)
 show @W Tryz.prog 38 ⟨_⟩ ⟨fun x σ=>@qW _ _ _ ⟨_⟩ _ ⟨_⟩ x σ⟩ _ _
 simp(disch:=omega)only[go_sem]
 refine qu (Xd l hl i h hi) ?_
 rintro r i1 h1 hi1 ⟨k,hk,rfl⟩
 simp(disch:=omega)only[go_sem]
 refine qh (fun x:Nat×List Int×Int×Int=>[(0,.pt 10000000 0),(2,.pt 2 0),(3,.rf 1 0 x.2.1.length),(4,.v (.int .i64 k)),(5,.v (.int .i64 x.1))])
  (fun x=>[(1,.own 1 (qc x.2.1)),(2,.own 0 [.v (.slice none 0 0)]),(10000000,.own 0 [.sl l.length (qj l),.v (.int .i64 x.2.2.1),.v (.int .i64 x.2.2.2)])])
  (fun x=>x.1≤k.toNat∧x.2.1.length=x.1∧gd x.2.1∧(0≤x.2.2.1∧x.2.2.1≤l.length)) (fun x=>k.toNat-x.1) (0,[],i1,h1) ⟨by simp,rfl,by simp[gd],hi1⟩
  ((Le.ghost 3 1 1 (by simp(disch:=omega)only[go_sem]) (by simp(disch:=omega)only[go_sem])).trans (Le.lst [(2,40000000)] _ _ rfl (by simp(disch:=omega)only[go_sem]) (by simp(disch:=omega)only[go_sem]))) ?_
 rintro⟨j,xs,i2,h2⟩ ⟨hj,hxl,hg,hi2⟩
 dsimp only at hj hxl hg hi2 ⊢
 simp(disch:=omega)only[go_sem]
 refine qe (fun c1=>?_) (fun c1=>?_)
 ·simp(disch:=omega)only[go_sem,c1]
  refine qu (qM l hl i2 h2 hi2 4 (by omega)) ?_
  rintro r i3 h3 hi3 ⟨q,hq,rfl⟩
  simp(disch:=omega)only[go_sem]
  by_cases q0:q=0
  ·simp(disch:=omega)only[go_sem,q0]
   exact⟨by omega,qb (j+1,xs++[65535],i3,h3) [(1,260000000)] ⟨by dsimp only;omega,by simp[hxl],qF.2 ⟨hg,by simp[gd]⟩,hi3⟩ (by show k.toNat-(j+1)<k.toNat-j;omega) rfl (by simp(disch:=omega)only[go_sem,List.length_append];try omega) (by simp(disch:=omega)only[go_sem])⟩
  by_cases q1:q=1
  ·simp(disch:=omega)only[go_sem,q0,q1]
   exact⟨by omega,qb (j+1,xs++[0],i3,h3) [(1,310000000)] ⟨by dsimp only;omega,by simp[hxl],qF.2 ⟨hg,by simp[gd]⟩,hi3⟩ (by show k.toNat-(j+1)<k.toNat-j;omega) rfl (by simp(disch:=omega)only[go_sem,List.length_append];try omega) (by simp(disch:=omega)only[go_sem])⟩
  simp(disch:=omega)only[go_sem,q0,q1]
  refine qu (qM l hl i3 h3 hi3 65536 (by omega)) ?_
  rintro r i4 h4 hi4 ⟨d,hd,rfl⟩
  simp(disch:=omega)only[go_sem]
  have hd2:=hd.2 (by omega)
  exact⟨by omega,qb (j+1,xs++[d],i4,h4) [(1,210000000)] ⟨by dsimp only;omega,by simp[hxl],qF.2 ⟨hg,QP.2 ⟨by omega,by simp[gd]⟩⟩,hi4⟩ (by show k.toNat-(j+1)<k.toNat-j;omega) rfl (by simp(disch:=omega)only[go_sem,List.length_append];try omega) (by simp(disch:=omega)only[go_sem])⟩
 ·simp(disch:=omega)only[go_sem,c1]
  refine qu (qS l hl i2 h2 hi2 4 (by omega)) ?_
  rintro r i3 h3 hi3 ⟨b,rfl⟩
  simp(disch:=omega)only[go_sem]
  cases b
  ·simp(disch:=omega)only[go_sem]
   have hv:vl xs=((vl xs).toNat:Int):=(Int.toNat_of_nonneg (qU hg)).symm
   have hb:bl (vl xs).toNat≤1600:=by
    refine zE.2 ?_
    have h1:=QB hg
    have h2:(65536:Int)^xs.length≤65536^100:=by
     rw[show(65536:Int)=((65536:Nat):Int) from rfl,←Int.natCast_pow,←Int.natCast_pow]
     exact Int.ofNat_le.2 (Nat.pow_le_pow_right (by omega) (by omega))
    have h3:(65536:Int)^100=((2^1600:Nat):Int):=by decide+kernel
    omega
   generalize (vl xs).toNat=m at*
   refine qz (jr true xs m (by omega) hg hv) (by simp(disch:=omega)only[go_sem]) ?_
   rintro r hs (⟨h0,rfl,rfl⟩|⟨zs,rfl,rfl⟩)
   ·refine⟨⟨by simp,by simp(disch:=omega)only[go_sem]⟩,?_⟩
    simp(disch:=omega)only[go_sem]
    refine qg [] [] [.own 0 [.sl l.length (qj l),.v (.int .i64 i3),.v (.int .i64 h3)]] [.ag [.v (.slice none 0 0)]] rfl (by simp(disch:=omega)only[go_sem]) (by simp(disch:=omega)only[go_sem]) (by simp) (by simp) ⟨⟨m,hb,.inl ⟨h0,rfl,rfl⟩⟩,_,_,hi3,rfl⟩
   ·refine⟨⟨by simp,by simp(disch:=omega)only[go_sem]⟩,?_⟩
    simp(disch:=omega)only[go_sem]
    refine qg [(0,390000000)] [.own 1 (qc (lim m++zs))] [.own 0 [.sl l.length (qj l),.v (.int .i64 i3),.v (.int .i64 h3)]] [.ag [.rf 0 0 (lim m).length]] rfl (by simp(disch:=omega)only[go_sem]) (by simp(disch:=omega)only[go_sem]) (by simp) (by simp) ⟨⟨m,hb,.inr ⟨zs,rfl,rfl⟩⟩,_,_,hi3,rfl⟩
  ·simp(disch:=omega)only[go_sem]
   refine jy (zq l hl i3 h3 hi3 [0,1,2,9,10,65535,65536,1099511627776,4611686018427387903,4611686018427387904] (by simp) (by simp)) ?_
   rintro r i4 h4 hi4 ⟨x,hx,rfl⟩
   have hx_b:0≤x∧x≤4611686018427387904:=by
    simp only[List.mem_cons,List.not_mem_nil,or_false]at hx
    omega
   clear hx
   simp(disch:=omega)only[go_sem]
   obtain⟨n,rfl⟩:=Int.eq_ofNat_of_zero_le hx_b.1
   have hb:bl n≤1600:=Nat.le_trans (show bl n≤63 from zE.2 (by omega)) (by omega)
   refine qz (Xc true n (by omega)) (by simp(disch:=omega)only[go_sem]) ?_
   rintro r hs (⟨h0,rfl,rfl⟩|⟨zs,rfl,rfl⟩)
   ·refine⟨⟨by simp,by simp(disch:=omega)only[go_sem]⟩,?_⟩
    simp(disch:=omega)only[go_sem]
    refine qg [] [] [.own 0 [.sl l.length (qj l),.v (.int .i64 i4),.v (.int .i64 h4)]] [.ag [.v (.slice none 0 0)]] rfl (by simp(disch:=omega)only[go_sem]) (by simp(disch:=omega)only[go_sem]) (by simp) (by simp) ⟨⟨n,hb,.inl ⟨h0,rfl,rfl⟩⟩,_,_,hi4,rfl⟩
   ·refine⟨⟨by simp,by simp(disch:=omega)only[go_sem]⟩,?_⟩
    simp(disch:=omega)only[go_sem]
    refine qg [(0,370000000)] [.own 1 (qc (lim n++zs))] [.own 0 [.sl l.length (qj l),.v (.int .i64 i4),.v (.int .i64 h4)]] [.ag [.rf 0 0 (lim n).length]] rfl (by simp(disch:=omega)only[go_sem]) (by simp(disch:=omega)only[go_sem]) (by simp) (by simp) ⟨⟨n,hb,.inr ⟨zs,rfl,rfl⟩⟩,_,_,hi4,rfl⟩
end
end Go.Ab
namespace Go.Ab
open Go Go.Proofs
end Go.Ab
namespace Go.Ab
open Go Go.Proofs
end Go.Ab
namespace Go.Ab
open Go Go.Proofs
def awV(s:Bool)(m e:Int):FlV:=if m<9007199254740991 then⟨1,s,m+1,e⟩else if e<971 then⟨1,s,4503599627370496,e+1⟩else⟨2,s,0,0⟩
def toV(k:Int)(s:Bool)(m e:Int):FlV:=if k=2 then⟨1,s,9007199254740991,971⟩else if 4503599627370496<m∨(e= -1074∧1<m)then⟨k,s,m-1,e⟩else if-1074<e then⟨k,s,9007199254740991,e-1⟩else⟨0,s,0,0⟩
def nxV(k:Int)(s:Bool)(m e:Int):FlV:=if k=3∨(k=2∧s=false)then⟨k,s,m,e⟩else if k=0 then⟨1,false,1, -1074⟩else if s=true then toV k s m e else awV s m e
def ulE(k e:Int):Int:=if k=0 then-1074 else e
end Go.Ab
namespace Go.Ab
structure Adj(k:Int)(s:Bool)(m e:Int)(n:FlV)(t:Bool)(a:Nat)(E:Int):Prop where
 ha:a<2^53
 hf:2^52≤a∨E= -1074
 hE: -1074≤E∧E≤971
 ho:¬(a+1=2^53∧E=971)
 hu:E≤ulE k e
 lo:dv 1074 (xS k s) m.toNat e=dv 1074 t (if t=true then a+1 else a) E
 hi:dv 1074 (xS n.k n.s) n.m.toNat n.e=dv 1074 t (if t=true then a else a+1) E
theorem bfn:ngS 1 false=true:=rfl
theorem bfl:ngS 1 true=false:=rfl
theorem bfm:ngS 2 false=true:=rfl
end Go.Ab
namespace Go.Ab
open Go Go.Proofs
theorem aqF{n:Nat}{e:Int}(hn:bl n≤1500)(he: -3000≤e∧e≤1400):jP n e=true:=by
 have q4:=yc (aBZ n)
 have l1:=qD (m:=oM n) (B:=1500) (by omega)
 have q5: -3000≤oE n e∧oE n e≤3000:=by
  unfold oE
  by_cases h:n=0
  ·rw[if_pos h];omega
  ·rw[if_neg h];have:=yD h;omega
 unfold jP jK
 simp only[Bool.and_eq_true,decide_eq_true_eq]
 omega
def bet(ok:Bool):AV→List Ob→List Ob→Prop:=fun r hs bs=>hs=[]∧bs=[]∧∃(S:Bool) (M:Nat) (E:Int) (b:Bool),dyB S (lim M) E=true∧(ok=false→b=false)∧r=.tu [.ag [.v (.bool (S)),.sl (lim (M)).length (qc (lim (M))),.v (.int .i64 (E))],.v (.bool b)]
end Go.Ab
namespace Go.Ab
def ivM(s:Bool)(m:Nat)(e mode:Int):Nat:=roM s m e 0 mode*2^(roE m e 0).toNat
end Go.Ab
namespace Go.Ab
open Go Go.Proofs
end Go.Ab
namespace Go.Ab
open Go Go.Proofs
end Go.Ab
namespace Go.Ab
open Go Go.Proofs
end Go.Ab
namespace Go.Ab
open Go Go.Proofs
def bft(k m:Int):Nat:=if k=1 then oM m.toNat else 0
def bfu(k m e:Int):Int:=if k=1 then oE m.toNat e else 0
def bfs(k:Int)(s:Bool)(m:Int):Bool:=if k=1 then oS (s&&decide (m.toNat≠0)) m.toNat else false
end Go.Ab
namespace Go.Ab
open Go Go.Proofs
def bes:AV→List Ob→List Ob→Prop:=fun r hs bs=>hs=[]∧bs=[]∧∃x:FlV,r=.ag x.cs
section
variable (l:List UInt8)(hl:l.length≤9223372036854775807)(i h:Int)(hi:0≤i∧i≤l.length)
include hl hi
end
end Go.Ab
namespace Go.Ab
open Go Go.Proofs
section
variable (l:List UInt8)(hl:l.length≤9223372036854775807)(i h:Int)(hi:0≤i∧i≤l.length)
include hl hi
end
end Go.Ab
namespace Go.Ab
open Go
end Go.Ab
namespace Go.Ab
open Go Go.Proofs
end Go.Ab
namespace Go.Ab
open Go Go.Proofs
end Go.Ab
namespace Go.Ab
open Go Go.Proofs
section
variable (l:List UInt8)(hl:l.length≤9223372036854775807)(i h:Int)(hi:0≤i∧i≤l.length)
include hl hi
end
theorem arb(l:List UInt8)(hl:l.length≤9223372036854775807):Con Tryz.prog 75 false [.sl l.length (qj l)] [] (fun r hs bs=>r=.pt 0 0∧bs=[]∧∃h:Int,hs=[.own 0 [.sl l.length (qj l),.v (.int .i64 0),.v (.int .i64 h)]]):=by
 refine Con.of_aw Tryz.func75 rfl Tryz.ntmps75 (by simp) (by simp) (by simp) (W.sound ?_)
 show @W Tryz.prog 32 ⟨_⟩ ⟨fun x σ=>@qW _ _ _ ⟨_⟩ _ ⟨_⟩ x σ⟩ _ _
 simp(disch:=omega)only[go_sem]
 refine qh (fun x:Nat×Int=>[(0,.sl l.length (qj l)),(3,.v (.int .i64 x.2)),(4,.v (.int .i64 x.1))]) (fun _=>[]) (fun x=>x.1≤l.length) (fun x=>l.length-x.1) (0,IntKind.i64.wrap (38282+l.length)) (by simp)
  (Le.lst [] _ _ rfl (by simp(disch:=omega)only[go_sem]) (by simp(disch:=omega)only[go_sem])) ?_
 rintro⟨i,h⟩ hi
 dsimp only at hi ⊢
 have hfin:∀l':List AV,l'=[.pt 0 0]→(fun r hs bs=>r=.pt 0 0∧bs=[]∧∃h:Int,hs=[.own 0 [.sl l.length (qj l),.v (.int .i64 0),.v (.int .i64 h)]]:AV→List Ob→List Ob→Prop) (zi l') [.own 0 [.sl l.length (qj l),.v (.int .i64 0),.v (.int .i64 h)]] []:=fun l' e=>by subst e;exact⟨rfl,rfl,h,rfl⟩
 by_cases h1:(i:Int)<l.length
 ·by_cases h2:(i:Int)<4000
  ·simp(disch:=omega)only[go_sem,h1,h2]
   generalize IntKind.i64.wrap (IntKind.i64.wrap (IntKind.i64.wrap (h*131)+IntKind.i64.wrap ((l.getD i 0).toNat:Int))+7) % 1073741824=h'
   exact⟨⟨by omega,by omega⟩,by omega,qb (i+1,h') [] (by show i+1≤_;omega) (by show l.length-(i+1)<l.length-i;omega) rfl (by simp(disch:=omega)only[go_sem];try omega) (by simp(disch:=omega)only[go_sem])⟩
  ·simp(disch:=omega)only[go_sem,h1,h2]
   refine qg [(0,330000000)] [.own 0 [.sl l.length (qj l),.v (.int .i64 0),.v (.int .i64 h)]] [] [.pt 0 0] rfl (by simp(disch:=omega)only[go_sem]) (by simp(disch:=omega)only[go_sem]) (by simp) (by simp) (hfin _ rfl)
 ·simp(disch:=omega)only[go_sem,h1]
  refine qg [(0,330000000)] [.own 0 [.sl l.length (qj l),.v (.int .i64 0),.v (.int .i64 h)]] [] [.pt 0 0] rfl (by simp(disch:=omega)only[go_sem]) (by simp(disch:=omega)only[go_sem]) (by simp) (by simp) (hfin _ rfl)
end Go.Ab
namespace Go.Ab
open Go Go.Proofs
end Go.Ab
namespace Go.Ab
open Go Go.Proofs
end Go.Ab
namespace Go.Ab
open Go Go.Proofs
end Go.Ab
namespace Go.Ab
open Go Go.Proofs
end Go.Ab
namespace Go.Ab
open Go Go.Proofs
theorem JR{s:Bool}{m:Nat}(h:(lim m).length≤100)(hs:m=0→s=false):zQ s (lim m)=true:=by
 unfold zQ
 rw[apM m h,Bool.true_and]
 by_cases h0:m=0
 ·rw[hs h0];rfl
 ·have:=Qp h0
  rw[decide_eq_false (show ¬(lim m).length=0 by omega),Bool.and_false];rfl
end Go.Ab
namespace Go.Ab
open Go Go.Proofs
def aZJ(r:AV)(hs:List Ob)(xs:List Int):Prop:=(xs=[]∧r=.ag [.v (.slice none 0 0)]∧hs=[])∨∃zs,r=.ag [.rf 0 0 xs.length]∧hs=[.own 1 (qc (xs++zs))]
section
variable (l:List UInt8)(hl:l.length≤9223372036854775807)(i h:Int)(hi:0≤i∧i≤l.length)
include hl hi
theorem aeA:Con Tryz.prog 265 false [.pt 10000000 0] [.own 0 [.sl l.length (qj l),.v (.int .i64 i),.v (.int .i64 h)]] (fun r hs bs=>(∃xs:List Int,xs.length≤200∧aZJ r hs xs)∧∃i h:Int,(0≤i∧i≤l.length)∧bs=[.own 0 [.sl l.length (qj l),.v (.int .i64 i),.v (.int .i64 h)]]):=by
 refine Con.of_aw Tryz.func265 rfl Tryz.ntmps265 (by simp) (by simp) (by simp) (W.sound ?_)
 show @W Tryz.prog 43 ⟨_⟩ ⟨fun x σ=>@qW _ _ _ ⟨_⟩ _ ⟨_⟩ x σ⟩ _ _
 simp(disch:=omega)only[go_sem]
 refine jx false [10000000] (Yk l hl i h hi) (by simp(disch:=omega)only[go_sem]) (by simp(disch:=omega)only[go_sem]) rfl (qK (z:=0) (cs:=[.sl l.length (qj l),.v (.int .i64 i),.v (.int .i64 h)]) (by simp(disch:=omega)only[go_sem]) (by simp(disch:=omega)only[go_sem])) (by intro n hn;exact⟨_,List.mem_cons_self ..,by rw[List.mem_singleton.1 hn];rfl⟩) ?_
 rintro r hs bs ⟨⟨m,hb,(⟨h0,rfl,rfl⟩|⟨zs,rfl,rfl⟩)⟩,i1,h1,hi1,rfl⟩-
 ·refine⟨by simp[qO],?_⟩
  simp(disch:=omega)only[go_sem]
  refine qu (qS l hl i1 h1 hi1 9 (by omega)) ?_
  rintro r i2 h2 hi2 ⟨b,rfl⟩
  simp(disch:=omega)only[go_sem]
  cases b
  ·simp(disch:=omega)only[go_sem]
   refine qg [] [] [.own 0 [.sl l.length (qj l),.v (.int .i64 i2),.v (.int .i64 h2)]] [.ag [.v (.slice none 0 0)]] rfl (by simp(disch:=omega)only[go_sem]) (by simp(disch:=omega)only[go_sem]) (by simp) (by simp) ⟨⟨[],by simp,.inl ⟨rfl,rfl,rfl⟩⟩,_,_,hi2,rfl⟩
  ·simp(disch:=omega)only[go_sem]
   refine qu (qM l hl i2 h2 hi2 4 (by omega)) ?_
   rintro r i3 h3 hi3 ⟨q,hq,rfl⟩
   simp(disch:=omega)only[go_sem]
   by_cases c0:q=0
   ·simp(disch:=omega)only[go_sem,c0]
    refine qg [(0,280000000)] [.own 1 (qc ([0]++[]))] [.own 0 [.sl l.length (qj l),.v (.int .i64 i3),.v (.int .i64 h3)]] [.ag [.rf 0 0 1]] rfl (by simp(disch:=omega)only[go_sem]) (by simp(disch:=omega)only[go_sem];rfl) (by simp) (by simp) ⟨⟨[0],by simp,.inr ⟨[],rfl,rfl⟩⟩,_,_,hi3,rfl⟩
   by_cases c1:q=1
   ·simp(disch:=omega)only[go_sem,c0,c1]
    refine qg [(0,350000000)] [.own 1 (qc ([-1]++[]))] [.own 0 [.sl l.length (qj l),.v (.int .i64 i3),.v (.int .i64 h3)]] [.ag [.rf 0 0 1]] rfl (by simp(disch:=omega)only[go_sem]) (by simp(disch:=omega)only[go_sem];rfl) (by simp) (by simp) ⟨⟨[-1],by simp,.inr ⟨[],rfl,rfl⟩⟩,_,_,hi3,rfl⟩
   by_cases c2:q=2
   ·simp(disch:=omega)only[go_sem,c0,c1,c2]
    refine qg [(0,420000000)] [.own 1 (qc ([65536]++[]))] [.own 0 [.sl l.length (qj l),.v (.int .i64 i3),.v (.int .i64 h3)]] [.ag [.rf 0 0 1]] rfl (by simp(disch:=omega)only[go_sem]) (by simp(disch:=omega)only[go_sem];rfl) (by simp) (by simp) ⟨⟨[65536],by simp,.inr ⟨[],rfl,rfl⟩⟩,_,_,hi3,rfl⟩
   simp(disch:=omega)only[go_sem,c0,c1,c2]
   refine qh (fun x:List Int×List Int=>[(2,.pt 4 0),(3,.pt 3 0)]) (fun x=>[(1,.own 1 (qc (x.1++x.2))),(3,.own 0 [.rf 1 0 x.1.length]),(4,.own 0 [.v (.slice none 0 0)]),(10000000,.own 0 [.sl l.length (qj l),.v (.int .i64 i3),.v (.int .i64 h3)])])
    (fun x=>x.1.length≤101) (fun x=>101-x.1.length) ([],[])
    (by simp) ((Le.ghostC 50000000 0 1 1 (zo:=0) (cs:=[.v (.slice none 0 0)]) (by simp(disch:=omega)only[go_sem]) rfl (by simp(disch:=omega)only[go_sem])).trans (Le.lst [(3,50000000),(4,40000000)] _ _ rfl (by simp(disch:=omega)only[go_sem]) (by simp(disch:=omega)only[go_sem,List.set_cons_zero]))) ?_
   rintro⟨xs,ys⟩ hx
   dsimp only at hx ⊢
   simp(disch:=omega)only[go_sem]
   refine qe (fun c3=>?_) (fun c3=>?_)
   ·simp(disch:=omega)only[go_sem,c3]
    exact⟨⟨by simp,by omega⟩,qb (xs++[1],[]) [(1,210000000)] (by simp;omega) (by simp;omega) rfl (by simp(disch:=omega)only[go_sem,List.length_append];try omega) (by simp(disch:=omega)only[go_sem,List.length_append,List.append_nil,List.take_left])⟩
   ·simp(disch:=omega)only[go_sem,c3]
    refine qg [(0,1)] [.own 1 (qc (xs++ys))] [.own 0 [.sl l.length (qj l),.v (.int .i64 i3),.v (.int .i64 h3)]] [.ag [.rf 0 0 xs.length]] rfl (by simp(disch:=omega)only[go_sem]) (by simp(disch:=omega)only[go_sem]) (by simp) (by simp) ⟨⟨xs,by omega,.inr ⟨ys,rfl,rfl⟩⟩,_,_,hi3,rfl⟩
 ·have hx:=qD (m:=m) (B:=1600) hb
  refine⟨by simp[qO];simp(disch:=omega)only[go_sem],?_⟩
  simp(disch:=omega)only[go_sem]
  refine qu (qS l hl i1 h1 hi1 9 (by omega)) ?_
  rintro r i2 h2 hi2 ⟨b,rfl⟩
  simp(disch:=omega)only[go_sem]
  cases b
  ·simp(disch:=omega)only[go_sem]
   refine qg [(0,70000000)] [.own 1 (qc (lim m++zs))] [.own 0 [.sl l.length (qj l),.v (.int .i64 i2),.v (.int .i64 h2)]] [.ag [.rf 0 0 (lim m).length]] rfl (by simp(disch:=omega)only[go_sem]) (by simp(disch:=omega)only[go_sem]) (by simp) (by simp) ⟨⟨lim m,by have:=qD (m:=m) (B:=1600) hb;omega,.inr ⟨zs,rfl,rfl⟩⟩,_,_,hi2,rfl⟩
  ·simp(disch:=omega)only[go_sem]
   refine qu (qM l hl i2 h2 hi2 4 (by omega)) ?_
   rintro r i3 h3 hi3 ⟨q,hq,rfl⟩
   simp(disch:=omega)only[go_sem]
   by_cases c0:q=0
   ·simp(disch:=omega)only[go_sem,c0]
    exact⟨⟨by simp,by omega⟩,qg [(0,280000000)] [.own 1 (qc (lim m++[0]++[]))] [.own 0 [.sl l.length (qj l),.v (.int .i64 i3),.v (.int .i64 h3)]] [.ag [.rf 0 0 ((lim m).length+1)]] rfl (by simp(disch:=omega)only[go_sem]) (by simp(disch:=omega)only[go_sem,List.take_left',List.append_nil]) (by simp) (by simp) ⟨⟨lim m++[0],by simp;omega,.inr ⟨[],by rw[List.length_append];rfl,rfl⟩⟩,_,_,hi3,rfl⟩⟩
   by_cases c1:q=1
   ·simp(disch:=omega)only[go_sem,c0,c1]
    exact⟨⟨by simp,by omega⟩,qg [(0,350000000)] [.own 1 (qc (lim m++[-1]++[]))] [.own 0 [.sl l.length (qj l),.v (.int .i64 i3),.v (.int .i64 h3)]] [.ag [.rf 0 0 ((lim m).length+1)]] rfl (by simp(disch:=omega)only[go_sem]) (by simp(disch:=omega)only[go_sem,List.take_left',List.append_nil]) (by simp) (by simp) ⟨⟨lim m++[-1],by simp;omega,.inr ⟨[],by rw[List.length_append];rfl,rfl⟩⟩,_,_,hi3,rfl⟩⟩
   by_cases c2:q=2
   ·simp(disch:=omega)only[go_sem,c0,c1,c2]
    exact⟨⟨by simp,by omega⟩,qg [(0,420000000)] [.own 1 (qc (lim m++[65536]++[]))] [.own 0 [.sl l.length (qj l),.v (.int .i64 i3),.v (.int .i64 h3)]] [.ag [.rf 0 0 ((lim m).length+1)]] rfl (by simp(disch:=omega)only[go_sem]) (by simp(disch:=omega)only[go_sem,List.take_left',List.append_nil]) (by simp) (by simp) ⟨⟨lim m++[65536],by simp;omega,.inr ⟨[],by rw[List.length_append];rfl,rfl⟩⟩,_,_,hi3,rfl⟩⟩
   simp(disch:=omega)only[go_sem,c0,c1,c2]
   refine qh (fun x:List Int×List Int=>[(2,.pt 4 0),(3,.pt 3 0)]) (fun x=>[(1,.own 1 (qc (x.1++x.2))),(3,.own 0 [.rf 1 0 x.1.length]),(4,.own 0 [.v (.slice none 0 0)]),(10000000,.own 0 [.sl l.length (qj l),.v (.int .i64 i3),.v (.int .i64 h3)])])
    (fun x=>x.1.length≤101) (fun x=>101-x.1.length) (lim m,zs)
    (by show(lim m).length≤101;omega) (Le.lst [(3,50000000),(4,40000000),(1,70000000)] _ _ rfl (by simp(disch:=omega)only[go_sem]) (by simp(disch:=omega)only[go_sem])) ?_
   rintro⟨xs,ys⟩ hx
   dsimp only at hx ⊢
   simp(disch:=omega)only[go_sem]
   refine qe (fun c3=>?_) (fun c3=>?_)
   ·simp(disch:=omega)only[go_sem,c3]
    exact⟨⟨by simp,by omega⟩,qb (xs++[1],[]) [(1,210000000)] (by simp;omega) (by simp;omega) rfl (by simp(disch:=omega)only[go_sem,List.length_append];try omega) (by simp(disch:=omega)only[go_sem,List.length_append,List.append_nil,List.take_left])⟩
   ·simp(disch:=omega)only[go_sem,c3]
    refine qg [(0,1)] [.own 1 (qc (xs++ys))] [.own 0 [.sl l.length (qj l),.v (.int .i64 i3),.v (.int .i64 h3)]] [.ag [.rf 0 0 xs.length]] rfl (by simp(disch:=omega)only[go_sem]) (by simp(disch:=omega)only[go_sem]) (by simp) (by simp) ⟨⟨xs,by omega,.inr ⟨ys,rfl,rfl⟩⟩,_,_,hi3,rfl⟩
omit hi hl in
theorem Con.cur{f:Nat}{args:List AV}{Q:AV→List Ob→Prop}{Q':AV→Prop}(hc:Con Tryz.prog f false args [.own 0 [.sl l.length (qj l),.v (.int .i64 i),.v (.int .i64 h)]] (fun r hs bs=>Q r hs∧∃i h:Int,(0≤i∧i≤l.length)∧bs=[.own 0 [.sl l.length (qj l),.v (.int .i64 i),.v (.int .i64 h)]]))
  (hq:∀r hs,Q r hs→(∀ob∈hs,ob.men fun _=>False)∧Q' (qE (rhp hs []) 6 r)):Con Tryz.prog f false args [.own 0 [.sl l.length (qj l),.v (.int .i64 i),.v (.int .i64 h)]] (J8 l Q'):=
 (Con.frzB hc (by
  rintro r hs bs ⟨h1,i,h, -,rfl⟩
  exact⟨by simp[Ob.men,AllL,AV.All],(hq r hs h1).1⟩)).mono fun r hs bs=>by
   rintro⟨rfl,r0,hs0,⟨h1,h2⟩,rfl⟩
   exact⟨rfl,(hq _ _ h1).2,h2⟩
omit hi hl in
theorem Con.curF{f:Nat}{args:List AV}{Q Q':AV→Prop}(hc:Con Tryz.prog f false args [.own 0 [.sl l.length (qj l),.v (.int .i64 i),.v (.int .i64 h)]] (J8 l Q))(hq:∀r,Q r→Q' (qE (rhp [] []) 6 r)):
  Con Tryz.prog f false args [.own 0 [.sl l.length (qj l),.v (.int .i64 i),.v (.int .i64 h)]] (J8 l Q'):=
 Con.cur l i h (Q:=fun r hs=>hs=[]∧Q r) (hc.mono fun r hs bs ⟨h1,h2,h3⟩=>⟨⟨h1,h2⟩,h3⟩) fun r hs ⟨h1,h2⟩=>by subst h1;exact⟨by simp,hq r h2⟩
omit hi hl in
theorem Zs{r:AV}{hs:List Ob}{xs:List Int}(h:aZJ r hs xs):(∀ob∈hs,ob.men fun _=>False)∧qE (rhp hs []) 6 r=.ag [.sl xs.length (qc xs)]:=by
 rcases h with⟨rfl,rfl,rfl⟩|⟨zs,rfl,rfl⟩
 ·exact⟨by simp,rfl⟩
 ·refine⟨by intro ob ho;rw[List.mem_singleton.1 ho];exact Zy,?_⟩
  show AV.ag [qE _ 5 (.rf 0 0 xs.length)]=_
  rw[jT qX rfl]
theorem aez:Con Tryz.prog 282 false [.pt 10000000 0] [.own 0 [.sl l.length (qj l),.v (.int .i64 i),.v (.int .i64 h)]] (J8 l fun r=>∃m:Nat,bl m≤1600∧r=.ag [.sl (lim (m)).length (qc (lim (m)))]):=
 Con.cur l i h (Yk l hl i h hi) fun r hs ⟨m,hb,hr⟩=>by
  have:aZJ r hs (lim m):=hr.elim (fun⟨h0,h1,h2⟩=>.inl ⟨by rw[h0,qn],h1,h2⟩) .inr
  exact⟨(Zs this).1,m,hb,(Zs this).2⟩
theorem aki:Con Tryz.prog 265 false [.pt 10000000 0] [.own 0 [.sl l.length (qj l),.v (.int .i64 i),.v (.int .i64 h)]] (J8 l fun r=>∃xs:List Int,xs.length≤200∧r=.ag [.sl xs.length (qc xs)]):=
 Con.cur l i h (aeA l hl i h hi) fun r hs ⟨xs,hb,hr⟩=>⟨(Zs hr).1,xs,hb,(Zs hr).2⟩
theorem Yh:Con Tryz.prog 264 false [.pt 10000000 0] [.own 0 [.sl l.length (qj l),.v (.int .i64 i),.v (.int .i64 h)]] (J8 l fun r=>∃(s:Bool) (m:Nat),bl m≤1600∧r=.ag [.v (.bool (s&&decide (m≠0))),.sl (lim (m)).length (qc (lim (m)))]):=by
 refine Con.of_aw Tryz.func264 rfl Tryz.ntmps264 (by simp) (by simp) (by simp) (W.sound ?_)
 show @W Tryz.prog 8 ⟨_⟩ ⟨fun x σ=>@qW _ _ _ ⟨_⟩ _ ⟨_⟩ x σ⟩ _ _
 simp(disch:=omega)only[go_sem]
 refine qu (qS l hl i h hi 2 (by omega)) ?_
 rintro r i1 h1 hi1 ⟨b,rfl⟩
 simp(disch:=omega)only[go_sem]
 refine qu (aez l hl i1 h1 hi1) ?_
 rintro r i2 h2 hi2 ⟨m,hm,rfl⟩
 simp(disch:=omega)only[go_sem]
 have hx:=qD (m:=m) (B:=1600) hm
 refine qa (zv b m (by omega)) ?_
 simp(disch:=omega)only[go_sem]
 refine qR (i2) (h2) ⟨b,m,hm,rfl⟩
theorem akg:Con Tryz.prog 221 false [.pt 10000000 0] [.own 0 [.sl l.length (qj l),.v (.int .i64 i),.v (.int .i64 h)]] (J8 l fun r=>∃(s:Bool) (xs:List Int),xs.length≤200∧r=.ag [.v (.bool s),.sl xs.length (qc xs)]):=by
 refine Con.curF (Q:=fun r=>∃(s:Bool) (xs:List Int),xs.length≤200∧(r=.ag [.v (.bool s),.sl xs.length (qc xs)]∨(xs=[]∧r=.ag [.v (.bool s),.v (.slice none 0 0)]))) l i h ?_ (fun r ⟨s,xs,h1,h2⟩=>⟨s,xs,h1,h2.elim (fun h=>by rw[h];rfl) fun⟨h,h'⟩=>by rw[h,h'];rfl⟩)
 refine Con.of_aw Tryz.func221 rfl Tryz.ntmps221 (by simp) (by simp) (by simp) (W.sound ?_)
 show @W Tryz.prog 15 ⟨_⟩ ⟨fun x σ=>@qW _ _ _ ⟨_⟩ _ ⟨_⟩ x σ⟩ _ _
 simp(disch:=omega)only[go_sem]
 refine qu (Yh l hl i h hi) ?_
 rintro r i1 h1 hi1 ⟨s,m,hm,rfl⟩
 simp(disch:=omega)only[go_sem]
 have hx:=qD (m:=m) (B:=1600) hm
 refine qu (qS l hl i1 h1 hi1 9 (by omega)) ?_
 rintro r i2 h2 hi2 ⟨b,rfl⟩
 simp(disch:=omega)only[go_sem]
 cases b
 ·simp(disch:=omega)only[go_sem]
  refine qR (i2) (h2) ⟨_,lim m,by omega,.inl rfl⟩
 ·simp(disch:=omega)only[go_sem]
  refine qu (qS l hl i2 h2 hi2 2 (by omega)) ?_
  rintro r i3 h3 hi3 ⟨b,rfl⟩
  simp(disch:=omega)only[go_sem]
  cases b
  ·simp(disch:=omega)only[go_sem]
   refine qu (aki l hl i3 h3 hi3) ?_
   rintro r i4 h4 hi4 ⟨xs,hxs,rfl⟩
   simp(disch:=omega)only[go_sem]
   refine qR (i4) (h4) ⟨_,xs,hxs,.inl rfl⟩
  ·simp(disch:=omega)only[go_sem]
   refine qR (i3) (h3) ⟨true,[],by simp,.inr ⟨rfl,rfl⟩⟩
omit hi hl in
theorem Y3:AV.ag [.v (.bool false),.sl 0 [],.v (.int .i64 0)]=.ag [.v (.bool (ex0).s),.sl (lim (ex0).m).length (qc (lim (ex0).m)),.v (.int .i64 (ex0).e)]:=by
 show _=AV.ag [.v (.bool false),.sl (lim 0).length (qc (lim 0)),.v (.int .i64 0)]
 rw[qn];rfl
omit hi hl in
theorem Qx(x:ExV)(h:zQ x.s (lim x.m)=true)(he: -12000≤x.e∧x.e≤12000):Con Tryz.prog 126 false [.ag [.v (.bool (x.s)),.sl (lim (x.m)).length (qc (lim (x.m)))],.v (.int .i64 x.e)] [] (isA (.tu [.ag [.v (.bool (x.tel).s),.sl (lim (x.tel).m).length (qc (lim (x.tel).m)),.v (.int .i64 (x.tel).e)],.v (.bool x.fit)])):=by
 have c:=aaX x.s x.m x.e h he
 rw[show jP x.m x.e=x.fit from rfl]at c
 unfold ExV.tel
 cases hf:x.fit<;>rw[hf]at c<;>exact c
omit hi hl in
theorem aLc{m:Nat}(h:bl m≤1600):(lim m).length≤100:=jC.2 (Nat.lt_of_lt_of_eq (zE.1 h) (by decide+kernel))
theorem Yf:Con Tryz.prog 220 false [.pt 10000000 0] [.own 0 [.sl l.length (qj l),.v (.int .i64 i),.v (.int .i64 h)]] (J8 l fun r=>∃x:ExV,x.ok=true∧r=.ag [.v (.bool (x).s),.sl (lim (x).m).length (qc (lim (x).m)),.v (.int .i64 (x).e)]):=by
 refine Con.curF (Q:=fun r=>∃x:ExV,x.ok=true∧qE (rhp [] []) 6 r=.ag [.v (.bool (x).s),.sl (lim (x).m).length (qc (lim (x).m)),.v (.int .i64 (x).e)]) l i h ?_ fun _ h=>h
 refine Con.of_aw Tryz.func220 rfl Tryz.ntmps220 (by simp) (by simp) (by simp) (W.sound ?_)
 show @W Tryz.prog 33 ⟨_⟩ ⟨fun x σ=>@qW _ _ _ ⟨_⟩ _ ⟨_⟩ x σ⟩ _ _
 simp(disch:=omega)only[go_sem]
 refine qu (Yh l hl i h hi) ?_
 rintro r i1 h1 hi1 ⟨s,m,hm,rfl⟩
 simp(disch:=omega)only[go_sem]
 have hx:=qD (m:=m) (B:=1600) hm
 refine qu (qS l hl i1 h1 hi1 3 (by omega)) ?_
 rintro r i2 h2 hi2 ⟨b,rfl⟩
 simp(disch:=omega)only[go_sem]
 have ww:∀(s:Bool) (m:Nat),bl m≤1600→zQ (s&&decide (m≠0)) (lim m)=true:=fun s m hm=>JR (aLc hm) (by intro h;simp[h])
 cases b
 ·simp(disch:=omega)only[go_sem]
  refine qu (qM l hl i2 h2 hi2 24 (by omega)) ?_
  rintro r i3 h3 hi3 ⟨k,hk,rfl⟩
  simp(disch:=omega)only[go_sem]
  have hk2:=hk.2 (by omega)
  refine qu (qS l hl i3 h3 hi3 6 (by omega)) ?_
  rintro r i4 h4 hi4 ⟨b,rfl⟩
  simp(disch:=omega)only[go_sem]
  cases b
  ·simp(disch:=omega)only[go_sem]
   refine qa (Qx ⟨s&&decide (m≠0),m,k-12⟩ (ww s m hm) (by show-12000≤k-12∧k-12≤12000;omega)) ?_
   simp(disch:=omega)only[go_sem]
   have ok:=ae8 ⟨s&&decide (m≠0),m,k-12⟩
   generalize ExV.tel ⟨s&&decide (m≠0),m,k-12⟩=y at*
   cases hf:ExV.fit ⟨s&&decide (m≠0),m,k-12⟩
   ·simp(disch:=omega)only[go_sem,hf]
    refine qR (i4) (h4) ⟨ex0,J7,by simp(disch:=omega)only[go_sem];exact Y3⟩
   ·simp(disch:=omega)only[go_sem,hf]
    refine qR (i4) (h4) ⟨y,ok,by simp(disch:=omega)only[go_sem]⟩
  ·simp(disch:=omega)only[go_sem]
   refine jy (zq l hl i4 h4 hi4 [0, -60,60, -1074,900, -2990,2990, -100] (by simp) (by simp)) ?_
   rintro r i5 h5 hi5 ⟨x,hx,rfl⟩
   have hx_b: -3000≤x∧x≤3000:=by
    simp only[List.mem_cons,List.not_mem_nil,or_false]at hx
    omega
   clear hx
   simp(disch:=omega)only[go_sem]
   refine qa (Qx ⟨s&&decide (m≠0),m,x⟩ (ww s m hm) (by show-12000≤x∧x≤12000;omega)) ?_
   simp(disch:=omega)only[go_sem]
   have ok:=ae8 ⟨s&&decide (m≠0),m,x⟩
   generalize ExV.tel ⟨s&&decide (m≠0),m,x⟩=y at*
   cases hf:ExV.fit ⟨s&&decide (m≠0),m,x⟩
   ·simp(disch:=omega)only[go_sem,hf]
    refine qR (i5) (h5) ⟨ex0,J7,by simp(disch:=omega)only[go_sem];exact Y3⟩
   ·simp(disch:=omega)only[go_sem,hf]
    refine qR (i5) (h5) ⟨y,ok,by simp(disch:=omega)only[go_sem]⟩
 ·simp(disch:=omega)only[go_sem]
  refine qu (qM l hl i2 h2 hi2 40 (by omega)) ?_
  rintro r i3 h3 hi3 ⟨q,hq,rfl⟩
  simp(disch:=omega)only[go_sem]
  have hq2:=hq.2 (by omega)
  refine qa (Xb (q-20) (by omega)) ?_
  simp(disch:=omega)only[go_sem]
  have wq:zQ (decide (q-20<0)) (lim (q-20).natAbs)=true:=JR (by have:=qD (m:=(q-20).natAbs) (B:=6) (zE.2 (by omega));omega) (by intro h;simp;omega)
  refine qu (qM l hl i3 h3 hi3 24 (by omega)) ?_
  rintro r i4 h4 hi4 ⟨k,hk,rfl⟩
  simp(disch:=omega)only[go_sem]
  have hk2:=hk.2 (by omega)
  refine qu (qS l hl i4 h4 hi4 6 (by omega)) ?_
  rintro r i5 h5 hi5 ⟨b,rfl⟩
  simp(disch:=omega)only[go_sem]
  cases b
  ·simp(disch:=omega)only[go_sem]
   refine qa (Qx ⟨decide (q-20<0),(q-20).natAbs,k-12⟩ (wq) (by show-12000≤k-12∧k-12≤12000;omega)) ?_
   simp(disch:=omega)only[go_sem]
   have ok:=ae8 ⟨decide (q-20<0),(q-20).natAbs,k-12⟩
   generalize ExV.tel ⟨decide (q-20<0),(q-20).natAbs,k-12⟩=y at*
   cases hf:ExV.fit ⟨decide (q-20<0),(q-20).natAbs,k-12⟩
   ·simp(disch:=omega)only[go_sem,hf]
    refine qR (i5) (h5) ⟨ex0,J7,by simp(disch:=omega)only[go_sem];exact Y3⟩
   ·simp(disch:=omega)only[go_sem,hf]
    refine qR (i5) (h5) ⟨y,ok,by simp(disch:=omega)only[go_sem]⟩
  ·simp(disch:=omega)only[go_sem]
   refine jy (zq l hl i5 h5 hi5 [0, -60,60, -1074,900, -2990,2990, -100] (by simp) (by simp)) ?_
   rintro r i6 h6 hi6 ⟨x,hx,rfl⟩
   have hx_b: -3000≤x∧x≤3000:=by
    simp only[List.mem_cons,List.not_mem_nil,or_false]at hx
    omega
   clear hx
   simp(disch:=omega)only[go_sem]
   refine qa (Qx ⟨decide (q-20<0),(q-20).natAbs,x⟩ (wq) (by show-12000≤x∧x≤12000;omega)) ?_
   simp(disch:=omega)only[go_sem]
   have ok:=ae8 ⟨decide (q-20<0),(q-20).natAbs,x⟩
   generalize ExV.tel ⟨decide (q-20<0),(q-20).natAbs,x⟩=y at*
   cases hf:ExV.fit ⟨decide (q-20<0),(q-20).natAbs,x⟩
   ·simp(disch:=omega)only[go_sem,hf]
    refine qR (i6) (h6) ⟨ex0,J7,by simp(disch:=omega)only[go_sem];exact Y3⟩
   ·simp(disch:=omega)only[go_sem,hf]
    refine qR (i6) (h6) ⟨y,ok,by simp(disch:=omega)only[go_sem]⟩
theorem Yg:Con Tryz.prog 154 false [.pt 10000000 0] [.own 0 [.sl l.length (qj l),.v (.int .i64 i),.v (.int .i64 h)]] (J8 l fun r=>∃d:DyV,d.xs.length≤200∧r=.ag d.cs):=by
 refine Con.of_aw Tryz.func154 rfl Tryz.ntmps154 (by simp) (by simp) (by simp) (W.sound ?_)
 show @W Tryz.prog 28 ⟨_⟩ ⟨fun x σ=>@qW _ _ _ ⟨_⟩ _ ⟨_⟩ x σ⟩ _ _
 simp(disch:=omega)only[go_sem]
 refine qu (Yf l hl i h hi) ?_
 rintro r i1 h1 hi1 ⟨x,hx,rfl⟩
 simp(disch:=omega)only[go_sem]
 have lx:=(zG hx).2.2.1
 refine qu (qS l hl i1 h1 hi1 9 (by omega)) ?_
 rintro r i2 h2 hi2 ⟨b,rfl⟩
 simp(disch:=omega)only[go_sem]
 cases b
 ·simp(disch:=omega)only[go_sem]
  refine qR (i2) (h2) ⟨⟨x.s,lim x.m,x.e⟩,by show(lim x.m).length≤200;omega,rfl⟩
 ·simp(disch:=omega)only[go_sem]
  refine qu (qM l hl i2 h2 hi2 3 (by omega)) ?_
  rintro r i3 h3 hi3 ⟨q,hq,rfl⟩
  simp(disch:=omega)only[go_sem]
  by_cases c0:q=0
  ·simp(disch:=omega)only[go_sem,c0]
   refine jy (zq l hl i3 h3 hi3 [-3001,3001,3000,4611686018427387904] (by simp) (by simp)) ?_
   rintro r i4 h4 hi4 ⟨y,hy,rfl⟩
   clear hy
   simp(disch:=omega)only[go_sem]
   refine qR (i4) (h4) ⟨⟨x.s,lim x.m,y⟩,by show(lim x.m).length≤200;omega,rfl⟩
  by_cases c1:q=1
  ·simp(disch:=omega)only[go_sem,c0,c1]
   refine qu (akg l hl i3 h3 hi3) ?_
   rintro r i4 h4 hi4 ⟨s,xs,hxs,rfl⟩
   simp(disch:=omega)only[go_sem]
   refine qR (i4) (h4) ⟨⟨s,xs,x.e⟩,hxs,rfl⟩
  simp(disch:=omega)only[go_sem,c0,c1]
  refine qR (i3) (h3) ⟨⟨!x.s,lim x.m,x.e⟩,by show(lim x.m).length≤200;omega,rfl⟩
end
theorem akf(x y:ExV)(hx:x.bd (-400000) 400000)(hy:y.bd (-400000) 400000):Con Tryz.prog 192 false [.ag [.v (.bool (x).s),.sl (lim (x).m).length (qc (lim (x).m)),.v (.int .i64 (x).e)],.ag [.v (.bool (y).s),.sl (lim (y).m).length (qc (lim (y).m)),.v (.int .i64 (y).e)]] [] (isA (.ag [.v (.bool ((x.plus y).can).s),.sl (lim ((x.plus y).can).m).length (qc (lim ((x.plus y).can).m)),.v (.int .i64 ((x.plus y).can).e)])):=by
 obtain⟨z1,a1,a2⟩:=hx
 obtain⟨z2,b1,b2⟩:=hy
 exact aq3 x.s x.m x.e y.s y.m y.e (by omega) (by omega) (by omega) (by omega) z1 z2
end Go.Ab
namespace Go.Ab
open Go
def z3:List AV:=[.v (.bool false),.v (.slice none 0 0),.v (.int .i64 0)]
def z6:List AV:=[.v (.bool false),.v (.slice none 0 0),.v (.int .i64 0),.v (.bool false),.v (.slice none 0 0),.v (.int .i64 0)]
section
variable {X:Type}{f:X→List AV}{z:Nat}{n:Nat}{zs:List AV}{ρ:Nat→Nat}{p:Nat→Prop}
theorem aeW(h:zK ρ zs=zs):zK ρ (zW n zs)=zW n zs:=by
 unfold zW
 induction n with
 |zero=>rfl
 |succ n ih=>
  rw[List.replicate_succ,List.flatten_cons]
  have:∀a b:List AV,zK ρ (a++b)=zK ρ a++zK ρ b:=fun a b=>by simp[qT]
  rw[this,h,ih]
theorem aeX(h:AllL p zs):AllL p (zW n zs):=by
 unfold zW
 induction n with
 |zero=>simp[AllL]
 |succ n ih=>rw[List.replicate_succ,List.flatten_cons];exact AllL.append h ih
theorem Yv:∀(ks a b:List AV) (o:Nat),o+ks.length≤a.length→wr (a++b) o ks=wr a o ks++b
 | [],a,b,o,_=>by simp[wr]
 |k::r,a,b,o,h=>by
  simp only[List.length_cons]at h
  rw[wr,wr,List.set_append_left _ _ (by omega),Yv r]
  rw[List.length_set];omega
theorem aBD(hz:∀x,(f x).length=z){x y:X}{L:List X}:wr (qm f (x::L)) 0 (f y)=qm f (y::L):=by
 rw[zj,zj,Yv _ _ _ _ (by rw[hz,hz];omega)]
 have:=Qb [] (f x) (f y) (by rw[hz,hz])
 rw[List.nil_append,List.nil_append]at this
 exact congrArg (· ++qm f L) this
theorem aBE(hz:∀x,(f x).length=z)(hs:zs.length=z){L:List X}{k:Nat}(x:X):wr (qm f L++zW (k+1) zs) (L.length*z) (f x)=qm f (L++[x])++zW k zs:=by
 unfold zW
 rw[List.replicate_succ,List.flatten_cons,←List.append_assoc]
 have h1:(qm f L++zs).length=(qm f L).length+z:=by simp[hs]
 have h2:=Qb (qm f L) zs (f x) (by rw[hz,hs])
 rw[yo hz]at h2
 rw[Yv _ _ _ _ (by rw[h1,yo hz,hz];exact Nat.le_refl _),h2,←y5,zj,jY,List.append_nil]
theorem aEg:zK ρ (zW n z3)=zW n z3:=aeW rfl
theorem aEh:AllL p (zW n z3)=True:=eq_true (aeX (by simp[z3,AllL,AV.All]))
theorem akS:(zW n z3).length=n*3:=zp n z3
theorem aNB:zK ρ (zW n z6)=zW n z6:=aeW rfl
theorem aND:AllL p (zW n z6)=True:=eq_true (aeX (by simp[z6,AllL,AV.All]))
theorem aNC:(zW n z6).length=n*6:=zp n z6
theorem aNA:zW 0 zs=[]:=by simp[zW]
theorem afs{L:List ExV}{k:Nat}{x:ExV}:wr (qm ExV.cs L++zW (k+1) z3) (L.length*3) [.v (.bool x.s),.sl (lim x.m).length (qc (lim x.m)),.v (.int .i64 x.e)]=qm ExV.cs (L++[x])++zW k z3:=aBE aqx rfl x
theorem aDk{x:DyV}{L:List DyV}{s:Bool}{xs:List Int}{e:Int}:wr (qm DyV.cs (x::L)) 0 [.v (.bool s),.sl xs.length (qc xs),.v (.int .i64 e)]=qm DyV.cs (⟨s,xs,e⟩::L):=aBD Q7 (y:=⟨s,xs,e⟩)
theorem aBM{a b:List AV}:zK ρ (a++b)=zK ρ a++zK ρ b:=by simp[qT]
theorem aD6{a b:List AV}:AllL p (a++b)=(AllL p a∧AllL p b):=propext ⟨fun h=>by
 induction a with
 |nil=>exact⟨by simp[AllL],h⟩
 |cons x r ih=>exact⟨⟨h.1,(ih h.2).1⟩,(ih h.2).2⟩,fun h=>AllL.append h.1 h.2⟩
end
attribute [go_sem] aEg aEh akS aNB aND aNC aBM aD6
end Go.Ab
namespace Go.Ab
open Go Go.Proofs
theorem aq0(n:Nat)(hn:n≤4):Con Tryz.prog 212 false [.v (.int .i64 n)] [] (fun r hs bs=>r=.ag [.v (.int .i64 n),.rf 0 0 (n*n)]∧hs=[.own 3 (zW (n*n) z3)]):=by
 have hq:=Qf hn
 have hz:((n:Int)*n).toNat=n*n:=by rw[←Int.natCast_mul];rfl
 have hz2:(n:Int)*n=((n*n:Nat):Int):=(Int.natCast_mul n n).symm
 refine Con.of_aw Tryz.func212 rfl Tryz.ntmps212 (by simp) (by simp) (by simp) (W.sound ?_)
 show @W Tryz.prog 9 ⟨_⟩ ⟨fun x σ=>@qW _ _ _ ⟨_⟩ _ ⟨_⟩ x σ⟩ _ _
 simp(disch:=omega)only[go_sem]
 rw[hz]
 refine⟨by rw[hz2];omega,qg [(0,90000000)] [.own 3 (zW (n*n) z3)] [] [.ag [.v (.int .i64 n),.rf 0 0 (n*n)]] rfl (by simp(disch:=omega)only[go_sem]) (by simp(disch:=omega)only[go_sem,aEg,aEh];rfl) (by simp) (by simp) ⟨rfl,rfl⟩⟩
section
variable (l:List UInt8)(hl:l.length≤9223372036854775807)(i h:Int)(hi:0≤i∧i≤l.length)
include hl hi
theorem Jp:Con Tryz.prog 162 false [.pt 10000000 0] [.own 0 [.sl l.length (qj l),.v (.int .i64 i),.v (.int .i64 h)]] (J8 l fun r=>∃x:ExV,x.ok=true∧r=.ag [.v (.bool (x).s),.sl (lim (x).m).length (qc (lim (x).m)),.v (.int .i64 (x).e)]):=by
 refine Con.of_aw Tryz.func162 rfl Tryz.ntmps162 (by simp) (by simp) (by simp) (W.sound ?_)
 show @W Tryz.prog 11 ⟨_⟩ ⟨fun x σ=>@qW _ _ _ ⟨_⟩ _ ⟨_⟩ x σ⟩ _ _
 simp(disch:=omega)only[go_sem]
 refine qu (qM l hl i h hi 17 (by omega)) ?_
 rintro r i1 h1 hi1 ⟨k,hk,rfl⟩
 simp(disch:=omega)only[go_sem]
 have hk2:=hk.2 (by omega)
 refine qa (Xb (k-8) (by omega)) ?_
 simp(disch:=omega)only[go_sem]
 refine qu (qM l hl i1 h1 hi1 4 (by omega)) ?_
 rintro r i2 h2 hi2 ⟨q,hq,rfl⟩
 simp(disch:=omega)only[go_sem]
 have hq2:=hq.2 (by omega)
 have b6:bl (k-8).natAbs≤6:=zE.2 (by omega)
 have cf:=yQ (decide (k-8<0)) (k-8).natAbs (0-q) (by omega) (by omega)
 have hf:(ExV.mk (decide (k-8<0)) (k-8).natAbs (0-q)).can.ok=true:=by
  rw[aMC]
  show jP (k-8).natAbs (0-q)=true
  exact aqF (by omega) (by omega)
 have hc:ExV.mk (oS (decide (k-8<0)) (k-8).natAbs) (oM (k-8).natAbs) (oE (k-8).natAbs (0-q))=(ExV.mk (decide (k-8<0)) (k-8).natAbs (0-q)).can:=rfl
 rw[←hc]at hf
 generalize oS (decide (k-8<0)) (k-8).natAbs=S at*
 generalize oM (k-8).natAbs=M at*
 generalize oE (k-8).natAbs (0-q)=E at*
 refine qa (cf) ?_
 simp(disch:=omega)only[go_sem]
 refine qR (i2) (h2) ⟨⟨S,M,E⟩,hf,rfl⟩
theorem akc(n:Nat)(hn:n≤4):Con Tryz.prog 161 false [.pt 10000000 0,.v (.int .i64 n)] [.own 0 [.sl l.length (qj l),.v (.int .i64 i),.v (.int .i64 h)]] (fun r hs bs=>(∃L:List ExV,L.length=n*n∧(∀x∈L,x.ok=true)∧r=.ag [.v (.int .i64 n),.rf 0 0 (n*n)]∧hs=[.own 3 (qm ExV.cs L)])∧∃i h:Int,(0≤i∧i≤l.length)∧bs=[.own 0 [.sl l.length (qj l),.v (.int .i64 i),.v (.int .i64 h)]]):=by
 have hq:=Qf hn
 refine Con.of_aw Tryz.func161 rfl Tryz.ntmps161 (by simp) (by simp) (by simp) (W.sound ?_)
 show @W Tryz.prog 31 ⟨_⟩ ⟨fun x σ=>@qW _ _ _ ⟨_⟩ _ ⟨_⟩ x σ⟩ _ _
 simp(disch:=omega)only[go_sem]
 refine ze (aq0 n hn) (by simp(disch:=omega)only[go_sem]) ?_
 rintro r hs ⟨rfl,rfl⟩
 refine⟨by simp[qO];simp(disch:=omega)only[go_sem],?_⟩
 simp(disch:=omega)only[go_sem]
 refine qh (fun x:List ExV×Int×Int=>[(0,.pt 10000000 0),(4,.pt 4 0),(5,.pt 5 0),(6,.v (.int .i64 x.1.length))])
  (fun x=>[(3,.own 3 (qm ExV.cs x.1++zW (n*n-x.1.length) z3)),(4,.own 0 [.v (.int .i64 0),.v (.slice none 0 0)]),(5,.own 0 [.v (.int .i64 n),.rf 3 0 (n*n)]),(10000000,.own 0 [.sl l.length (qj l),.v (.int .i64 x.2.1),.v (.int .i64 x.2.2)])])
  (fun x=>x.1.length≤n*n∧(∀y∈x.1,y.ok=true)∧(0≤x.2.1∧x.2.1≤l.length)) (fun x=>n*n-x.1.length) ([],i,h) ⟨by simp,by simp,hi⟩
  (Le.lst [(3,100000000),(4,60000000),(5,70000000)] _ _ rfl (by simp(disch:=omega)only[go_sem]) (by simp(disch:=omega)only[go_sem,QS,List.nil_append];try rfl)) ?_
 rintro⟨L,i2,h2⟩ ⟨hL,hok,hi2⟩
 dsimp only at hL hok hi2 ⊢
 simp(disch:=omega)only[go_sem]
 refine qe (fun c1=>?_) (fun c1=>?_)
 ·obtain⟨k,hk⟩:∃k,n*n-L.length=k+1:=⟨n*n-L.length-1,by omega⟩
  rw[hk]
  simp(disch:=omega)only[go_sem,c1]
  refine qu (qS l hl i2 h2 hi2 25 (by omega)) ?_
  rintro r i3 h3 hi3 ⟨b,rfl⟩
  simp(disch:=omega)only[go_sem]
  cases b
  ·simp(disch:=omega)only[go_sem]
   refine qp rfl [⟨0,[],[]⟩,⟨1,[],[]⟩,⟨2,[1],[]⟩,⟨3,[1],[]⟩,⟨4,[1],[]⟩,⟨5,[],[]⟩,⟨6,[],[]⟩] (by kernel_rfl) ?_
   simp(disch:=omega)only[go_sem]
   refine qu (Jp l hl i3 h3 hi3) ?_
   rintro r i4 h4 hi4 ⟨x,hx,rfl⟩
   simp(disch:=omega)only[go_sem]
   have hl3:(L++[x]).length=L.length+1:=by simp
   rw[afs]
   refine⟨by omega,by rw[List.length_append,Y2,akS];omega,qb (L++[x],i4,h4) [] ⟨by dsimp only;omega,fun y hy=>?_,hi4⟩ (by show n*n-(L++[x]).length<k+1;omega) rfl (by simp(disch:=omega)only[go_sem,hl3];try omega) (by simp(disch:=omega)only[go_sem,hl3,show n*n-(L.length+1)=k by omega])⟩
   rcases List.mem_append.1 hy with hy|hy
   ·exact hok y hy
   ·rw[List.mem_singleton.1 hy];exact hx
  ·simp(disch:=omega)only[go_sem]
   refine qp rfl [⟨0,[],[]⟩,⟨1,[],[]⟩,⟨2,[1],[]⟩,⟨3,[1],[]⟩,⟨4,[1],[]⟩,⟨5,[],[]⟩,⟨6,[],[]⟩] (by kernel_rfl) ?_
   simp(disch:=omega)only[go_sem]
   refine qu (Yf l hl i3 h3 hi3) ?_
   rintro r i4 h4 hi4 ⟨x,hx,rfl⟩
   simp(disch:=omega)only[go_sem]
   have hl3:(L++[x]).length=L.length+1:=by simp
   rw[afs]
   refine⟨by omega,by rw[List.length_append,Y2,akS];omega,qb (L++[x],i4,h4) [] ⟨by dsimp only;omega,fun y hy=>?_,hi4⟩ (by show n*n-(L++[x]).length<k+1;omega) rfl (by simp(disch:=omega)only[go_sem,hl3];try omega) (by simp(disch:=omega)only[go_sem,hl3,show n*n-(L.length+1)=k by omega])⟩
   rcases List.mem_append.1 hy with hy|hy
   ·exact hok y hy
   ·rw[List.mem_singleton.1 hy];exact hx
 ·obtain hLn:L.length=n*n:=by omega
  simp(disch:=omega)only[go_sem,c1]
  refine qg [(0,3)] [.own 3 (qm ExV.cs L)] [.own 0 [.sl l.length (qj l),.v (.int .i64 i2),.v (.int .i64 h2)]] [.ag [.v (.int .i64 n),.rf 0 0 (n*n)]] rfl (by simp(disch:=omega)only[go_sem]) (by simp(disch:=omega)only[go_sem,hLn,Nat.sub_self,aNA,List.append_nil]) (by simp) (by simp) ⟨⟨L,hLn,hok,rfl,rfl⟩,_,_,hi2,rfl⟩
theorem aMs:Con Tryz.prog 77 false [.pt 10000000 0] [.own 0 [.sl l.length (qj l),.v (.int .i64 i),.v (.int .i64 h)]] (J8 l fun r=>∃n:Nat,(1≤n∧n≤4)∧r=.v (.int .i64 n)):=by
 refine Con.of_aw Tryz.func77 rfl Tryz.ntmps77 (by simp) (by simp) (by simp) (W.sound ?_)
 show @W Tryz.prog 6 ⟨_⟩ ⟨fun x σ=>@qW _ _ _ ⟨_⟩ _ ⟨_⟩ x σ⟩ _ _
 simp(disch:=omega)only[go_sem]
 refine qu (qM l hl i h hi 4 (by omega)) ?_
 rintro r i1 h1 hi1 ⟨k,hk,rfl⟩
 simp(disch:=omega)only[go_sem]
 have hk2:=hk.2 (by omega)
 obtain⟨m,rfl⟩:=Int.eq_ofNat_of_zero_le hk.1
 refine qR (i1) (h1) ⟨m+1,by omega,by rw[show((m+1:Nat):Int)=1+(m:Int) by omega];rfl⟩
def bfq(r:AV):Prop:=∃(n:Int) (l:List DyV),l.length≤16∧(∀d∈l,d.xs.length≤200)∧r=.ag [.v (.int .i64 n),.sl l.length (qm DyV.cs l)]
omit hl hi in
omit hl hi in
theorem aJM(L:List ExV):qm ExV.cs L=qm DyV.cs (L.map ExV.dy):=aFm L
def be7(n:Nat)(r:AV)(hs:List Ob):Prop:=∃(k:Int) (M:List DyV) (o m:Nat),M.length=o+m∧o≤1∧M.length=n*n∧(∀d∈M,d.xs.length≤200)∧r=.ag [.v (.int .i64 k),.rf 0 (o*3) m]∧hs=[.own 3 (qm DyV.cs M)]
end
end Go.Ab
namespace Go.Ab
open Go Go.Proofs
/-! ### Minors and determinants-/
def mnC(n:Nat)(l:List ExV)(r c i:Nat):Nat→List ExV
 |0=>[]
 |j+1=>if i≠r∧j≠c then mnC n l r c i j++[l.getD (i*n+j) ex0]else mnC n l r c i j
def mnR(n:Nat)(l:List ExV)(r c:Nat):Nat→List ExV
 |0=>[]
 |i+1=>mnR n l r c i++mnC n l r c i n
theorem ad2{n:Nat}{l:List ExV}{r c i:Nat}:∀j,(mnC n l r c i j).length≤j
 |0=>Nat.le_refl _
 |j+1=>by
  have:=ad2 (n:=n) (l:=l) (r:=r) (c:=c) (i:=i) j
  rw[mnC];split
  ·rw[List.length_append];simp;omega
  ·omega
theorem ad0{n:Nat}{l:List ExV}{r c:Nat}:∀i,(mnR n l r c i).length≤i*n
 |0=>by simp[mnR]
 |i+1=>by
  have h1:=ad0 (n:=n) (l:=l) (r:=r) (c:=c) i
  have h2:=ad2 (n:=n) (l:=l) (r:=r) (c:=c) (i:=i) n
  rw[mnR,List.length_append,Nat.succ_mul];omega
theorem aaD(n:Nat)(l:List ExV)(r c:Nat)(hn:1≤n∧n≤4)(hl:l.length=n*n)(hr:r<n)(hc:c<n):Con Tryz.prog 151 false [.ag [.v (.int .i64 (n)),.sl (l).length (qm ExV.cs (l))],.v (.int .i64 r),.v (.int .i64 c)] [] (isA (.ag [.v (.int .i64 (n-1)),.sl (mnR n l r c n).length (qm ExV.cs (mnR n l r c n))])):=by
 refine Con.frzA ?_
 have hq:=Qf hn.2
 refine Con.of_aw Tryz.func151 rfl Tryz.ntmps151 (by simp) (by simp) (by simp) (W.sound ?_)
 show @W Tryz.prog 44 ⟨_⟩ ⟨fun x σ=>@qW _ _ _ ⟨_⟩ _ ⟨_⟩ x σ⟩ _ _
 simp(disch:=omega)only[go_sem]
 have hE:∀i j:Nat,i<n→j<n→i*n+j<l.length:=fun i j hi hj=>by rw[hl];exact zH hi hj
 refine qh (fun i:Nat=>[(1,.v (.int .i64 r)),(2,.v (.int .i64 c)),(3,.pt 1 0),(6,.pt 2 0),(7,.pt 3 0),(15,.v (.int .i64 n)),(16,.v (.int .i64 i))])
  (fun i=>[(1,.own 0 [.v (.int .i64 n),.sl l.length (qm ExV.cs l)]),(2,.own 0 [.v (.int .i64 0),.v (.slice none 0 0)]),(3,.own 0 [.v (.int .i64 (n-1)),.rf 4 0 (mnR n l r c i).length]),(4,.own 3 (qm ExV.cs (mnR n l r c i)))]) (fun i=>i≤n) (fun i=>n-i) 0 (by omega)
  ((Le.ghostC 90000000 1 4 3 (zo:=0) (cs:=[.v (.int .i64 (n-1)),.v (.slice none 0 0)]) (by simp(disch:=omega)only[go_sem]) rfl (by simp(disch:=omega)only[go_sem])).trans (Le.lst [(1,50000000),(2,80000000),(3,90000000)] _ _ rfl (by simp(disch:=omega)only[go_sem]) (by simp(disch:=omega)only[go_sem,show mnR n l r c 0=[] from rfl,QS,List.length_nil,List.set_cons_succ,List.set_cons_zero]))) ?_
 intro i hi
 simp(disch:=omega)only[go_sem]
 refine qe (fun h1=>?_) (fun h1=>?_)
 ·simp(disch:=omega)only[go_sem,h1]
  generalize hA:mnR n l r c i=A at*
  refine qh (fun j:Nat=>[(1,.v (.int .i64 r)),(2,.v (.int .i64 c)),(3,.pt 1 0),(6,.pt 2 0),(7,.pt 3 0),(8,.v (.int .i64 i)),(15,.v (.int .i64 n)),(16,.v (.int .i64 i)),(20,.v (.int .i64 n)),(21,.v (.int .i64 j))])
   (fun j=>[(1,.own 0 [.v (.int .i64 n),.sl l.length (qm ExV.cs l)]),(2,.own 0 [.v (.int .i64 0),.v (.slice none 0 0)]),(3,.own 0 [.v (.int .i64 (n-1)),.rf 4 0 (A++mnC n l r c i j).length]),(4,.own 3 (qm ExV.cs (A++mnC n l r c i j)))]) (fun j=>j≤n) (fun j=>n-j) 0 (by omega)
   (Le.lst [] _ _ rfl (by simp(disch:=omega)only[go_sem]) (by simp(disch:=omega)only[go_sem,show mnC n l r c i 0=[] from rfl,List.append_nil])) ?_
  intro j hj
  have hs:mnC n l r c i (j+1)=if i≠r∧j≠c then mnC n l r c i j++[l.getD (i*n+j) ex0]else mnC n l r c i j:=rfl
  have hlen:(A++mnC n l r c i j).length≤40:=by
   have h3:=@ad2 n l r c i j
   have h4:=@ad0 n l r c i
   rw[hA]at h4
   have:i*n≤n*n:=Nat.mul_le_mul_right n (by omega)
   rw[List.length_append];omega
  generalize hB:mnC n l r c i j=B at*
  simp(disch:=omega)only[go_sem]
  refine qe (fun h2=>?_) (fun h2=>?_)
  ·by_cases c1:i=r
   ·rw[if_neg (fun h=>h.1 c1)]at hs
    simp(disch:=omega)only[go_sem,h2,decide_eq_true (show(i:Int)=r by omega)]
    exact qb (j+1) [] (by show j+1≤n;omega) (by show n-(j+1)<n-j;omega) rfl (by simp(disch:=omega)only[go_sem];try omega) (by simp(disch:=omega)only[go_sem,hs])
   by_cases c2:j=c
   ·rw[if_neg (fun h=>h.2 c2)]at hs
    simp(disch:=omega)only[go_sem,h2,decide_eq_false (show ¬(i:Int)=r by omega),decide_eq_true (show(j:Int)=c by omega)]
    exact qb (j+1) [] (by show j+1≤n;omega) (by show n-(j+1)<n-j;omega) rfl (by simp(disch:=omega)only[go_sem];try omega) (by simp(disch:=omega)only[go_sem,hs])
   ·rw[if_pos ⟨c1,c2⟩]at hs
    have ca:=Ym n l i j (hE i j (by omega) (by omega)) (by omega) (by omega) (by omega) (by omega)
    generalize l.getD (i*n+j) ex0=x at*
    simp(disch:=omega)only[go_sem,h2,decide_eq_false (show ¬(i:Int)=r by omega),decide_eq_false (show ¬(j:Int)=c by omega)]
    refine qp rfl [⟨0,[],[]⟩,⟨1,[],[]⟩,⟨2,[1],[]⟩,⟨3,[1,2],[]⟩,⟨4,[1,2],[]⟩,⟨5,[1],[]⟩,⟨6,[1],[]⟩,⟨7,[],[]⟩,⟨8,[],[]⟩,⟨9,[],[]⟩] (by kernel_rfl) ?_
    simp(disch:=omega)only[go_sem]
    refine qa (ca) ?_
    simp(disch:=omega)only[go_sem]
    have hl4:(A++B++[x]).length=(A++B).length+1:=by simp;omega
    exact⟨by omega,qb (j+1) [(4,410000000)] (by show j+1≤n;omega) (by show n-(j+1)<n-j;omega) rfl (by simp(disch:=omega)only[go_sem];try omega) (by simp(disch:=omega)only[go_sem,hs,(List.append_assoc A B [x]).symm,hl4,aei,yO])⟩
  ·obtain rfl:j=n:=by omega
   have hs2:mnR j l r c (i+1)=A++B:=by rw[mnR,hA,hB]
   simp(disch:=omega)only[go_sem,h2]
   exact qb (i+1) [] (by show i+1≤j;omega) (by show j-(i+1)<j-i;omega) rfl (by simp(disch:=omega)only[go_sem];try omega) (by simp(disch:=omega)only[go_sem,hs2])
 ·obtain rfl:i=n:=by omega
  have hl2:=@ad0 i l r c i
  simp(disch:=omega)only[go_sem,h1]
  generalize mnR i l r c i=A at*
  refine qg [(0,4)] [.own 3 (qm ExV.cs A)] [] [.ag [.v (.int .i64 (i-1)),.rf 0 0 A.length]] rfl (by simp(disch:=omega)only[go_sem]) (by simp(disch:=omega)only[go_sem]) (by simp) (by simp) ?_
  show qE _ 6 _=_
  simp(disch:=omega)only[go_sem,qX,aei]
def ExV.sgn(x:ExV)(k:Nat):ExV:=if k % 2=1 then x.neg else x
theorem Yd(x:ExV)(k:Nat)(hk:k≤100):Con Tryz.prog 176 false [.ag [.v (.bool (x).s),.sl (lim (x).m).length (qc (lim (x).m)),.v (.int .i64 (x).e)],.v (.int .i64 k)] [] (isA (.ag [.v (.bool (x.sgn k).s),.sl (lim (x.sgn k).m).length (qc (lim (x.sgn k).m)),.v (.int .i64 (x.sgn k).e)])):=by
 refine Con.frzA ?_
 have cn:=afB x
 unfold ExV.sgn
 refine Con.of_w (rs:=[.cell 4 118]) Tryz.func176 rfl Tryz.ntmps176 rfl ?_
 simp(disch:=omega)only[go_sem]
 by_cases h:k % 2=1
 ·rw[if_pos h]
  generalize x.neg=y at*
  simp(disch:=omega)only[go_sem,decide_eq_true (show(k:Int) % 2=1 by omega)]
  refine qa (cn) ?_
  simp(disch:=omega)only[go_sem]
  exact ql
 ·rw[if_neg h]
  simp(disch:=omega)only[go_sem,decide_eq_false (show ¬(k:Int) % 2=1 by omega)]
  exact ql
theorem ExV.sgn_bd{lo hi:Int}{x:ExV}{k:Nat}(h:x.bd lo hi):(x.sgn k).bd lo hi:=by
 unfold ExV.sgn;split
 ·exact ExV.neg_bd h
 ·exact h
def zD:Nat→List ExV→ExV
 |0,_=>ex1
 |n+1,l=>(List.range (n+1)).foldl (fun s j=>s.plus (((l.getD (0*(n+1)+j) ex0).times (zD n (mnR (n+1) l 0 j (n+1)))).sgn j)) ex0
theorem ad1{n:Nat}{l:List ExV}{r c i:Nat}(hl:l.length=n*n)(hi:i<n):∀j,j≤n→∀x∈mnC n l r c i j,x∈l
 |0,_,x,hx=>by cases hx
 |j+1,hj,x,hx=>by
  rw[mnC]at hx
  split at hx
  ·rcases List.mem_append.1 hx with hx|hx
   ·exact ad1 hl hi j (by omega) x hx
   ·rw[List.mem_singleton.1 hx,List.getD_eq_getElem?_getD,List.getElem?_eq_getElem (by rw[hl];exact zH hi (by omega))]
    exact List.getElem_mem _
  ·exact ad1 hl hi j (by omega) x hx
theorem QM{n:Nat}{l:List ExV}{r c:Nat}(hl:l.length=n*n):∀i,i≤n→∀x∈mnR n l r c i,x∈l
 |0,_,x,hx=>by cases hx
 |i+1,hi,x,hx=>by
  rw[mnR]at hx
  rcases List.mem_append.1 hx with hx|hx
  ·exact QM hl i (by omega) x hx
  ·exact ad1 hl (by omega) n (Nat.le_refl n) x hx
theorem Zw{n:Nat}{l:List ExV}{r c i:Nat}:∀j,(mnC n l r c i j).length=if i=r then 0 else if c<j then j-1 else j
 |0=>by simp[mnC]
 |j+1=>by
  have:=Zw (n:=n) (l:=l) (r:=r) (c:=c) (i:=i) j
  rw[mnC]
  by_cases h1:i=r
  ·rw[if_neg (by omega),this];simp[h1]
  ·rw[if_neg h1]at this ⊢
   by_cases h2:j=c
   ·rw[if_neg (by omega),this];split<;>split<;>omega
   ·rw[if_pos ⟨h1,h2⟩,List.length_append,this];simp;split<;>split<;>omega
theorem j0{n:Nat}{l:List ExV}{r c:Nat}(hc:c<n):∀i,(mnR n l r c i).length=(if r<i then i-1 else i)*(n-1)
 |0=>by simp[mnR]
 |i+1=>by
  rw[mnR,List.length_append,j0 hc i,Zw]
  by_cases h1:i=r
  ·rw[if_pos h1,if_neg (by omega),if_pos (by omega)];simp
  ·rw[if_neg h1,if_pos hc]
   by_cases h2:r<i
   ·rw[if_pos h2,if_pos (by omega),show i+1-1=(i-1)+1 by omega,Nat.add_mul,Nat.one_mul]
   ·rw[if_neg h2,if_neg (by omega),Nat.add_mul,Nat.one_mul]
theorem Jg:∀(n:Nat) {l:List ExV},n≤4→l.length=n*n→gbd (-10000) 10000 l→(zD n l).bd (-10000*n) (10004*n+1)
 |0,l,_,_,_=>⟨fun _=>rfl,by show _≤(0:Int);omega,by show(bl 1:Int)+0≤_;have:bl 1≤1:=zE.2 (by decide);omega⟩
 |n+1,l,hn,hl,hb=>by
  rw[zD]
  refine(Qt (lo:= -10000*(n+1)) (hi:=10004*n+10001) (fun j=>((l.getD (0*(n+1)+j) ex0).times (zD n (mnR (n+1) l 0 j (n+1)))).sgn j) (by omega) (n+1) (fun j hj=>?_)).mono (by omega) (by omega)
  have h1:=za hb (i:=0*(n+1)+j) (by rw[hl];exact zH (by omega) hj)
  have h2:=Jg n (l:=mnR (n+1) l 0 j (n+1)) (by omega) (by rw[j0 hj,if_pos (by omega)];rfl) (fun x hx=>hb x (QM hl _ (Nat.le_refl _) x hx))
  exact ExV.sgn_bd ((ExV.times_bd h1 h2).mono (by omega) (by omega))
set_option maxRecDepth 100000 in
theorem aeG(n:Nat):∀L:List ExV,n≤4→L.length=n*n→gbd (-10000) 10000 L→Con Tryz.prog 94 false [.ag [.v (.int .i64 (n)),.sl (L).length (qm ExV.cs (L))]] [] (isA (.ag [.v (.bool (zD n L).s),.sl (lim (zD n L).m).length (qc (lim (zD n L).m)),.v (.int .i64 (zD n L).e)])):=by
 induction n with
 |zero=>
  intro L hn hl hb
  refine Con.frzA ?_
  have c1:=ZB
  unfold zD
  generalize ex1=y at*
  refine Con.of_w (rs:=[.cell 2 118]) Tryz.func94 rfl Tryz.ntmps94 rfl ?_
  simp(disch:=omega)only[go_sem]
  refine qa (c1) ?_
  simp(disch:=omega)only[go_sem]
  exact ql
 |succ n ih=>
  intro L hn hl hb
  refine Con.frzA ?_
  refine Con.of_w (rs:=[.cell 2 118]) Tryz.func94 rfl Tryz.ntmps94 rfl ?_
  simp(disch:=omega)only[go_sem]
  obtain⟨N,hN⟩:∃N,N=n+1:=⟨_,rfl⟩
  rw[←hN]at hn hl
  have hd:zD (n+1) L=(List.range N).foldl (fun s j=>s.plus (((L.getD (0*N+j) ex0).times (zD n (mnR N L 0 j N))).sgn j)) ex0:=by rw[hN];rfl
  rw[hd,←hN]
  simp(disch:=omega)only[go_sem,decide_eq_false (show ¬(N:Int)=0 by omega)]
  have hb2:=Qt (lo:= -10000*(n+1)) (hi:=10004*n+10001) (fun j=>((L.getD (0*N+j) ex0).times (zD n (mnR N L 0 j N))).sgn j) (by omega)
  obtain⟨D,hD⟩:∃D:Nat→ExV,D=fun k=>(List.range k).foldl (fun s j=>s.plus (((L.getD (0*N+j) ex0).times (zD n (mnR N L 0 j N))).sgn j)) ex0:=⟨_,rfl⟩
  have hDs:∀k,D (k+1)=(D k).plus (((L.getD (0*N+k) ex0).times (zD n (mnR N L 0 k N))).sgn k):=fun k=>by rw[hD];simp only[List.range_succ,List.foldl_append,List.foldl_cons,List.foldl_nil]
  have hD0:D 0=ex0:=by rw[hD];rfl
  have hDN:(List.range N).foldl (fun s j=>s.plus (((L.getD (0*N+j) ex0).times (zD n (mnR N L 0 j N))).sgn j)) ex0=D N:=by rw[hD]
  have hDb:∀k,k≤N→(D k).bd (-40000) 40020:=fun k hk=>by
   rw[hD]
   refine(hb2 k fun j hj=>?_).mono (by omega) (by omega)
   have h1:=za hb (i:=0*N+j) (by rw[hl];exact zH (by omega) (by omega))
   have h2:=Jg n (l:=mnR N L 0 j N) (by omega) (by rw[j0 (by omega),if_pos (by omega),hN];rfl) (fun x hx=>hb x (QM hl _ (Nat.le_refl _) x hx))
   exact ExV.sgn_bd ((ExV.times_bd h1 h2).mono (by omega) (by omega))
  rw[hDN]
  clear hb2 hd hDN
  refine qh (fun j:Nat=>[(1,.pt 1 0),(2,.pt 2 0),(3,.pt 3 0),(10,.v (.int .i64 N)),(11,.v (.int .i64 j))])
   (fun j=>[(1,.own 0 [.v (.int .i64 N),.sl L.length (qm ExV.cs L)]),(2,.own 0 [.v (.bool false),.v (.slice none 0 0),.v (.int .i64 0)]),(3,.own 0 [.v (.bool (D j).s),.sl (lim (D j).m).length (qc (lim (D j).m)),.v (.int .i64 (D j).e)])]) (fun j=>j≤N) (fun j=>N-j) 0 (by omega)
   ((Le.nilC 50000000 1 (zo:=0) (cs:=[.v (.bool false),.v (.slice none 0 0),.v (.int .i64 0)]) (by simp(disch:=omega)only[go_sem]) rfl).trans (Le.lst [(1,30000000),(2,40000000),(3,50000000)] _ _ rfl (by simp(disch:=omega)only[go_sem]) (by simp(disch:=omega)only[go_sem,List.set_cons_succ,List.set_cons_zero,hD0,ex0,qn]))) ?_
  intro j hj
  have hs:=hDs j
  have hjb:=hDb j hj
  generalize hA:D j=A at*
  simp(disch:=omega)only[go_sem]
  refine qe (fun h1=>?_) (fun h1=>?_)
  ·have hm:(mnR N L 0 j N).length=n*n:=by rw[j0 (by omega),if_pos (by omega),hN];rfl
   have hmb:gbd (-10000) 10000 (mnR N L 0 j N):=fun x hx=>hb x (QM hl _ (Nat.le_refl _) x hx)
   have ca:=Ym N L 0 j (by rw[hl];exact zH (by omega) (by omega)) (by have:=Qf hn;omega) (by omega) (by omega) (by omega)
   have cm:=aaD N L 0 j (by omega) hl (by omega) (by omega)
   have cd:=ih (mnR N L 0 j N) (by omega) hm hmb
   have h1b:=za hb (i:=0*N+j) (by rw[hl];exact zH (by omega) (by omega))
   have h2b:=Jg n (by omega) hm hmb
   rw[show((N:Int)-1)=(n:Int) by omega]at cm
   generalize L.getD (0*N+j) ex0=x at*
   generalize zD n (mnR N L 0 j N)=y at*
   generalize mnR N L 0 j N=M at*
   have ct:=yP x y (h1b.mono (by omega) (by omega)) (h2b.mono (by omega) (by omega))
   have bt:=ExV.times_bd h1b h2b
   generalize x.times y=z at*
   have bs:=ExV.sgn_bd (k:=j) bt
   simp(disch:=omega)only[go_sem,h1]
   refine qp rfl [⟨0,[],[]⟩,⟨1,[0],[]⟩,⟨2,[0,1],[]⟩,⟨4,[0,1],[]⟩,⟨5,[0,1,4],[]⟩,⟨9,[0,1,4],[]⟩,⟨3,[0,4],[]⟩,⟨6,[0],[]⟩,⟨7,[0],[]⟩,⟨8,[0],[]⟩,⟨10,[0],[]⟩,⟨11,[],[]⟩,⟨12,[],[]⟩] (by kernel_rfl) ?_
   simp(disch:=omega)only[go_sem]
   refine qa (ca) ?_
   simp(disch:=omega)only[go_sem]
   refine qa (cm) ?_
   simp(disch:=omega)only[go_sem]
   refine qa (cd) ?_
   simp(disch:=omega)only[go_sem]
   refine qa (ct) ?_
   simp(disch:=omega)only[go_sem]
   refine qa (Yd z j (by omega)) ?_
   simp(disch:=omega)only[go_sem]
   refine qa (jg A (z.sgn j) (hjb.mono (by omega) (by omega)) (bs.mono (by omega) (by omega))) ?_
   simp(disch:=omega)only[go_sem]
   exact qb (j+1) [] (by show j+1≤N;omega) (by show N-(j+1)<N-j;omega) rfl (by simp(disch:=omega)only[go_sem];try omega) (by simp(disch:=omega)only[go_sem,hs])
  ·obtain rfl:j=N:=by omega
   rw[hA]
   simp(disch:=omega)only[go_sem,h1]
   exact ql
end Go.Ab
namespace Go.Ab
open Go Go.Proofs
def beP(x y:ExV):ExV:=if x.val 3000≤y.val 3000 then x else y
def beL(x y:ExV):ExV:=if y.val 3000≤x.val 3000 then x else y
section
variable (l:List UInt8)(hl:l.length≤9223372036854775807)(i h:Int)(hi:0≤i∧i≤l.length)
include hl hi
end
end Go.Ab
namespace Go.Ab
open Go Go.Proofs
/-! ### Rounding down and up-/
def rnF(s:Bool)(a b:Nat)(low mode:Int):FlV:=⟨flK s mode (rq s a b mode) low,s,bbQ s mode (rq s a b mode) low,bbR s mode (rq s a b mode) low⟩
def upQ(a b:Nat):Nat:=if a % b=0 then a/b else a/b+1
def isN(F:FlV):Bool:=decide (F.k=0)||decide (F.k=1)
def rqB(s:Bool)(a b:Nat)(low mode:Int):Prop:=rq s a b mode≠0∧1024<(bl (rq s a b mode):Int)+low
end Go.Ab
namespace Go.Ab
def stk(A B:Nat):Nat:=2*(A/B)+(if A % B=0 then 0 else 1)
end Go.Ab
namespace Go.Ab
def rtB(a:Nat):Nat→Nat
 |0=>0
 |n+1=>if(n+1)*(n+1)≤a then n+1 else rtB a n
def rt(a:Nat):Nat:=rtB a a
end Go.Ab
namespace Go.Ab
open Go Go.Proofs
end Go.Ab
namespace Go.Ab
open Go Go.Proofs
/-! ### A root,rounded-/
def stR(A S:Nat):Nat:=rt (A/S)*4+(if rt (A/S)*rt (A/S)*S=A then 0 else if A*4<(2*rt (A/S)+1)*(2*rt (A/S)+1)*S then 1 else if A*4=(2*rt (A/S)+1)*(2*rt (A/S)+1)*S then 2 else 3)
end Go.Ab
namespace Go.Ab
open Go Go.Proofs
def sqT(m:Nat)(e:Int):Int:=((bl m:Int)+e+1)/2
def sqL(m:Nat)(e:Int):Int:=Jb (sqT m e)
def sqA(m:Nat)(e low:Int):Nat:=stR (ovA m (e-2*low)) (2^(-(e-2*low)).toNat)
def sqV(k:Int)(s:Bool)(m e mode:Int):FlV:=
 if k=3∨k=0 then⟨k,s,m,e⟩else if s=true then⟨3,false,0,0⟩else if k=2 then⟨k,s,m,e⟩else
  ⟨flK false mode (rq false (sqA m.toNat e (sqL m.toNat e)) 4 mode) (sqL m.toNat e),false,bbQ false mode (rq false (sqA m.toNat e (sqL m.toNat e)) 4 mode) (sqL m.toNat e),bbR false mode (rq false (sqA m.toNat e (sqL m.toNat e)) 4 mode) (sqL m.toNat e)⟩
def sqG(k:Int)(s:Bool)(m e mode:Int):Int:=
 if k=3∨k=0 then 0 else if s=true then 16 else if k=2 then 0 else
  bcs (sqT m.toNat e) (decide (sqA m.toNat e (sqL m.toNat e) % 4=0)) (rq false (sqA m.toNat e (sqL m.toNat e)) 4 mode) (sqL m.toNat e)
end Go.Ab
namespace Go.Ab
open Go Go.Proofs
def rtE(x:ExV)(low md:Int):ExV:=⟨false,rq false (sqA x.m x.e low) 4 md,low⟩
def bfr(n:Int):Bool:=decide (-3000≤n)&&decide (n≤3000)
end Go.Ab
namespace Go.Ab
open Go Go.Proofs
end Go.Ab
namespace Go.Ab
open Go Go.Proofs
def rkI:Bool→Nat
 |false=>0
 |true=>1
def rkH(x:ExV):Bool→List (Nat×Ob)
 |false=>[(3,.own 1 [.v (.slice none 0 0)])]
 |true=>[(3,.own 1 [.rf 5 0 1]),(5,.own 3 [.v (.bool x.s),.sl (lim x.m).length (qc (lim x.m)),.v (.int .i64 x.e)])]
def ex5:ExV:=⟨false,5,0⟩
end Go.Ab
namespace Go.Ab
open Go Go.Proofs
def beQ(M:List DyV):Prop:=M.length≤16∧∀d∈M,d.xs.length≤200
end Go.Ab
namespace Go.Ab
open Go Go.Proofs
theorem aeL(k:Int)(M:List DyV)(h1:M.length≤16)(h2:∀d∈M,d.xs.length≤200):Con Tryz.prog 38 true [.ag [.v (.int .i64 k),.sl M.length (qm DyV.cs M)]] [] (isA (.v (.bool (ad6 k M)))):=by
 unfold ad6
 refine Con.of_w (rs:=[.tmp 2]) Tryz.func38 rfl Tryz.ntmps38 rfl ?_
 simp(disch:=omega)only[go_sem]
 by_cases c1:k<1
 ·rw[decide_eq_false (show ¬1≤k by omega),Bool.false_and,Bool.false_and]
  simp(disch:=omega)only[go_sem,c1]
  exact qy
 by_cases c2:4<k
 ·rw[decide_eq_false (show ¬k≤4 by omega),Bool.and_false,Bool.false_and]
  simp(disch:=omega)only[go_sem,c1,c2]
  exact qy
 rw[decide_eq_true (show 1≤k by omega),decide_eq_true (show k≤4 by omega),Bool.true_and,Bool.true_and]
 have hq:0≤k*k∧k*k≤16:=⟨Int.mul_nonneg (by omega) (by omega),Int.mul_le_mul (show k≤4 by omega) (show k≤4 by omega) (by omega) (by omega)⟩
 by_cases c3:(M.length:Int)=k*k
 rotate_left
 ·rw[decide_eq_false c3,Bool.false_and]
  simp(disch:=omega)only[go_sem,c1,c2,decide_eq_false c3]
  exact qy
 rw[decide_eq_true c3,Bool.true_and]
 simp(disch:=omega)only[go_sem,c1,c2,decide_eq_true c3]
 refine qh (fun i:Nat=>[(1,.pt 1 0),(2,.v (.bool false)),(3,.v (.int .i64 i))]) (fun _=>[(1,.own 0 [.v (.int .i64 k),.sl M.length (qm DyV.cs M)])]) (fun i=>i≤M.length∧∀j,j<i→(M.getD j dy0).ok=true) (fun i=>M.length-i) 0 ⟨by omega,fun j hj=>by omega⟩
  (Le.lst [(1,30000000)] _ _ rfl (by simp(disch:=omega)only[go_sem]) (by simp(disch:=omega)only[go_sem])) ?_
 rintro i ⟨hi,hp⟩
 simp(disch:=omega)only[go_sem]
 refine qe (fun h3=>?_) (fun h3=>?_)
 ·have hcut:=QK (l:=M) Q7 (i:=i) (by omega) dy0
  have hmem:M.getD i dy0∈M:=by
   rw[List.getD_eq_getElem?_getD,List.getElem?_eq_getElem (by omega)];exact List.getElem_mem _
  have hx:=h2 _ hmem
  have cd:=yz (M.getD i dy0).s (M.getD i dy0).xs (M.getD i dy0).e (by omega)
  rw[show dyB (M.getD i dy0).s (M.getD i dy0).xs (M.getD i dy0).e=(M.getD i dy0).ok from rfl]at cd
  have hall:(M.getD i dy0).ok=false→M.all DyV.ok=false:=fun h=>List.all_eq_false.2 ⟨_,hmem,by rw[h];simp⟩
  have hnext:(M.getD i dy0).ok=true→∀j,j<i+1→(M.getD j dy0).ok=true:=fun h j hj=>by
   rcases(by omega:j<i∨j=i)with h'|rfl
   ·exact hp j h'
   ·exact h
  generalize M.getD i dy0=d at*
  simp(disch:=omega)only[go_sem,h3,hcut,DyV.cs]
  refine⟨by omega,by omega,qk cd ?_⟩
  simp(disch:=omega)only[go_sem]
  cases hd:d.ok
  ·rw[hall hd]
   simp(disch:=omega)only[go_sem,hd]
   exact qy
  ·simp(disch:=omega)only[go_sem,hd]
   exact qb (i+1) [] ⟨by omega,hnext hd⟩ (by show M.length-(i+1)<M.length-i;omega) rfl (by simp(disch:=omega)only[go_sem];try omega) (by simp(disch:=omega)only[go_sem])
 ·simp(disch:=omega)only[go_sem,h3]
  have hall:M.all DyV.ok=true:=List.all_eq_true.2 fun d hd=>by
   obtain⟨j,hj,rfl⟩:=List.getElem_of_mem hd
   have:=hp j (by omega)
   rw[List.getD_eq_getElem?_getD,List.getElem?_eq_getElem hj]at this
   exact this
  rw[hall]
  exact qy
end Go.Ab
namespace Go.Ab
open Go Go.Proofs
/-! ### Matrices that were told,or not-/
def bfj(n N:Nat)(T:List ExV):Prop:=(N=n∧matV n T)∨(N=0∧T=[])
def bfk(M:List DyV):Prop:=M.length≤16∧∀d∈M,d.xs.length≤200
end Go.Ab
namespace Go.Ab
/-! ### Determinants of integers-/
def sgI(k:Nat):Int:=if k % 2=1 then-1 else 1
def skp(r i:Nat):Nat:=if i<r then i else i+1
def ad4(A:Nat→Nat→Int)(r c:Nat):Nat→Nat→Int:=fun i j=>A (skp r i) (skp c j)
def zT:Nat→(Nat→Nat→Int)→Int
 |0,_=>1
 |n+1,A=>qA (fun j=>sgI j*(A 0 j*zT n (ad4 A 0 j))) (n+1)
theorem asc(A:Nat→Nat→Int):zT 1 A=A 0 0:=by
 simp[zT,qA,sgI]
theorem akQ(A:Nat→Nat→Int):zT 2 A=A 0 0*A 1 1-A 0 1*A 1 0:=by
 simp[zT,qA,sgI,ad4,skp];omega
theorem akP(A:Nat→Nat→Int):zT 3 A=A 0 0*(A 1 1*A 2 2-A 1 2*A 2 1)-A 0 1*(A 1 0*A 2 2-A 1 2*A 2 0)+A 0 2*(A 1 0*A 2 1-A 1 1*A 2 0):=by
 rw[zT]
 simp only[akQ,qA,sgI,ad4,skp]
 simp
 omega
theorem aFL(A:Nat→Nat→Int):zT 4 A=(A 0 0*A 1 1-A 0 1*A 1 0)*(A 2 2*A 3 3-A 2 3*A 3 2)-(A 0 0*A 1 2-A 0 2*A 1 0)*(A 2 1*A 3 3-A 2 3*A 3 1)
  +(A 0 0*A 1 3-A 0 3*A 1 0)*(A 2 1*A 3 2-A 2 2*A 3 1)+(A 0 1*A 1 2-A 0 2*A 1 1)*(A 2 0*A 3 3-A 2 3*A 3 0)
  -(A 0 1*A 1 3-A 0 3*A 1 1)*(A 2 0*A 3 2-A 2 2*A 3 0)+(A 0 2*A 1 3-A 0 3*A 1 2)*(A 2 0*A 3 1-A 2 1*A 3 0):=by
 rw[zT]
 simp only[akP,qA,sgI,ad4,skp]
 simp
 grind
end Go.Ab
namespace Go.Ab
theorem aDn{n:Nat}(hn:n≤4)(A:Nat→Nat→Int):zT n (fun i j=>A j i)=zT n A:=by
 rcases(show n=0∨n=1∨n=2∨n=3∨n=4 by omega)with rfl|rfl|rfl|rfl|rfl
 ·rfl
 ·rw[asc,asc]
 ·rw[akQ,akQ];grind
 ·rw[akP,akP];grind
 ·rw[aFL,aFL];grind
theorem jv:∀{n:Nat} {A B:Nat→Nat→Int},(∀i j,i<n→j<n→A i j=B i j)→zT n A=zT n B
 |0,_,_,_=>rfl
 |n+1,A,B,h=>by
  rw[zT,zT]
  refine qG fun j hj=>?_
  rw[h 0 j (by omega) hj,jv (n:=n) (A:=ad4 A 0 j) (B:=ad4 B 0 j) fun i k hi hk=>?_]
  unfold ad4 skp
  exact h _ _ (by split<;>omega) (by split<;>omega)
def m2(A:Nat→Nat→Int)(r s c d:Nat):Int:=A r c*A s d-A r d*A s c
theorem aaA(A:Nat→Nat→Int):zT 4 A=m2 A 0 1 0 1*m2 A 2 3 2 3-m2 A 0 1 0 2*m2 A 2 3 1 3+m2 A 0 1 0 3*m2 A 2 3 1 2+m2 A 0 1 1 2*m2 A 2 3 0 3-m2 A 0 1 1 3*m2 A 2 3 0 2+m2 A 0 1 2 3*m2 A 2 3 0 1:=aFL A
def yi(n:Nat)(A B:Nat→Nat→Int):Nat→Nat→Int:=fun i j=>qA (fun t=>A i t*B t j) n
theorem bcl(A B:Nat→Nat→Int)(i j:Nat):yi 4 A B i j=A i 0*B 0 j+A i 1*B 1 j+A i 2*B 2 j+A i 3*B 3 j:=by
 simp[yi,qA]
theorem bcm(A B:Nat→Nat→Int)(i j:Nat):yi 3 A B i j=A i 0*B 0 j+A i 1*B 1 j+A i 2*B 2 j:=by
 simp[yi,qA]
theorem bcn(A B:Nat→Nat→Int)(i j:Nat):yi 2 A B i j=A i 0*B 0 j+A i 1*B 1 j:=by
 simp[yi,qA]
theorem bco(A B:Nat→Nat→Int)(i j:Nat):yi 1 A B i j=A i 0*B 0 j:=by
 simp[yi,qA]
theorem aPz(A B:Nat→Nat→Int)(r s c d:Nat):m2 (yi 4 A B) r s c d=m2 A r s 0 1*m2 B 0 1 c d+m2 A r s 0 2*m2 B 0 2 c d+m2 A r s 0 3*m2 B 0 3 c d+m2 A r s 1 2*m2 B 1 2 c d+m2 A r s 1 3*m2 B 1 3 c d+m2 A r s 2 3*m2 B 2 3 c d:=by
 simp only[m2,bcl]
 grind
def q4(B:Nat→Nat→Int)(p q r s:Nat):Int:=m2 B p q 0 1*m2 B r s 2 3-m2 B p q 0 2*m2 B r s 1 3+m2 B p q 0 3*m2 B r s 1 2+m2 B p q 1 2*m2 B r s 0 3-m2 B p q 1 3*m2 B r s 0 2+m2 B p q 2 3*m2 B r s 0 1
theorem Qk(B:Nat→Nat→Int)(p q s:Nat):q4 B p q p s=0:=by unfold q4 m2;grind
theorem aBO(B:Nat→Nat→Int)(p q r:Nat):q4 B p q r p=0:=by unfold q4 m2;grind
theorem aBN(B:Nat→Nat→Int)(p q s:Nat):q4 B p q q s=0:=by unfold q4 m2;grind
theorem K6(B:Nat→Nat→Int)(p q r:Nat):q4 B p q r q=0:=by unfold q4 m2;grind
theorem beB(B:Nat→Nat→Int):q4 B 0 1 2 3=zT 4 B:=(aaA B).symm
theorem beA(B:Nat→Nat→Int):q4 B 0 2 1 3= -zT 4 B:=by rw[aaA];unfold q4 m2;grind
theorem bez(B:Nat→Nat→Int):q4 B 0 3 1 2=zT 4 B:=by rw[aaA];unfold q4 m2;grind
theorem bey(B:Nat→Nat→Int):q4 B 1 2 0 3=zT 4 B:=by rw[aaA];unfold q4 m2;grind
theorem bex(B:Nat→Nat→Int):q4 B 1 3 0 2= -zT 4 B:=by rw[aaA];unfold q4 m2;grind
theorem bew(B:Nat→Nat→Int):q4 B 2 3 0 1=zT 4 B:=by rw[aaA];unfold q4 m2;grind
theorem aqJ(A B:Nat→Nat→Int):zT 4 (yi 4 A B)=m2 A 0 1 0 1*m2 A 2 3 0 1*q4 B 0 1 0 1+m2 A 0 1 0 1*m2 A 2 3 0 2*q4 B 0 1 0 2+m2 A 0 1 0 1*m2 A 2 3 0 3*q4 B 0 1 0 3+m2 A 0 1 0 1*m2 A 2 3 1 2*q4 B 0 1 1 2+m2 A 0 1 0 1*m2 A 2 3 1 3*q4 B 0 1 1 3+m2 A 0 1 0 1*m2 A 2 3 2 3*q4 B 0 1 2 3+m2 A 0 1 0 2*m2 A 2 3 0 1*q4 B 0 2 0 1+m2 A 0 1 0 2*m2 A 2 3 0 2*q4 B 0 2 0 2+m2 A 0 1 0 2*m2 A 2 3 0 3*q4 B 0 2 0 3+m2 A 0 1 0 2*m2 A 2 3 1 2*q4 B 0 2 1 2+m2 A 0 1 0 2*m2 A 2 3 1 3*q4 B 0 2 1 3+m2 A 0 1 0 2*m2 A 2 3 2 3*q4 B 0 2 2 3+m2 A 0 1 0 3*m2 A 2 3 0 1*q4 B 0 3 0 1+m2 A 0 1 0 3*m2 A 2 3 0 2*q4 B 0 3 0 2+m2 A 0 1 0 3*m2 A 2 3 0 3*q4 B 0 3 0 3+m2 A 0 1 0 3*m2 A 2 3 1 2*q4 B 0 3 1 2+m2 A 0 1 0 3*m2 A 2 3 1 3*q4 B 0 3 1 3+m2 A 0 1 0 3*m2 A 2 3 2 3*q4 B 0 3 2 3+m2 A 0 1 1 2*m2 A 2 3 0 1*q4 B 1 2 0 1+m2 A 0 1 1 2*m2 A 2 3 0 2*q4 B 1 2 0 2+m2 A 0 1 1 2*m2 A 2 3 0 3*q4 B 1 2 0 3+m2 A 0 1 1 2*m2 A 2 3 1 2*q4 B 1 2 1 2+m2 A 0 1 1 2*m2 A 2 3 1 3*q4 B 1 2 1 3+m2 A 0 1 1 2*m2 A 2 3 2 3*q4 B 1 2 2 3+m2 A 0 1 1 3*m2 A 2 3 0 1*q4 B 1 3 0 1+m2 A 0 1 1 3*m2 A 2 3 0 2*q4 B 1 3 0 2+m2 A 0 1 1 3*m2 A 2 3 0 3*q4 B 1 3 0 3+m2 A 0 1 1 3*m2 A 2 3 1 2*q4 B 1 3 1 2+m2 A 0 1 1 3*m2 A 2 3 1 3*q4 B 1 3 1 3+m2 A 0 1 1 3*m2 A 2 3 2 3*q4 B 1 3 2 3+m2 A 0 1 2 3*m2 A 2 3 0 1*q4 B 2 3 0 1+m2 A 0 1 2 3*m2 A 2 3 0 2*q4 B 2 3 0 2+m2 A 0 1 2 3*m2 A 2 3 0 3*q4 B 2 3 0 3+m2 A 0 1 2 3*m2 A 2 3 1 2*q4 B 2 3 1 2+m2 A 0 1 2 3*m2 A 2 3 1 3*q4 B 2 3 1 3+m2 A 0 1 2 3*m2 A 2 3 2 3*q4 B 2 3 2 3:=by
 rw[aaA]
 simp only[aPz]
 simp only[q4]
 grind
theorem aDp(A B:Nat→Nat→Int):zT 4 (yi 4 A B)=zT 4 A*zT 4 B:=by
 rw[aqJ]
 rw[Qk B 0 1 1,Qk B 0 1 2,Qk B 0 1 3,aBN B 0 1 2,aBN B 0 1 3,Qk B 0 2 1,Qk B 0 2 2,Qk B 0 2 3,K6 B 0 2 1,aBN B 0 2 3,Qk B 0 3 1,Qk B 0 3 2,Qk B 0 3 3,K6 B 0 3 1,K6 B 0 3 2,aBO B 1 2 0,K6 B 1 2 0,Qk B 1 2 2,Qk B 1 2 3,aBN B 1 2 3,aBO B 1 3 0,K6 B 1 3 0,Qk B 1 3 2,Qk B 1 3 3,K6 B 1 3 2,aBO B 2 3 0,K6 B 2 3 0,aBO B 2 3 1,K6 B 2 3 1,Qk B 2 3 3]
 rw[beB,beA,bez,bey,bex,bew,aaA A]
 grind
theorem Jf{n:Nat}(hn:n≤4)(A B:Nat→Nat→Int):zT n (yi n A B)=zT n A*zT n B:=by
 rcases(show n=0∨n=1∨n=2∨n=3∨n=4 by omega)with rfl|rfl|rfl|rfl|rfl
 ·rfl
 ·rw[asc,asc,asc,bco]
 ·rw[akQ,akQ,akQ];simp only[bcn];grind
 ·rw[akP,akP,akP];simp only[bcm];grind
 ·exact aDp A B
end Go.Ab
namespace Go.Ab
def JQ(n:Nat)(A:Nat→Nat→Int)(k j:Nat):Int:=sgI (k+j)*zT (n-1) (ad4 A j k)
theorem arW{n:Nat}(hn:n≤4)(A:Nat→Nat→Int){i j:Nat}(hi:i<n)(hj:j<n):yi n A (JQ n A) i j=if i=j then zT n A else 0:=by
 rcases(show n=1∨n=2∨n=3∨n=4 by omega)with rfl|rfl|rfl|rfl
 ·obtain rfl:i=0:=by omega
  obtain rfl:j=0:=by omega
  rw[bco,asc,if_pos rfl]
  simp[JQ,sgI,zT]
 ·simp only[bcn,JQ,akQ,show 2-1=1 from rfl,asc]
  rcases(show i=0∨i=1 by omega)with rfl|rfl<;>rcases(show j=0∨j=1 by omega)with rfl|rfl<;>(simp[sgI,ad4,skp];try grind)
 ·simp only[bcm,JQ,akP,show 3-1=2 from rfl,akQ]
  rcases(show i=0∨i=1∨i=2 by omega)with rfl|rfl|rfl<;>rcases(show j=0∨j=1∨j=2 by omega)with rfl|rfl|rfl<;>(simp[sgI,ad4,skp];try grind)
 ·simp only[bcl,JQ,aFL,show 4-1=3 from rfl,akP]
  rcases(show i=0∨i=1∨i=2∨i=3 by omega)with rfl|rfl|rfl|rfl<;>rcases(show j=0∨j=1∨j=2∨j=3 by omega)with rfl|rfl|rfl|rfl<;>(simp[sgI,ad4,skp];try grind)
end Go.Ab
namespace Go.Ab
open Go Go.Proofs
/-! ### What determinants are worth-/
theorem arQ{l m:List ExV}{t:Nat}:(l++m).getD t ex0=if t<l.length then l.getD t ex0 else m.getD (t-l.length) ex0:=by
 rw[List.getD_eq_getElem?_getD,List.getElem?_append]
 split<;>rw[List.getD_eq_getElem?_getD]
theorem ad3{n:Nat}{l:List ExV}{r c i:Nat}(hi:i≠r):∀j t,t<(mnC n l r c i j).length→(mnC n l r c i j).getD t ex0=l.getD (i*n+skp c t) ex0
 |0,t,h=>by simp[mnC]at h
 |j+1,t,h=>by
  have hl:=Zw (n:=n) (l:=l) (r:=r) (c:=c) (i:=i) j
  rw[if_neg hi]at hl
  rw[mnC]at h ⊢
  by_cases hc:j=c
  ·rw[if_neg (fun h=>h.2 hc)]at h ⊢
   exact ad3 hi j t h
  ·rw[if_pos ⟨hi,hc⟩]at h ⊢
   rw[arQ]
   by_cases ht:t<(mnC n l r c i j).length
   ·rw[if_pos ht,ad3 hi j t ht]
   ·rw[if_neg ht]
    rw[List.length_append,List.length_singleton]at h
    have e:t=(mnC n l r c i j).length:=by omega
    have hs:skp c t=j:=by unfold skp;split at hl<;>split<;>omega
    rw[hs,e,Nat.sub_self];rfl
theorem apP{n:Nat}{l:List ExV}{r c:Nat}(hc:c<n):∀k i j,i<(if r<k then k-1 else k)→j<n-1→(mnR n l r c k).getD (i*(n-1)+j) ex0=l.getD (skp r i*n+skp c j) ex0
 |0,i,j,h,_=>by simp at h
 |k+1,i,j,h,hj=>by
  have hl:=j0 (n:=n) (l:=l) (r:=r) (c:=c) hc k
  rw[mnR,arQ]
  by_cases ht:i<(if r<k then k-1 else k)
  ·have:i*(n-1)+j<(if r<k then k-1 else k)*(n-1):=by
    have:=Nat.mul_le_mul_right (n-1) (show i+1≤(if r<k then k-1 else k) by omega)
    rw[Nat.succ_mul]at this
    omega
   rw[if_pos (by rw[hl];exact this)]
   exact apP hc k i j ht hj
  ·have hk:k≠r:=by
    intro e;subst e
    rw[if_pos (by omega)]at h
    rw[if_neg (by omega)]at ht
    omega
   have e:i=(if r<k then k-1 else k):=by split at h<;>split at ht<;>split<;>omega
   have hs:skp r i=k:=by unfold skp;split at e<;>split<;>omega
   rw[←e]at hl
   rw[if_neg (by rw[hl];omega),hl,Nat.add_sub_cancel_left,hs]
   have h2:=Zw (n:=n) (l:=l) (r:=r) (c:=c) (i:=k) n
   rw[if_neg hk,if_pos hc]at h2
   exact ad3 hk n j (by omega)
theorem aPt{K n:Nat}{l:List ExV}{r c i j:Nat}(hr:r<n+1)(hc:c<n+1)(hi:i<n)(hj:j<n):mv K (mnR (n+1) l r c (n+1)) n i j=ad4 (mv K l (n+1)) r c i j:=by
 unfold mv ad4
 have:=apP (n:=n+1) (l:=l) (r:=r) hc (n+1) i j (by rw[if_pos hr];omega) (by omega)
 rw[show n+1-1=n from rfl]at this
 rw[this]
theorem aPx{K n:Nat}{l:List ExV}{r c:Nat}(hl:l.length=n*n)(h:eK K l):eK K (mnR n l r c n):=fun x hx=>h x (QM hl n (Nat.le_refl n) x hx)
theorem aph{K k:Nat}{x:ExV}:(x.sgn k).val K=sgI k*x.val K:=by
 unfold ExV.sgn sgI
 split
 ·rw[aKY];omega
 ·omega
theorem aOz{k:Nat}{x:ExV}:(x.sgn k).e=x.e:=by unfold ExV.sgn;split<;>rfl
theorem Y5{K:Nat}:∀(n:Nat) (l:List ExV),l.length=n*n→eK K l→(zD n l).val (K*n)=zT n (mv K l n)∧ -((K*n:Nat):Int)≤(zD n l).e
 |0,l,_,_=>by
  refine⟨?_,by show-((0:Nat):Int)≤0;omega⟩
  show dv 0 false 1 0=1
  decide+kernel
 |n+1,l,hl,hK=>by
  have hf:∀k,k≤n+1→((List.range k).foldl (fun s j=>s.plus (((l.getD (0*(n+1)+j) ex0).times (zD n (mnR (n+1) l 0 j (n+1)))).sgn j)) ex0).val (K*(n+1))=qA (fun j=>sgI j*(mv K l (n+1) 0 j*zT n (ad4 (mv K l (n+1)) 0 j))) k∧ -((K*(n+1):Nat):Int)≤((List.range k).foldl (fun s j=>s.plus (((l.getD (0*(n+1)+j) ex0).times (zD n (mnR (n+1) l 0 j (n+1)))).sgn j)) ex0).e:=by
   intro k
   induction k with
   |zero=>exact fun _=>⟨aek _,by show-((K*(n+1):Nat):Int)≤0;omega⟩
   |succ k ih=>
    intro hk
    obtain⟨h1,h2⟩:=ih (by omega)
    obtain⟨h3,h4⟩:=Y5 n (mnR (n+1) l 0 k (n+1)) (by rw[j0 (by omega),if_pos (by omega)];rfl) (aPx hl hK)
    have h5:=aTA hK (i:=0*(n+1)+k) (by rw[hl];exact zH (by omega) hk)
    rw[List.range_succ,List.foldl_append,List.foldl_cons,List.foldl_nil,qA]
    have h6: -((K*(n+1):Nat):Int)≤(((l.getD (0*(n+1)+k) ex0).times (zD n (mnR (n+1) l 0 k (n+1)))).sgn k).e:=by
     rw[aOz,Nat.mul_succ]
     show _≤(l.getD (0*(n+1)+k) ex0).e+(zD n (mnR (n+1) l 0 k (n+1))).e
     omega
    refine⟨?_,K8 h2 h6⟩
    rw[jZ h2 h6,h1,aph,Nat.mul_succ,Nat.add_comm (K*n) K,ZD h5 h4,h3,jv (n:=n) fun i j hi hj=>aPt (by omega) (by omega) hi hj]
    rfl
  exact hf (n+1) (Nat.le_refl _)
end Go.Ab
namespace Go.Ab
open Go Go.Proofs
/-! ### Turned matrices-/
def beT(n:Nat)(l:List ExV):List ExV:=gl n (fun i j=>l.getD (j*n+i) ex0) (n*n)
end Go.Ab
namespace Go.Ab
open Go Go.Proofs
/-! ### Adjugates and minors-/
def afM(n:Nat)(l:List ExV)(a b:Nat):ExV:=(zD (n-1) (mnR n l b a n)).sgn (b+a)
def yj(n:Nat)(l:List ExV):List ExV:=gl n (afM n l) (n*n)
theorem adY{n:Nat}{l:List ExV}{r c:Nat}(hr:r<n)(hc:c<n):(mnR n l r c n).length=(n-1)*(n-1):=by rw[j0 hc,if_pos hr]
theorem aPy{n:Nat}{l:List ExV}{lo hi:Int}{r c:Nat}(hl:l.length=n*n)(hb:gbd lo hi l):gbd lo hi (mnR n l r c n):=fun x hx=>hb x (QM hl n (Nat.le_refl n) x hx)
theorem arg(n:Nat)(l:List ExV)(a b:Nat)(hn:n≤4)(ha:a<n)(hb:b<n)(hl:l.length=n*n)(hd:gbd (-10000) 10000 l):
  Con Tryz.prog 198 false [.v (.int .i64 a),.v (.int .i64 b),.fp [.v (.int .i64 n),.sl l.length (qm ExV.cs l)] 0] [] (isA (.ag [.v (.bool (afM n l a b).s),.sl (lim (afM n l a b).m).length (qc (lim (afM n l a b).m)),.v (.int .i64 (afM n l a b).e)])):=by
 refine Con.frzA ?_
 have cm:=aaD n l b a (by omega) hl hb ha
 have cd:=aeG (n-1) (mnR n l b a n) (by omega) (adY hb ha) (aPy hl hd)
 rw[show((n:Int)-1)=((n-1:Nat):Int) by omega]at cm
 unfold afM
 generalize zD (n-1) (mnR n l b a n)=y at*
 generalize mnR n l b a n=M at*
 have cs:=Yd y (b+a) (by omega)
 rw[Int.natCast_add]at cs
 generalize y.sgn (b+a)=z at*
 refine Con.of_w (rs:=[.cell 5 118]) Tryz.func198 rfl Tryz.ntmps198 rfl ?_
 simp(disch:=omega)only[go_sem]
 refine qa (cm) ?_
 simp(disch:=omega)only[go_sem]
 refine qa (cd) ?_
 simp(disch:=omega)only[go_sem]
 refine qa (cs) ?_
 simp(disch:=omega)only[go_sem]
 exact ql
theorem aDC(n:Nat)(l:List ExV)(hn:n≤4)(hl:l.length=n*n)(hd:gbd (-10000) 10000 l):Con Tryz.prog 118 false [.ag [.v (.int .i64 (n)),.sl (l).length (qm ExV.cs (l))]] [] (isA (.ag [.v (.int .i64 (n)),.sl (yj n l).length (qm ExV.cs (yj n l))])):=by
 refine Con.frzA ?_
 have c:=yb n 198 [.fp [.v (.int .i64 n),.sl l.length (qm ExV.cs l)] 0] (afM n l) hn (fun i j hi hj=>arg n l i j hn hi hj hl hd) (by simp(disch:=omega)only[go_sem]) (fun h=>rfl) (fun h=>rfl) (fun ks=>by simp(disch:=omega)only[go_sem]) (fun ρ=>rfl)
 change Con _ _ _ _ _ (isA (.ag [.v (.int .i64 (n)),.sl (yj n l).length (qm ExV.cs (yj n l))]))at c
 refine Con.of_aw Tryz.func118 rfl Tryz.ntmps118 (by simp) (by simp) (by simp) (AW.seqLe (E:=[(1,.fp [.v (.int .i64 n),.sl l.length (qm ExV.cs l)] 0),(2,.pt 0 0)]) (H:=[(0,.own 0 [.v (.int .i64 0),.v (.slice none 0 0)])]) (W.sound ?_) (W.sound ?_))
 ·show @W Tryz.prog 7 ⟨_⟩ ⟨_⟩ _ _
  simp(disch:=omega)only[go_sem]
  exact(Le.frz 30000000 (z:=0) (ks:=[.v (.int .i64 n),.sl l.length (qm ExV.cs l)]) (by simp(disch:=omega)only[go_sem]) rfl (by simp(disch:=omega)only[go_sem])).trans (Le.lst [(0,40000000)] _ _ rfl (by simp(disch:=omega)only[go_sem]) (by simp(disch:=omega)only[go_sem]))
 show @W Tryz.prog 7 ⟨_⟩ ⟨fun x σ=>@qW _ _ _ ⟨_⟩ _ ⟨_⟩ x σ⟩ _ _
 simp(disch:=omega)only[go_sem]
 refine qa (c) ?_
 simp(disch:=omega)only[go_sem]
 exact ql
theorem aLx{n:Nat}{l:List ExV}(h4:n≤4)(hl:l.length=n*n)(hd:gbd (-10000) 10000 l):gbd (-30000) 30013 (yj n l):=
 aPP fun i j hi hj=>ExV.sgn_bd ((Jg (n-1) (by omega) (adY hj hi) (aPy hl hd)).mono (by omega) (by omega))
theorem aD9{K n:Nat}{L:List ExV}{i j:Nat}(hl:L.length=n*n)(hK:eK K L)(hi:i<n)(hj:j<n):(afM n L i j).val (K*(n-1))=JQ n (mv K L n) i j∧ -((K*(n-1):Nat):Int)≤(afM n L i j).e:=by
 obtain⟨m,rfl⟩:∃m,n=m+1:=⟨n-1,by omega⟩
 obtain⟨h1,h2⟩:=Y5 (K:=K) m (mnR (m+1) L j i (m+1)) (adY hj hi) (aPx hl hK)
 unfold afM JQ
 rw[show m+1-1=m from rfl,aph,aOz,h1,Nat.add_comm j i]
 exact⟨by rw[jv fun a b ha hb=>aPt hj hi ha hb],h2⟩
end Go.Ab
namespace Go.Ab
open Go
section
variable {X:Type}{f:X→List AV}{z:Nat}
theorem aJO(hz:∀x,(f x).length=z){y:X}{L:List X}{i:Nat}(hi:i<L.length):wr (qm f L) (i*z) (f y)=qm f (L.set i y):=by
 have e:L=L.take i++[L[i]]++L.drop (i+1):=by
  rw[List.append_assoc,List.singleton_append,List.getElem_cons_drop,List.take_append_drop]
 have h1:(qm f (L.take i)).length=i*z:=by rw[yo hz,List.length_take,Nat.min_eq_left (by omega)]
 have h2:qm f L=qm f (L.take i)++f L[i]++qm f (L.drop (i+1)):=by
  conv=>lhs;rw[e]
  rw[←y5,←y5,zj,jY,List.append_nil]
 rw[h2,Yv _ _ _ _ (by rw[List.length_append,h1,hz,hz];omega),←h1,Qb _ _ _ (by rw[hz,hz]),List.set_eq_take_append_cons_drop,if_pos hi,←y5,zj,List.append_assoc]
end
theorem aMh{L:List DyV}{i:Nat}{s:Bool}{xs:List Int}{e:Int}(hi:i<L.length):wr (qm DyV.cs L) (i*3) [.v (.bool s),.sl xs.length (qc xs),.v (.int .i64 e)]=qm DyV.cs (L.set i ⟨s,xs,e⟩):=aJO Q7 (y:=⟨s,xs,e⟩) hi
theorem aMj{l:List DyV}{i:Nat}(hi:i<l.length):cut (qm DyV.cs l) (i*3) 3=[.v (.bool (l.getD i dy0).s),.sl (l.getD i dy0).xs.length (qc (l.getD i dy0).xs),.v (.int .i64 (l.getD i dy0).e)]:=QK (l:=l) Q7 hi dy0
theorem afw{l:List DyV}{s:Bool}{xs:List Int}{e:Int}:qm DyV.cs l++[.v (.bool s),.sl xs.length (qc xs),.v (.int .i64 e)]=qm DyV.cs (l++[⟨s,xs,e⟩]):=by
 rw[←y5,zj,jY,List.append_nil];rfl
theorem ael{l:List DyV}:cut (qm DyV.cs l) 0 (l.length*3)=qm DyV.cs l:=by
 unfold cut;rw[List.drop_zero,List.take_of_length_le (by rw[aqD];exact Nat.le_refl _)]
end Go.Ab
