/- What the proof of this claim stands on: the walks of the functions and the plain laws, part 5. -/
import Derived.Test.YtodjjilpibnbeaaGreatDoorFnExactExpHoldLib4
set_option linter.unusedVariables false
set_option linter.unusedSimpArgs false
namespace Go.Ab
open Go Go.Proofs
theorem awI(cl:Bool)(A B:List Int)(hA:gd A)(hB:gd B)(lA:A.length≤1000000)(lB:B.length≤A.length)(hle:vl B≤vl A):
  Con Tryz.prog 274 cl [.sl A.length (qg A),.sl B.length (qg B)] [] (auW (lim (vl A-vl B).toNat)):=by
 refine Con.of_aw Tryz.func274 rfl Tryz.ntmps274 (by simp) (by simp) (by simp) (W.sound ?_)
 show @W Tryz.prog 43 ⟨_⟩ ⟨fun x σ=>@zl _ _ _ ⟨_⟩ _ ⟨_⟩ x σ⟩ _ _
 simp(disch:=omega)only[go_sem]
 refine⟨by omega,?_⟩
 refine qj (fun x:Nat×List Int×Int=>[(1,.sl B.length (qg B)),(5,.rf 1 0 x.2.1.length),(6,.v (.int .i64 x.2.2)),(12,.sl A.length (qg A)),(13,.v (.int .i64 A.length)),(14,.v (.int .i64 x.1))])
  (fun x=>[(1,.own 1 (qg x.2.1))])
  (fun x=>x.1≤A.length∧x.2.1.length=x.1∧gd x.2.1∧(0≤x.2.2∧x.2.2≤1)∧vl x.2.1-65536^x.1*x.2.2=vl (A.take x.1)-vl (B.take x.1))
  (fun x=>A.length-x.1) (0,[],0) ⟨by simp,rfl,Ys,by simp,by simp[vl]⟩
  (Le.lst [(1,130000000)] _ _ rfl (by simp(disch:=omega)only[go_sem]) (by simp(disch:=omega)only[go_sem])) ?_
 rintro⟨i,out,bo⟩ ⟨hi,hol,hog,hbo,hov⟩
 dsimp only at hi hol hog hbo hov ⊢
 simp(disch:=omega)only[go_sem]
 refine qi (fun h1=>?_) (fun h1=>?_)
 ·have hx:=qS hA i
  have hy:=qS hB i
  have hstep:∀z b:Int,A.getD i 0-bo-B.getD i 0=z-65536*b→vl (out++[z])-65536^(i+1)*b=vl (A.take (i+1))-vl (B.take (i+1)):=by
   intro z b hz
   rw[j9,za,za,hol,Int.pow_succ]
   generalize (65536:Int)^i=Pi at*
   grind
  have hyz:¬i<B.length→B.getD i 0=0:=fun h=>by rw[List.getD_eq_getElem?_getD,List.getElem?_eq_none (by omega)];rfl
  simp(disch:=omega)only[go_sem,h1]
  refine⟨by omega,by omega,qi (fun h2=>?_) (fun h2=>?_)⟩
  ·simp(disch:=omega)only[go_sem,h2]
   refine⟨by omega,by omega,qi (fun h3=>?_) (fun h3=>?_)⟩
   ·simp(disch:=omega)only[go_sem,h3]
    refine⟨by omega,qe (i+1,out++[A.getD i 0-bo-B.getD i 0+65536],1) [(1,410000000)] ⟨by show i+1≤_;omega,by simp[hol],qT.2 ⟨hog,jo.2 (by omega)⟩,by simp,hstep (A.getD i 0-bo-B.getD i 0+65536) 1 (by omega)⟩ (by show A.length-(i+1)<A.length-i;omega) rfl (by simp(disch:=omega)only[go_sem,List.length_append];try omega) (by simp(disch:=omega)only[go_sem])⟩
   ·simp(disch:=omega)only[go_sem,h3]
    refine⟨by omega,qe (i+1,out++[A.getD i 0-bo-B.getD i 0],0) [(1,410000000)] ⟨by show i+1≤_;omega,by simp[hol],qT.2 ⟨hog,jo.2 (by omega)⟩,by simp,hstep (A.getD i 0-bo-B.getD i 0) 0 (by omega)⟩ (by show A.length-(i+1)<A.length-i;omega) rfl (by simp(disch:=omega)only[go_sem,List.length_append];try omega) (by simp(disch:=omega)only[go_sem])⟩
  ·simp(disch:=omega)only[go_sem,h2]
   refine qi (fun h3=>?_) (fun h3=>?_)
   ·simp(disch:=omega)only[go_sem,h3]
    have hy0:=hyz (by omega)
    refine⟨by omega,qe (i+1,out++[A.getD i 0-bo+65536],1) [(1,410000000)] ⟨by show i+1≤_;omega,by simp[hol],qT.2 ⟨hog,jo.2 (by omega)⟩,by simp,hstep (A.getD i 0-bo+65536) 1 (by omega)⟩ (by show A.length-(i+1)<A.length-i;omega) rfl (by simp(disch:=omega)only[go_sem,List.length_append];try omega) (by simp(disch:=omega)only[go_sem])⟩
   ·simp(disch:=omega)only[go_sem,h3]
    have hy0:=hyz (by omega)
    refine⟨by omega,qe (i+1,out++[A.getD i 0-bo],0) [(1,410000000)] ⟨by show i+1≤_;omega,by simp[hol],qT.2 ⟨hog,jo.2 (by omega)⟩,by simp,hstep (A.getD i 0-bo) 0 (by omega)⟩ (by show A.length-(i+1)<A.length-i;omega) rfl (by simp(disch:=omega)only[go_sem,List.length_append];try omega) (by simp(disch:=omega)only[go_sem])⟩
 ·simp(disch:=omega)only[go_sem,h1]
  have hiA:i=A.length:=by omega
  subst hiA
  rw[List.take_length,List.take_of_length_le lB]at hov
  have hb0:bo=0:=by
   have h2:=Jt hog
   rw[hol]at h2
   rcases(by omega:bo=0∨bo=1)with h|h
   ·exact h
   ·subst h;omega
  subst hb0
  have hov2:vl out=vl A-vl B:=by omega
  refine zt false [1] (jZ out (by omega)) (by simp(disch:=omega)only[go_sem]) (by simp(disch:=omega)only[go_sem]) rfl (zp (z:=1) (cs:=qg out) (by simp(disch:=omega)only[go_sem]) (by simp(disch:=omega)only[go_sem])) (by intro n hn;exact⟨_,List.mem_singleton.2 rfl,by rw[List.mem_singleton.1 hn];rfl⟩) ?_
  rintro r hs bs ⟨rfl,rfl,rfl⟩ _
  refine⟨by simp[qL],?_⟩
  simp(disch:=omega)only[go_sem]
  obtain⟨z,hz⟩:=je out
  have hc:=jG hog
  rw[hov2]at hc
  rw[hc]at hz ⊢
  refine qm [(0,1)] [.own 1 (qg out)] [] [.rf 0 0 (lim (vl A-vl B).toNat).length] rfl (by simp(disch:=omega)only[go_sem]) (by simp(disch:=omega)only[go_sem]) (by simp) (by intro _;simp[zw,AV.pu,AV.pu.puL,Ob.pu,q8]) (.inr ⟨List.replicate z 0,rfl,by rw[←hz]⟩)
end Go.Ab
namespace Go.Ab
open Go Go.Proofs
theorem XH(a b:Nat)(h:b≤a)(la:(lim a).length≤1000000):Con Tryz.prog 274 false [.sl (lim (a)).length (qg (lim (a))),.sl (lim (b)).length (qg (lim (b)))] [] (aTt (lim (a-b))):=by
 have:=(awI false (lim a) (lim b) (zj a) (zj b) la (yX h) (by rw[zd,zd];omega)).num
 rwa[aN3]at this
theorem VO(s1:Bool)(m1:Nat)(s2:Bool)(m2:Nat)(l1:(lim m1).length≤1000000)(l2:(lim m2).length≤1000000):
  Con Tryz.prog 225 false [.v (.bool s1),.sl (lim (m1)).length (qg (lim (m1))),.v (.bool s2),.sl (lim (m2)).length (qg (lim (m2)))] [] (isA (.tu [.v (.bool (sgS s1 m1 s2 m2)),.sl (lim (suM s1 m1 s2 m2)).length (qg (lim (suM s1 m1 s2 m2)))])):=by
 refine Con.frzA ?_
 have hge:(0≤zH (m1:Int) (m2:Int))↔m2≤m1:=by rw[ah6.2.2];omega
 refine Con.of_aw Tryz.func225 rfl Tryz.ntmps225 (by simp) (by simp) (by simp) (W.sound ?_)
 show @W Tryz.prog 31 ⟨_⟩ ⟨fun x σ=>@zl _ _ _ ⟨_⟩ _ ⟨_⟩ x σ⟩ _ _
 simp(disch:=omega)only[go_sem]
 refine QS (fun h1=>?_) (fun h1=>?_)
 ·have h1':s1=s2:=by simpa using h1
  simp(disch:=omega)only[go_sem,h1]
  subst h1'
  refine qa (adb m1 m2 (by omega) (by omega)) ?_
  simp(disch:=omega)only[go_sem]
  refine q7 (by simp(disch:=omega)only[go_sem]) ?_
  show qK _ 6 _=_
  rw[aiB,aiu]
  simp(disch:=omega)only[go_sem]
 ·have h1':s1≠s2:=by simpa using h1
  simp(disch:=omega)only[go_sem,h1]
  refine qn (jC m1 m2 (by omega) (by omega)) ?_
  simp(disch:=omega)only[go_sem]
  refine qi (fun h2=>?_) (fun h2=>?_)
  ·have h2':m2≤m1:=hge.1 (by omega)
   simp(disch:=omega)only[go_sem,h2]
   refine qa (XH m1 m2 h2' (by omega)) ?_
   simp(disch:=omega)only[go_sem]
   refine q7 (by simp(disch:=omega)only[go_sem]) ?_
   show qK _ 6 _=_
   rw[aM6 h1' h2',aMZ h1' h2']
   simp(disch:=omega)only[go_sem]
  ·have h2':¬m2≤m1:=fun h=>h2 (by have:=hge.2 h;omega)
   simp(disch:=omega)only[go_sem,h2]
   refine qa (XH m2 m1 (by omega) (by omega)) ?_
   simp(disch:=omega)only[go_sem]
   refine q7 (by simp(disch:=omega)only[go_sem]) ?_
   show qK _ 6 _=_
   rw[aM5 h1' h2',aMY h1' h2']
   simp(disch:=omega)only[go_sem]
theorem YQ(s1:Bool)(m1:Nat)(e1:Int)(s2:Bool)(m2:Nat)(e2:Int)(h1:bl m1≤4000000)(h2:bl m2≤4000000)(he1: -1000000≤e1∧e1≤1000000)(he2: -1000000≤e2∧e2≤1000000):
  Con Tryz.prog 191 false [.ag [.v (.bool (s1)),.sl (lim (m1)).length (qg (lim (m1))),.v (.int .i64 (e1))],.ag [.v (.bool (s2)),.sl (lim (m2)).length (qg (lim (m2))),.v (.int .i64 (e2))]] [] (isA (.tu [.sl (lim (alA m1 e1 (alE m1 e1 m2 e2))).length (qg (lim (alA m1 e1 (alE m1 e1 m2 e2)))),.sl (lim (alA m2 e2 (alE m1 e1 m2 e2))).length (qg (lim (alA m2 e2 (alE m1 e1 m2 e2)))),.v (.int .i64 (alE m1 e1 m2 e2))])):=by
 refine Con.frzA ?_
 have l1:=qE h1
 have l2:=qE h2
 have hE:=ZE (m1:=m1) (m2:=m2) he1.1 he2.1
 have hE2:=aNT (m1:=m1) (m2:=m2) he1.2 he2.2
 have x1:∀d:Int,(if 0>d then 0 else d)=((d.toNat:Nat):Int):=fun d=>by split<;>omega
 refine Con.of_aw Tryz.func191 rfl Tryz.ntmps191 (by simp) (by simp) (by simp) (W.sound ?_)
 show @W Tryz.prog 42 ⟨_⟩ ⟨fun x σ=>@zl _ _ _ ⟨_⟩ _ ⟨_⟩ x σ⟩ _ _
 simp(disch:=omega)only[go_sem]
 refine qi (fun c1=>?_) (fun c1=>?_)
 ·have z1:m1=0:=qM.1 (List.length_eq_zero_iff.1 (by omega))
  simp(disch:=omega)only[go_sem,c1]
  refine qi (fun c2=>?_) (fun c2=>?_)
  ·have z2:m2=0:=qM.1 (List.length_eq_zero_iff.1 (by omega))
   have eE:alE m1 e1 m2 e2=e1:=by unfold alE;rw[if_pos z2]
   simp(disch:=omega)only[go_sem,c2]
   refine qv rfl [⟨0,[],[]⟩,⟨1,[],[]⟩,⟨2,[1],[]⟩,⟨3,[1],[]⟩,⟨4,[1,3],[]⟩,⟨5,[1],[]⟩,⟨6,[1],[]⟩,⟨8,[1,3],[]⟩,⟨9,[1,3],[]⟩,⟨10,[1,3,9],[]⟩,⟨11,[1,3,9],[]⟩,⟨12,[1,3,9,11],[]⟩,⟨13,[1,3,9],[]⟩,⟨14,[1,3,9],[]⟩,⟨16,[1,3,9,11],[]⟩,⟨7,[9,11],[]⟩,⟨15,[],[]⟩,⟨17,[],[]⟩,⟨18,[],[]⟩,⟨19,[],[]⟩] (by kernel_rfl) ?_
   simp(disch:=omega)only[go_sem,x1]
   refine qa (jp m1 (e1-e1).toNat (by omega) (by omega)) ?_ (by simp(disch:=omega)only[go_sem,x1])
   simp(disch:=omega)only[go_sem]
   refine qa (jp m2 (e2-e1).toNat (by omega) (by omega)) ?_ (by simp(disch:=omega)only[go_sem,x1])
   simp(disch:=omega)only[go_sem]
   refine q7 (by simp(disch:=omega)only[go_sem]) ?_
   show qK _ 6 _=_
   rw[eE];unfold alA
   simp(disch:=omega)only[go_sem]
  ·have z2:m2≠0:=fun e=>c2 (by rw[e,qz];rfl)
   have eE:alE m1 e1 m2 e2=e2:=by unfold alE;rw[if_neg z2,if_pos z1]
   simp(disch:=omega)only[go_sem,c2]
   refine qv rfl [⟨0,[],[]⟩,⟨1,[],[]⟩,⟨2,[1],[]⟩,⟨3,[1],[]⟩,⟨4,[1,3],[]⟩,⟨5,[1],[]⟩,⟨6,[1],[]⟩,⟨8,[1,3],[]⟩,⟨9,[1,3],[]⟩,⟨10,[1,3,9],[]⟩,⟨11,[1,3,9],[]⟩,⟨12,[1,3,9,11],[]⟩,⟨13,[1,3,9],[]⟩,⟨14,[1,3,9],[]⟩,⟨16,[1,3,9,11],[]⟩,⟨7,[9,11],[]⟩,⟨15,[],[]⟩,⟨17,[],[]⟩,⟨18,[],[]⟩,⟨19,[],[]⟩] (by kernel_rfl) ?_
   simp(disch:=omega)only[go_sem,x1]
   refine qa (jp m1 (e1-e2).toNat (by omega) (by omega)) ?_ (by simp(disch:=omega)only[go_sem,x1])
   simp(disch:=omega)only[go_sem]
   refine qa (jp m2 (e2-e2).toNat (by omega) (by omega)) ?_ (by simp(disch:=omega)only[go_sem,x1])
   simp(disch:=omega)only[go_sem]
   refine q7 (by simp(disch:=omega)only[go_sem]) ?_
   show qK _ 6 _=_
   rw[eE];unfold alA
   simp(disch:=omega)only[go_sem]
 ·have z1:m1≠0:=fun e=>c1 (by rw[e,qz];rfl)
  simp(disch:=omega)only[go_sem,c1]
  refine qi (fun c2=>?_) (fun c2=>?_)
  ·have z2:m2=0:=qM.1 (List.length_eq_zero_iff.1 (by omega))
   have eE:alE m1 e1 m2 e2=e1:=by unfold alE;rw[if_pos z2]
   simp(disch:=omega)only[go_sem,c2]
   refine qv rfl [⟨0,[],[]⟩,⟨1,[],[]⟩,⟨2,[1],[]⟩,⟨3,[1],[]⟩,⟨4,[1,3],[]⟩,⟨5,[1],[]⟩,⟨6,[1],[]⟩,⟨8,[1,3],[]⟩,⟨9,[1,3],[]⟩,⟨10,[1,3,9],[]⟩,⟨11,[1,3,9],[]⟩,⟨12,[1,3,9,11],[]⟩,⟨13,[1,3,9],[]⟩,⟨14,[1,3,9],[]⟩,⟨16,[1,3,9,11],[]⟩,⟨7,[9,11],[]⟩,⟨15,[],[]⟩,⟨17,[],[]⟩,⟨18,[],[]⟩,⟨19,[],[]⟩] (by kernel_rfl) ?_
   simp(disch:=omega)only[go_sem,x1]
   refine qa (jp m1 (e1-e1).toNat (by omega) (by omega)) ?_ (by simp(disch:=omega)only[go_sem,x1])
   simp(disch:=omega)only[go_sem]
   refine qa (jp m2 (e2-e1).toNat (by omega) (by omega)) ?_ (by simp(disch:=omega)only[go_sem,x1])
   simp(disch:=omega)only[go_sem]
   refine q7 (by simp(disch:=omega)only[go_sem]) ?_
   show qK _ 6 _=_
   rw[eE];unfold alA
   simp(disch:=omega)only[go_sem]
  ·have z2:m2≠0:=fun e=>c2 (by rw[e,qz];rfl)
   have eE:(if e2<e1 then e2 else e1)=alE m1 e1 m2 e2:=by unfold alE;rw[if_neg z2,if_neg z1]
   simp(disch:=omega)only[go_sem,c2,eE]
   refine qv rfl [⟨0,[],[]⟩,⟨1,[],[]⟩,⟨2,[1],[]⟩,⟨3,[1],[]⟩,⟨4,[1,3],[]⟩,⟨5,[1],[]⟩,⟨6,[1],[]⟩,⟨8,[1,3],[]⟩,⟨9,[1,3],[]⟩,⟨10,[1,3,9],[]⟩,⟨11,[1,3,9],[]⟩,⟨12,[1,3,9,11],[]⟩,⟨13,[1,3,9],[]⟩,⟨14,[1,3,9],[]⟩,⟨16,[1,3,9,11],[]⟩,⟨7,[9,11],[]⟩,⟨15,[],[]⟩,⟨17,[],[]⟩,⟨18,[],[]⟩,⟨19,[],[]⟩] (by kernel_rfl) ?_
   simp(disch:=omega)only[go_sem,x1,eE]
   refine qa (jp m1 (e1-alE m1 e1 m2 e2).toNat (by omega) (by omega)) ?_ (by simp(disch:=omega)only[go_sem,x1,eE])
   simp(disch:=omega)only[go_sem]
   refine qa (jp m2 (e2-alE m1 e1 m2 e2).toNat (by omega) (by omega)) ?_ (by simp(disch:=omega)only[go_sem,x1,eE])
   simp(disch:=omega)only[go_sem]
   refine q7 (by simp(disch:=omega)only[go_sem]) ?_
   show qK _ 6 _=_
   unfold alA
   simp(disch:=omega)only[go_sem]
theorem awD(s1:Bool)(m1:Nat)(e1:Int)(s2:Bool)(m2:Nat)(e2:Int)(h1:bl m1≤4000000)(h2:bl m2≤4000000)(he1: -1000000≤e1∧e1≤1000000)(he2: -1000000≤e2∧e2≤1000000):
  Con Tryz.prog 153 false [.ag [.v (.bool (s1)),.sl (lim (m1)).length (qg (lim (m1))),.v (.int .i64 (e1))],.ag [.v (.bool (s2)),.sl (lim (m2)).length (qg (lim (m2))),.v (.int .i64 (e2))]] [] (isA (.ag [.v (.bool (adS s1 m1 e1 s2 m2 e2)),.sl (lim (adM s1 m1 e1 s2 m2 e2)).length (qg (lim (adM s1 m1 e1 s2 m2 e2))),.v (.int .i64 (alE m1 e1 m2 e2))])):=by
 refine Con.frzA ?_
 have hE:=ZE (m1:=m1) (m2:=m2) he1.1 he2.1
 have b1:=Jr (e:=e1) (E:=alE m1 e1 m2 e2) (C:=2000000) h1 (by omega)
 have b2:=Jr (e:=e2) (E:=alE m1 e1 m2 e2) (C:=2000000) h2 (by omega)
 have l1:=qE b1
 have l2:=qE b2
 refine Con.of_w (rs:=[.cell 4 97]) Tryz.func153 rfl Tryz.ntmps153 rfl ?_
 simp(disch:=omega)only[go_sem]
 refine qa (YQ s1 m1 e1 s2 m2 e2 h1 h2 he1 he2) ?_
 simp(disch:=omega)only[go_sem]
 unfold adS adM
 generalize alA m1 e1 (alE m1 e1 m2 e2)=A at*
 generalize alA m2 e2 (alE m1 e1 m2 e2)=B at*
 generalize alE m1 e1 m2 e2=E at*
 refine qa (VO s1 A s2 B (by omega) (by omega)) ?_
 simp(disch:=omega)only[go_sem]
 have hb:=ajs (s1:=s1) (s2:=s2) b1 b2
 have hl:(lim (suM s1 A s2 B)).length≤2000000:=by have:=qE hb;omega
 have hq:decide ((0:Int)<((lim (suM s1 A s2 B)).length:Int))=decide (suM s1 A s2 B≠0):=by
  rw[decide_eq_decide]
  exact⟨fun h e=>by rw[e,qz]at h;simp at h,fun h=>by have:=Qt h;omega⟩
 rw[←aus]
 refine QS (fun h3=>?_) (fun h3=>?_)
 ·simp(disch:=omega)only[go_sem,h3,hq]
  exact qu (hp:=by simp(disch:=omega)only[go_sem,h3,Bool.true_and])
 ·simp(disch:=omega)only[go_sem,h3]
  exact qu (hp:=by simp(disch:=omega)only[go_sem,h3,Bool.false_and])
end Go.Ab
namespace Go.Ab
open Go Go.Proofs
end Go.Ab
namespace Go.Ab
open Go Go.Proofs
def muS(k1:Int)(s1:Bool)(m1:Int)(k2:Int)(s2:Bool)(m2:Int):Bool:=((s1&&decide (k1=1)) != (s2&&decide (k2=1)))&&decide (m1.toNat*m2.toNat≠0)
def brQ(k1:Int)(s1:Bool)(m1 e1 k2:Int)(s2:Bool)(m2 e2 mode:Int):FlV:=
 if(decide (k1=3)||decide (k2=3))=true then⟨3,false,0,0⟩
 else if(decide (k1=2)||decide (k2=2))=true then(if(decide (k1=0)||decide (k2=0))=true then⟨3,false,0,0⟩else⟨2,s1 != s2,0,0⟩)
 else flV (muS k1 s1 m1 k2 s2 m2) (m1.toNat*m2.toNat) (e1+e2) mode (s1 != s2)
def brR(k1:Int)(s1:Bool)(m1 e1 k2:Int)(s2:Bool)(m2 e2 mode:Int):Int:=
 if(decide (k1=3)||decide (k2=3))=true then 0
 else if(decide (k1=2)||decide (k2=2))=true then(if(decide (k1=0)||decide (k2=0))=true then 16 else 0)
 else flG (muS k1 s1 m1 k2 s2 m2) (m1.toNat*m2.toNat) (e1+e2) mode
end Go.Ab
namespace Go.Ab
open Go Go.Proofs
section
variable {k1:Int}{s1:Bool}{m1 e1 k2:Int}{s2:Bool}{m2 e2 mode:Int}
end
end Go.Ab
namespace Go.Ab
open Go Go.Proofs
def QZ(m:Nat):Bool:=decide ((lim m).length≤100)
def VM(m:Nat)(e:Int):Bool:=QZ (oM m)&&(decide (-3000≤oE m e)&&decide (oE m e≤3000))
end Go.Ab
namespace Go.Ab
/-! ### Sums of floats-/
def ngS(k:Int)(s:Bool):Bool:=if k=3 then s else !s
def xS(k:Int)(s:Bool):Bool:=s&&decide (k=1)
def adZ(k1:Int)(s1:Bool)(k2:Int)(s2:Bool)(mode:Int):Bool:=if k1=0∧k2=0∧s1=s2 then s1 else decide (mode=3)
def brG(k1:Int)(s1:Bool)(m1 e1 k2:Int)(s2:Bool)(m2 e2 mode:Int):FlV:=
 if k1=3∨k2=3 then⟨3,false,0,0⟩
 else if k1=2∧k2=2∧s1≠s2 then⟨3,false,0,0⟩
 else if k1=2 then⟨k1,s1,m1,e1⟩
 else if k2=2 then⟨k2,s2,m2,e2⟩
 else flV (adS (xS k1 s1) m1.toNat e1 (xS k2 s2) m2.toNat e2) (adM (xS k1 s1) m1.toNat e1 (xS k2 s2) m2.toNat e2) (alE m1.toNat e1 m2.toNat e2) mode (adZ k1 s1 k2 s2 mode)
def brH(k1:Int)(s1:Bool)(m1 e1 k2:Int)(s2:Bool)(m2 e2 mode:Int):Int:=
 if k1=3∨k2=3 then 0
 else if k1=2∧k2=2∧s1≠s2 then 16
 else if k1=2 then 0
 else if k2=2 then 0
 else flG (adS (xS k1 s1) m1.toNat e1 (xS k2 s2) m2.toNat e2) (adM (xS k1 s1) m1.toNat e1 (xS k2 s2) m2.toNat e2) (alE m1.toNat e1 m2.toNat e2) mode
section
variable {k1:Int}{s1:Bool}{m1 e1 k2:Int}{s2:Bool}{m2 e2 mode:Int}
end
/-! ### A product and a sum-/
def fmZ(k1:Int)(s1:Bool)(k2:Int)(s2:Bool)(k3:Int)(s3:Bool)(mode:Int):Bool:=if(k1=0∨k2=0)∧k3=0∧s3=(s1 != s2)then s3 else decide (mode=3)
def br4(k1:Int)(s1:Bool)(m1 e1 k2:Int)(s2:Bool)(m2 e2 k3:Int)(s3:Bool)(m3 e3 mode:Int):FlV:=
 if k1=3∨k2=3 then⟨3,false,0,0⟩
 else if k1=2∨k2=2 then(if k1=0∨k2=0 then⟨3,false,0,0⟩else brG 2 (s1 != s2) 0 0 k3 s3 m3 e3 mode)
 else if k3=2∨k3=3 then⟨k3,s3,m3,e3⟩
 else flV (adS (muS k1 s1 m1 k2 s2 m2) (m1.toNat*m2.toNat) (e1+e2) (xS k3 s3) m3.toNat e3) (adM (muS k1 s1 m1 k2 s2 m2) (m1.toNat*m2.toNat) (e1+e2) (xS k3 s3) m3.toNat e3) (alE (m1.toNat*m2.toNat) (e1+e2) m3.toNat e3) mode (fmZ k1 s1 k2 s2 k3 s3 mode)
def br5(k1:Int)(s1:Bool)(m1 e1 k2:Int)(s2:Bool)(m2 e2 k3:Int)(s3:Bool)(m3 e3 mode:Int):Int:=
 if k1=3∨k2=3 then 0
 else if k1=2∨k2=2 then(if k1=0∨k2=0 then 16 else brH 2 (s1 != s2) 0 0 k3 s3 m3 e3 mode)
 else if k3=2∨k3=3 then 0
 else flG (adS (muS k1 s1 m1 k2 s2 m2) (m1.toNat*m2.toNat) (e1+e2) (xS k3 s3) m3.toNat e3) (adM (muS k1 s1 m1 k2 s2 m2) (m1.toNat*m2.toNat) (e1+e2) (xS k3 s3) m3.toNat e3) (alE (m1.toNat*m2.toNat) (e1+e2) m3.toNat e3) mode
section
variable {k1:Int}{s1:Bool}{m1 e1 k2:Int}{s2:Bool}{m2 e2 k3:Int}{s3:Bool}{m3 e3 mode:Int}
end
end Go.Ab
namespace Go.Ab
theorem aLy(x y p:Int)(hp:0<p):zH (x*p) (y*p)=zH x y:=by
 unfold zH
 have h1:x*p<y*p↔x<y:=⟨fun h=>Int.lt_of_mul_lt_mul_right h (Int.le_of_lt hp),fun h=>Int.mul_lt_mul_of_pos_right h hp⟩
 have h2:y*p<x*p↔y<x:=⟨fun h=>Int.lt_of_mul_lt_mul_right h (Int.le_of_lt hp),fun h=>Int.mul_lt_mul_of_pos_right h hp⟩
 simp only[h1,h2]
theorem ZF{m:Nat}{e E:Int}:alA m e E=0↔m=0:=by
 unfold alA
 have:0<2^(e-E).toNat:=Nat.pow_pos (by omega)
 constructor
 ·intro h
  rcases Nat.mul_eq_zero.1 h with h|h
  ·exact h
  ·omega
 ·intro h;rw[h,Nat.zero_mul]
theorem ajp{K:Nat}{s1:Bool}{m1:Nat}{e1:Int}{s2:Bool}{m2:Nat}{e2:Int}(h1: -(K:Int)≤e1)(h2: -(K:Int)≤e2):
  zH (sv s1 (alA m1 e1 (alE m1 e1 m2 e2))) (sv s2 (alA m2 e2 (alE m1 e1 m2 e2)))=zH (dv K s1 m1 e1) (dv K s2 m2 e2):=by
 have hE: -(K:Int)≤alE m1 e1 m2 e2:=ZE h1 h2
 have g1:m1≠0→alE m1 e1 m2 e2≤e1:=fun h=>by
  unfold alE
  repeat' split
  all_goals omega
 have g2:m2≠0→alE m1 e1 m2 e2≤e2:=fun h=>by
  unfold alE
  repeat' split
  all_goals omega
 rw[←ajw hE g1,←ajw hE g2,aLy _ _ _ (Int.pow_pos (by omega))]
theorem adA{s1:Bool}{m1:Nat}{s2:Bool}{m2:Nat}(z1:m1=0→s1=false)(z2:m2=0→s2=false):
  zH (sv s1 m1) (sv s2 m2)=if s1=true then(if s2=true then zH (m2:Int) (m1:Int)else-1)else(if s2=true then 1 else zH (m1:Int) (m2:Int)):=by
 cases s1<;>cases s2<;>simp only[sv,if_true,Bool.false_eq_true,if_false]
 ·have:m2≠0:=fun h=>by have:=z2 h;cases this
  unfold zH;rw[if_neg (by omega),if_pos (by omega)]
 ·have:m1≠0:=fun h=>by have:=z1 h;cases this
  unfold zH;rw[if_pos (by omega)]
 ·unfold zH
  rcases Int.lt_trichotomy (m1:Int) m2 with h|h|h
  ·rw[if_neg (by omega),if_pos (by omega),if_neg (by omega),if_pos (by omega)]
  ·rw[if_neg (by omega),if_neg (by omega),if_neg (by omega),if_neg (by omega)]
  ·rw[if_pos (by omega),if_pos (by omega)]
theorem YT(x y:Int):(zH x y≤0↔x≤y)∧(zH x y<0↔x<y)∧(zH x y=0↔x=y):=by
 unfold zH
 split
 ·omega
 ·split<;>omega
end Go.Ab
namespace Go.Ab
open Go Go.Proofs
theorem Z6(s1:Bool)(m1:Nat)(s2:Bool)(m2:Nat)(l1:(lim m1).length≤2^40)(l2:(lim m2).length≤2^40)(z1:m1=0→s1=false)(z2:m2=0→s2=false):
  Con Tryz.prog 192 true [.v (.bool s1),.sl (lim (m1)).length (qg (lim (m1))),.v (.bool s2),.sl (lim (m2)).length (qg (lim (m2)))] [] (isA (.v (.int .i64 (zH (sv s1 m1) (sv s2 m2))))):=by
 rw[adA z1 z2]
 cases s1<;>cases s2
 ·refine Con.of_w (rs:=[.tmp 8]) Tryz.func192 rfl Tryz.ntmps192 rfl ?_
  simp(disch:=omega)only[go_sem]
  refine qn (jC m1 m2 l1 l2) ?_
  simp(disch:=omega)only[go_sem]
  exact qy
 ·refine Con.of_w (rs:=[.tmp 8]) Tryz.func192 rfl Tryz.ntmps192 rfl ?_
  simp(disch:=omega)only[go_sem]
  exact qy
 ·refine Con.of_w (rs:=[.tmp 8]) Tryz.func192 rfl Tryz.ntmps192 rfl ?_
  simp(disch:=omega)only[go_sem]
  exact qy
 ·refine Con.of_w (rs:=[.tmp 8]) Tryz.func192 rfl Tryz.ntmps192 rfl ?_
  simp(disch:=omega)only[go_sem]
  refine qn (jC m2 m1 l2 l1) ?_
  simp(disch:=omega)only[go_sem]
  exact qy
theorem adv(K:Nat)(s1:Bool)(m1:Nat)(e1:Int)(s2:Bool)(m2:Nat)(e2:Int)(h1:bl m1≤4000000)(h2:bl m2≤4000000)(he1: -1000000≤e1∧e1≤1000000)(he2: -1000000≤e2∧e2≤1000000)(k1: -(K:Int)≤e1)(k2: -(K:Int)≤e2)(z1:m1=0→s1=false)(z2:m2=0→s2=false):
  Con Tryz.prog 110 true [.ag [.v (.bool (s1)),.sl (lim (m1)).length (qg (lim (m1))),.v (.int .i64 (e1))],.ag [.v (.bool (s2)),.sl (lim (m2)).length (qg (lim (m2))),.v (.int .i64 (e2))]] [] (isA (.v (.int .i64 (zH (dv K s1 m1 e1) (dv K s2 m2 e2))))):=by
 have hE:=ZE (m1:=m1) (m2:=m2) he1.1 he2.1
 have b1:=qE (Jr (e:=e1) (E:=alE m1 e1 m2 e2) (C:=2000000) h1 (by omega))
 have b2:=qE (Jr (e:=e2) (E:=alE m1 e1 m2 e2) (C:=2000000) h2 (by omega))
 rw[←ajp k1 k2]
 have y1:alA m1 e1 (alE m1 e1 m2 e2)=0→s1=false:=fun h=>z1 (ZF.1 h)
 have y2:alA m2 e2 (alE m1 e1 m2 e2)=0→s2=false:=fun h=>z2 (ZF.1 h)
 refine Con.of_w (rs:=[.tmp 4]) Tryz.func110 rfl Tryz.ntmps110 rfl ?_
 simp(disch:=omega)only[go_sem]
 refine qa (YQ s1 m1 e1 s2 m2 e2 h1 h2 he1 he2) ?_
 simp(disch:=omega)only[go_sem]
 refine qn (Z6 s1 (alA m1 e1 (alE m1 e1 m2 e2)) s2 (alA m2 e2 (alE m1 e1 m2 e2)) (by omega) (by omega) y1 y2) ?_
 simp(disch:=omega)only[go_sem]
 exact qy
def rkF(k:Int)(s:Bool):Int:=if k=2 then(if s=true then-1 else 1)else 0
def bsb(k1:Int)(s1:Bool)(m1 e1 k2:Int)(s2:Bool)(m2 e2:Int):Int:=
 if rkF k1 s1≠rkF k2 s2∨rkF k1 s1≠0 then zH (rkF k1 s1) (rkF k2 s2)else zH (dv 3000 (xS k1 s1) m1.toNat e1) (dv 3000 (xS k2 s2) m2.toNat e2)
end Go.Ab
namespace Go.Ab
open Go Go.Proofs
def ExV.plus(x y:ExV):ExV:=⟨adS x.s x.m x.e y.s y.m y.e,adM x.s x.m x.e y.s y.m y.e,alE x.m x.e y.m y.e⟩
def ExV.neg(x:ExV):ExV:=⟨!x.s&&decide (x.m≠0),x.m,x.e⟩
def ExV.times(x y:ExV):ExV:=⟨(x.s != y.s)&&decide (x.m*y.m≠0),x.m*y.m,x.e+y.e⟩
def ExV.abs(x:ExV):ExV:=⟨false,x.m,x.e⟩
def ExV.shift(x:ExV)(k:Int):ExV:=⟨x.s,x.m,x.e+k⟩
def ExV.over(x y:ExV)(low mode:Int):ExV:=⟨(x.s != y.s)&&decide (ovQ (x.s != y.s) x.m x.e y.m y.e low mode≠0),ovQ (x.s != y.s) x.m x.e y.m y.e low mode,low⟩
def ExV.rnd(x:ExV)(low mode:Int):ExV:=⟨roS x.s x.m x.e low mode,roM x.s x.m x.e low mode,roE x.m x.e low⟩
def ExV.cmp(x y:ExV):Int:=zH (sv x.s (alA x.m x.e (alE x.m x.e y.m y.e))) (sv y.s (alA y.m y.e (alE x.m x.e y.m y.e)))
def ExV.top(x:ExV):Int:=if x.m=0 then 0 else(bl x.m:Int)+x.e
def ExV.bd(lo hi:Int)(x:ExV):Prop:=(x.m=0→x.s=false)∧lo≤x.e∧(bl x.m:Int)+x.e≤hi
theorem ExV.bd.mono{lo hi lo' hi':Int}{x:ExV}(h:x.bd lo hi)(h1:lo'≤lo)(h2:hi≤hi'):x.bd lo' hi':=by
 obtain⟨a,b,c⟩:=h;exact⟨a,by omega,by omega⟩
theorem axJ{m:Nat}{e E hi:Int}(h:m≠0→E≤e)(h1:(bl m:Int)+e≤hi)(h2:E≤hi):(bl (alA m e E):Int)+E≤hi:=by
 by_cases h0:m=0
 ·rw[ZF.2 h0,QG];omega
 ·have:=h h0
  have:=Q7 m (e-E).toNat
  unfold alA;omega
theorem aWr{m1:Nat}{e1:Int}{m2:Nat}{e2:Int}:m1≠0→alE m1 e1 m2 e2≤e1:=fun h=>by
 unfold alE
 repeat' split
 all_goals omega
theorem aWq{m1:Nat}{e1:Int}{m2:Nat}{e2:Int}:m2≠0→alE m1 e1 m2 e2≤e2:=fun h=>by
 unfold alE
 repeat' split
 all_goals omega
theorem ExV.plus_bd{lo hi:Int}{x y:ExV}(hx:x.bd lo hi)(hy:y.bd lo hi):(x.plus y).bd lo (hi+1):=by
 obtain⟨a1,a2,a3⟩:=hx
 obtain⟨b1,b2,b3⟩:=hy
 have hE:lo≤alE x.m x.e y.m y.e:=ZE a2 b2
 have hE2:alE x.m x.e y.m y.e≤hi:=aNT (by omega) (by omega)
 refine⟨fun h=>?_,hE,?_⟩
 ·show adS x.s x.m x.e y.s y.m y.e=false
  have h:suM _ _ _ _=0:=h
  unfold adS suS
  unfold suM at h
  rw[Int.natAbs_eq_zero.1 h];rfl
 ·have t1:=axJ (hi:=hi) (@aWr x.m x.e y.m y.e) a3 hE2
  have t2:=axJ (hi:=hi) (@aWq x.m x.e y.m y.e) b3 hE2
  show(bl (adM x.s x.m x.e y.s y.m y.e):Int)+alE x.m x.e y.m y.e≤hi+1
  unfold adM
  generalize alA x.m x.e (alE x.m x.e y.m y.e)=A at*
  generalize alA y.m y.e (alE x.m x.e y.m y.e)=B at*
  have:=ajs (s1:=x.s) (s2:=y.s) (B:=(hi-alE x.m x.e y.m y.e).toNat) (show bl A≤_ by omega) (show bl B≤_ by omega)
  omega
theorem ExV.neg_bd{lo hi:Int}{x:ExV}(hx:x.bd lo hi):x.neg.bd lo hi:=by
 obtain⟨a1,a2,a3⟩:=hx
 refine⟨fun h=>?_,a2,a3⟩
 have h:x.m=0:=h
 show(!x.s&&decide (x.m≠0))=false
 rw[decide_eq_false (show ¬x.m≠0 by omega),Bool.and_false]
theorem ExV.times_bd{l1 h1 l2 h2:Int}{x y:ExV}(hx:x.bd l1 h1)(hy:y.bd l2 h2):(x.times y).bd (l1+l2) (h1+h2):=by
 obtain⟨a1,a2,a3⟩:=hx
 obtain⟨b1,b2,b3⟩:=hy
 refine⟨fun h=>?_,?_,?_⟩
 ·have h:x.m*y.m=0:=h
  show((x.s != y.s)&&decide (x.m*y.m≠0))=false
  rw[decide_eq_false (show ¬x.m*y.m≠0 by omega),Bool.and_false]
 ·show l1+l2≤x.e+y.e
  omega
 ·have:=jH x.m y.m
  show(bl (x.m*y.m):Int)+(x.e+y.e)≤h1+h2
  omega
theorem ExV.abs_bd{lo hi:Int}{x:ExV}(hx:x.bd lo hi):x.abs.bd lo hi:=⟨fun _=>rfl,hx.2.1,hx.2.2⟩
theorem aY0{s:Bool}{m1:Nat}{e1:Int}{m2:Nat}{e2 low mode:Int}:bl (ovQ s m1 e1 m2 e2 low mode)≤bl m1+(e1-e2-low).toNat+1:=by
 have h1:=jg (aSk s (ovA m1 (e1-e2-low)) (ovA m2 (-(e1-e2-low))) mode)
 have h2:=Ja (ovA m1 (e1-e2-low)/ovA m2 (-(e1-e2-low)))
 have h3:=y8 (ovA m1 (e1-e2-low)) (ovA m2 (-(e1-e2-low)))
 have h4:=Q7 m1 (e1-e2-low).toNat
 unfold ovQ;unfold ovA at*;omega
theorem ExV.over_bd{l1 h1 l2 low mode hi:Int}{x y:ExV}(hx:x.bd l1 h1)(hy:l2≤y.e)(h:h1-l2+1≤hi)(hb:h1-l1+1+low≤hi):(x.over y low mode).bd low hi:=by
 obtain⟨a1,a2,a3⟩:=hx
 refine⟨fun h=>?_,Int.le_refl _,?_⟩
 ·have h:ovQ (x.s != y.s) x.m x.e y.m y.e low mode=0:=h
  show((x.s != y.s)&&decide (ovQ (x.s != y.s) x.m x.e y.m y.e low mode≠0))=false
  rw[decide_eq_false (by rw[h];simp),Bool.and_false]
 ·have:=@aY0 (x.s != y.s) x.m x.e y.m y.e low mode
  show(bl (ovQ (x.s != y.s) x.m x.e y.m y.e low mode):Int)+low≤hi
  omega
theorem ExV.rnd_bd{lo hi low mode:Int}{x:ExV}(hx:x.bd lo hi)(hl:lo≤low)(hh:low≤hi):(x.rnd low mode).bd lo (hi+1):=by
 obtain⟨a1,a2,a3⟩:=hx
 by_cases c:low≤x.e∨x.m=0
 ·refine⟨fun h=>?_,?_,?_⟩
  ·show roS _ _ _ _ _=false
   have h:roM _ _ _ _ _=0:=h
   unfold roM at h;unfold roS;rw[if_pos c]at h ⊢;exact a1 h
  ·show lo≤roE _ _ _
   unfold roE;rw[if_pos c];exact a2
  ·show(bl (roM _ _ _ _ _):Int)+roE _ _ _≤_
   unfold roM roE;rw[if_pos c,if_pos c];omega
 ·refine⟨fun h=>?_,?_,?_⟩
  ·show roS _ _ _ _ _=false
   have h:roM _ _ _ _ _=0:=h
   unfold roM at h;unfold roS;rw[if_neg c]at h ⊢;rw[h];simp
  ·show lo≤roE _ _ _
   unfold roE;rw[if_neg c];exact hl
  ·show(bl (roM _ _ _ _ _):Int)+roE _ _ _≤_
   unfold roM roE;rw[if_neg c,if_neg c]
   have h1:=jg (aSk x.s x.m (2^(low-x.e).toNat) mode)
   have h2:=Ja (x.m/2^(low-x.e).toNat)
   have h3:=aNO x.m (low-x.e).toNat
   omega
theorem yH(x y:ExV)(hx:x.bd (-400000) 400000)(hy:y.bd (-400000) 400000):Con Tryz.prog 153 false [.ag [.v (.bool (x.s)),.sl (lim (x.m)).length (qg (lim (x.m))),.v (.int .i64 (x.e))],.ag [.v (.bool (y.s)),.sl (lim (y.m)).length (qg (lim (y.m))),.v (.int .i64 (y.e))]] [] (isA (.ag [.v (.bool ((x.plus y).s)),.sl (lim ((x.plus y).m)).length (qg (lim ((x.plus y).m))),.v (.int .i64 ((x.plus y).e))])):=by
 obtain⟨a1,a2,a3⟩:=hx
 obtain⟨b1,b2,b3⟩:=hy
 exact awD x.s x.m x.e y.s y.m y.e (by omega) (by omega) (by omega) (by omega)
theorem XD(x y:ExV)(hx:x.bd (-400000) 400000)(hy:y.bd (-400000) 400000):Con Tryz.prog 200 false [.ag [.v (.bool (x.s)),.sl (lim (x.m)).length (qg (lim (x.m))),.v (.int .i64 (x.e))],.ag [.v (.bool (y.s)),.sl (lim (y.m)).length (qg (lim (y.m))),.v (.int .i64 (y.e))]] [] (isA (.ag [.v (.bool ((x.times y).s)),.sl (lim ((x.times y).m)).length (qg (lim ((x.times y).m))),.v (.int .i64 ((x.times y).e))])):=by
 obtain⟨a1,a2,a3⟩:=hx
 obtain⟨b1,b2,b3⟩:=hy
 exact aox x.s x.m x.e y.s y.m y.e (by omega) (by omega) (by omega) (by omega)
theorem awE(x y:ExV)(low mode:Int)(h0:y.m≠0)(hx:x.bd (-400000) 400000)(hy:y.bd (-400000) 400000)(hl: -400000≤low∧low≤400000):Con Tryz.prog 193 false [.ag [.v (.bool (x.s)),.sl (lim (x.m)).length (qg (lim (x.m))),.v (.int .i64 (x.e))],.ag [.v (.bool (y.s)),.sl (lim (y.m)).length (qg (lim (y.m))),.v (.int .i64 (y.e))],.v (.int .i64 low),.v (.int .i64 mode)] [] (isA (.tu [.ag [.v (.bool ((x.over y low mode).s)),.sl (lim ((x.over y low mode).m)).length (qg (lim ((x.over y low mode).m))),.v (.int .i64 ((x.over y low mode).e))],.v (.bool (ovX x.m x.e y.m y.e low))])):=by
 obtain⟨a1,a2,a3⟩:=hx
 obtain⟨b1,b2,b3⟩:=hy
 exact aji x.s x.m x.e y.s y.m y.e low mode h0 (by omega) (by omega) (by omega) (by omega) (by omega) (by omega)
theorem ajh(x:ExV)(low mode:Int)(hx:x.bd (-400000) 400000)(hl: -400000≤low∧low≤400000):Con Tryz.prog 116 false [.ag [.v (.bool (x.s)),.sl (lim (x.m)).length (qg (lim (x.m))),.v (.int .i64 (x.e))],.v (.int .i64 low),.v (.int .i64 mode)] [] (isA (.tu [.ag [.v (.bool ((x.rnd low mode).s)),.sl (lim ((x.rnd low mode).m)).length (qg (lim ((x.rnd low mode).m))),.v (.int .i64 ((x.rnd low mode).e))],.v (.bool (roX x.m x.e low))])):=by
 obtain⟨a1,a2,a3⟩:=hx
 exact ahG x.s x.m x.e low mode (by omega) (by omega) (by omega)
theorem JQ(x y:ExV)(hx:x.bd (-400000) 400000)(hy:y.bd (-400000) 400000):Con Tryz.prog 110 true [.ag [.v (.bool (x.s)),.sl (lim (x.m)).length (qg (lim (x.m))),.v (.int .i64 (x.e))],.ag [.v (.bool (y.s)),.sl (lim (y.m)).length (qg (lim (y.m))),.v (.int .i64 (y.e))]] [] (isA (.v (.int .i64 (x.cmp y)))):=by
 obtain⟨a1,a2,a3⟩:=hx
 obtain⟨b1,b2,b3⟩:=hy
 unfold ExV.cmp
 rw[ajp (K:=400000) (by omega) (by omega)]
 exact adv 400000 x.s x.m x.e y.s y.m y.e (by omega) (by omega) (by omega) (by omega) (by omega) (by omega) a1 b1
theorem aLq(x:ExV):Con Tryz.prog 155 false [.ag [.v (.bool (x.s)),.sl (lim (x.m)).length (qg (lim (x.m))),.v (.int .i64 (x.e))]] [] (isA (.ag [.v (.bool (x.neg.s)),.sl (lim (x.neg.m)).length (qg (lim (x.neg.m))),.v (.int .i64 (x.neg.e))])):=by
 refine Con.frzA ?_
 have hq:decide ((0:Int)<((lim x.m).length:Int))=decide (x.m≠0):=by
  rw[decide_eq_decide]
  exact⟨fun h e=>by rw[e,qz]at h;simp at h,fun h=>by have:=Qt h;omega⟩
 unfold ExV.neg
 cases hs:x.s
 ·refine Con.of_w (rs:=[.cell 2 97]) Tryz.func155 rfl Tryz.ntmps155 rfl ?_
  simp(disch:=omega)only[go_sem]
  simp(disch:=omega)only[go_sem,hq]
  exact qu (hp:=by simp(disch:=omega)only[go_sem,Bool.not_false,Bool.true_and])
 ·refine Con.of_w (rs:=[.cell 2 97]) Tryz.func155 rfl Tryz.ntmps155 rfl ?_
  simp(disch:=omega)only[go_sem]
  exact qu (hp:=by simp(disch:=omega)only[go_sem,Bool.not_true,Bool.false_and])
theorem aLx(x:ExV):Con Tryz.prog 75 false [.ag [.v (.bool (x.s)),.sl (lim (x.m)).length (qg (lim (x.m))),.v (.int .i64 (x.e))]] [] (isA (.ag [.v (.bool (x.abs.s)),.sl (lim (x.abs.m)).length (qg (lim (x.abs.m))),.v (.int .i64 (x.abs.e))])):=by
 refine Con.frzA ?_
 refine Con.of_w (rs:=[.cell 2 97]) Tryz.func75 rfl Tryz.ntmps75 rfl ?_
 simp(disch:=omega)only[go_sem]
 exact qu (hp:=by simp(disch:=omega)only[go_sem,ExV.abs])
theorem yG(x:ExV)(k:Int)(hx: -2^40≤x.e∧x.e≤2^40)(hk: -2^40≤k∧k≤2^40):Con Tryz.prog 142 false [.ag [.v (.bool (x.s)),.sl (lim (x.m)).length (qg (lim (x.m))),.v (.int .i64 (x.e))],.v (.int .i64 k)] [] (isA (.ag [.v (.bool ((x.shift k).s)),.sl (lim ((x.shift k).m)).length (qg (lim ((x.shift k).m))),.v (.int .i64 ((x.shift k).e))])):=by
 refine Con.frzA ?_
 refine Con.of_w (rs:=[.cell 4 97]) Tryz.func142 rfl Tryz.ntmps142 rfl ?_
 simp(disch:=omega)only[go_sem]
 exact qu (hp:=by simp(disch:=omega)only[go_sem,ExV.shift])
theorem aLm(x:ExV)(hx:x.bd (-400000) 400000):Con Tryz.prog 140 true [.ag [.v (.bool (x.s)),.sl (lim (x.m)).length (qg (lim (x.m))),.v (.int .i64 (x.e))]] [] (isA (.v (.int .i64 x.top))):=by
 obtain⟨a1,a2,a3⟩:=hx
 exact aLl x.s x.m x.e (by have:=qE (m:=x.m) (B:=800000) (by omega);omega) (by omega)
theorem aoF(x y:ExV)(hx:x.bd (-400000) 400000)(hy:y.bd (-400000) 400000):Con Tryz.prog 74 false [.ag [.v (.bool (x.s)),.sl (lim (x.m)).length (qg (lim (x.m))),.v (.int .i64 (x.e))],.ag [.v (.bool (y.s)),.sl (lim (y.m)).length (qg (lim (y.m))),.v (.int .i64 (y.e))]] [] (isA (.ag [.v (.bool ((x.plus y.neg).s)),.sl (lim ((x.plus y.neg).m)).length (qg (lim ((x.plus y.neg).m))),.v (.int .i64 ((x.plus y.neg).e))])):=by
 refine Con.frzA ?_
 refine Con.of_w (rs:=[.cell 4 97]) Tryz.func74 rfl Tryz.ntmps74 rfl ?_
 simp(disch:=omega)only[go_sem]
 refine qv rfl [⟨0,[],[]⟩,⟨1,[0],[]⟩,⟨2,[0],[]⟩,⟨3,[],[]⟩,⟨4,[],[]⟩] (by kernel_rfl) ?_
 simp(disch:=omega)only[go_sem]
 refine qa (aLq y) ?_
 simp(disch:=omega)only[go_sem]
 refine qa (yH x y.neg hx (ExV.neg_bd hy)) ?_
 simp(disch:=omega)only[go_sem]
 exact qu
end Go.Ab
namespace Go.Ab
open Go Go.Proofs
def gl(n:Nat)(g:Nat→Nat→ExV)(k:Nat):List ExV:=(List.range k).map fun t=>g (t/n) (t % n)
theorem jS{n:Nat}{g:Nat→Nat→ExV}{k:Nat}:(gl n g k).length=k:=by simp[gl]
theorem aUj{n:Nat}{g:Nat→Nat→ExV}{k:Nat}:gl n g (k+1)=gl n g k++[g (k/n) (k % n)]:=by simp[gl,List.range_succ]
theorem aZL{n:Nat}{g:Nat→Nat→ExV}{k t:Nat}(h:t<k):(gl n g k).getD t ex0=g (t/n) (t % n):=by
 rw[List.getD_eq_getElem?_getD];simp[gl,h]
theorem aZK{n:Nat}{g:Nat→Nat→ExV}:ql ExV.cs (gl n g 0)=[]:=by simp[gl,ql]
theorem jX{l:List ExV}{k:Nat}(h:l.length=k):cut (ql ExV.cs l) 0 (k*3)=ql ExV.cs l:=by subst h;exact aVu
theorem jy{l:List ExV}{i:Nat}(hi:i<l.length):cut (ql ExV.cs l) (i*3) 3=[.v (.bool (l.getD i ex0).s),.sl (lim (l.getD i ex0).m).length (qg (lim (l.getD i ex0).m)),.v (.int .i64 (l.getD i ex0).e)]:=Qn (l:=l) acZ hi ex0
theorem aNL(n:Nat)(l:List ExV)(i j:Nat)(hl:i*n+j<l.length)(hb:l.length≤1000)(hn:n≤1000)(hi:i≤1000)(hj:j≤1000):
  Con Tryz.prog 115 false [.ag [.v (.int .i64 n),.sl l.length (ql ExV.cs l)],.v (.int .i64 i),.v (.int .i64 j)] [] (isA (.ag [.v (.bool ((l.getD (i*n+j) ex0).s)),.sl (lim ((l.getD (i*n+j) ex0).m)).length (qg (lim ((l.getD (i*n+j) ex0).m))),.v (.int .i64 ((l.getD (i*n+j) ex0).e))])):=by
 refine Con.frzA ?_
 have hin:i*n≤1000:=by omega
 have hp:(i:Int)*(n:Int)≤1000∧0≤(i:Int)*(n:Int):=by rw[←Int.natCast_mul];omega
 have e1:(i:Int)*(n:Int)+(j:Int)=((i*n+j:Nat):Int):=by rw[Int.natCast_add,Int.natCast_mul]
 have hcut:=jy hl
 generalize i*n+j=k at*
 refine Con.of_w (rs:=[.cell 6 97]) Tryz.func115 rfl Tryz.ntmps115 rfl ?_
 simp(disch:=omega)only[go_sem]
 simp(disch:=omega)only[go_sem,e1,hcut]
 refine⟨by omega,by omega,?_⟩
 exact qu
set_option maxRecDepth 100000 in
theorem aoQ(n:Nat)(f:Nat)(caps:List AV)(g:Nat→Nat→ExV)(hn0:n≤4)(hf:∀i j:Nat,i<n→j<n→Con Tryz.prog f false (.v (.int .i64 i):: .v (.int .i64 j)::caps) [] (isA (.ag [.v (.bool ((g i j).s)),.sl (lim ((g i j).m)).length (qg (lim ((g i j).m))),.v (.int .i64 ((g i j).e))])))(hg:qt Tryz.prog f=True)
  (hc:∀h:Nat→Ob,caps.map (qK h 6)=caps) (hc5:∀h:Nat→Ob,caps.map (qK h 5)=caps) (hn:∀ks,AllL (jq ks) caps) (hr:∀ρ,zx ρ caps=caps):
  Con Tryz.prog 113 false [.v (.int .i64 n),.fn f caps] [] (isA (.ag [.v (.int .i64 n),.sl (n*n) (ql ExV.cs (gl n g (n*n)))])):=by
 refine Con.frzA ?_
 refine Con.of_aw Tryz.func113 rfl Tryz.ntmps113 (by simp) (by simp) (by simp) (W.sound ?_)
 show @W Tryz.prog 30 ⟨_⟩ ⟨fun x σ=>@zl _ _ _ ⟨_⟩ _ ⟨_⟩ x σ⟩ _ _
 simp(disch:=omega)only[go_sem,hg]
 refine qj (fun i:Nat=>[(0,.v (.int .i64 n)),(1,.fn f caps),(4,.pt 2 0),(5,.pt 0 0),(10,.v (.int .i64 n)),(11,.v (.int .i64 i))])
  (fun i=>[(0,.own 0 [.v (.int .i64 n),.rf 1 0 (i*n)]),(1,.own 3 (ql ExV.cs (gl n g (i*n)))),(2,.own 0 [.v (.int .i64 0),.v (.slice none 0 0)])]) (fun i=>i≤n) (fun i=>n-i) 0 (by omega)
  ((Le.ghostC 70000000 1 1 3 (zo:=0) (cs:=[.v (.int .i64 n),.v (.slice none 0 0)]) (by simp(disch:=omega)only[go_sem]) rfl (by simp(disch:=omega)only[go_sem])).trans (Le.lst [(0,70000000),(2,60000000)] _ _ rfl (by simp(disch:=omega)only[go_sem,hr,hn]) (by simp(disch:=omega)only[go_sem,aZK,Nat.zero_mul,List.set_cons_succ,List.set_cons_zero]))) ?_
 intro i hi
 simp(disch:=omega)only[go_sem]
 refine qi (fun h1=>?_) (fun h1=>?_)
 ·simp(disch:=omega)only[go_sem,h1]
  refine qj (fun j:Nat=>[(0,.v (.int .i64 n)),(1,.fn f caps),(4,.pt 2 0),(5,.pt 0 0),(6,.v (.int .i64 i)),(10,.v (.int .i64 n)),(11,.v (.int .i64 i)),(14,.v (.int .i64 n)),(15,.v (.int .i64 j))])
   (fun j=>[(0,.own 0 [.v (.int .i64 n),.rf 1 0 (i*n+j)]),(1,.own 3 (ql ExV.cs (gl n g (i*n+j)))),(2,.own 0 [.v (.int .i64 0),.v (.slice none 0 0)])]) (fun j=>j≤n) (fun j=>n-j) 0 (by omega)
   (Le.lst [] _ _ rfl (by simp(disch:=omega)only[go_sem,hr,hn,Nat.add_zero]) (by simp(disch:=omega)only[go_sem,Nat.add_zero])) ?_
  intro j hj
  simp(disch:=omega)only[go_sem]
  refine qi (fun h2=>?_) (fun h2=>?_)
  ·simp(disch:=omega)only[go_sem,h2]
   have hd:(i*n+j)/n=i:=by rw[Nat.mul_comm,Nat.mul_add_div (by omega),Nat.div_eq_of_lt (by omega),Nat.add_zero]
   have hm:(i*n+j) % n=j:=by rw[Nat.mul_comm,Nat.mul_add_mod,Nat.mod_eq_of_lt (by omega)]
   have hs:=@aUj n g (i*n+j)
   rw[hd,hm]at hs
   have hcut:=jX (@jS n g (i*n+j))
   have hin:i*n≤16:=Nat.mul_le_mul (show i≤4 by omega) hn0
   have hk:i*n+(j+1)=i*n+j+1:=rfl
   refine qv rfl [⟨0,[],[]⟩,⟨1,[],[]⟩,⟨2,[1],[]⟩,⟨3,[1],[]⟩,⟨4,[1],[]⟩,⟨5,[1],[]⟩,⟨6,[1],[]⟩,⟨7,[],[]⟩,⟨8,[],[]⟩,⟨9,[],[]⟩] (by kernel_rfl) ?_
   simp(disch:=omega)only[go_sem,hg]
   refine qF (hf i j (by omega) (by omega)) (by simp(disch:=omega)only[go_sem,hc,hc5]) ?_
   rintro r hs2 ⟨rfl,rfl,_⟩
   refine⟨by simp[qL],?_⟩
   simp(disch:=omega)only[go_sem,hcut,VJ]
   refine⟨⟨by rw[jS];exact Nat.le_refl _,by omega⟩,qe (j+1) [(1,270000000)] (by show j+1≤_;omega) (by show n-(j+1)<n-j;omega) rfl (by simp(disch:=omega)only[go_sem,hr,hn];try omega) (by simp(disch:=omega)only[go_sem,hk,hs])⟩
  ·simp(disch:=omega)only[go_sem,h2]
   obtain rfl:n=j:=by omega
   exact qe (i+1) [] (by show i+1≤_;omega) (by show n-(i+1)<n-i;omega) rfl (by simp(disch:=omega)only[go_sem,hr,hn,Nat.add_mul,Nat.one_mul];try omega) (by simp(disch:=omega)only[go_sem,Nat.add_mul,Nat.one_mul])
 ·simp(disch:=omega)only[go_sem,h1]
  obtain rfl:n=i:=by omega
  refine qm [(0,1)] [.own 3 (ql ExV.cs (gl n g (n*n)))] [] [.ag [.v (.int .i64 n),.rf 0 0 (n*n)]] rfl (by simp(disch:=omega)only[go_sem]) (by simp(disch:=omega)only[go_sem]) (by simp) (by simp) ?_
  show qK _ 6 _=_
  simp(disch:=omega)only[go_sem,qY,jX jS]
end Go.Ab
namespace Go.Ab
open Go Go.Proofs
def zb(m x:ExV):ExV:=if 0<x.cmp m then x else m
def qU(m x:ExV):ExV:=if x.cmp m<0 then x else m
def zh(l:List ExV):ExV:=(l.drop 1).foldl zb (l.getD 0 ex0)
def zq(l:List ExV):ExV:=(l.drop 1).foldl qU (l.getD 0 ex0)
def gbd(lo hi:Int)(l:List ExV):Prop:=∀x∈l,x.bd lo hi
theorem jR{lo hi:Int}{l:List ExV}{i:Nat}(h:gbd lo hi l)(hi':i<l.length):(l.getD i ex0).bd lo hi:=by
 refine h _ ?_
 rw[List.getD_eq_getElem?_getD,List.getElem?_eq_getElem hi'];exact List.getElem_mem _
theorem yt{l:List ExV}{i:Nat}(h1:1≤i)(h:i<l.length):(l.take (i+1)).drop 1=(l.take i).drop 1++[l.getD i ex0]:=by
 rw[List.take_add_one,List.getElem?_eq_getElem h,List.drop_append_of_le_length (by rw[List.length_take];omega),List.getD_eq_getElem?_getD,List.getElem?_eq_getElem h]
 rfl
theorem ZY{lo hi:Int}{F:ExV→ExV→ExV}(hF:∀m x,F m x=m∨F m x=x):∀(l:List ExV) (m:ExV),m.bd lo hi→gbd lo hi l→(l.foldl F m).bd lo hi
 | [],m,h,_=>h
 |x::r,m,h,hl=>by
  refine ZY hF r (F m x) ?_ (fun y hy=>hl y (List.mem_cons_of_mem _ hy))
  rcases hF m x with e|e<;>rw[e]
  ·exact h
  ·exact hl x (List.mem_cons_self ..)
theorem Zo(m x:ExV):zb m x=m∨zb m x=x:=by unfold zb;split<;>simp
theorem Zr(m x:ExV):qU m x=m∨qU m x=x:=by unfold qU;split<;>simp
theorem Zn{lo hi:Int}{l:List ExV}(h:gbd lo hi l)(h0:0<l.length):(zh l).bd lo hi:=ZY Zo _ _ (jR h h0) (fun x hx=>h x (List.mem_of_mem_drop hx))
theorem Zq{lo hi:Int}{l:List ExV}(h:gbd lo hi l)(h0:0<l.length):(zq l).bd lo hi:=ZY Zr _ _ (jR h h0) (fun x hx=>h x (List.mem_of_mem_drop hx))
theorem ahJ(l:List ExV)(h0:0<l.length)(hl:l.length≤1000)(hb:gbd (-400000) 400000 l):Con Tryz.prog 154 false [.sl l.length (ql ExV.cs l),.fn 110 []] [] (isA (.ag [.v (.bool (zh l).s),.sl (lim (zh l).m).length (qg (lim (zh l).m)),.v (.int .i64 (zh l).e)])):=by
 refine Con.frzA ?_
 have hc0:=jy (l:=l) (i:=0) h0
 have q1:decide ((l.length:Int)<1)=false:=decide_eq_false (by omega)
 refine Con.of_w (rs:=[.cell 4 97]) Tryz.func154 rfl Tryz.ntmps154 rfl ?_
 simp(disch:=omega)only[go_sem,q1,hc0]
 refine⟨by omega,by omega,?_⟩
 refine qj (fun x:Nat×ExV=>[(0,.sl l.length (ql ExV.cs l)),(1,.fn 110 []),(4,.pt 1 0),(5,.pt 0 0),(6,.v (.int .i64 x.1))])
  (fun x=>[(0,.own 0 [.v (.bool x.2.s),.sl (lim x.2.m).length (qg (lim x.2.m)),.v (.int .i64 x.2.e)]),(1,.own 0 [.v (.bool false),.v (.slice none 0 0),.v (.int .i64 0)])])
  (fun x=>1≤x.1∧x.1≤l.length∧x.2=((l.take x.1).drop 1).foldl zb (l.getD 0 ex0)) (fun x=>l.length-x.1) (1,l.getD 0 ex0) ⟨by omega,by omega,by simp⟩
  (Le.lst [(0,70000000),(1,60000000)] _ _ rfl (by simp(disch:=omega)only[go_sem]) (by simp(disch:=omega)only[go_sem])) ?_
 rintro⟨i,m⟩ ⟨h1,hi,hm⟩
 dsimp only at h1 hi hm ⊢
 have hmb:m.bd (-400000) 400000:=by
  rw[hm];exact ZY Zo _ _ (jR hb h0) (fun x hx=>hb x (List.mem_of_mem_take (List.mem_of_mem_drop hx)))
 simp(disch:=omega)only[go_sem]
 refine qi (fun h2=>?_) (fun h2=>?_)
 ·have hi2:i<l.length:=by omega
  have hci:=jy (l:=l) (i:=i) hi2
  have hs:zb m (l.getD i ex0)=((l.take (i+1)).drop 1).foldl zb (l.getD 0 ex0):=by
   rw[yt h1 hi2,List.foldl_append,←hm];rfl
  simp(disch:=omega)only[go_sem,h2]
  refine qv rfl [⟨0,[],[]⟩,⟨1,[],[]⟩,⟨2,[],[]⟩,⟨3,[],[]⟩,⟨4,[],[]⟩,⟨5,[4],[]⟩,⟨6,[],[]⟩,⟨7,[],[]⟩] (by kernel_rfl) ?_
  have hg:qt Tryz.prog 110=True:=by simp(disch:=omega)only[go_sem]
  simp(disch:=omega)only[go_sem,hci,hg]
  refine⟨by omega,by omega,?_⟩
  refine qn (JQ (l.getD i ex0) m (jR hb hi2) hmb) ?_
  simp(disch:=omega)only[go_sem]
  generalize l.getD i ex0=y at*
  refine qi (fun h3=>?_) (fun h3=>?_)
  ·simp(disch:=omega)only[go_sem,h3,hci]
   have:zb m y=y:=if_pos h3
   refine⟨by omega,by omega,qe (i+1,y) [] ⟨by show 1≤i+1;omega,by show i+1≤_;omega,this▸hs⟩ (by show l.length-(i+1)<l.length-i;omega) rfl (by simp(disch:=omega)only[go_sem];try omega) (by simp(disch:=omega)only[go_sem])⟩
  ·simp(disch:=omega)only[go_sem,h3]
   have:zb m y=m:=if_neg h3
   refine qe (i+1,m) [] ⟨by show 1≤i+1;omega,by show i+1≤_;omega,this▸hs⟩ (by show l.length-(i+1)<l.length-i;omega) rfl (by simp(disch:=omega)only[go_sem];try omega) (by simp(disch:=omega)only[go_sem])
 ·simp(disch:=omega)only[go_sem,h2]
  have:i=l.length:=by omega
  subst this
  rw[List.take_length]at hm
  subst hm
  exact qu (hp:=by simp(disch:=omega)only[go_sem,zh])
theorem ajj(l:List ExV)(h0:0<l.length)(hl:l.length≤1000)(hb:gbd (-400000) 400000 l):Con Tryz.prog 73 false [.sl l.length (ql ExV.cs l)] [] (isA (.ag [.v (.bool (zh l).s),.sl (lim (zh l).m).length (qg (lim (zh l).m)),.v (.int .i64 (zh l).e)])):=by
 refine Con.frzA ?_
 refine Con.of_w (rs:=[.cell 2 97]) Tryz.func73 rfl Tryz.ntmps73 rfl ?_
 simp(disch:=omega)only[go_sem]
 refine qa (ahJ l h0 hl hb) ?_
 simp(disch:=omega)only[go_sem]
 exact qu
theorem ahI(l:List ExV)(h0:0<l.length)(hl:l.length≤1000)(hb:gbd (-400000) 400000 l):Con Tryz.prog 308 false [.sl l.length (ql ExV.cs l),.fn 110 []] [] (isA (.ag [.v (.bool (zq l).s),.sl (lim (zq l).m).length (qg (lim (zq l).m)),.v (.int .i64 (zq l).e)])):=by
 refine Con.frzA ?_
 have hc0:=jy (l:=l) (i:=0) h0
 have q1:decide ((l.length:Int)<1)=false:=decide_eq_false (by omega)
 refine Con.of_w (rs:=[.cell 4 97]) Tryz.func308 rfl Tryz.ntmps308 rfl ?_
 simp(disch:=omega)only[go_sem,q1,hc0]
 refine⟨by omega,by omega,?_⟩
 refine qj (fun x:Nat×ExV=>[(0,.sl l.length (ql ExV.cs l)),(1,.fn 110 []),(4,.pt 1 0),(5,.pt 0 0),(6,.v (.int .i64 x.1))])
  (fun x=>[(0,.own 0 [.v (.bool x.2.s),.sl (lim x.2.m).length (qg (lim x.2.m)),.v (.int .i64 x.2.e)]),(1,.own 0 [.v (.bool false),.v (.slice none 0 0),.v (.int .i64 0)])])
  (fun x=>1≤x.1∧x.1≤l.length∧x.2=((l.take x.1).drop 1).foldl qU (l.getD 0 ex0)) (fun x=>l.length-x.1) (1,l.getD 0 ex0) ⟨by omega,by omega,by simp⟩
  (Le.lst [(0,70000000),(1,60000000)] _ _ rfl (by simp(disch:=omega)only[go_sem]) (by simp(disch:=omega)only[go_sem])) ?_
 rintro⟨i,m⟩ ⟨h1,hi,hm⟩
 dsimp only at h1 hi hm ⊢
 have hmb:m.bd (-400000) 400000:=by
  rw[hm];exact ZY Zr _ _ (jR hb h0) (fun x hx=>hb x (List.mem_of_mem_take (List.mem_of_mem_drop hx)))
 simp(disch:=omega)only[go_sem]
 refine qi (fun h2=>?_) (fun h2=>?_)
 ·have hi2:i<l.length:=by omega
  have hci:=jy (l:=l) (i:=i) hi2
  have hs:qU m (l.getD i ex0)=((l.take (i+1)).drop 1).foldl qU (l.getD 0 ex0):=by
   rw[yt h1 hi2,List.foldl_append,←hm];rfl
  simp(disch:=omega)only[go_sem,h2]
  refine qv rfl [⟨0,[],[]⟩,⟨1,[],[]⟩,⟨2,[],[]⟩,⟨3,[],[]⟩,⟨4,[],[]⟩,⟨5,[4],[]⟩,⟨6,[],[]⟩,⟨7,[],[]⟩] (by kernel_rfl) ?_
  have hg:qt Tryz.prog 110=True:=by simp(disch:=omega)only[go_sem]
  simp(disch:=omega)only[go_sem,hci,hg]
  refine⟨by omega,by omega,?_⟩
  refine qn (JQ (l.getD i ex0) m (jR hb hi2) hmb) ?_
  simp(disch:=omega)only[go_sem]
  generalize l.getD i ex0=y at*
  refine qi (fun h3=>?_) (fun h3=>?_)
  ·simp(disch:=omega)only[go_sem,h3,hci]
   have:qU m y=y:=if_pos h3
   refine⟨by omega,by omega,qe (i+1,y) [] ⟨by show 1≤i+1;omega,by show i+1≤_;omega,this▸hs⟩ (by show l.length-(i+1)<l.length-i;omega) rfl (by simp(disch:=omega)only[go_sem];try omega) (by simp(disch:=omega)only[go_sem])⟩
  ·simp(disch:=omega)only[go_sem,h3]
   have:qU m y=m:=if_neg h3
   refine qe (i+1,m) [] ⟨by show 1≤i+1;omega,by show i+1≤_;omega,this▸hs⟩ (by show l.length-(i+1)<l.length-i;omega) rfl (by simp(disch:=omega)only[go_sem];try omega) (by simp(disch:=omega)only[go_sem])
 ·simp(disch:=omega)only[go_sem,h2]
  have:i=l.length:=by omega
  subst this
  rw[List.take_length]at hm
  subst hm
  exact qu (hp:=by simp(disch:=omega)only[go_sem,zq])
theorem adf(l:List ExV)(h0:0<l.length)(hl:l.length≤1000)(hb:gbd (-400000) 400000 l):Con Tryz.prog 270 false [.sl l.length (ql ExV.cs l)] [] (isA (.ag [.v (.bool (zq l).s),.sl (lim (zq l).m).length (qg (lim (zq l).m)),.v (.int .i64 (zq l).e)])):=by
 refine Con.frzA ?_
 refine Con.of_w (rs:=[.cell 2 97]) Tryz.func270 rfl Tryz.ntmps270 rfl ?_
 simp(disch:=omega)only[go_sem]
 refine qa (ahI l h0 hl hb) ?_
 simp(disch:=omega)only[go_sem]
 exact qu
end Go.Ab
namespace Go.Ab
open Go Go.Proofs
def SpV.plus(s t:SpV):SpV:=⟨s.lo.plus t.lo,s.hi.plus t.hi⟩
def qG(F:ExV→ExV→ExV)(s t:SpV):List ExV:=[F s.lo t.lo,F s.lo t.hi,F s.hi t.lo,F s.hi t.hi]
def SpV.times(s t:SpV):SpV:=⟨zq (qG ExV.times s t),zh (qG ExV.times s t)⟩
def SpV.over(s t:SpV)(low:Int):SpV:=⟨zq (qG (fun x y=>x.over y low 3) s t),zh (qG (fun x y=>x.over y low 2) s t)⟩
def SpV.out(s:SpV)(low:Int):SpV:=⟨s.lo.rnd low 3,s.hi.rnd low 2⟩
def SpV.fat(s:SpV)(by':ExV):SpV:=⟨s.lo.plus by'.neg,s.hi.plus by'⟩
def SpV.bd(lo hi:Int)(s:SpV):Prop:=s.lo.bd lo hi∧s.hi.bd lo hi
theorem VK{F:ExV→ExV→ExV}{s t:SpV}{l1 h1 l2 h2 lo hi:Int}(hs:s.bd l1 h1)(ht:t.bd l2 h2)(hF:∀x y:ExV,x.bd l1 h1→y.bd l2 h2→(F x y).bd lo hi):gbd lo hi (qG F s t):=by
 intro x hx
 simp only[qG,List.mem_cons,List.not_mem_nil,or_false]at hx
 rcases hx with rfl|rfl|rfl|rfl
 ·exact hF _ _ hs.1 ht.1
 ·exact hF _ _ hs.1 ht.2
 ·exact hF _ _ hs.2 ht.1
 ·exact hF _ _ hs.2 ht.2
theorem XF(s t:SpV)(hs:s.bd (-400000) 400000)(ht:t.bd (-400000) 400000):Con Tryz.prog 216 false [.ag [.v (.bool (s).lo.s),.sl (lim (s).lo.m).length (qg (lim (s).lo.m)),.v (.int .i64 (s).lo.e),.v (.bool (s).hi.s),.sl (lim (s).hi.m).length (qg (lim (s).hi.m)),.v (.int .i64 (s).hi.e)],.ag [.v (.bool (t).lo.s),.sl (lim (t).lo.m).length (qg (lim (t).lo.m)),.v (.int .i64 (t).lo.e),.v (.bool (t).hi.s),.sl (lim (t).hi.m).length (qg (lim (t).hi.m)),.v (.int .i64 (t).hi.e)]] [] (isA (.ag [.v (.bool (s.plus t).lo.s),.sl (lim (s.plus t).lo.m).length (qg (lim (s.plus t).lo.m)),.v (.int .i64 (s.plus t).lo.e),.v (.bool (s.plus t).hi.s),.sl (lim (s.plus t).hi.m).length (qg (lim (s.plus t).hi.m)),.v (.int .i64 (s.plus t).hi.e)])):=by
 refine Con.frzA ?_
 refine Con.of_w (rs:=[.cell 4 114]) Tryz.func216 rfl Tryz.ntmps216 rfl ?_
 simp(disch:=omega)only[go_sem]
 refine qv rfl [⟨0,[],[]⟩,⟨1,[],[]⟩,⟨2,[1],[]⟩,⟨3,[1],[]⟩,⟨5,[1,3],[]⟩,⟨6,[1,3],[]⟩,⟨7,[1,3,6],[]⟩,⟨8,[1,3,6],[]⟩,⟨4,[6,8],[]⟩,⟨9,[],[]⟩,⟨10,[],[]⟩,⟨11,[],[]⟩] (by kernel_rfl) ?_
 simp(disch:=omega)only[go_sem]
 refine qa (yH s.lo t.lo hs.1 ht.1) ?_
 simp(disch:=omega)only[go_sem]
 refine qa (yH s.hi t.hi hs.2 ht.2) ?_
 simp(disch:=omega)only[go_sem]
 exact qu (hp:=by simp(disch:=omega)only[go_sem,SpV.plus])
theorem awA(s:SpV)(low:Int)(hs:s.bd (-400000) 400000)(hl: -400000≤low∧low≤400000):Con Tryz.prog 224 false [.ag [.v (.bool (s).lo.s),.sl (lim (s).lo.m).length (qg (lim (s).lo.m)),.v (.int .i64 (s).lo.e),.v (.bool (s).hi.s),.sl (lim (s).hi.m).length (qg (lim (s).hi.m)),.v (.int .i64 (s).hi.e)],.v (.int .i64 low)] [] (isA (.ag [.v (.bool (s.out low).lo.s),.sl (lim (s.out low).lo.m).length (qg (lim (s.out low).lo.m)),.v (.int .i64 (s.out low).lo.e),.v (.bool (s.out low).hi.s),.sl (lim (s.out low).hi.m).length (qg (lim (s.out low).hi.m)),.v (.int .i64 (s.out low).hi.e)])):=by
 refine Con.frzA ?_
 refine Con.of_w (rs:=[.cell 4 114]) Tryz.func224 rfl Tryz.ntmps224 rfl ?_
 simp(disch:=omega)only[go_sem]
 refine qa (ajh s.lo low 3 hs.1 hl) ?_
 simp(disch:=omega)only[go_sem]
 refine qa (ajh s.hi low 2 hs.2 hl) ?_
 simp(disch:=omega)only[go_sem]
 exact qu (hp:=by simp(disch:=omega)only[go_sem,SpV.out])
set_option maxRecDepth 100000 in
theorem XG(s t:SpV)(f:Nat)(caps:List AV)(F:ExV→ExV→ExV)(hf:∀x y:ExV,(x=s.lo∨x=s.hi)→(y=t.lo∨y=t.hi)→Con Tryz.prog f false (.ag [.v (.bool (x).s),.sl (lim (x).m).length (qg (lim (x).m)),.v (.int .i64 (x).e)]:: .ag [.v (.bool (y).s),.sl (lim (y).m).length (qg (lim (y).m)),.v (.int .i64 (y).e)]::caps) [] (isA (.ag [.v (.bool (F x y).s),.sl (lim (F x y).m).length (qg (lim (F x y).m)),.v (.int .i64 (F x y).e)])))(hg:qt Tryz.prog f=True)
  (hc:∀h:Nat→Ob,caps.map (qK h 6)=caps) (hc5:∀h:Nat→Ob,caps.map (qK h 5)=caps) (hn:∀ks,AllL (jq ks) caps) (hr:∀ρ,zx ρ caps=caps):
  Con Tryz.prog 269 false [.ag [.v (.bool (s).lo.s),.sl (lim (s).lo.m).length (qg (lim (s).lo.m)),.v (.int .i64 (s).lo.e),.v (.bool (s).hi.s),.sl (lim (s).hi.m).length (qg (lim (s).hi.m)),.v (.int .i64 (s).hi.e)],.ag [.v (.bool (t).lo.s),.sl (lim (t).lo.m).length (qg (lim (t).lo.m)),.v (.int .i64 (t).lo.e),.v (.bool (t).hi.s),.sl (lim (t).hi.m).length (qg (lim (t).hi.m)),.v (.int .i64 (t).hi.e)],.fn f caps] [] (isA (.sl 4 (ql ExV.cs (qG F s t)))):=by
 refine Con.frzA ?_
 refine Con.of_aw Tryz.func269 rfl Tryz.ntmps269 (by simp) (by simp) (by simp) (W.sound ?_)
 show @W Tryz.prog 32 ⟨_⟩ ⟨fun x σ=>@zl _ _ _ ⟨_⟩ _ ⟨_⟩ x σ⟩ _ _
 simp(disch:=omega)only[go_sem,hg]
 refine qv rfl [⟨0,[],[]⟩,⟨1,[],[]⟩,⟨2,[],[]⟩,⟨3,[2],[]⟩,⟨4,[2],[]⟩,⟨6,[2,4],[]⟩,⟨7,[2,4],[]⟩,⟨8,[2,4],[]⟩,⟨9,[2,4,8],[]⟩,⟨10,[2,4,8],[]⟩,⟨12,[2,4,8,10],[]⟩,⟨13,[2,4,8,10],[]⟩,⟨14,[2,4,8,10],[]⟩,⟨15,[2,4,8,10,14],[]⟩,⟨16,[2,4,8,10,14],[]⟩,⟨18,[2,4,8,10,14,16],[]⟩,⟨19,[2,4,8,10,14,16],[]⟩,⟨20,[2,4,8,10,14,16],[]⟩,⟨21,[2,4,8,10,14,16,20],[]⟩,⟨22,[2,4,8,10,14,16,20],[]⟩,⟨5,[8,10,14,16,20,22],[]⟩,⟨11,[14,16,20,22],[]⟩,⟨17,[20,22],[]⟩,⟨23,[],[]⟩,⟨24,[],[]⟩,⟨25,[],[]⟩] (by kernel_rfl) ?_
 simp(disch:=omega)only[go_sem,hg]
 refine qF (hf s.lo t.lo (.inl rfl) (.inl rfl)) (by simp(disch:=omega)only[go_sem,hc,hc5]) ?_
 rintro r hs ⟨rfl,rfl,_⟩
 refine⟨by simp[qL],?_⟩
 simp(disch:=omega)only[go_sem,hg]
 refine qF (hf s.lo t.hi (.inl rfl) (.inr rfl)) (by simp(disch:=omega)only[go_sem,hc,hc5]) ?_
 rintro r hs ⟨rfl,rfl,_⟩
 refine⟨by simp[qL],?_⟩
 simp(disch:=omega)only[go_sem,hg]
 refine qF (hf s.hi t.lo (.inr rfl) (.inl rfl)) (by simp(disch:=omega)only[go_sem,hc,hc5]) ?_
 rintro r hs ⟨rfl,rfl,_⟩
 refine⟨by simp[qL],?_⟩
 simp(disch:=omega)only[go_sem,hg]
 refine qF (hf s.hi t.hi (.inr rfl) (.inr rfl)) (by simp(disch:=omega)only[go_sem,hc,hc5]) ?_
 rintro r hs ⟨rfl,rfl,_⟩
 refine⟨by simp[qL],?_⟩
 simp(disch:=omega)only[go_sem]
 have hrow:ql ExV.cs (qG F s t)=[.v (.bool (F s.lo t.lo).s),.sl (lim (F s.lo t.lo).m).length (qg (lim (F s.lo t.lo).m)),.v (.int .i64 (F s.lo t.lo).e),.v (.bool (F s.lo t.hi).s),.sl (lim (F s.lo t.hi).m).length (qg (lim (F s.lo t.hi).m)),.v (.int .i64 (F s.lo t.hi).e),
   .v (.bool (F s.hi t.lo).s),.sl (lim (F s.hi t.lo).m).length (qg (lim (F s.hi t.lo).m)),.v (.int .i64 (F s.hi t.lo).e),.v (.bool (F s.hi t.hi).s),.sl (lim (F s.hi t.hi).m).length (qg (lim (F s.hi t.hi).m)),.v (.int .i64 (F s.hi t.hi).e)]:=rfl
 rw[←hrow]
 refine qm [(0,330000000)] [.own 3 (ql ExV.cs (qG F s t))] [] [.rf 0 0 4] rfl (by simp(disch:=omega)only[go_sem]) (by simp(disch:=omega)only[go_sem]) (by simp) (by simp) ?_
 show qK _ 6 _=_
 simp(disch:=omega)only[go_sem,qY,jX (l:=qG F s t) (k:=4) rfl]
theorem ahF(s t:SpV)(hs:s.bd (-200000) 200000)(ht:t.bd (-200000) 200000):Con Tryz.prog 218 false [.ag [.v (.bool (s).lo.s),.sl (lim (s).lo.m).length (qg (lim (s).lo.m)),.v (.int .i64 (s).lo.e),.v (.bool (s).hi.s),.sl (lim (s).hi.m).length (qg (lim (s).hi.m)),.v (.int .i64 (s).hi.e)],.ag [.v (.bool (t).lo.s),.sl (lim (t).lo.m).length (qg (lim (t).lo.m)),.v (.int .i64 (t).lo.e),.v (.bool (t).hi.s),.sl (lim (t).hi.m).length (qg (lim (t).hi.m)),.v (.int .i64 (t).hi.e)]] [] (isA (.ag [.v (.bool (s.times t).lo.s),.sl (lim (s.times t).lo.m).length (qg (lim (s.times t).lo.m)),.v (.int .i64 (s.times t).lo.e),.v (.bool (s.times t).hi.s),.sl (lim (s.times t).hi.m).length (qg (lim (s.times t).hi.m)),.v (.int .i64 (s.times t).hi.e)])):=by
 refine Con.frzA ?_
 have hm:∀x:ExV,x.bd (-200000) 200000→x.bd (-400000) 400000:=fun x h=>h.mono (by omega) (by omega)
 have he:=VK (F:=ExV.times) (lo:= -400000) (hi:=400000) hs ht (fun x y hx hy=>(ExV.times_bd hx hy).mono (by omega) (by omega))
 have ce:=XG s t 200 [] ExV.times (fun x y hx hy=>by
  refine XD x y (hm x ?_) (hm y ?_)
  ·rcases hx with rfl|rfl
   ·exact hs.1
   ·exact hs.2
  ·rcases hy with rfl|rfl
   ·exact ht.1
   ·exact ht.2) (by simp(disch:=omega)only[go_sem]) (fun h=>rfl) (fun h=>rfl) (fun ks=>by simp(disch:=omega)only[go_sem]) (fun ρ=>rfl)
 unfold SpV.times
 generalize hE:qG ExV.times s t=E at*
 have hE4:E.length=4:=by rw[←hE];rfl
 have cl:=adf E (by omega) (by omega) he
 have cm:=ajj E (by omega) (by omega) he
 rw[hE4]at cl cm
 refine Con.of_w (rs:=[.cell 4 114]) Tryz.func218 rfl Tryz.ntmps218 rfl ?_
 simp(disch:=omega)only[go_sem]
 refine qa (ce) ?_
 simp(disch:=omega)only[go_sem]
 refine qa (cl) ?_
 simp(disch:=omega)only[go_sem]
 refine qa (cm) ?_
 simp(disch:=omega)only[go_sem]
 exact qu
end Go.Ab
namespace Go.Ab
open Go Go.Proofs
theorem zi{n i j:Nat}(hi:i<n)(hj:j<n):i*n+j<n*n:=by
 have:(i+1)*n≤n*n:=Nat.mul_le_mul_right n hi
 rw[Nat.add_mul,Nat.one_mul]at this;omega
theorem jU{n:Nat}(h:n≤4):n*n≤16:=Nat.mul_le_mul h h
theorem Yy{lo hi:Int}(h1:lo≤0)(h2:0≤hi):ex0.bd lo hi:=⟨fun _=>rfl,h1,by show((bl 0:Nat):Int)+0≤hi;rw[QG];omega⟩
theorem bl7{n:Nat}{g:Nat→Nat→ExV}{lo hi:Int}(h:∀i j,i<n→j<n→(g i j).bd lo hi):gbd lo hi (gl n g (n*n)):=by
 intro x hx
 simp only[gl,List.mem_map,List.mem_range]at hx
 obtain⟨t,ht,rfl⟩:=hx
 have hn:0<n:=by
  rcases Nat.eq_zero_or_pos n with e|e
  ·subst e;simp at ht
  ·exact e
 exact h _ _ (Nat.div_lt_of_lt_mul ht) (Nat.mod_lt _ hn)
theorem YN(n:Nat)(f:Nat)(caps:List AV)(g:Nat→Nat→ExV)(hn0:n≤4)(hf:∀i j:Nat,i<n→j<n→Con Tryz.prog f false (.v (.int .i64 i):: .v (.int .i64 j)::caps) [] (isA (.ag [.v (.bool (g i j).s),.sl (lim (g i j).m).length (qg (lim (g i j).m)),.v (.int .i64 (g i j).e)])))(hg:qt Tryz.prog f=True)
  (hc:∀h:Nat→Ob,caps.map (qK h 6)=caps) (hc5:∀h:Nat→Ob,caps.map (qK h 5)=caps) (hn:∀ks,AllL (jq ks) caps) (hr:∀ρ,zx ρ caps=caps):
  Con Tryz.prog 113 false [.v (.int .i64 n),.fn f caps] [] (isA (.ag [.v (.int .i64 (n)),.sl (gl n g (n*n)).length (ql ExV.cs (gl n g (n*n)))])):=by
 rw[jS];exact aoQ n f caps g hn0 hf hg hc hc5 hn hr
def bl8(n:Nat)(l l':List ExV):List ExV:=gl n (fun i j=>(l.getD (i*n+j) ex0).plus (l'.getD (i*n+j) ex0)) (n*n)
def boD(n:Nat)(l l':List ExV):List ExV:=gl n (fun i j=>(l.getD (i*n+j) ex0).plus (l'.getD (i*n+j) ex0).neg) (n*n)
def zv(n:Nat)(l:List ExV)(y:ExV):List ExV:=gl n (fun i j=>(l.getD (i*n+j) ex0).times y) (n*n)
theorem adq(n:Nat)(l:List ExV)(y:ExV)(i j:Nat)(hn:n≤4)(hi:i<n)(hj:j<n)(hl:l.length=n*n)(hb:gbd (-400000) 400000 l)(hy:y.bd (-400000) 400000):
  Con Tryz.prog 199 false [.v (.int .i64 i),.v (.int .i64 j),.fp [.v (.int .i64 n),.sl l.length (ql ExV.cs l)] 0,.fp [.v (.bool y.s),.sl (lim y.m).length (qg (lim y.m)),.v (.int .i64 y.e)] 0] [] (isA (.ag [.v (.bool ((l.getD (i*n+j) ex0).times y).s),.sl (lim ((l.getD (i*n+j) ex0).times y).m).length (qg (lim ((l.getD (i*n+j) ex0).times y).m)),.v (.int .i64 ((l.getD (i*n+j) ex0).times y).e)])):=by
 refine Con.frzA ?_
 have hx:=zi hi hj
 have hq:=jU hn
 have c1:=aNL n l i j (by omega) (by omega) (by omega) (by omega) (by omega)
 have b1:=jR hb (show i*n+j<l.length by omega)
 generalize l.getD (i*n+j) ex0=x at*
 refine Con.of_w (rs:=[.cell 6 97]) Tryz.func199 rfl Tryz.ntmps199 rfl ?_
 simp(disch:=omega)only[go_sem]
 refine qv rfl [⟨0,[],[]⟩,⟨1,[0],[]⟩,⟨2,[0],[]⟩,⟨4,[0],[]⟩,⟨3,[4],[]⟩,⟨5,[],[]⟩,⟨6,[],[]⟩] (by kernel_rfl) ?_
 simp(disch:=omega)only[go_sem]
 refine qa (c1) ?_
 simp(disch:=omega)only[go_sem]
 refine qa (XD x y b1 hy) ?_
 simp(disch:=omega)only[go_sem]
 exact qu
theorem YO(n:Nat)(l:List ExV)(y:ExV)(hn:n≤4)(hl:l.length=n*n)(hb:gbd (-400000) 400000 l)(hy:y.bd (-400000) 400000):Con Tryz.prog 122 false [.ag [.v (.int .i64 (n)),.sl (l).length (ql ExV.cs (l))],.ag [.v (.bool (y).s),.sl (lim (y).m).length (qg (lim (y).m)),.v (.int .i64 (y).e)]] [] (isA (.ag [.v (.int .i64 (n)),.sl (zv n l y).length (ql ExV.cs (zv n l y))])):=by
 refine Con.frzA ?_
 have c:=YN n 199 [.fp [.v (.int .i64 n),.sl l.length (ql ExV.cs l)] 0,.fp [.v (.bool y.s),.sl (lim y.m).length (qg (lim y.m)),.v (.int .i64 y.e)] 0] (fun i j=>(l.getD (i*n+j) ex0).times y) hn (fun i j hi hj=>adq n l y i j hn hi hj hl hb hy) (by simp(disch:=omega)only[go_sem]) (fun h=>rfl) (fun h=>rfl) (fun ks=>by simp(disch:=omega)only[go_sem]) (fun ρ=>rfl)
 change Con _ _ _ _ _ (isA (.ag [.v (.int .i64 (n)),.sl (zv n l y).length (ql ExV.cs (zv n l y))]))at c
 refine Con.of_aw Tryz.func122 rfl Tryz.ntmps122 (by simp) (by simp) (by simp) (AW.seqLe (E:=[(2,.fp [.v (.int .i64 n),.sl l.length (ql ExV.cs l)] 0),(3,.fp [.v (.bool y.s),.sl (lim y.m).length (qg (lim y.m)),.v (.int .i64 y.e)] 0),(4,.pt 0 0)]) (H:=[(0,.own 0 [.v (.int .i64 0),.v (.slice none 0 0)])]) (W.sound ?_) (W.sound ?_))
 ·show @W Tryz.prog 9 ⟨_⟩ ⟨_⟩ _ _
  simp(disch:=omega)only[go_sem]
  exact(Le.frz 40000000 (z:=0) (ks:=[.v (.int .i64 n),.sl l.length (ql ExV.cs l)]) (by simp(disch:=omega)only[go_sem]) rfl (by simp(disch:=omega)only[go_sem])).trans ((Le.frz 50000000 (z:=0) (ks:=[.v (.bool y.s),.sl (lim y.m).length (qg (lim y.m)),.v (.int .i64 y.e)]) (by simp(disch:=omega)only[go_sem]) rfl (by simp(disch:=omega)only[go_sem])).trans (Le.lst [(0,60000000)] _ _ rfl (by simp(disch:=omega)only[go_sem]) (by simp(disch:=omega)only[go_sem])))
 show @W Tryz.prog 9 ⟨_⟩ ⟨fun x σ=>@zl _ _ _ ⟨_⟩ _ ⟨_⟩ x σ⟩ _ _
 simp(disch:=omega)only[go_sem]
 refine qa (c) ?_
 simp(disch:=omega)only[go_sem]
 exact qu
def brl(n:Nat)(l:List ExV)(low mode:Int):List ExV:=gl n (fun i j=>(l.getD (i*n+j) ex0).rnd low mode) (n*n)
def ex1:ExV:=⟨false,1,0⟩
theorem Zz:Con Tryz.prog 118 false [] [] (isA (.ag [.v (.bool (ex1).s),.sl (lim (ex1).m).length (qg (lim (ex1).m)),.v (.int .i64 (ex1).e)])):=by
 refine Con.frzA ?_
 refine Con.of_w (rs:=[.cell 0 97]) Tryz.func118 rfl Tryz.ntmps118 rfl ?_
 simp(disch:=omega)only[go_sem]
 refine qa (zW 1 (by omega)) ?_
 simp(disch:=omega)only[go_sem]
 exact qu (hp:=by simp(disch:=omega)only[go_sem,ex1])
def idF(i j:Nat):ExV:=if i=j then ex1 else ex0
def gId(n:Nat):List ExV:=gl n idF (n*n)
theorem aVK(i j:Nat):Con Tryz.prog 117 false [.v (.int .i64 i),.v (.int .i64 j)] [] (isA (.ag [.v (.bool (idF i j).s),.sl (lim (idF i j).m).length (qg (lim (idF i j).m)),.v (.int .i64 (idF i j).e)])):=by
 refine Con.frzA ?_
 refine Con.of_w (rs:=[.cell 4 97]) Tryz.func117 rfl Tryz.ntmps117 rfl ?_
 simp(disch:=omega)only[go_sem]
 refine qi (fun h1=>?_) (fun h1=>?_)
 ·simp(disch:=omega)only[go_sem,h1]
  have e:idF i j=ex1:=if_pos (by omega)
  rw[e]
  refine qa (Zz) ?_
  simp(disch:=omega)only[go_sem]
  exact qu
 ·simp(disch:=omega)only[go_sem,h1]
  have e:idF i j=ex0:=if_neg (by omega)
  rw[e]
  exact qu (hp:=by simp(disch:=omega)only[go_sem,ex0,qz,List.length_nil,ai3])
theorem aw3(n:Nat)(hn:n≤4):Con Tryz.prog 55 false [.v (.int .i64 n)] [] (isA (.ag [.v (.int .i64 (n)),.sl (gId n).length (ql ExV.cs (gId n))])):=by
 refine Con.frzA ?_
 have c:=YN n 117 [] idF hn (fun i j hi hj=>aVK i j) (by simp(disch:=omega)only[go_sem]) (fun h=>rfl) (fun h=>rfl) (fun ks=>by simp(disch:=omega)only[go_sem]) (fun ρ=>rfl)
 change Con _ _ _ _ _ (isA (.ag [.v (.int .i64 (n)),.sl (gId n).length (ql ExV.cs (gId n))]))at c
 refine Con.of_w (rs:=[.cell 2 89]) Tryz.func55 rfl Tryz.ntmps55 rfl ?_
 simp(disch:=omega)only[go_sem]
 refine qa (c) ?_
 simp(disch:=omega)only[go_sem]
 exact qu
theorem ajc{lo hi:Int}(g:Nat→ExV)(h0:lo≤0∧0≤hi):∀k:Nat,(∀t,t<k→(g t).bd lo hi)→((List.range k).foldl (fun s t=>s.plus (g t)) ex0).bd lo (hi+k)
 |0,_=>Yy h0.1 (by simpa using h0.2)
 |k+1,h=>by
  rw[List.range_succ,List.foldl_append,List.foldl_cons,List.foldl_nil]
  have:=ExV.plus_bd (ajc g h0 k fun t ht=>h t (by omega)) ((h k (by omega)).mono (Int.le_refl _) (show hi≤hi+k by omega))
  exact this.mono (Int.le_refl _) (by omega)
def bnR(n:Nat)(l l':List ExV)(i j k:Nat):ExV:=(List.range k).foldl (fun s t=>s.plus ((l.getD (i*n+t) ex0).times (l'.getD (t*n+j) ex0))) ex0
def aZN(n:Nat)(l l':List ExV):List ExV:=gl n (fun i j=>bnR n l l' i j n) (n*n)
theorem beB(n:Nat)(l l':List ExV)(i j:Nat):bnR n l l' i j 0=ex0:=rfl
end Go.Ab
namespace Go.Ab
open Go Go.Proofs
theorem zX{l:List SpV}{i:Nat}(hi:i<l.length):cut (ql SpV.cs l) (i*6) 6=[.v (.bool (l.getD i sp0).lo.s),.sl (lim (l.getD i sp0).lo.m).length (qg (lim (l.getD i sp0).lo.m)),.v (.int .i64 (l.getD i sp0).lo.e),.v (.bool (l.getD i sp0).hi.s),.sl (lim (l.getD i sp0).hi.m).length (qg (lim (l.getD i sp0).hi.m)),.v (.int .i64 (l.getD i sp0).hi.e)]:=Qn (l:=l) aui hi sp0
theorem zM{l:List SpV}{k:Nat}(h:l.length=k):cut (ql SpV.cs l) 0 (k*6)=ql SpV.cs l:=by subst h;exact aR5
theorem aho:ql ExV.cs []=[]:=ji
theorem yb:ql SpV.cs []=[]:=ji
def mpT{X Y:Type}(l:List X)(F:X→Y)(i:Nat):List Y:=(l.take i).map F
theorem Zm{X Y:Type}{l:List X}{F:X→Y}:mpT l F 0=[]:=rfl
theorem zK{X Y:Type}{l:List X}{F:X→Y}{i:Nat}(h:i≤l.length):(mpT l F i).length=i:=by unfold mpT;rw[List.length_map,List.length_take];omega
theorem jF{X Y:Type}{l:List X}{F:X→Y}{i:Nat}(d:X)(h:i<l.length):mpT l F (i+1)=mpT l F i++[F (l.getD i d)]:=by
 unfold mpT
 rw[List.take_add_one,List.getElem?_eq_getElem h,List.map_append,List.getD_eq_getElem?_getD,List.getElem?_eq_getElem h];rfl
theorem yh{X Y:Type}{l:List X}{F:X→Y}:mpT l F l.length=l.map F:=by unfold mpT;rw[List.take_length]
def sbd(lo hi:Int)(l:List SpV):Prop:=∀x∈l,x.bd lo hi
theorem zY{lo hi:Int}{l:List SpV}{i:Nat}(h:sbd lo hi l)(hi':i<l.length):(l.getD i sp0).bd lo hi:=by
 refine h _ ?_
 rw[List.getD_eq_getElem?_getD,List.getElem?_eq_getElem hi'];exact List.getElem_mem _
set_option maxRecDepth 100000 in
theorem YE(n:Int)(l:List ExV)(hl:l.length≤1000):Con Tryz.prog 53 false [.ag [.v (.int .i64 n),.sl l.length (ql ExV.cs l)]] [] (isA (.ag [.v (.int .i64 n),.sl l.length (ql ExV.cs l)])):=by
 refine Con.frzA ?_
 refine Con.of_aw Tryz.func53 rfl Tryz.ntmps53 (by simp) (by simp) (by simp) (W.sound ?_)
 show @W Tryz.prog 25 ⟨_⟩ ⟨fun x σ=>@zl _ _ _ ⟨_⟩ _ ⟨_⟩ x σ⟩ _ _
 simp(disch:=omega)only[go_sem]
 refine qj (fun i:Nat=>[(10,.sl l.length (ql ExV.cs l)),(11,.v (.int .i64 l.length)),(12,.v (.int .i64 i)),(3,.pt 0 0),(2,.pt 2 0)])
  (fun i=>[(0,.own 0 [.v (.int .i64 n),.rf 1 0 i]),(1,.own 3 (ql ExV.cs (mpT l (id) i))),(2,.own 0 [.v (.int .i64 0),.v (.slice none 0 0)])]) (fun i=>i≤l.length) (fun i=>l.length-i) 0 (by omega)
  ((Le.ghostC 50000000 1 1 3 (zo:=0) (cs:=[.v (.int .i64 n),.v (.slice none 0 0)]) (by simp(disch:=omega)only[go_sem]) rfl (by simp(disch:=omega)only[go_sem])).trans (Le.lst [(0,50000000),(2,40000000)] _ _ rfl (by simp(disch:=omega)only[go_sem]) (by simp(disch:=omega)only[go_sem,Zm,aho,List.set_cons_succ,List.set_cons_zero]))) ?_
 intro i hi
 simp(disch:=omega)only[go_sem]
 refine qi (fun h1=>?_) (fun h1=>?_)
 ·have hi2:i<l.length:=by omega
  have hci:=jy hi2
  have hcut:=jX (zK (F:=id) hi)
  have hml:=zK (F:=id) hi
  have hs:=jF (F:=id) ex0 hi2
  generalize l.getD i ex0=x at*
  simp(disch:=omega)only[go_sem,h1,hci]
  refine⟨by omega,by omega,?_⟩
  refine qv rfl [⟨0,[],[]⟩,⟨1,[],[]⟩,⟨2,[1],[]⟩,⟨3,[1],[]⟩,⟨4,[1],[]⟩,⟨5,[],[]⟩,⟨6,[],[]⟩,⟨7,[],[]⟩] (by kernel_rfl) ?_
  simp(disch:=omega)only[go_sem]
  refine qa (ahX x.s x.m x.e) ?_
  simp(disch:=omega)only[go_sem]
  simp(disch:=omega)only[go_sem,hcut,VJ]
  refine⟨⟨by rw[hml];exact Nat.le_refl _,by omega⟩,qe (i+1) [(1,230000000)] (by show i+1≤_;omega) (by show l.length-(i+1)<l.length-i;omega) rfl (by simp(disch:=omega)only[go_sem];try omega) (by simp(disch:=omega)only[go_sem,hs,id_eq])⟩
 ·simp(disch:=omega)only[go_sem,h1]
  obtain rfl:i=l.length:=by omega
  refine qm [(0,1)] [.own 3 (ql ExV.cs (mpT l (id) l.length))] [] [.ag [.v (.int .i64 n),.rf 0 0 l.length]] rfl (by simp(disch:=omega)only[go_sem]) (by simp(disch:=omega)only[go_sem]) (by simp) (by simp) ?_
  show qK _ 6 _=_
  simp(disch:=omega)only[go_sem,qY,yh,jX (l:=l.map (id)) (k:=l.length) (List.length_map ..),List.map_id,jX (l:=l) (k:=l.length) rfl]
def ptS(x:ExV):SpV:=⟨x,x⟩
set_option maxRecDepth 100000 in
theorem y7(n:Nat)(l:List ExV)(hl:l.length≤1000):Con Tryz.prog 141 false [.ag [.v (.int .i64 (n)),.sl (l).length (ql ExV.cs (l))]] [] (isA (.ag [.v (.int .i64 (n)),.sl (l.map ptS).length (ql SpV.cs (l.map ptS))])):=by
 refine Con.frzA ?_
 refine Con.of_aw Tryz.func141 rfl Tryz.ntmps141 (by simp) (by simp) (by simp) (W.sound ?_)
 show @W Tryz.prog 26 ⟨_⟩ ⟨fun x σ=>@zl _ _ _ ⟨_⟩ _ ⟨_⟩ x σ⟩ _ _
 simp(disch:=omega)only[go_sem]
 refine qj (fun i:Nat=>[(10,.sl l.length (ql ExV.cs l)),(11,.v (.int .i64 l.length)),(12,.v (.int .i64 i)),(3,.pt 0 0),(2,.pt 2 0)])
  (fun i=>[(0,.own 0 [.v (.int .i64 n),.rf 1 0 i]),(1,.own 6 (ql SpV.cs (mpT l (ptS) i))),(2,.own 0 [.v (.int .i64 0),.v (.slice none 0 0)])]) (fun i=>i≤l.length) (fun i=>l.length-i) 0 (by omega)
  ((Le.ghostC 50000000 1 1 6 (zo:=0) (cs:=[.v (.int .i64 n),.v (.slice none 0 0)]) (by simp(disch:=omega)only[go_sem]) rfl (by simp(disch:=omega)only[go_sem])).trans (Le.lst [(0,50000000),(2,40000000)] _ _ rfl (by simp(disch:=omega)only[go_sem]) (by simp(disch:=omega)only[go_sem,Zm,yb,List.set_cons_succ,List.set_cons_zero]))) ?_
 intro i hi
 simp(disch:=omega)only[go_sem]
 refine qi (fun h1=>?_) (fun h1=>?_)
 ·have hi2:i<l.length:=by omega
  have hci:=jy hi2
  have hcut:=zM (zK (F:=ptS) hi)
  have hml:=zK (F:=ptS) hi
  have hs:=jF (F:=ptS) ex0 hi2
  generalize l.getD i ex0=x at*
  simp(disch:=omega)only[go_sem,h1,hci]
  refine⟨by omega,by omega,?_⟩
  have hsn:∀L:List SpV,ql SpV.cs L++[.v (.bool x.s),.sl (lim x.m).length (qg (lim x.m)),.v (.int .i64 x.e),.v (.bool x.s),.sl (lim x.m).length (qg (lim x.m)),.v (.int .i64 x.e)]=ql SpV.cs (L++[ptS x]):=fun L=>JJ (x:=ptS x)
  simp(disch:=omega)only[go_sem,hcut,hsn]
  refine⟨⟨by rw[hml];exact Nat.le_refl _,by omega⟩,qe (i+1) [(1,240000000)] (by show i+1≤_;omega) (by show l.length-(i+1)<l.length-i;omega) rfl (by simp(disch:=omega)only[go_sem];try omega) (by simp(disch:=omega)only[go_sem,hs])⟩
 ·simp(disch:=omega)only[go_sem,h1]
  obtain rfl:i=l.length:=by omega
  refine qm [(0,1)] [.own 6 (ql SpV.cs (mpT l (ptS) l.length))] [] [.ag [.v (.int .i64 n),.rf 0 0 l.length]] rfl (by simp(disch:=omega)only[go_sem]) (by simp(disch:=omega)only[go_sem]) (by simp) (by simp) ?_
  show qK _ 6 _=_
  simp(disch:=omega)only[go_sem,qY,yh,zM (l:=l.map (ptS)) (k:=l.length) (List.length_map ..),List.length_map]
def axY(s:SpV):ExV:=(s.lo.plus s.hi).shift (-1)
set_option maxRecDepth 100000 in
theorem bnU(n:Nat)(l:List SpV)(hl:l.length≤1000)(hb:sbd (-390000) 390000 l):Con Tryz.prog 72 false [.ag [.v (.int .i64 (n)),.sl (l).length (ql SpV.cs (l))]] [] (isA (.ag [.v (.int .i64 (n)),.sl (l.map axY).length (ql ExV.cs (l.map axY))])):=by
 refine Con.frzA ?_
 refine Con.of_aw Tryz.func72 rfl Tryz.ntmps72 (by simp) (by simp) (by simp) (W.sound ?_)
 show @W Tryz.prog 29 ⟨_⟩ ⟨fun x σ=>@zl _ _ _ ⟨_⟩ _ ⟨_⟩ x σ⟩ _ _
 simp(disch:=omega)only[go_sem]
 refine qj (fun i:Nat=>[(10,.sl l.length (ql SpV.cs l)),(11,.v (.int .i64 l.length)),(12,.v (.int .i64 i)),(3,.pt 0 0),(2,.pt 2 0)])
  (fun i=>[(0,.own 0 [.v (.int .i64 n),.rf 1 0 i]),(1,.own 3 (ql ExV.cs (mpT l (axY) i))),(2,.own 0 [.v (.int .i64 0),.v (.slice none 0 0)])]) (fun i=>i≤l.length) (fun i=>l.length-i) 0 (by omega)
  ((Le.ghostC 50000000 1 1 3 (zo:=0) (cs:=[.v (.int .i64 n),.v (.slice none 0 0)]) (by simp(disch:=omega)only[go_sem]) rfl (by simp(disch:=omega)only[go_sem])).trans (Le.lst [(0,50000000),(2,40000000)] _ _ rfl (by simp(disch:=omega)only[go_sem]) (by simp(disch:=omega)only[go_sem,Zm,aho,List.set_cons_succ,List.set_cons_zero]))) ?_
 intro i hi
 simp(disch:=omega)only[go_sem]
 refine qi (fun h1=>?_) (fun h1=>?_)
 ·have hi2:i<l.length:=by omega
  have hci:=zX hi2
  have hcut:=jX (zK (F:=axY) hi)
  have hml:=zK (F:=axY) hi
  have hs:=jF (F:=axY) sp0 hi2
  have hx:=zY hb hi2
  generalize l.getD i sp0=x at*
  simp(disch:=omega)only[go_sem,h1,hci]
  refine⟨by omega,by omega,?_⟩
  refine qv rfl [⟨0,[],[]⟩,⟨1,[],[]⟩,⟨2,[1],[]⟩,⟨3,[1],[]⟩,⟨4,[1,3],[]⟩,⟨5,[1,3],[]⟩,⟨6,[1],[]⟩,⟨7,[1],[]⟩,⟨8,[1],[]⟩,⟨9,[],[]⟩,⟨10,[],[]⟩,⟨11,[],[]⟩] (by kernel_rfl) ?_
  simp(disch:=omega)only[go_sem]
  refine qa (yH x.lo x.hi (hx.1.mono (by omega) (by omega)) (hx.2.mono (by omega) (by omega))) ?_
  simp(disch:=omega)only[go_sem]
  have hp:=ExV.plus_bd hx.1 hx.2
  have hp2: -390000≤(x.lo.plus x.hi).e∧(x.lo.plus x.hi).e≤400000:=⟨hp.2.1,by have:=hp.2.2;omega⟩
  refine qa (yG (x.lo.plus x.hi) (-1) (by omega) (by omega)) ?_
  simp(disch:=omega)only[go_sem]
  have em:axY x=(x.lo.plus x.hi).shift (-1):=rfl
  rw[em]at hs
  simp(disch:=omega)only[go_sem,hcut,VJ]
  refine⟨⟨by rw[hml];exact Nat.le_refl _,by omega⟩,qe (i+1) [(1,270000000)] (by show i+1≤_;omega) (by show l.length-(i+1)<l.length-i;omega) rfl (by simp(disch:=omega)only[go_sem];try omega) (by simp(disch:=omega)only[go_sem,hs])⟩
 ·simp(disch:=omega)only[go_sem,h1]
  obtain rfl:i=l.length:=by omega
  refine qm [(0,1)] [.own 3 (ql ExV.cs (mpT l (axY) l.length))] [] [.ag [.v (.int .i64 n),.rf 0 0 l.length]] rfl (by simp(disch:=omega)only[go_sem]) (by simp(disch:=omega)only[go_sem]) (by simp) (by simp) ?_
  show qK _ 6 _=_
  simp(disch:=omega)only[go_sem,qY,yh,jX (l:=l.map (axY)) (k:=l.length) (List.length_map ..),List.length_map]
set_option maxRecDepth 100000 in
theorem VW(n:Nat)(l:List SpV)(f:Nat)(caps:List AV)(F:SpV→SpV)(hl:l.length≤1000)(hf:∀x∈l,Con Tryz.prog f false (.ag [.v (.bool (x).lo.s),.sl (lim (x).lo.m).length (qg (lim (x).lo.m)),.v (.int .i64 (x).lo.e),.v (.bool (x).hi.s),.sl (lim (x).hi.m).length (qg (lim (x).hi.m)),.v (.int .i64 (x).hi.e)]::caps) [] (isA (.ag [.v (.bool (F x).lo.s),.sl (lim (F x).lo.m).length (qg (lim (F x).lo.m)),.v (.int .i64 (F x).lo.e),.v (.bool (F x).hi.s),.sl (lim (F x).hi.m).length (qg (lim (F x).hi.m)),.v (.int .i64 (F x).hi.e)])))(hg:qt Tryz.prog f=True)
  (hc:∀h:Nat→Ob,caps.map (qK h 6)=caps) (hc5:∀h:Nat→Ob,caps.map (qK h 5)=caps) (hn:∀ks,AllL (jq ks) caps) (hr:∀ρ,zx ρ caps=caps):
  Con Tryz.prog 219 false [.ag [.v (.int .i64 (n)),.sl (l).length (ql SpV.cs (l))],.fn f caps] [] (isA (.ag [.v (.int .i64 (n)),.sl (l.map F).length (ql SpV.cs (l.map F))])):=by
 refine Con.frzA ?_
 refine Con.of_aw Tryz.func219 rfl Tryz.ntmps219 (by simp) (by simp) (by simp) (W.sound ?_)
 show @W Tryz.prog 28 ⟨_⟩ ⟨fun x σ=>@zl _ _ _ ⟨_⟩ _ ⟨_⟩ x σ⟩ _ _
 simp(disch:=omega)only[go_sem,hg]
 refine qj (fun i:Nat=>[(1,.fn f caps),(12,.sl l.length (ql SpV.cs l)),(13,.v (.int .i64 l.length)),(14,.v (.int .i64 i)),(5,.pt 0 0),(4,.pt 2 0)])
  (fun i=>[(0,.own 0 [.v (.int .i64 n),.rf 1 0 i]),(1,.own 6 (ql SpV.cs (mpT l (F) i))),(2,.own 0 [.v (.int .i64 0),.v (.slice none 0 0)])]) (fun i=>i≤l.length) (fun i=>l.length-i) 0 (by omega)
  ((Le.ghostC 70000000 1 1 6 (zo:=0) (cs:=[.v (.int .i64 n),.v (.slice none 0 0)]) (by simp(disch:=omega)only[go_sem]) rfl (by simp(disch:=omega)only[go_sem])).trans (Le.lst [(0,70000000),(2,60000000)] _ _ rfl (by simp(disch:=omega)only[go_sem,hr,hn]) (by simp(disch:=omega)only[go_sem,Zm,yb,List.set_cons_succ,List.set_cons_zero]))) ?_
 intro i hi
 simp(disch:=omega)only[go_sem]
 refine qi (fun h1=>?_) (fun h1=>?_)
 ·have hi2:i<l.length:=by omega
  have hci:=zX hi2
  have hcut:=zM (zK (F:=F) hi)
  have hml:=zK (F:=F) hi
  have hs:=jF (F:=F) sp0 hi2
  have hfx:=hf (l.getD i sp0) (by rw[List.getD_eq_getElem?_getD,List.getElem?_eq_getElem hi2];exact List.getElem_mem _)
  generalize l.getD i sp0=x at*
  simp(disch:=omega)only[go_sem,h1,hci]
  refine⟨by omega,by omega,?_⟩
  refine qv rfl [⟨0,[],[]⟩,⟨1,[],[]⟩,⟨2,[1],[]⟩,⟨3,[1],[]⟩,⟨4,[1],[]⟩,⟨5,[1],[]⟩,⟨6,[],[]⟩,⟨7,[],[]⟩,⟨8,[],[]⟩] (by kernel_rfl) ?_
  simp(disch:=omega)only[go_sem,hg]
  refine qF hfx (by simp(disch:=omega)only[go_sem,hc,hc5]) ?_
  rintro r hs2 ⟨rfl,rfl,_⟩
  refine⟨by simp[qL],?_⟩
  simp(disch:=omega)only[go_sem,hcut,JJ]
  refine⟨⟨by rw[hml];exact Nat.le_refl _,by omega⟩,qe (i+1) [(1,260000000)] (by show i+1≤_;omega) (by show l.length-(i+1)<l.length-i;omega) rfl (by simp(disch:=omega)only[go_sem,hr,hn];try omega) (by simp(disch:=omega)only[go_sem,hs])⟩
 ·simp(disch:=omega)only[go_sem,h1]
  obtain rfl:i=l.length:=by omega
  refine qm [(0,1)] [.own 6 (ql SpV.cs (mpT l (F) l.length))] [] [.ag [.v (.int .i64 n),.rf 0 0 l.length]] rfl (by simp(disch:=omega)only[go_sem]) (by simp(disch:=omega)only[go_sem]) (by simp) (by simp) ?_
  show qK _ 6 _=_
  simp(disch:=omega)only[go_sem,qY,yh,zM (l:=l.map (F)) (k:=l.length) (List.length_map ..),List.length_map]
end Go.Ab
namespace Go.Ab
open Go Go.Proofs
theorem ajg(n:Nat)(l:List SpV)(i j:Nat)(hl:i*n+j<l.length)(hb:l.length≤1000)(hn:n≤1000)(hi:i≤1000)(hj:j≤1000):
  Con Tryz.prog 217 false [.ag [.v (.int .i64 (n)),.sl (l).length (ql SpV.cs (l))],.v (.int .i64 i),.v (.int .i64 j)] [] (isA (.ag [.v (.bool (l.getD (i*n+j) sp0).lo.s),.sl (lim (l.getD (i*n+j) sp0).lo.m).length (qg (lim (l.getD (i*n+j) sp0).lo.m)),.v (.int .i64 (l.getD (i*n+j) sp0).lo.e),.v (.bool (l.getD (i*n+j) sp0).hi.s),.sl (lim (l.getD (i*n+j) sp0).hi.m).length (qg (lim (l.getD (i*n+j) sp0).hi.m)),.v (.int .i64 (l.getD (i*n+j) sp0).hi.e)])):=by
 refine Con.frzA ?_
 have hin:i*n≤1000:=by omega
 have hp:(i:Int)*(n:Int)≤1000∧0≤(i:Int)*(n:Int):=by rw[←Int.natCast_mul];omega
 have e1:(i:Int)*(n:Int)+(j:Int)=((i*n+j:Nat):Int):=by rw[Int.natCast_add,Int.natCast_mul]
 have hcut:=zX hl
 generalize i*n+j=k at*
 refine Con.of_w (rs:=[.cell 6 114]) Tryz.func217 rfl Tryz.ntmps217 rfl ?_
 simp(disch:=omega)only[go_sem]
 simp(disch:=omega)only[go_sem,e1,hcut]
 refine⟨by omega,by omega,?_⟩
 exact qu
def gly{Y:Type}(n:Nat)(g:Nat→Nat→Y)(k:Nat):List Y:=(List.range k).map fun t=>g (t/n) (t % n)
theorem zS{Y:Type}{n:Nat}{g:Nat→Nat→Y}{k:Nat}:(gly n g k).length=k:=by simp[gly]
theorem ai8{Y:Type}{n:Nat}{g:Nat→Nat→Y}{k:Nat}:gly n g (k+1)=gly n g k++[g (k/n) (k % n)]:=by simp[gly,List.range_succ]
theorem aUi{Y:Type}{n:Nat}{g:Nat→Nat→Y}:gly n g 0=[]:=rfl
def js(n:Nat)(l l':List SpV)(i j k:Nat):SpV:=(List.range k).foldl (fun s t=>s.plus ((l.getD (i*n+t) sp0).times (l'.getD (t*n+j) sp0))) sp0
theorem ZP(n:Nat)(l l':List SpV)(i j:Nat):js n l l' i j 0=sp0:=rfl
theorem yw(n:Nat)(l l':List SpV)(i j k:Nat):js n l l' i j (k+1)=(js n l l' i j k).plus ((l.getD (i*n+k) sp0).times (l'.getD (k*n+j) sp0)):=by
 unfold js;rw[List.range_succ,List.foldl_append,List.foldl_cons,List.foldl_nil]
def qP(n:Nat)(l l':List SpV):List SpV:=gly n (fun i j=>js n l l' i j n) (n*n)
theorem SpV.times_bd{s t:SpV}{l1 h1 l2 h2:Int}(hs:s.bd l1 h1)(ht:t.bd l2 h2):(s.times t).bd (l1+l2) (h1+h2):=by
 have he:=VK (F:=ExV.times) hs ht (fun x y hx hy=>ExV.times_bd hx hy)
 exact⟨Zq he (by simp[qG]),Zn he (by simp[qG])⟩
theorem SpV.plus_bd{s t:SpV}{lo hi:Int}(hs:s.bd lo hi)(ht:t.bd lo hi):(s.plus t).bd lo (hi+1):=⟨ExV.plus_bd hs.1 ht.1,ExV.plus_bd hs.2 ht.2⟩
theorem SpV.bd.mono{lo hi lo' hi':Int}{x:SpV}(h:x.bd lo hi)(h1:lo'≤lo)(h2:hi≤hi'):x.bd lo' hi':=⟨ExV.bd.mono h.1 h1 h2,ExV.bd.mono h.2 h1 h2⟩
theorem aM3{lo hi:Int}(h1:lo≤0)(h2:0≤hi):sp0.bd lo hi:=⟨Yy h1 h2,Yy h1 h2⟩
theorem qH{lo hi lo' hi':Int}{l:List SpV}(h:sbd lo hi l)(h1:lo'≤lo)(h2:hi≤hi'):sbd lo' hi' l:=fun x hx=>SpV.bd.mono (h x hx) h1 h2
theorem ym{lo hi lo' hi':Int}{l:List ExV}(h:gbd lo hi l)(h1:lo'≤lo)(h2:hi≤hi'):gbd lo' hi' l:=fun x hx=>ExV.bd.mono (h x hx) h1 h2
theorem ach{lo hi:Int}(g:Nat→SpV)(h0:lo≤0∧0≤hi):∀k:Nat,(∀t,t<k→(g t).bd lo hi)→((List.range k).foldl (fun s t=>s.plus (g t)) sp0).bd lo (hi+k)
 |0,_=>aM3 h0.1 (by simpa using h0.2)
 |k+1,h=>by
  rw[List.range_succ,List.foldl_append,List.foldl_cons,List.foldl_nil]
  have:=SpV.plus_bd (ach g h0 k fun t ht=>h t (by omega)) (SpV.bd.mono (h k (by omega)) (Int.le_refl _) (show hi≤hi+k by omega))
  exact SpV.bd.mono this (Int.le_refl _) (by omega)
theorem aiF{l1 h1 l2 h2:Int}{n:Nat}{l l':List SpV}{i j k:Nat}(hi:i<n)(hj:j<n)(hk:k≤n)(hl:l.length=n*n)(hl':l'.length=n*n)(hb:sbd l1 h1 l)(hb':sbd l2 h2 l')(h0:l1+l2≤0∧0≤h1+h2):(js n l l' i j k).bd (l1+l2) (h1+h2+k):=
 ach _ h0 k fun t ht=>SpV.times_bd (zY hb (by rw[hl];exact zi hi (by omega))) (zY hb' (by rw[hl'];exact zi (by omega) hj))
theorem acX{l1 h1 l2 h2:Int}{n:Nat}{l l':List SpV}(hl:l.length=n*n)(hl':l'.length=n*n)(hb:sbd l1 h1 l)(hb':sbd l2 h2 l')(h0:l1+l2≤0∧0≤h1+h2):sbd (l1+l2) (h1+h2+n) (qP n l l'):=by
 intro x hx
 simp only[qP,gly,List.mem_map,List.mem_range]at hx
 obtain⟨t,ht,rfl⟩:=hx
 have hn:0<n:=by
  rcases Nat.eq_zero_or_pos n with e|e
  ·subst e;simp at ht
  ·exact e
 exact aiF (Nat.div_lt_of_lt_mul ht) (Nat.mod_lt _ hn) (Nat.le_refl _) hl hl' hb hb' h0
set_option maxRecDepth 100000 in
theorem QP(n:Nat)(l l':List SpV)(hn:n≤4)(hl:l.length=n*n)(hl':l'.length=n*n)(hb:sbd (-190000) 190000 l)(hb':sbd (-190000) 190000 l'):Con Tryz.prog 144 false [.ag [.v (.int .i64 (n)),.sl (l).length (ql SpV.cs (l))],.ag [.v (.int .i64 (n)),.sl (l').length (ql SpV.cs (l'))]] [] (isA (.ag [.v (.int .i64 (n)),.sl (qP n l l').length (ql SpV.cs (qP n l l'))])):=by
 refine Con.frzA ?_
 have hq:=jU hn
 refine Con.of_aw Tryz.func144 rfl Tryz.ntmps144 (by simp) (by simp) (by simp) (W.sound ?_)
 show @W Tryz.prog 49 ⟨_⟩ ⟨fun x σ=>@zl _ _ _ ⟨_⟩ _ ⟨_⟩ x σ⟩ _ _
 simp(disch:=omega)only[go_sem]
 refine qj (fun i:Nat=>[(2,.pt 3 0),(3,.pt 4 0),(4,.pt 2 0),(5,.pt 0 0),(14,.v (.int .i64 n)),(15,.v (.int .i64 i))])
  (fun i=>[(0,.own 0 [.v (.int .i64 n),.rf 1 0 (i*n)]),(1,.own 6 (ql SpV.cs (gly n (fun i j=>js n l l' i j n) (i*n)))),(2,.own 0 [.v (.int .i64 0),.v (.slice none 0 0)]),(3,.own 0 [.v (.int .i64 n),.sl l.length (ql SpV.cs l)]),(4,.own 0 [.v (.int .i64 n),.sl l'.length (ql SpV.cs l')])]) (fun i=>i≤n) (fun i=>n-i) 0 (by omega)
  ((Le.ghostC 70000000 1 1 6 (zo:=0) (cs:=[.v (.int .i64 n),.v (.slice none 0 0)]) (by simp(disch:=omega)only[go_sem]) rfl (by simp(disch:=omega)only[go_sem])).trans (Le.lst [(0,70000000),(2,60000000),(3,40000000),(4,50000000)] _ _ rfl (by simp(disch:=omega)only[go_sem]) (by simp(disch:=omega)only[go_sem,aUi,yb,Nat.zero_mul,List.set_cons_succ,List.set_cons_zero]))) ?_
 intro i hi
 simp(disch:=omega)only[go_sem]
 refine qi (fun h1=>?_) (fun h1=>?_)
 ·simp(disch:=omega)only[go_sem,h1]
  have hin:i*n≤16:=Nat.mul_le_mul (show i≤4 by omega) hn
  refine qj (fun j:Nat=>[(2,.pt 3 0),(3,.pt 4 0),(4,.pt 2 0),(5,.pt 0 0),(6,.v (.int .i64 i)),(14,.v (.int .i64 n)),(15,.v (.int .i64 i)),(19,.v (.int .i64 n)),(20,.v (.int .i64 j))])
   (fun j=>[(0,.own 0 [.v (.int .i64 n),.rf 1 0 (i*n+j)]),(1,.own 6 (ql SpV.cs (gly n (fun i j=>js n l l' i j n) (i*n+j)))),(2,.own 0 [.v (.int .i64 0),.v (.slice none 0 0)]),(3,.own 0 [.v (.int .i64 n),.sl l.length (ql SpV.cs l)]),(4,.own 0 [.v (.int .i64 n),.sl l'.length (ql SpV.cs l')])]) (fun j=>j≤n) (fun j=>n-j) 0 (by omega)
   (Le.lst [] _ _ rfl (by simp(disch:=omega)only[go_sem,Nat.add_zero]) (by simp(disch:=omega)only[go_sem,Nat.add_zero])) ?_
  intro j hj
  simp(disch:=omega)only[go_sem]
  refine qi (fun h2=>?_) (fun h2=>?_)
  ·simp(disch:=omega)only[go_sem,h2]
   have hd:(i*n+j)/n=i:=by rw[Nat.mul_comm,Nat.mul_add_div (by omega),Nat.div_eq_of_lt (by omega),Nat.add_zero]
   have hm:(i*n+j) % n=j:=by rw[Nat.mul_comm,Nat.mul_add_mod,Nat.mod_eq_of_lt (by omega)]
   have hs:=@ai8 _ n (fun i j=>js n l l' i j n) (i*n+j)
   rw[hd,hm]at hs
   have hcut:=zM (@zS _ n (fun i j=>js n l l' i j n) (i*n+j))
   have hk:i*n+(j+1)=i*n+j+1:=rfl
   generalize hA:gly n (fun i j=>js n l l' i j n) (i*n+j)=A at*
   have hAl:A.length=i*n+j:=by rw[←hA,zS]
   generalize hA1:gly n (fun i j=>js n l l' i j n) (i*n+j+1)=A1 at*
   refine qj (fun k:Nat=>[(2,.pt 3 0),(3,.pt 4 0),(4,.pt 2 0),(5,.pt 0 0),(6,.v (.int .i64 i)),(7,.v (.int .i64 j)),(8,.pt 5 0),(14,.v (.int .i64 n)),(15,.v (.int .i64 i)),(19,.v (.int .i64 n)),(20,.v (.int .i64 j)),(24,.v (.int .i64 n)),(25,.v (.int .i64 k))])
    (fun k=>[(0,.own 0 [.v (.int .i64 n),.rf 1 0 (i*n+j)]),(1,.own 6 (ql SpV.cs A)),(2,.own 0 [.v (.int .i64 0),.v (.slice none 0 0)]),(3,.own 0 [.v (.int .i64 n),.sl l.length (ql SpV.cs l)]),(4,.own 0 [.v (.int .i64 n),.sl l'.length (ql SpV.cs l')]),
     (5,.own 0 [.v (.bool (js n l l' i j k).lo.s),.sl (lim (js n l l' i j k).lo.m).length (qg (lim (js n l l' i j k).lo.m)),.v (.int .i64 (js n l l' i j k).lo.e),.v (.bool (js n l l' i j k).hi.s),.sl (lim (js n l l' i j k).hi.m).length (qg (lim (js n l l' i j k).hi.m)),.v (.int .i64 (js n l l' i j k).hi.e)])])
    (fun k=>k≤n) (fun k=>n-k) 0 (by omega)
    ((Le.nilC 100000000 1 (zo:=0) (cs:=[.v (.bool false),.v (.slice none 0 0),.v (.int .i64 0),.v (.bool false),.v (.slice none 0 0),.v (.int .i64 0)]) (by simp(disch:=omega)only[go_sem]) rfl).trans
     ((Le.nilC 100000000 4 (zo:=0) (cs:=[.v (.bool false),.sl 0 [],.v (.int .i64 0),.v (.bool false),.v (.slice none 0 0),.v (.int .i64 0)]) (by simp(disch:=omega)only[go_sem,List.set_cons_succ,List.set_cons_zero]) rfl).trans (Le.lst [(5,100000000)] _ _ rfl (by simp(disch:=omega)only[go_sem]) (by simp(disch:=omega)only[go_sem,List.set_cons_succ,List.set_cons_zero,ZP,sp0,ex0,qz])))) ?_
   intro k hk2
   have hD:=aiF (k:=k) (show i<n by omega) (show j<n by omega) hk2 hl hl' hb hb' (by omega)
   have hsd:=yw n l l' i j k
   generalize hDD:js n l l' i j k=D at*
   simp(disch:=omega)only[go_sem]
   refine qi (fun h3=>?_) (fun h3=>?_)
   ·have hx:=zi (show i<n by omega) (show k<n by omega)
    have hx':=zi (show k<n by omega) (show j<n by omega)
    have c1:=ajg n l i k (by omega) (by omega) (by omega) (by omega) (by omega)
    have c2:=ajg n l' k j (by omega) (by omega) (by omega) (by omega) (by omega)
    have b1:=zY hb (show i*n+k<l.length by omega)
    have b2:=zY hb' (show k*n+j<l'.length by omega)
    generalize l.getD (i*n+k) sp0=x at*
    generalize l'.getD (k*n+j) sp0=y at*
    simp(disch:=omega)only[go_sem,h3]
    refine qv rfl [⟨0,[],[]⟩,⟨1,[0],[]⟩,⟨2,[0,1],[]⟩,⟨3,[0,1],[]⟩,⟨5,[0,1],[]⟩,⟨6,[0,1,5],[]⟩,⟨7,[0,1,5],[]⟩,⟨4,[0,5],[]⟩,⟨8,[0],[]⟩,⟨9,[0],[]⟩,⟨10,[],[]⟩,⟨11,[],[]⟩] (by kernel_rfl) ?_
    simp(disch:=omega)only[go_sem]
    refine qa (c1) ?_
    simp(disch:=omega)only[go_sem]
    refine qa (c2) ?_
    simp(disch:=omega)only[go_sem]
    refine qa (ahF x y (SpV.bd.mono b1 (by omega) (by omega)) (SpV.bd.mono b2 (by omega) (by omega))) ?_
    simp(disch:=omega)only[go_sem]
    refine qa (XF D (x.times y) (SpV.bd.mono hD (by omega) (by omega)) (SpV.bd.mono (SpV.times_bd b1 b2) (by omega) (by omega))) ?_
    simp(disch:=omega)only[go_sem]
    exact qe (k+1) [] (by show k+1≤_;omega) (by show n-(k+1)<n-k;omega) rfl (by simp(disch:=omega)only[go_sem];try omega) (by simp(disch:=omega)only[go_sem,hsd])
   ·obtain rfl:n=k:=by omega
    rw[hDD]at hs
    simp(disch:=omega)only[go_sem,h3,hcut,JJ]
    refine⟨⟨by rw[hAl];exact Nat.le_refl _,by omega⟩,qe (j+1) [(1,460000000)] (by show j+1≤_;omega) (by show n-(j+1)<n-j;omega) rfl (by simp(disch:=omega)only[go_sem];try omega) (by simp(disch:=omega)only[go_sem,hk,hA1,hs])⟩
  ·simp(disch:=omega)only[go_sem,h2]
   obtain rfl:n=j:=by omega
   exact qe (i+1) [] (by show i+1≤_;omega) (by show n-(i+1)<n-i;omega) rfl (by simp(disch:=omega)only[go_sem,Nat.add_mul,Nat.one_mul];try omega) (by simp(disch:=omega)only[go_sem,Nat.add_mul,Nat.one_mul])
 ·simp(disch:=omega)only[go_sem,h1]
  obtain rfl:n=i:=by omega
  have hll:(qP n l l').length=n*n:=zS
  have hft:gly n (fun i j=>js n l l' i j n) (n*n)=qP n l l':=rfl
  rw[hft,hll]
  refine qm [(0,1)] [.own 6 (ql SpV.cs (qP n l l'))] [] [.ag [.v (.int .i64 n),.rf 0 0 (n*n)]] rfl (by simp(disch:=omega)only[go_sem]) (by simp(disch:=omega)only[go_sem]) (by simp) (by simp) ?_
  show qK _ 6 _=_
  simp(disch:=omega)only[go_sem,qY,zM hll]
end Go.Ab
namespace Go.Ab
open Go Go.Proofs
theorem aoA(x y:ExV)(low mode:Int)(h0:y.m≠0)(hx:x.bd (-400000) 400000)(hy:y.bd (-400000) 400000)(hl: -400000≤low∧low≤400000):
  Con Tryz.prog 272 false [.ag [.v (.bool (x).s),.sl (lim (x).m).length (qg (lim (x).m)),.v (.int .i64 (x).e)],.ag [.v (.bool (y).s),.sl (lim (y).m).length (qg (lim (y).m)),.v (.int .i64 (y).e)],.fp [.v (.int .i64 low)] 0,.fp [.v (.int .i64 mode)] 0] [] (isA (.ag [.v (.bool (x.over y low mode).s),.sl (lim (x.over y low mode).m).length (qg (lim (x.over y low mode).m)),.v (.int .i64 (x.over y low mode).e)])):=by
 refine Con.frzA ?_
 refine Con.of_w (rs:=[.cell 6 97]) Tryz.func272 rfl Tryz.ntmps272 rfl ?_
 simp(disch:=omega)only[go_sem]
 refine qa (awE x y low mode h0 hx hy hl) ?_
 simp(disch:=omega)only[go_sem]
 exact qu
theorem awF(s t:SpV)(low mode:Int)(h1:t.lo.m≠0)(h2:t.hi.m≠0)(hs:s.bd (-400000) 400000)(ht:t.bd (-400000) 400000)(hl: -400000≤low∧low≤400000):
  Con Tryz.prog 271 false [.v (.int .i64 mode),.fp [.v (.bool s.lo.s),.sl (lim s.lo.m).length (qg (lim s.lo.m)),.v (.int .i64 s.lo.e),.v (.bool s.hi.s),.sl (lim s.hi.m).length (qg (lim s.hi.m)),.v (.int .i64 s.hi.e)] 0,.fp [.v (.bool t.lo.s),.sl (lim t.lo.m).length (qg (lim t.lo.m)),.v (.int .i64 t.lo.e),.v (.bool t.hi.s),.sl (lim t.hi.m).length (qg (lim t.hi.m)),.v (.int .i64 t.hi.e)] 0,.fp [.v (.int .i64 low)] 0] [] (isA (.sl 4 (ql ExV.cs (qG (fun x y=>x.over y low mode) s t)))):=by
 refine Con.frzA ?_
 have ce:=XG s t 272 [.fp [.v (.int .i64 low)] 0,.fp [.v (.int .i64 mode)] 0] (fun x y=>x.over y low mode) (fun x y hx hy=>by
  refine aoA x y low mode ?_ ?_ ?_ hl
  ·rcases hy with rfl|rfl
   ·exact h1
   ·exact h2
  ·rcases hx with rfl|rfl
   ·exact hs.1
   ·exact hs.2
  ·rcases hy with rfl|rfl
   ·exact ht.1
   ·exact ht.2) (by simp(disch:=omega)only[go_sem]) (fun h=>rfl) (fun h=>rfl) (fun ks=>by simp(disch:=omega)only[go_sem]) (fun ρ=>rfl)
 refine Con.of_aw Tryz.func271 rfl Tryz.ntmps271 (by simp) (by simp) (by simp) (AW.seqLe (E:=[(1,.fp [.v (.bool s.lo.s),.sl (lim s.lo.m).length (qg (lim s.lo.m)),.v (.int .i64 s.lo.e),.v (.bool s.hi.s),.sl (lim s.hi.m).length (qg (lim s.hi.m)),.v (.int .i64 s.hi.e)] 0),(2,.fp [.v (.bool t.lo.s),.sl (lim t.lo.m).length (qg (lim t.lo.m)),.v (.int .i64 t.lo.e),.v (.bool t.hi.s),.sl (lim t.hi.m).length (qg (lim t.hi.m)),.v (.int .i64 t.hi.e)] 0),(3,.fp [.v (.int .i64 low)] 0),(4,.fp [.v (.int .i64 mode)] 0),(5,.v (.slice none 0 0))]) (H:=[]) (W.sound ?_) (W.sound ?_))
 ·show @W Tryz.prog 10 ⟨_⟩ ⟨_⟩ _ _
  simp(disch:=omega)only[go_sem]
  exact(Le.frz 60000000 (z:=0) (ks:=[.v (.int .i64 mode)]) (by simp(disch:=omega)only[go_sem]) rfl (by simp(disch:=omega)only[go_sem])).trans (Le.lst [] _ _ rfl (by simp(disch:=omega)only[go_sem]) (by simp(disch:=omega)only[go_sem]))
 show @W Tryz.prog 10 ⟨_⟩ ⟨fun x σ=>@zl _ _ _ ⟨_⟩ _ ⟨_⟩ x σ⟩ _ _
 simp(disch:=omega)only[go_sem]
 refine qa (ce) ?_
 simp(disch:=omega)only[go_sem]
 exact qu
theorem SpV.over_bd{s t:SpV}{lo hi l2 low H:Int}(hs:s.bd lo hi)(ht:l2≤t.lo.e∧l2≤t.hi.e)(h:hi-l2+1≤H)(hb:hi-lo+1+low≤H):(s.over t low).bd low H:=by
 have he:∀mode,gbd low H (qG (fun x y=>x.over y low mode) s t):=by
  intro mode x hx
  simp only[qG,List.mem_cons,List.not_mem_nil,or_false]at hx
  rcases hx with rfl|rfl|rfl|rfl
  ·exact ExV.over_bd hs.1 ht.1 h hb
  ·exact ExV.over_bd hs.1 ht.2 h hb
  ·exact ExV.over_bd hs.2 ht.1 h hb
  ·exact ExV.over_bd hs.2 ht.2 h hb
 exact⟨Zq (he 3) (by simp[qG]),Zn (he 2) (by simp[qG])⟩
theorem aoz(s t:SpV)(low:Int)(h1:t.lo.m≠0)(h2:t.hi.m≠0)(hs:s.bd (-100000) 100000)(ht:t.bd (-100000) 100000)(hl: -100000≤low∧low≤100000):
  Con Tryz.prog 221 false [.ag [.v (.bool (s).lo.s),.sl (lim (s).lo.m).length (qg (lim (s).lo.m)),.v (.int .i64 (s).lo.e),.v (.bool (s).hi.s),.sl (lim (s).hi.m).length (qg (lim (s).hi.m)),.v (.int .i64 (s).hi.e)],.ag [.v (.bool (t).lo.s),.sl (lim (t).lo.m).length (qg (lim (t).lo.m)),.v (.int .i64 (t).lo.e),.v (.bool (t).hi.s),.sl (lim (t).hi.m).length (qg (lim (t).hi.m)),.v (.int .i64 (t).hi.e)],.v (.int .i64 low)] [] (isA (.ag [.v (.bool (s.over t low).lo.s),.sl (lim (s.over t low).lo.m).length (qg (lim (s.over t low).lo.m)),.v (.int .i64 (s.over t low).lo.e),.v (.bool (s.over t low).hi.s),.sl (lim (s.over t low).hi.m).length (qg (lim (s.over t low).hi.m)),.v (.int .i64 (s.over t low).hi.e)])):=by
 refine Con.frzA ?_
 have co:=fun mode=>awF s t low mode h1 h2 (SpV.bd.mono hs (by omega) (by omega)) (SpV.bd.mono ht (by omega) (by omega)) (by omega)
 have he:∀mode,gbd (-400000) 400000 (qG (fun x y=>x.over y low mode) s t):=by
  intro mode x hx
  have ht1:=ht.1.2.1
  have ht2:=ht.2.2.1
  simp only[qG,List.mem_cons,List.not_mem_nil,or_false]at hx
  rcases hx with rfl|rfl|rfl|rfl
  ·exact(ExV.over_bd (hi:=400000) hs.1 ht1 (by omega) (by omega)).mono (by omega) (by omega)
  ·exact(ExV.over_bd (hi:=400000) hs.1 ht2 (by omega) (by omega)).mono (by omega) (by omega)
  ·exact(ExV.over_bd (hi:=400000) hs.2 ht1 (by omega) (by omega)).mono (by omega) (by omega)
  ·exact(ExV.over_bd (hi:=400000) hs.2 ht2 (by omega) (by omega)).mono (by omega) (by omega)
 have c3:=co 3
 have c2:=co 2
 have e3:=he 3
 have e2:=he 2
 unfold SpV.over
 generalize hE3:qG (fun x y=>x.over y low 3) s t=E3 at*
 generalize hE2:qG (fun x y=>x.over y low 2) s t=E2 at*
 have l3:E3.length=4:=by rw[←hE3];rfl
 have l2:E2.length=4:=by rw[←hE2];rfl
 have cl:=adf E3 (by omega) (by omega) e3
 have cm:=ajj E2 (by omega) (by omega) e2
 rw[l3]at cl
 rw[l2]at cm
 refine Con.of_aw Tryz.func221 rfl Tryz.ntmps221 (by simp) (by simp) (by simp) (AW.seqLe (E:=[(3,.fp [.v (.bool s.lo.s),.sl (lim s.lo.m).length (qg (lim s.lo.m)),.v (.int .i64 s.lo.e),.v (.bool s.hi.s),.sl (lim s.hi.m).length (qg (lim s.hi.m)),.v (.int .i64 s.hi.e)] 0),(4,.fp [.v (.bool t.lo.s),.sl (lim t.lo.m).length (qg (lim t.lo.m)),.v (.int .i64 t.lo.e),.v (.bool t.hi.s),.sl (lim t.hi.m).length (qg (lim t.hi.m)),.v (.int .i64 t.hi.e)] 0),(5,.fp [.v (.int .i64 low)] 0),(6,.pt 0 0)]) (H:=[(0,.own 0 [.v (.bool false),.v (.slice none 0 0),.v (.int .i64 0),.v (.bool false),.v (.slice none 0 0),.v (.int .i64 0)])]) (W.sound ?_) (W.sound ?_))
 ·show @W Tryz.prog 16 ⟨_⟩ ⟨_⟩ _ _
  simp(disch:=omega)only[go_sem]
  exact(Le.frz 50000000 (z:=0) (ks:=[.v (.bool s.lo.s),.sl (lim s.lo.m).length (qg (lim s.lo.m)),.v (.int .i64 s.lo.e),.v (.bool s.hi.s),.sl (lim s.hi.m).length (qg (lim s.hi.m)),.v (.int .i64 s.hi.e)]) (by simp(disch:=omega)only[go_sem]) rfl (by simp(disch:=omega)only[go_sem])).trans ((Le.frz 60000000 (z:=0) (ks:=[.v (.bool t.lo.s),.sl (lim t.lo.m).length (qg (lim t.lo.m)),.v (.int .i64 t.lo.e),.v (.bool t.hi.s),.sl (lim t.hi.m).length (qg (lim t.hi.m)),.v (.int .i64 t.hi.e)]) (by simp(disch:=omega)only[go_sem]) rfl (by simp(disch:=omega)only[go_sem])).trans ((Le.frz 70000000 (z:=0) (ks:=[.v (.int .i64 low)]) (by simp(disch:=omega)only[go_sem]) rfl (by simp(disch:=omega)only[go_sem])).trans (Le.lst [(0,80000000)] _ _ rfl (by simp(disch:=omega)only[go_sem]) (by simp(disch:=omega)only[go_sem]))))
 show @W Tryz.prog 16 ⟨_⟩ ⟨fun x σ=>@zl _ _ _ ⟨_⟩ _ ⟨_⟩ x σ⟩ _ _
 simp(disch:=omega)only[go_sem]
 refine qa (c3) ?_
 simp(disch:=omega)only[go_sem]
 refine qa (cl) ?_
 simp(disch:=omega)only[go_sem]
 refine qa (c2) ?_
 simp(disch:=omega)only[go_sem]
 refine qa (cm) ?_
 simp(disch:=omega)only[go_sem]
 exact qu
def exN(k:Nat):ExV:=⟨false,k,0⟩
theorem awe{k:Nat}(hk:k<2^63):(exN k).bd 0 64:=⟨fun _=>rfl,Int.le_refl _,by show(bl k:Int)+0≤64;have:bl k≤63:=q9.2 hk;omega⟩
def SpV.divd(s:SpV)(k:Nat)(low:Int):SpV:=s.over ⟨exN k,exN k⟩ low
theorem adu(s:SpV)(k:Nat)(low:Int)(h0:k≠0)(hk:k<2^63)(hs:s.bd (-100000) 100000)(hl: -100000≤low∧low≤100000):
  Con Tryz.prog 220 false [.ag [.v (.bool (s).lo.s),.sl (lim (s).lo.m).length (qg (lim (s).lo.m)),.v (.int .i64 (s).lo.e),.v (.bool (s).hi.s),.sl (lim (s).hi.m).length (qg (lim (s).hi.m)),.v (.int .i64 (s).hi.e)],.fp [.v (.bool (exN k).s),.sl (lim (exN k).m).length (qg (lim (exN k).m)),.v (.int .i64 (exN k).e)] 0,.fp [.v (.int .i64 low)] 0] [] (isA (.ag [.v (.bool (s.divd k low).lo.s),.sl (lim (s.divd k low).lo.m).length (qg (lim (s.divd k low).lo.m)),.v (.int .i64 (s.divd k low).lo.e),.v (.bool (s.divd k low).hi.s),.sl (lim (s.divd k low).hi.m).length (qg (lim (s.divd k low).hi.m)),.v (.int .i64 (s.divd k low).hi.e)])):=by
 refine Con.frzA ?_
 have hb:=awe hk
 have co:=aoz s ⟨exN k,exN k⟩ low h0 h0 hs ⟨hb.mono (by omega) (by omega),hb.mono (by omega) (by omega)⟩ hl
 change Con _ _ _ _ _ (isA (.ag [.v (.bool (s.divd k low).lo.s),.sl (lim (s.divd k low).lo.m).length (qg (lim (s.divd k low).lo.m)),.v (.int .i64 (s.divd k low).lo.e),.v (.bool (s.divd k low).hi.s),.sl (lim (s.divd k low).hi.m).length (qg (lim (s.divd k low).hi.m)),.v (.int .i64 (s.divd k low).hi.e)]))at co
 generalize s.divd k low=z at*
 dsimp only at co
 refine Con.of_w (rs:=[.cell 4 114]) Tryz.func220 rfl Tryz.ntmps220 rfl ?_
 simp(disch:=omega)only[go_sem]
 refine qa (co) ?_
 simp(disch:=omega)only[go_sem]
 exact qu
theorem SpV.out_bd{s:SpV}{lo hi low:Int}(hs:s.bd lo hi)(hl:lo≤low)(hh:low≤hi):(s.out low).bd lo (hi+1):=⟨ExV.rnd_bd hs.1 hl hh,ExV.rnd_bd hs.2 hl hh⟩
theorem SpV.fat_bd{s:SpV}{lo hi:Int}{y:ExV}(hs:s.bd lo hi)(hy:y.bd lo hi):(s.fat y).bd lo (hi+1):=⟨ExV.plus_bd hs.1 (ExV.neg_bd hy),ExV.plus_bd hs.2 hy⟩
theorem aLp(s:SpV)(low:Int)(hs:s.bd (-400000) 400000)(hl: -400000≤low∧low≤400000):Con Tryz.prog 223 false [.ag [.v (.bool (s).lo.s),.sl (lim (s).lo.m).length (qg (lim (s).lo.m)),.v (.int .i64 (s).lo.e),.v (.bool (s).hi.s),.sl (lim (s).hi.m).length (qg (lim (s).hi.m)),.v (.int .i64 (s).hi.e)],.fp [.v (.int .i64 low)] 0] [] (isA (.ag [.v (.bool (s.out low).lo.s),.sl (lim (s.out low).lo.m).length (qg (lim (s.out low).lo.m)),.v (.int .i64 (s.out low).lo.e),.v (.bool (s.out low).hi.s),.sl (lim (s.out low).hi.m).length (qg (lim (s.out low).hi.m)),.v (.int .i64 (s.out low).hi.e)])):=by
 refine Con.frzA ?_
 refine Con.of_w (rs:=[.cell 3 114]) Tryz.func223 rfl Tryz.ntmps223 rfl ?_
 simp(disch:=omega)only[go_sem]
 refine qa (awA s low hs hl) ?_
 simp(disch:=omega)only[go_sem]
 exact qu
theorem JP(n:Nat)(l:List SpV)(low:Int)(hl:l.length≤1000)(hb:sbd (-400000) 400000 l)(hlo: -400000≤low∧low≤400000):Con Tryz.prog 148 false [.ag [.v (.int .i64 (n)),.sl (l).length (ql SpV.cs (l))],.v (.int .i64 low)] [] (isA (.ag [.v (.int .i64 (n)),.sl (l.map fun s=>s.out low).length (ql SpV.cs (l.map fun s=>s.out low))])):=by
 refine Con.frzA ?_
 have c:=VW n l 223 [.fp [.v (.int .i64 low)] 0] (fun s=>s.out low) hl (fun x hx=>aLp x low (hb x hx) hlo) (by simp(disch:=omega)only[go_sem]) (fun h=>rfl) (fun h=>rfl) (fun ks=>by simp(disch:=omega)only[go_sem]) (fun ρ=>rfl)
 generalize l.map (fun s=>s.out low)=L at*
 refine Con.of_aw Tryz.func148 rfl Tryz.ntmps148 (by simp) (by simp) (by simp) (AW.seqLe (E:=[(2,.fp [.v (.int .i64 n),.sl l.length (ql SpV.cs l)] 0),(3,.fp [.v (.int .i64 low)] 0),(4,.pt 0 0)]) (H:=[(0,.own 0 [.v (.int .i64 0),.v (.slice none 0 0)])]) (W.sound ?_) (W.sound ?_))
 ·show @W Tryz.prog 8 ⟨_⟩ ⟨_⟩ _ _
  simp(disch:=omega)only[go_sem]
  exact(Le.frz 40000000 (z:=0) (ks:=[.v (.int .i64 n),.sl l.length (ql SpV.cs l)]) (by simp(disch:=omega)only[go_sem]) rfl (by simp(disch:=omega)only[go_sem])).trans ((Le.frz 50000000 (z:=0) (ks:=[.v (.int .i64 low)]) (by simp(disch:=omega)only[go_sem]) rfl (by simp(disch:=omega)only[go_sem])).trans (Le.lst [(0,60000000)] _ _ rfl (by simp(disch:=omega)only[go_sem]) (by simp(disch:=omega)only[go_sem])))
 show @W Tryz.prog 8 ⟨_⟩ ⟨fun x σ=>@zl _ _ _ ⟨_⟩ _ ⟨_⟩ x σ⟩ _ _
 simp(disch:=omega)only[go_sem]
 refine qa (c) ?_
 simp(disch:=omega)only[go_sem]
 exact qu
theorem aLs(s:SpV)(y:ExV)(hs:s.bd (-400000) 400000)(hy:y.bd (-400000) 400000):Con Tryz.prog 222 false [.ag [.v (.bool (s).lo.s),.sl (lim (s).lo.m).length (qg (lim (s).lo.m)),.v (.int .i64 (s).lo.e),.v (.bool (s).hi.s),.sl (lim (s).hi.m).length (qg (lim (s).hi.m)),.v (.int .i64 (s).hi.e)],.fp [.v (.bool y.s),.sl (lim y.m).length (qg (lim y.m)),.v (.int .i64 y.e)] 0] [] (isA (.ag [.v (.bool (s.fat y).lo.s),.sl (lim (s.fat y).lo.m).length (qg (lim (s.fat y).lo.m)),.v (.int .i64 (s.fat y).lo.e),.v (.bool (s.fat y).hi.s),.sl (lim (s.fat y).hi.m).length (qg (lim (s.fat y).hi.m)),.v (.int .i64 (s.fat y).hi.e)])):=by
 refine Con.frzA ?_
 refine Con.of_w (rs:=[.cell 3 114]) Tryz.func222 rfl Tryz.ntmps222 rfl ?_
 simp(disch:=omega)only[go_sem]
 refine qv rfl [⟨0,[],[]⟩,⟨1,[],[]⟩,⟨2,[1],[]⟩,⟨4,[1,2],[]⟩,⟨5,[1,2],[]⟩,⟨6,[1,2,5],[]⟩,⟨3,[5,6],[]⟩,⟨7,[],[]⟩,⟨8,[],[]⟩,⟨9,[],[]⟩] (by kernel_rfl) ?_
 simp(disch:=omega)only[go_sem]
 refine qa (aoF s.lo y hs.1 hy) ?_
 simp(disch:=omega)only[go_sem]
 refine qa (yH s.hi y hs.2 hy) ?_
 simp(disch:=omega)only[go_sem]
 exact qu (hp:=by simp(disch:=omega)only[go_sem,SpV.fat])
theorem ajl(n:Nat)(l:List SpV)(y:ExV)(hl:l.length≤1000)(hb:sbd (-400000) 400000 l)(hy:y.bd (-400000) 400000):Con Tryz.prog 147 false [.ag [.v (.int .i64 (n)),.sl (l).length (ql SpV.cs (l))],.ag [.v (.bool (y).s),.sl (lim (y).m).length (qg (lim (y).m)),.v (.int .i64 (y).e)]] [] (isA (.ag [.v (.int .i64 (n)),.sl (l.map fun s=>s.fat y).length (ql SpV.cs (l.map fun s=>s.fat y))])):=by
 refine Con.frzA ?_
 have c:=VW n l 222 [.fp [.v (.bool y.s),.sl (lim y.m).length (qg (lim y.m)),.v (.int .i64 y.e)] 0] (fun s=>s.fat y) hl (fun x hx=>aLs x y (hb x hx) hy) (by simp(disch:=omega)only[go_sem]) (fun h=>rfl) (fun h=>rfl) (fun ks=>by simp(disch:=omega)only[go_sem]) (fun ρ=>rfl)
 generalize l.map (fun s=>s.fat y)=L at*
 refine Con.of_aw Tryz.func147 rfl Tryz.ntmps147 (by simp) (by simp) (by simp) (AW.seqLe (E:=[(2,.fp [.v (.int .i64 n),.sl l.length (ql SpV.cs l)] 0),(3,.fp [.v (.bool y.s),.sl (lim y.m).length (qg (lim y.m)),.v (.int .i64 y.e)] 0),(4,.pt 0 0)]) (H:=[(0,.own 0 [.v (.int .i64 0),.v (.slice none 0 0)])]) (W.sound ?_) (W.sound ?_))
 ·show @W Tryz.prog 8 ⟨_⟩ ⟨_⟩ _ _
  simp(disch:=omega)only[go_sem]
  exact(Le.frz 40000000 (z:=0) (ks:=[.v (.int .i64 n),.sl l.length (ql SpV.cs l)]) (by simp(disch:=omega)only[go_sem]) rfl (by simp(disch:=omega)only[go_sem])).trans ((Le.frz 50000000 (z:=0) (ks:=[.v (.bool y.s),.sl (lim y.m).length (qg (lim y.m)),.v (.int .i64 y.e)]) (by simp(disch:=omega)only[go_sem]) rfl (by simp(disch:=omega)only[go_sem])).trans (Le.lst [(0,60000000)] _ _ rfl (by simp(disch:=omega)only[go_sem]) (by simp(disch:=omega)only[go_sem])))
 show @W Tryz.prog 8 ⟨_⟩ ⟨fun x σ=>@zl _ _ _ ⟨_⟩ _ ⟨_⟩ x σ⟩ _ _
 simp(disch:=omega)only[go_sem]
 refine qa (c) ?_
 simp(disch:=omega)only[go_sem]
 exact qu
def yD(l l':List SpV):List SpV:=(List.range l.length).map fun i=>(l.getD i sp0).plus (l'.getD i sp0)
theorem acY{l l':List SpV}:(yD l l').length=l.length:=by simp[yD]
theorem aKV{lo hi:Int}{l l':List SpV}(hl:l'.length=l.length)(h:sbd lo hi l)(h':sbd lo hi l'):sbd lo (hi+1) (yD l l'):=by
 intro x hx
 simp only[yD,List.mem_map,List.mem_range]at hx
 obtain⟨i,hi,rfl⟩:=hx
 exact SpV.plus_bd (zY h hi) (zY h' (by omega))
def fpT(l l':List SpV)(i:Nat):List SpV:=(List.range i).map fun i=>(l.getD i sp0).plus (l'.getD i sp0)
theorem av1{l l':List SpV}{i:Nat}:(fpT l l' i).length=i:=by simp[fpT]
theorem aKg{l l':List SpV}{i:Nat}:fpT l l' (i+1)=fpT l l' i++[(l.getD i sp0).plus (l'.getD i sp0)]:=by simp[fpT,List.range_succ]
set_option maxRecDepth 100000 in
theorem adr(n:Nat)(l l':List SpV)(hl:l.length≤1000)(hl':l'.length=l.length)(hb:sbd (-400000) 400000 l)(hb':sbd (-400000) 400000 l'):Con Tryz.prog 146 false [.ag [.v (.int .i64 (n)),.sl (l).length (ql SpV.cs (l))],.ag [.v (.int .i64 (n)),.sl (l').length (ql SpV.cs (l'))]] [] (isA (.ag [.v (.int .i64 (n)),.sl (yD l l').length (ql SpV.cs (yD l l'))])):=by
 refine Con.frzA ?_
 refine Con.of_aw Tryz.func146 rfl Tryz.ntmps146 (by simp) (by simp) (by simp) (W.sound ?_)
 show @W Tryz.prog 33 ⟨_⟩ ⟨fun x σ=>@zl _ _ _ ⟨_⟩ _ ⟨_⟩ x σ⟩ _ _
 simp(disch:=omega)only[go_sem]
 refine qj (fun i:Nat=>[(3,.pt 3 0),(4,.pt 2 0),(5,.pt 0 0),(12,.sl l.length (ql SpV.cs l)),(13,.v (.int .i64 l.length)),(14,.v (.int .i64 i))])
  (fun i=>[(0,.own 0 [.v (.int .i64 n),.rf 1 0 i]),(1,.own 6 (ql SpV.cs (fpT l l' i))),(2,.own 0 [.v (.int .i64 0),.v (.slice none 0 0)]),(3,.own 0 [.v (.int .i64 n),.sl l'.length (ql SpV.cs l')])]) (fun i=>i≤l.length) (fun i=>l.length-i) 0 (by omega)
  ((Le.ghostC 70000000 1 1 6 (zo:=0) (cs:=[.v (.int .i64 n),.v (.slice none 0 0)]) (by simp(disch:=omega)only[go_sem]) rfl (by simp(disch:=omega)only[go_sem])).trans (Le.lst [(0,70000000),(2,60000000),(3,50000000)] _ _ rfl (by simp(disch:=omega)only[go_sem]) (by simp(disch:=omega)only[go_sem,show fpT l l' 0=[] from rfl,yb,List.set_cons_succ,List.set_cons_zero]))) ?_
 intro i hi
 simp(disch:=omega)only[go_sem]
 refine qi (fun h1=>?_) (fun h1=>?_)
 ·have hi2:i<l.length:=by omega
  have hi3:i<l'.length:=by omega
  have hci:=zX hi2
  have hcj:=zX hi3
  have hcut:=zM (av1 (l:=l) (l':=l') (i:=i))
  have hml:=av1 (l:=l) (l':=l') (i:=i)
  have hs:=aKg (l:=l) (l':=l') (i:=i)
  have hx:=zY hb hi2
  have hy:=zY hb' hi3
  generalize l.getD i sp0=x at*
  generalize l'.getD i sp0=y at*
  simp(disch:=omega)only[go_sem,h1,hci]
  refine⟨by omega,by omega,?_⟩
  refine qv rfl [⟨0,[],[]⟩,⟨1,[],[]⟩,⟨2,[1],[]⟩,⟨3,[1,2],[]⟩,⟨4,[1,2],[]⟩,⟨5,[1,2,4],[]⟩,⟨6,[1,2],[]⟩,⟨7,[1,2],[]⟩,⟨8,[1],[]⟩,⟨9,[1],[]⟩,⟨10,[],[]⟩,⟨11,[],[]⟩,⟨12,[],[]⟩] (by kernel_rfl) ?_
  simp(disch:=omega)only[go_sem,hcj]
  refine⟨by omega,by omega,?_⟩
  refine qa (XF x y hx hy) ?_
  simp(disch:=omega)only[go_sem]
  simp(disch:=omega)only[go_sem,hcut,JJ]
  refine⟨⟨by rw[hml];exact Nat.le_refl _,by omega⟩,qe (i+1) [(1,310000000)] (by show i+1≤_;omega) (by show l.length-(i+1)<l.length-i;omega) rfl (by simp(disch:=omega)only[go_sem];try omega) (by simp(disch:=omega)only[go_sem,hs])⟩
 ·simp(disch:=omega)only[go_sem,h1]
  obtain rfl:i=l.length:=by omega
  have hll:(yD l l').length=l.length:=acY
  have hft:fpT l l' l.length=yD l l':=rfl
  rw[hft,hll]
  refine qm [(0,1)] [.own 6 (ql SpV.cs (yD l l'))] [] [.ag [.v (.int .i64 n),.rf 0 0 l.length]] rfl (by simp(disch:=omega)only[go_sem]) (by simp(disch:=omega)only[go_sem]) (by simp) (by simp) ?_
  show qK _ 6 _=_
  simp(disch:=omega)only[go_sem,qY,zM hll]
theorem ajm(n:Nat)(l:List SpV)(k:Nat)(low:Int)(hl:l.length≤1000)(hb:sbd (-100000) 100000 l)(h0:k≠0)(hk:k<2^63)(hlo: -100000≤low∧low≤100000):Con Tryz.prog 145 false [.ag [.v (.int .i64 (n)),.sl (l).length (ql SpV.cs (l))],.v (.int .i64 k),.v (.int .i64 low)] [] (isA (.ag [.v (.int .i64 (n)),.sl (l.map fun s=>s.divd k low).length (ql SpV.cs (l.map fun s=>s.divd k low))])):=by
 refine Con.frzA ?_
 have c:=VW n l 220 [.fp [.v (.bool (exN k).s),.sl (lim (exN k).m).length (qg (lim (exN k).m)),.v (.int .i64 (exN k).e)] 0,.fp [.v (.int .i64 low)] 0] (fun s=>s.divd k low) hl (fun x hx=>adu x k low h0 hk (hb x hx) hlo) (by simp(disch:=omega)only[go_sem]) (fun h=>rfl) (fun h=>rfl) (fun ks=>by simp(disch:=omega)only[go_sem]) (fun ρ=>rfl)
 generalize l.map (fun s=>s.divd k low)=L at*
 refine Con.of_aw Tryz.func145 rfl Tryz.ntmps145 (by simp) (by simp) (by simp)
  (AW.seqLe (E:=[(1,.v (.int .i64 k)),(3,.pt 1 0),(5,.fp [.v (.int .i64 low)] 0),(6,.pt 0 0)]) (H:=[(0,.own 0 [.v (.int .i64 0),.v (.slice none 0 0)]),(1,.own 0 [.v (.int .i64 n),.sl l.length (ql SpV.cs l)])]) (W.sound ?_)
   (AW.seqLe (E:=[(3,.pt 1 0),(5,.fp [.v (.int .i64 low)] 0),(6,.pt 0 0),(7,.fp [.v (.bool (exN k).s),.sl (lim (exN k).m).length (qg (lim (exN k).m)),.v (.int .i64 (exN k).e)] 0)]) (H:=[(0,.own 0 [.v (.int .i64 0),.v (.slice none 0 0)]),(1,.own 0 [.v (.int .i64 n),.sl l.length (ql SpV.cs l)])]) (W.sound ?_) (W.sound ?_)))
 ·show @W Tryz.prog 14 ⟨_⟩ ⟨_⟩ _ _
  simp(disch:=omega)only[go_sem]
  exact(Le.frz 70000000 (z:=0) (ks:=[.v (.int .i64 low)]) (by simp(disch:=omega)only[go_sem]) rfl (by simp(disch:=omega)only[go_sem])).trans (Le.lst [(0,80000000),(1,50000000)] _ _ rfl (by simp(disch:=omega)only[go_sem]) (by simp(disch:=omega)only[go_sem]))
 ·show @W Tryz.prog 14 ⟨_⟩ ⟨_⟩ _ _
  simp(disch:=omega)only[go_sem]
  refine qa (zW k hk) ?_
  simp(disch:=omega)only[go_sem]
  exact(Le.frz 90000000 (z:=0) (ks:=[.v (.bool (exN k).s),.sl (lim (exN k).m).length (qg (lim (exN k).m)),.v (.int .i64 (exN k).e)]) (by simp(disch:=omega)only[go_sem,exN]) rfl (by simp(disch:=omega)only[go_sem])).trans (Le.lst [] _ _ rfl (by simp(disch:=omega)only[go_sem]) (by simp(disch:=omega)only[go_sem]))
 show @W Tryz.prog 14 ⟨_⟩ ⟨fun x σ=>@zl _ _ _ ⟨_⟩ _ ⟨_⟩ x σ⟩ _ _
 simp(disch:=omega)only[go_sem]
 refine qa (c) ?_
 simp(disch:=omega)only[go_sem]
 exact qu
end Go.Ab
namespace Go.Ab
open Go Go.Proofs
theorem adc(l:List ExV)(h0:0<l.length)(hl:l.length≤1000)(hb:gbd (-400000) 400000 l):Con Tryz.prog 154 false [.rf 10000000 0 l.length,.fn 110 []] [.own 3 (ql ExV.cs l)] (fun r hs bs=>r=.ag [.v (.bool (zh l).s),.sl (lim (zh l).m).length (qg (lim (zh l).m)),.v (.int .i64 (zh l).e)]∧hs=[]∧bs=[.own 3 (ql ExV.cs l)]):=by
 have hc0:=jy (l:=l) (i:=0) h0
 have q1:decide ((l.length:Int)<1)=false:=decide_eq_false (by omega)
 refine Con.of_aw Tryz.func154 rfl Tryz.ntmps154 (by simp) (by simp) (by simp) (W.sound ?_)
 show @W Tryz.prog 33 ⟨_⟩ ⟨fun x σ=>@zl _ _ _ ⟨_⟩ _ ⟨_⟩ x σ⟩ _ _
 simp(disch:=omega)only[go_sem,q1,hc0]
 refine⟨by omega,by omega,?_⟩
 refine qj (fun x:Nat×ExV=>[(0,.rf 10000000 0 l.length),(1,.fn 110 []),(4,.pt 1 0),(5,.pt 0 0),(6,.v (.int .i64 x.1))])
  (fun x=>[(0,.own 0 [.v (.bool x.2.s),.sl (lim x.2.m).length (qg (lim x.2.m)),.v (.int .i64 x.2.e)]),(1,.own 0 [.v (.bool false),.v (.slice none 0 0),.v (.int .i64 0)]),(10000000,.own 3 (ql ExV.cs l))])
  (fun x=>1≤x.1∧x.1≤l.length∧x.2=((l.take x.1).drop 1).foldl zb (l.getD 0 ex0)) (fun x=>l.length-x.1) (1,l.getD 0 ex0) ⟨by omega,by omega,by simp⟩
  (Le.lst [(0,70000000),(1,60000000)] _ _ rfl (by simp(disch:=omega)only[go_sem]) (by simp(disch:=omega)only[go_sem])) ?_
 rintro⟨i,m⟩ ⟨h1,hi,hm⟩
 dsimp only at h1 hi hm ⊢
 have hmb:m.bd (-400000) 400000:=by
  rw[hm];exact ZY Zo _ _ (jR hb h0) (fun x hx=>hb x (List.mem_of_mem_take (List.mem_of_mem_drop hx)))
 simp(disch:=omega)only[go_sem]
 refine qi (fun h2=>?_) (fun h2=>?_)
 ·have hi2:i<l.length:=by omega
  have hci:=jy (l:=l) (i:=i) hi2
  have hs:zb m (l.getD i ex0)=((l.take (i+1)).drop 1).foldl zb (l.getD 0 ex0):=by
   rw[yt h1 hi2,List.foldl_append,←hm];rfl
  simp(disch:=omega)only[go_sem,h2]
  refine qv rfl [⟨0,[],[]⟩,⟨1,[],[]⟩,⟨2,[],[]⟩,⟨3,[],[]⟩,⟨4,[],[]⟩,⟨5,[4],[]⟩,⟨6,[],[]⟩,⟨7,[],[]⟩] (by kernel_rfl) ?_
  have hg:qt Tryz.prog 110=True:=by simp(disch:=omega)only[go_sem]
  simp(disch:=omega)only[go_sem,hci,hg]
  refine⟨by omega,by omega,?_⟩
  refine qn (JQ (l.getD i ex0) m (jR hb hi2) hmb) ?_
  simp(disch:=omega)only[go_sem]
  generalize l.getD i ex0=y at*
  refine qi (fun h3=>?_) (fun h3=>?_)
  ·simp(disch:=omega)only[go_sem,h3,hci]
   have:zb m y=y:=if_pos h3
   refine⟨by omega,by omega,qe (i+1,y) [] ⟨by show 1≤i+1;omega,by show i+1≤_;omega,this▸hs⟩ (by show l.length-(i+1)<l.length-i;omega) rfl (by simp(disch:=omega)only[go_sem];try omega) (by simp(disch:=omega)only[go_sem])⟩
  ·simp(disch:=omega)only[go_sem,h3]
   have:zb m y=m:=if_neg h3
   refine qe (i+1,m) [] ⟨by show 1≤i+1;omega,by show i+1≤_;omega,this▸hs⟩ (by show l.length-(i+1)<l.length-i;omega) rfl (by simp(disch:=omega)only[go_sem];try omega) (by simp(disch:=omega)only[go_sem])
 ·simp(disch:=omega)only[go_sem,h2]
  have:i=l.length:=by omega
  subst this
  rw[List.take_length]at hm
  subst hm
  refine qm [] [] [.own 3 (ql ExV.cs l)] [.ag [.v (.bool (zh l).s),.sl (lim (zh l).m).length (qg (lim (zh l).m)),.v (.int .i64 (zh l).e)]] rfl (by simp(disch:=omega)only[go_sem,zh]) (by simp(disch:=omega)only[go_sem]) (by simp) (by simp) ⟨rfl,rfl,rfl⟩
theorem awH(l:List ExV)(h0:0<l.length)(hl:l.length≤1000)(hb:gbd (-400000) 400000 l):Con Tryz.prog 73 false [.rf 10000000 0 l.length] [.own 3 (ql ExV.cs l)] (fun r hs bs=>r=.ag [.v (.bool (zh l).s),.sl (lim (zh l).m).length (qg (lim (zh l).m)),.v (.int .i64 (zh l).e)]∧hs=[]∧bs=[.own 3 (ql ExV.cs l)]):=by
 refine Con.of_aw Tryz.func73 rfl Tryz.ntmps73 (by simp) (by simp) (by simp) (W.sound ?_)
 show @W Tryz.prog 5 ⟨_⟩ ⟨fun x σ=>@zl _ _ _ ⟨_⟩ _ ⟨_⟩ x σ⟩ _ _
 simp(disch:=omega)only[go_sem]
 refine zt false [10000000] (adc l h0 hl hb) (by simp(disch:=omega)only[go_sem]) (by simp(disch:=omega)only[go_sem]) rfl (zp (z:=3) (cs:=ql ExV.cs l) (by simp(disch:=omega)only[go_sem]) (by simp(disch:=omega)only[go_sem])) (by intro n hn;exact⟨_,List.mem_cons_self ..,by rw[List.mem_singleton.1 hn];rfl⟩) ?_
 rintro r hs bs ⟨rfl,rfl,rfl⟩-
 refine⟨by simp[qL],?_⟩
 simp(disch:=omega)only[go_sem]
 refine qm [] [] [.own 3 (ql ExV.cs l)] [.ag [.v (.bool (zh l).s),.sl (lim (zh l).m).length (qg (lim (zh l).m)),.v (.int .i64 (zh l).e)]] rfl (by simp(disch:=omega)only[go_sem]) (by simp(disch:=omega)only[go_sem]) (by simp) (by simp) ⟨rfl,rfl,rfl⟩
def adz(n:Nat)(l:List ExV)(j k:Nat):ExV:=(List.range k).foldl (fun s i=>s.plus (l.getD (i*n+j) ex0).abs) ex0
theorem YS(n:Nat)(l:List ExV)(j k:Nat):adz n l j (k+1)=(adz n l j k).plus (l.getD (k*n+j) ex0).abs:=by
 unfold adz;rw[List.range_succ,List.foldl_append,List.foldl_cons,List.foldl_nil]
theorem ah5{lo hi:Int}{n:Nat}{l:List ExV}{j k:Nat}(hj:j<n)(hk:k≤n)(hl:l.length=n*n)(hb:gbd lo hi l)(h0:lo≤0∧0≤hi):(adz n l j k).bd lo (hi+k):=
 ajc _ h0 k fun t ht=>ExV.abs_bd (jR hb (by rw[hl];exact zi (by omega) hj))
def q6(n:Nat)(l:List ExV)(k:Nat):ExV:=(List.range k).foldl (fun s j=>zh [s,adz n l j n]) ex0
theorem QK(n:Nat)(l:List ExV)(k:Nat):q6 n l (k+1)=zh [q6 n l k,adz n l k n]:=by
 unfold q6;rw[List.range_succ,List.foldl_append,List.foldl_cons,List.foldl_nil]
theorem jE{lo hi:Int}{n:Nat}{l:List ExV}(hl:l.length=n*n)(hb:gbd lo hi l)(h0:lo≤0∧0≤hi):∀k,k≤n→(q6 n l k).bd lo (hi+n)
 |0,_=>Yy h0.1 (by omega)
 |k+1,h=>by
  rw[QK]
  refine Zn (fun x hx=>?_) (by simp)
  simp only[List.mem_cons,List.not_mem_nil,or_false]at hx
  rcases hx with rfl|rfl
  ·exact jE hl hb h0 k (by omega)
  ·exact ah5 (by omega) (Nat.le_refl _) hl hb h0
set_option maxRecDepth 100000 in
theorem VP(n:Nat)(l:List ExV)(hn:n≤4)(hl:l.length=n*n)(hb:gbd (-390000) 390000 l):Con Tryz.prog 76 false [.ag [.v (.int .i64 (n)),.sl (l).length (ql ExV.cs (l))]] [] (isA (.ag [.v (.bool (q6 n l n).s),.sl (lim (q6 n l n).m).length (qg (lim (q6 n l n).m)),.v (.int .i64 (q6 n l n).e)])):=by
 refine Con.frzA ?_
 have hq:=jU hn
 refine Con.of_aw Tryz.func76 rfl Tryz.ntmps76 (by simp) (by simp) (by simp) (AW.seqLe (E:=[(1,.fp [.v (.int .i64 n),.sl l.length (ql ExV.cs l)] 0),(2,.pt 0 0)]) (H:=[(0,.own 0 [.v (.bool false),.v (.slice none 0 0),.v (.int .i64 0)])]) (W.sound ?_) (W.sound ?_))
 ·show @W Tryz.prog 31 ⟨_⟩ ⟨_⟩ _ _
  simp(disch:=omega)only[go_sem]
  exact(Le.frz 30000000 (z:=0) (ks:=[.v (.int .i64 n),.sl l.length (ql ExV.cs l)]) (by simp(disch:=omega)only[go_sem]) rfl (by simp(disch:=omega)only[go_sem])).trans (Le.lst [(0,40000000)] _ _ rfl (by simp(disch:=omega)only[go_sem]) (by simp(disch:=omega)only[go_sem]))
 show @W Tryz.prog 31 ⟨_⟩ ⟨fun x σ=>@zl _ _ _ ⟨_⟩ _ ⟨_⟩ x σ⟩ _ _
 simp(disch:=omega)only[go_sem]
 refine qj (fun j:Nat=>[(1,.fp [.v (.int .i64 n),.sl l.length (ql ExV.cs l)] 0),(2,.pt 0 0),(3,.pt 1 0),(8,.v (.int .i64 n)),(9,.v (.int .i64 j))])
  (fun j=>[(0,.own 0 [.v (.bool false),.v (.slice none 0 0),.v (.int .i64 0)]),(1,.own 0 [.v (.bool (q6 n l j).s),.sl (lim (q6 n l j).m).length (qg (lim (q6 n l j).m)),.v (.int .i64 (q6 n l j).e)])]) (fun j=>j≤n) (fun j=>n-j) 0 (by omega)
  ((Le.nilC 50000000 1 (zo:=0) (cs:=[.v (.bool false),.v (.slice none 0 0),.v (.int .i64 0)]) (by simp(disch:=omega)only[go_sem]) rfl).trans (Le.lst [(1,50000000)] _ _ rfl (by simp(disch:=omega)only[go_sem]) (by simp(disch:=omega)only[go_sem,List.set_cons_succ,List.set_cons_zero,show q6 n l 0=ex0 from rfl,ex0,qz]))) ?_
 intro j hj
 have hN:=jE hl hb (by omega) j hj
 have hNs:=QK n l j
 generalize hNN:q6 n l j=A at*
 simp(disch:=omega)only[go_sem]
 refine qi (fun h1=>?_) (fun h1=>?_)
 ·simp(disch:=omega)only[go_sem,h1]
  refine qj (fun k:Nat=>[(1,.fp [.v (.int .i64 n),.sl l.length (ql ExV.cs l)] 0),(2,.pt 0 0),(3,.pt 1 0),(4,.v (.int .i64 j)),(5,.pt 2 0),(8,.v (.int .i64 n)),(9,.v (.int .i64 j)),(13,.v (.int .i64 n)),(14,.v (.int .i64 k))])
   (fun k=>[(0,.own 0 [.v (.bool false),.v (.slice none 0 0),.v (.int .i64 0)]),(1,.own 0 [.v (.bool A.s),.sl (lim A.m).length (qg (lim A.m)),.v (.int .i64 A.e)]),(2,.own 0 [.v (.bool (adz n l j k).s),.sl (lim (adz n l j k).m).length (qg (lim (adz n l j k).m)),.v (.int .i64 (adz n l j k).e)])]) (fun k=>k≤n) (fun k=>n-k) 0 (by omega)
   ((Le.nilC 70000000 1 (zo:=0) (cs:=[.v (.bool false),.v (.slice none 0 0),.v (.int .i64 0)]) (by simp(disch:=omega)only[go_sem]) rfl).trans (Le.lst [(2,70000000)] _ _ rfl (by simp(disch:=omega)only[go_sem]) (by simp(disch:=omega)only[go_sem,List.set_cons_succ,List.set_cons_zero,show adz n l j 0=ex0 from rfl,ex0,qz]))) ?_
  intro k hk
  have hC:=ah5 (k:=k) (show j<n by omega) hk hl hb (by omega)
  have hCs:=YS n l j k
  generalize hCC:adz n l j k=D at*
  simp(disch:=omega)only[go_sem]
  refine qi (fun h2=>?_) (fun h2=>?_)
  ·have hx:=zi (show k<n by omega) (show j<n by omega)
   have c1:=aNL n l k j (by omega) (by omega) (by omega) (by omega) (by omega)
   have b1:=jR hb (show k*n+j<l.length by omega)
   generalize l.getD (k*n+j) ex0=x at*
   simp(disch:=omega)only[go_sem,h2]
   refine qv rfl [⟨0,[],[]⟩,⟨1,[0],[]⟩,⟨2,[0,1],[]⟩,⟨3,[0,1],[]⟩,⟨4,[0],[]⟩,⟨5,[0],[]⟩,⟨6,[],[]⟩,⟨7,[],[]⟩] (by kernel_rfl) ?_
   simp(disch:=omega)only[go_sem]
   refine qa (c1) ?_
   simp(disch:=omega)only[go_sem]
   refine qa (aLx x) ?_
   simp(disch:=omega)only[go_sem]
   refine qa (yH D x.abs (hC.mono (by omega) (by omega)) (ExV.abs_bd (b1.mono (by omega) (by omega)))) ?_
   simp(disch:=omega)only[go_sem]
   exact qe (k+1) [] (by show k+1≤_;omega) (by show n-(k+1)<n-k;omega) rfl (by simp(disch:=omega)only[go_sem];try omega) (by simp(disch:=omega)only[go_sem,hCs])
  ·obtain rfl:n=k:=by omega
   rw[hCC]at hNs
   simp(disch:=omega)only[go_sem,h2]
   have hrow:([.v (.bool A.s),.sl (lim A.m).length (qg (lim A.m)),.v (.int .i64 A.e),.v (.bool D.s),.sl (lim D.m).length (qg (lim D.m)),.v (.int .i64 D.e)]:List AV)=ql ExV.cs [A,D]:=rfl
   rw[hrow]
   refine zt false [290000000] (awH [A,D] (by simp) (by simp) (fun x hx=>?_)) (by simp(disch:=omega)only[go_sem]) (by simp(disch:=omega)only[go_sem]) rfl (zp (z:=3) (cs:=ql ExV.cs [A,D]) (by simp(disch:=omega)only[go_sem]) (by simp(disch:=omega)only[go_sem])) (by intro n hn;exact⟨_,List.mem_cons_self ..,by rw[List.mem_singleton.1 hn];rfl⟩) ?_
   ·simp only[List.mem_cons,List.not_mem_nil,or_false]at hx
    rcases hx with rfl|rfl
    ·exact hN.mono (by omega) (by omega)
    ·exact hC.mono (by omega) (by omega)
   rintro r hs bs ⟨rfl,rfl,rfl⟩-
   refine⟨by simp[qL],?_⟩
   simp(disch:=omega)only[go_sem]
   exact qe (j+1) [] (by show j+1≤_;omega) (by show n-(j+1)<n-j;omega) rfl (by simp(disch:=omega)only[go_sem];try omega) (by simp(disch:=omega)only[go_sem,hNs])
 ·simp(disch:=omega)only[go_sem,h1]
  obtain rfl:n=j:=by omega
  rw[hNN]
  exact qu
end Go.Ab
namespace Go.Ab
open Go Go.Proofs
def ExV.can(x:ExV):ExV:=⟨oS x.s x.m,oM x.m,oE x.m x.e⟩
def ExV.fit(x:ExV):Bool:=VM x.m x.e
def SpV.can(s:SpV):SpV:=⟨s.lo.can,s.hi.can⟩
def SpV.fit(s:SpV):Bool:=s.lo.fit&&s.hi.fit
end Go.Ab
namespace Go.Ab
open Go Go.Proofs
def fct:Nat→Nat
 |0=>1
 |n+1=>(n+1)*fct n
theorem acW:∀n,n≤500→bl (fct n)≤9*n+1
 |0,_=>by decide
 |n+1,h=>by
  have h1:=acW n (by omega)
  have h2:=jH (n+1) (fct n)
  have h3:bl (n+1)≤9:=q9.2 (by omega)
  show bl ((n+1)*fct n)≤_
  omega
theorem ahn:∀n,0<fct n
 |0=>by decide
 |n+1=>Nat.mul_pos (by omega) (ahn n)
theorem aLt(n:Nat)(hn:n≤402):Con Tryz.prog 215 false [.v (.int .i64 n)] [] (isA (.sl (lim (fct n)).length (qg (lim (fct n))))):=by
 refine Con.frzA ?_
 refine Con.of_w (rs:=[.tmp 2]) Tryz.func215 rfl Tryz.ntmps215 rfl ?_
 simp(disch:=omega)only[go_sem]
 refine qa (zW 1 (by omega)) ?_
 simp(disch:=omega)only[go_sem]
 by_cases h1:n≤1
 ·have e1:fct n=1:=by
   rcases(by omega:n=0∨n=1)with rfl|rfl<;>rfl
  rw[e1]
  refine qj (fun _:Nat=>[(0,.v (.int .i64 n)),(2,.v (.slice none 0 0)),(3,.sl (lim (1)).length (qg (lim (1)))),(4,.v (.int .i64 2))]) (fun _=>[]) (fun _=>True) (fun _=>0) 0 trivial (Le.lst [] _ _ rfl (by simp(disch:=omega)only[go_sem]) (by simp(disch:=omega)only[go_sem])) ?_
  intro _ _
  simp(disch:=omega)only[go_sem]
  have q:decide ((2:Int)≤(n:Int))=false:=decide_eq_false (by omega)
  simp(disch:=omega)only[go_sem,q]
  exact qu
 ·refine qj (fun k:Nat=>[(0,.v (.int .i64 n)),(2,.v (.slice none 0 0)),(3,.sl (lim (fct k)).length (qg (lim (fct k)))),(4,.v (.int .i64 ((k:Int)+1)))]) (fun _=>[]) (fun k=>1≤k∧k≤n) (fun k=>n-k) 1 (by omega) (Le.lst [] _ _ rfl (by simp(disch:=omega)only[go_sem,show fct 1=1 from rfl,show((1:Nat):Int)+1=2 from rfl];try rfl) (by simp(disch:=omega)only[go_sem])) ?_
  rintro k ⟨hk1,hk⟩
  simp(disch:=omega)only[go_sem]
  refine qi (fun h2=>?_) (fun h2=>?_)
  ·simp(disch:=omega)only[go_sem,h2]
   have e1:(k:Int)+1=((k+1:Nat):Int):=by omega
   have l1:=qE (acW k (by omega))
   have l2:=qE (m:=k+1) (B:=9) (q9.2 (by omega))
   have cs:=zW (k+1) (by omega)
   rw[←e1]at cs
   refine qa (cs) ?_
   simp(disch:=omega)only[go_sem]
   refine qa (XE (fct k) (k+1) (by omega) (by omega)) ?_
   simp(disch:=omega)only[go_sem]
   have e2:fct k*(k+1)=fct (k+1):=Nat.mul_comm _ _
   exact qe (k+1) [] ⟨by omega,by omega⟩ (by show n-(k+1)<n-k;omega) rfl (by simp(disch:=omega)only[go_sem,e2];try omega) (by simp(disch:=omega)only[go_sem])
  ·simp(disch:=omega)only[go_sem,h2]
   obtain rfl:n=k:=by omega
   exact qu
def tmS(W:Nat):Nat→Nat→Nat
 |_,0=>0
 |k,f+1=>if fct (k+1)*2^k<2^W then tmS W (k+1) f else k
def tmF(W:Nat):Nat:=tmS W 1 402
theorem ac9(B:Nat)(hW:B≤400):Con Tryz.prog 143 true [.v (.int .i64 (-(B:Int)))] [] (isA (.v (.int .i64 (tmF B)))):=by
 refine Con.of_w (rs:=[.tmp 2]) Tryz.func143 rfl Tryz.ntmps143 rfl ?_
 simp(disch:=omega)only[go_sem]
 refine qj (fun k:Nat=>[(0,.v (.int .i64 (-(B:Int)))),(2,.v (.int .i64 0)),(3,.v (.int .i64 k))]) (fun _=>[]) (fun k=>1≤k∧k≤401∧tmS B k (403-k)=tmF B) (fun k=>402-k) 1 ⟨by omega,by omega,rfl⟩ (Le.lst [] _ _ rfl (by simp(disch:=omega)only[go_sem]) (by simp(disch:=omega)only[go_sem])) ?_
 rintro k ⟨hk1,hk2,ht⟩
 have e1:(k:Int)+1=((k+1:Nat):Int):=by omega
 have e2:0-(-(B:Int))=(B:Int):=by omega
 have cf:=aLt (k+1) (by omega)
 rw[←e1]at cf
 have b1:=acW (k+1) (by omega)
 have l1:=qE b1
 have b2:=Q7 (fct (k+1)) k
 have l2:=qE (m:=fct (k+1)*2^k) (B:=5000) (by omega)
 have b3:=Q7 1 B
 have b4:bl 1≤1:=q9.2 (by decide)
 have l3:=qE (m:=1*2^B) (B:=500) (by omega)
 have l4:=qE b4
 have cu:=jp 1 B (by omega) (by omega)
 rw[←e2]at cu
 have cc:=jC (fct (k+1)*2^k) (1*2^B) (by omega) (by omega)
 have hstep:tmS B k (403-k)=if fct (k+1)*2^k<2^B then tmS B (k+1) (403-(k+1))else k:=by
  rw[show 403-k=(403-(k+1))+1 by omega];rfl
 have hbig:fct (k+1)*2^k<2^B→k<B:=fun h=>by
  rcases Nat.lt_or_ge k B with h'|h'
  ·exact h'
  ·have g1:2^B≤2^k:=Nat.pow_le_pow_right (by omega) h'
   have g2:1*2^k≤fct (k+1)*2^k:=Nat.mul_le_mul_right _ (ahn _)
   omega
 have hcl:=(YT ((fct (k+1)*2^k:Nat):Int) ((1*2^B:Nat):Int)).2.1
 generalize zH ((fct (k+1)*2^k:Nat):Int) ((1*2^B:Nat):Int)=C at*
 generalize fct (k+1)=FF at*
 simp(disch:=omega)only[go_sem]
 refine qa (cf) ?_
 simp(disch:=omega)only[go_sem]
 refine qa (jp FF k (by omega) (by omega)) ?_
 simp(disch:=omega)only[go_sem]
 refine qa (zW 1 (by omega)) ?_
 simp(disch:=omega)only[go_sem]
 refine qa (cu) ?_
 simp(disch:=omega)only[go_sem]
 refine qn (cc) ?_
 simp(disch:=omega)only[go_sem]
 refine qi (fun h1=>?_) (fun h1=>?_)
 ·simp(disch:=omega)only[go_sem,h1]
  have hlt:FF*2^k<2^B:=by have:=hcl.1 h1;omega
  have:=hbig hlt
  rw[if_pos hlt,ht]at hstep
  exact qe (k+1) [] ⟨by omega,by omega,hstep.symm⟩ (by show 402-(k+1)<402-k;omega) rfl (by simp(disch:=omega)only[go_sem];try omega) (by simp(disch:=omega)only[go_sem])
 ·simp(disch:=omega)only[go_sem,h1]
  have hlt:¬FF*2^k<2^B:=fun h=>h1 (hcl.2 (by omega))
  rw[if_neg hlt,ht]at hstep
  rw[hstep]
  exact qy
end Go.Ab
namespace Go.Ab
open Go Go.Proofs
instance (lo hi:Int)(x:ExV):Decidable (x.bd lo hi):=inferInstanceAs (Decidable ((x.m=0→x.s=false)∧lo≤x.e∧(bl x.m:Int)+x.e≤hi))
instance (lo hi:Int)(x:SpV):Decidable (x.bd lo hi):=inferInstanceAs (Decidable (x.lo.bd lo hi∧x.hi.bd lo hi))
instance (lo hi:Int)(l:List ExV):Decidable (gbd lo hi l):=inferInstanceAs (Decidable (∀x∈l,x.bd lo hi))
instance (lo hi:Int)(l:List SpV):Decidable (sbd lo hi l):=inferInstanceAs (Decidable (∀x∈l,x.bd lo hi))
def hB:List SpV:=(zv 1 [ex0] (ex1.shift 0)).map ptS
def hSt:Nat→List SpV×List SpV
 |0=>((gId 1).map ptS,(gId 1).map ptS)
 |i+1=>(yD (hSt i).1 ((qP 1 (hSt i).2 hB).map fun s=>s.divd (i+1) (-22)),(qP 1 (hSt i).2 hB).map fun s=>s.divd (i+1) (-22))
def bri:List SpV:=(hSt 7).1.map fun s=>s.fat (ex1.shift (-22))
def br2:List SpV:=bri.map fun s=>s.out (-14)
end Go.Ab
namespace Go.Ab
open Go Go.Proofs
section
variable (g:Nat)(p:DyV→Bool)
theorem aoY(x:DyV)(hf:Con Tryz.prog g true [.ag x.cs] [] (isA (.v (.bool (p x)))))(hg:qt Tryz.prog g=True):
  Con Tryz.prog 298 true [.ag x.cs,.fp [.fn g []] 0] [] (isA (.v (.bool (!p x)))):=by
 unfold DyV.cs at hf ⊢
 refine Con.of_w (rs:=[.tmp 3]) Tryz.func298 rfl Tryz.ntmps298 rfl ?_
 simp(disch:=omega)only[go_sem,hg]
 refine qx hf (by simp(disch:=omega)only[go_sem]) ?_
 rintro r hs ⟨rfl,rfl,_⟩
 refine⟨by simp[qL],?_⟩
 simp(disch:=omega)only[go_sem]
 exact qy
theorem ahU(f:Nat)(caps:List AV)(xs:List DyV)(hl:xs.length≤2^40)(hf:∀x∈xs,Con Tryz.prog f true (.ag x.cs::caps) [] (isA (.v (.bool (p x)))))(hg:qt Tryz.prog f=True)
  (hc:∀h:Nat→Ob,caps.map (qK h 6)=caps) (hc5:∀h:Nat→Ob,caps.map (qK h 5)=caps) (hn:∀ks,AllL (jq ks) caps) (hr:∀ρ,zx ρ caps=caps):
  Con Tryz.prog 325 true [.sl xs.length (ql DyV.cs xs),.fn f caps] [] (fun r hs bs=>∃i:Int,r=.v (.int .i64 i)∧hs=[]∧(0≤i↔∃x∈xs,p x=true)):=by
 refine Con.of_aw Tryz.func325 rfl Tryz.ntmps325 (by simp) (by simp) (by simp) (W.sound ?_)
 show @W Tryz.prog 19 ⟨_⟩ ⟨fun x σ=>@zl _ _ _ ⟨_⟩ _ ⟨_⟩ x σ⟩ _ _
 simp(disch:=omega)only[go_sem]
 refine qj (fun i:Nat=>[(0,.sl xs.length (ql DyV.cs xs)),(1,.fn f caps),(6,.sl xs.length (ql DyV.cs xs)),(7,.v (.int .i64 xs.length)),(8,.v (.int .i64 i))])
  (fun _=>[]) (fun i=>i≤xs.length∧∀j,j<i→p (xs.getD j ⟨false,[],0⟩)=false) (fun i=>xs.length-i) 0 ⟨by omega,fun j hj=>by omega⟩ (Le.lst [] _ _ rfl (by simp(disch:=omega)only[go_sem,hr,hn]) (by simp(disch:=omega)only[go_sem])) ?_
 rintro i ⟨hi,hp⟩
 simp(disch:=omega)only[go_sem]
 refine qi (fun h1=>?_) (fun h1=>?_)
 ·have hcut:=Qn (l:=xs) Xz (i:=i) (by omega) ⟨false,[],0⟩
  simp(disch:=omega)only[go_sem,h1,hcut,hg]
  refine⟨by omega,by omega,qx (hf (xs.getD i ⟨false,[],0⟩) (by rw[List.getD_eq_getElem?_getD,List.getElem?_eq_getElem (by omega)];exact List.getElem_mem _)) (by simp(disch:=omega)only[go_sem,hc,hc5]) ?_⟩
  rintro r hs ⟨rfl,rfl,_⟩
  refine⟨by simp[qL],?_⟩
  simp(disch:=omega)only[go_sem]
  refine QS (fun h2=>?_) (fun h2=>?_)
  ·simp(disch:=omega)only[go_sem,h2]
   refine qC (by simp(disch:=omega)only[go_sem]) (by simp(disch:=omega)only[go_sem]) ⟨i,rfl,rfl,?_⟩
   refine⟨fun _=>⟨_,?_,h2⟩,fun _=>by omega⟩
   rw[List.getD_eq_getElem?_getD,List.getElem?_eq_getElem (by omega)];exact List.getElem_mem _
  ·simp(disch:=omega)only[go_sem,h2]
   refine qe (i+1) [] ⟨by omega,fun j hj=>?_⟩ (by show xs.length-(i+1)<xs.length-i;omega) rfl (by simp(disch:=omega)only[go_sem,hr,hn];try omega) (by simp(disch:=omega)only[go_sem])
   rcases(by omega:j<i∨j=i)with h|h
   ·exact hp j h
   ·subst h;exact h2
 ·simp(disch:=omega)only[go_sem,h1]
  refine qC (by simp(disch:=omega)only[go_sem]) (by simp(disch:=omega)only[go_sem]) ⟨-1,rfl,rfl,?_⟩
  refine⟨fun h=>by omega,fun⟨x,hx,hpx⟩=>?_⟩
  obtain⟨j,hj,rfl⟩:=List.getElem_of_mem hx
  have:=hp j (by omega)
  rw[List.getD_eq_getElem?_getD,List.getElem?_eq_getElem hj]at this
  simp only[Option.getD_some]at this
  rw[this]at hpx;cases hpx
theorem Xf(f:Nat)(caps:List AV)(xs:List DyV)(hl:xs.length≤2^40)(hf:∀x∈xs,Con Tryz.prog f true (.ag x.cs::caps) [] (isA (.v (.bool (p x)))))(hg:qt Tryz.prog f=True)
  (hc:∀h:Nat→Ob,caps.map (qK h 6)=caps) (hc5:∀h:Nat→Ob,caps.map (qK h 5)=caps) (hn:∀ks,AllL (jq ks) caps) (hr:∀ρ,zx ρ caps=caps):
  Con Tryz.prog 297 true [.sl xs.length (ql DyV.cs xs),.fn f caps] [] (isA (.v (.bool (xs.any p)))):=by
 refine Con.of_aw Tryz.func297 rfl Tryz.ntmps297 (by simp) (by simp) (by simp) (W.sound ?_)
 show @W Tryz.prog 9 ⟨_⟩ ⟨fun x σ=>@zl _ _ _ ⟨_⟩ _ ⟨_⟩ x σ⟩ _ _
 simp(disch:=omega)only[go_sem]
 refine qx (ahU p f caps xs hl hf hg hc hc5 hn hr) (by simp(disch:=omega)only[go_sem,hc,hc5]) ?_
 rintro r hs ⟨i,rfl,rfl,hi⟩
 refine⟨by simp[qL],?_⟩
 simp(disch:=omega)only[go_sem]
 refine qC (by simp(disch:=omega)only[go_sem]) (by simp(disch:=omega)only[go_sem]) ⟨?_,rfl,rfl⟩
 have:decide (0≤i)=xs.any p:=by rw[Bool.eq_iff_iff,decide_eq_true_eq,hi,List.any_eq_true]
 rw[this];rfl
theorem axd(xs:List DyV)(hl:xs.length≤2^40)(hf:∀x∈xs,Con Tryz.prog g true [.ag x.cs] [] (isA (.v (.bool (p x)))))(hg:qt Tryz.prog g=True):
  Con Tryz.prog 254 true [.sl xs.length (ql DyV.cs xs),.fn g []] [] (isA (.v (.bool (xs.all p)))):=by
 refine Con.of_aw Tryz.func254 rfl Tryz.ntmps254 (by simp) (by simp) (by simp) (W.sound ?_)
 show @W Tryz.prog 9 ⟨_⟩ ⟨fun x σ=>@zl _ _ _ ⟨_⟩ _ ⟨_⟩ x σ⟩ _ _
 simp(disch:=omega)only[go_sem]
 refine qx (Xf (fun x=> !p x) 298 [.fp [.fn g []] 0] xs hl (fun x hx=>aoY g p x (hf x hx) hg) (by simp(disch:=omega)only[go_sem]) (fun h=>rfl) (fun h=>rfl) (fun ks=>by simp(disch:=omega)only[go_sem]) (fun ρ=>rfl)) (by simp(disch:=omega)only[go_sem]) ?_
 rintro r hs ⟨rfl,rfl,_⟩
 refine⟨by simp[qL],?_⟩
 simp(disch:=omega)only[go_sem]
 refine qC (by simp(disch:=omega)only[go_sem]) (by simp(disch:=omega)only[go_sem]) ⟨?_,rfl,rfl⟩
 have:(!xs.any fun x=> !p x)=xs.all p:=by rw[List.all_eq_not_any_not]
 rw[this];rfl
end
def DyV.ok(x:DyV):Bool:=dyB x.s x.xs x.e
theorem aoX(xs:List DyV)(hl:xs.length≤2^40)(hx:∀x∈xs,x.xs.length≤2^40):Con Tryz.prog 190 true [.sl xs.length (ql DyV.cs xs)] [] (isA (.v (.bool (xs.all DyV.ok)))):=by
 refine Con.of_w (rs:=[.tmp 2]) Tryz.func190 rfl Tryz.ntmps190 rfl ?_
 simp(disch:=omega)only[go_sem]
 refine qn (axd 255 DyV.ok xs hl (fun x h=>aLu x.s x.xs x.e (hx x h)) (by simp(disch:=omega)only[go_sem])) ?_
 simp(disch:=omega)only[go_sem]
 exact qy
def adH(n:Int)(l:List DyV):Bool:=(decide (1≤n)&&decide (n≤4))&&(decide ((l.length:Int)=n*n)&&l.all DyV.ok)
theorem adx(n:Int)(l:List DyV)(hl:l.length≤2^40)(hx:∀x∈l,x.xs.length≤2^40):Con Tryz.prog 109 true [.ag [.v (.int .i64 n),.sl l.length (ql DyV.cs l)]] [] (isA (.v (.bool (adH n l)))):=by
 unfold adH
 cases h1:(decide (1≤n)&&decide (n≤4))
 ·rw[Bool.false_and]
  refine Con.of_w (rs:=[.tmp 2]) Tryz.func109 rfl Tryz.ntmps109 rfl ?_
  simp(disch:=omega)only[go_sem]
  refine qn (jz n 1 4) ?_
  simp(disch:=omega)only[go_sem]
  simp(disch:=omega)only[go_sem,h1]
  exact qy
 ·rw[Bool.true_and]
  have h1':1≤n∧n≤4:=by simpa using h1
  have hq:0≤n*n∧n*n≤16:=⟨Int.mul_nonneg (by omega) (by omega),Int.mul_le_mul h1'.2 h1'.2 (by omega) (by omega)⟩
  cases h2:decide ((l.length:Int)=n*n)
  ·rw[Bool.false_and]
   refine Con.of_w (rs:=[.tmp 2]) Tryz.func109 rfl Tryz.ntmps109 rfl ?_
   simp(disch:=omega)only[go_sem]
   refine qn (jz n 1 4) ?_
   simp(disch:=omega)only[go_sem]
   simp(disch:=omega)only[go_sem,h1,h2]
   exact qy
  ·rw[Bool.true_and]
   refine Con.of_w (rs:=[.tmp 2]) Tryz.func109 rfl Tryz.ntmps109 rfl ?_
   simp(disch:=omega)only[go_sem]
   refine qn (jz n 1 4) ?_
   simp(disch:=omega)only[go_sem]
   simp(disch:=omega)only[go_sem,h1,h2]
   refine qn (aoX l hl hx) ?_
   simp(disch:=omega)only[go_sem]
   exact qy
end Go.Ab
namespace Go.Ab
open Go Go.Proofs
def ExV.dy(x:ExV):DyV:=⟨x.s,lim x.m,x.e⟩
theorem aX1(l:List ExV):ql ExV.cs l=ql DyV.cs (l.map ExV.dy):=by unfold ql;rw[List.map_map];rfl
def ExV.ok(x:ExV):Bool:=dyB x.s (lim x.m) x.e
def aWL(n:Int)(l:List ExV):Bool:=(decide (1≤n)&&decide (n≤4))&&(decide ((l.length:Int)=n*n)&&l.all ExV.ok)
theorem avj(n:Int)(l:List ExV):adH n (l.map ExV.dy)=aWL n l:=by
 unfold adH aWL
 rw[List.length_map,List.all_map];rfl
theorem ao0(n:Int)(l:List ExV)(hl:l.length≤2^40)(hx:∀x∈l,(lim x.m).length≤2^40):Con Tryz.prog 109 true [.ag [.v (.int .i64 n),.sl l.length (ql ExV.cs l)]] [] (isA (.v (.bool (aWL n l)))):=by
 have:=adx n (l.map ExV.dy) (by rw[List.length_map];exact hl) (fun x h=>by
  obtain⟨y,hy,rfl⟩:=List.mem_map.1 h
  exact hx y hy)
 rw[avj,←aX1,List.length_map]at this
 exact this
theorem aTj{x:ExV}(h:x.ok=true):x.bd (-3000) 4600:=by
 obtain⟨m,e1,h1,h2,h3,_,h4⟩:=aht h
 have e2:x.m=m:=Vr e1
 subst e2
 exact⟨h4,by omega,by omega⟩
def bqY(F:List SpV)(X:List ExV)(k:Nat):List ExV:=(List.range k).map fun i=>zh [((F.getD i sp0).hi.plus (X.getD i ex0).neg).abs,((X.getD i ex0).plus (F.getD i sp0).lo.neg).abs]
def brv(n:Nat)(F:List SpV)(low:Int):List ExV:=brl n (F.map axY) low 0
def boF(n:Nat)(F:List SpV)(low:Int):ExV:=q6 n (bqY F (brv n F low) (n*n)) n
end Go.Ab
namespace Go.Ab
open Go Go.Proofs
theorem QD(a b:Nat)(la:(lim a).length≤2^40)(lb:(lim b).length≤2^40):
  Con Tryz.prog 248 true [.ag [.sl (lim (a)).length (qg (lim (a)))],.ag [.sl (lim (b)).length (qg (lim (b)))]] [] (isA (.v (.int .i64 (zH a b)))):=by
 refine Con.of_w (rs:=[.tmp 4]) Tryz.func248 rfl Tryz.ntmps248 rfl ?_
 simp(disch:=omega)only[go_sem]
 refine jm (fun h1=>?_) (fun h1=>?_)
 ·simp(disch:=omega)only[go_sem,h1]
  refine qi (fun h2=>?_) (fun h2=>?_)
  ·simp(disch:=omega)only[go_sem,h2]
   have:=Zp (a:=a) (b:=b) (by omega)
   rw[show zH (a:Int) (b:Int)= -1 by unfold zH;rw[if_pos (by omega)]]
   exact qy
  ·simp(disch:=omega)only[go_sem,h2]
   have:=Zp (a:=b) (b:=a) (by omega)
   rw[show zH (a:Int) (b:Int)=1 by unfold zH;rw[if_neg (by omega),if_pos (by omega)]]
   exact qy
 ·simp(disch:=omega)only[go_sem,h1]
  have hl:(lim a).length=(lim b).length:=by omega
  refine qj (fun k:Nat=>[(2,.pt 40000000 0),(3,.pt 50000000 0),(5,.v (.int .i64 ((k:Int)-1)))])
   (fun _=>[(40000000,.own 0 [.sl (lim (a)).length (qg (lim (a)))]),(50000000,.own 0 [.sl (lim (b)).length (qg (lim (b)))])]) (fun k=>k≤(lim a).length∧(lim a).drop k=(lim b).drop k) (fun k=>k) (lim a).length ⟨Nat.le_refl _,by rw[List.drop_length,hl,List.drop_length]⟩ (Le.lst [] _ _ rfl (by simp(disch:=omega)only[go_sem];try omega) (by simp(disch:=omega)only[go_sem])) ?_
  rintro k ⟨hk,hd⟩
  simp(disch:=omega)only[go_sem]
  refine qi (fun h2=>?_) (fun h2=>?_)
  ·obtain⟨i,rfl⟩:∃i,k=i+1:=⟨k-1,by omega⟩
   have ei:((i+1:Nat):Int)-1=(i:Nat):=by omega
   have hva:=zd a
   have hvb:=zd b
   simp(disch:=omega)only[go_sem,h2,ei]
   refine qv rfl [⟨0,[],[]⟩,⟨1,[],[]⟩,⟨2,[1],[]⟩,⟨3,[],[]⟩,⟨4,[],[]⟩,⟨5,[1,4],[]⟩,⟨6,[1,4],[]⟩,⟨7,[1,4,6],[]⟩,⟨8,[1,4],[]⟩,⟨9,[1,4],[]⟩,⟨10,[],[]⟩] (by kernel_rfl) ?_
   simp(disch:=omega)only[go_sem,ei]
   refine⟨by omega,by omega,by omega,by omega,?_⟩
   refine qi (fun h3=>?_) (fun h3=>?_)
   ·simp(disch:=omega)only[go_sem,h3]
    have:=JF (zj a) (zj b) (by omega) hl hd h3
    rw[show zH (a:Int) (b:Int)= -1 by unfold zH;rw[if_pos (by omega)]]
    exact qy
   ·simp(disch:=omega)only[go_sem,h3]
    refine qv rfl [⟨0,[],[]⟩,⟨1,[],[]⟩,⟨2,[1],[]⟩,⟨3,[],[]⟩,⟨4,[],[]⟩,⟨5,[1,4],[]⟩,⟨6,[1,4],[]⟩,⟨7,[1,4,6],[]⟩,⟨8,[1,4],[]⟩,⟨9,[1,4],[]⟩,⟨10,[],[]⟩] (by kernel_rfl) ?_
    simp(disch:=omega)only[go_sem,ei]
    refine⟨by omega,by omega,by omega,by omega,?_⟩
    refine qi (fun h4=>?_) (fun h4=>?_)
    ·simp(disch:=omega)only[go_sem,h4]
     have:=JF (zj b) (zj a) (by omega) hl.symm hd.symm h4
     rw[show zH (a:Int) (b:Int)=1 by unfold zH;rw[if_neg (by omega),if_pos (by omega)]]
     exact qy
    ·simp(disch:=omega)only[go_sem,h4]
     refine qe i [] ⟨by omega,?_⟩ (by show i<i+1;omega) rfl (by simp(disch:=omega)only[go_sem];try omega) (by simp(disch:=omega)only[go_sem])
     have h5:(lim a).getD i 0=(lim b).getD i 0:=by omega
     rw[QA (l:=lim a) (by omega),QA (l:=lim b) (by omega),h5,hd]
  ·simp(disch:=omega)only[go_sem,h2]
   have:k=0:=by omega
   subst this
   rw[List.drop_zero,List.drop_zero]at hd
   have:=Vr hd
   subst this
   rw[show zH (a:Int) (a:Int)=0 by simp[zH]]
   exact qy
theorem awW(cl:Bool)(a b:Nat)(hle:b≤a)(la:(lim a).length≤1000000):Con Tryz.prog 252 cl [.ag [.sl (lim (a)).length (qg (lim (a)))],.ag [.sl (lim (b)).length (qg (lim (b)))]] [] (aJJ (a-b)):=by
 have lB:(lim b).length≤(lim a).length:=yX hle
 have hA:=zj a
 have hB:=zj b
 refine Con.of_aw Tryz.func252 rfl Tryz.ntmps252 (by simp) (by simp) (by simp) (W.sound ?_)
 show @W Tryz.prog 45 ⟨_⟩ ⟨fun x σ=>@zl _ _ _ ⟨_⟩ _ ⟨_⟩ x σ⟩ _ _
 simp(disch:=omega)only[go_sem]
 refine qj (fun x:Nat×List Int×Int=>[(2,.pt 2 0),(3,.pt 3 0),(4,.pt 4 0),(5,.rf 1 0 x.2.1.length),(6,.v (.int .i64 x.2.2)),(7,.v (.int .i64 x.1))])
  (fun x=>[(1,.own 1 (qg x.2.1)),(2,.own 0 [.sl (lim (a)).length (qg (lim (a)))]),(3,.own 0 [.sl (lim (b)).length (qg (lim (b)))]),(4,.own 0 [.v (.slice none 0 0)])])
  (fun x=>x.1≤(lim a).length∧x.2.1.length=x.1∧gd x.2.1∧(0≤x.2.2∧x.2.2≤1)∧vl x.2.1-65536^x.1*x.2.2=vl ((lim a).take x.1)-vl ((lim b).take x.1))
  (fun x=>(lim a).length-x.1) (0,[],0) ⟨by simp,rfl,Ys,by simp,by simp[vl]⟩
  ((Le.ghost 5 1 1 (by simp(disch:=omega)only[go_sem]) (by simp(disch:=omega)only[go_sem])).trans (Le.lst [(2,40000000),(3,50000000),(4,60000000)] _ _ rfl (by simp(disch:=omega)only[go_sem]) (by simp(disch:=omega)only[go_sem]))) ?_
 rintro⟨i,out,bo⟩ ⟨hi,hol,hog,hbo,hov⟩
 dsimp only at hi hol hog hbo hov ⊢
 simp(disch:=omega)only[go_sem]
 refine qi (fun h1=>?_) (fun h1=>?_)
 ·have hx:=qS hA i
  have hy:=qS hB i
  have hstep:∀z b':Int,(lim a).getD i 0-bo-(lim b).getD i 0=z-65536*b'→vl (out++[z])-65536^(i+1)*b'=vl ((lim a).take (i+1))-vl ((lim b).take (i+1)):=by
   intro z b' hz
   rw[j9,za,za,hol,Int.pow_succ]
   generalize (65536:Int)^i=Pi at*
   grind
  have hyz:¬i<(lim b).length→(lim b).getD i 0=0:=fun h=>by rw[List.getD_eq_getElem?_getD,List.getElem?_eq_none (by omega)];rfl
  simp(disch:=omega)only[go_sem,h1]
  refine⟨by omega,by omega,qi (fun h2=>?_) (fun h2=>?_)⟩
  ·simp(disch:=omega)only[go_sem,h2]
   refine⟨by omega,by omega,qi (fun h3=>?_) (fun h3=>?_)⟩
   ·simp(disch:=omega)only[go_sem,h3]
    refine⟨by omega,qe (i+1,out++[(lim a).getD i 0-bo-(lim b).getD i 0+65536],1) [(1,440000000)] ⟨by show i+1≤_;omega,by simp[hol],qT.2 ⟨hog,jo.2 (by omega)⟩,by simp,hstep ((lim a).getD i 0-bo-(lim b).getD i 0+65536) 1 (by omega)⟩ (by show(lim a).length-(i+1)<(lim a).length-i;omega) rfl (by simp(disch:=omega)only[go_sem,List.length_append];try omega) (by simp(disch:=omega)only[go_sem])⟩
   ·simp(disch:=omega)only[go_sem,h3]
    refine⟨by omega,qe (i+1,out++[(lim a).getD i 0-bo-(lim b).getD i 0],0) [(1,440000000)] ⟨by show i+1≤_;omega,by simp[hol],qT.2 ⟨hog,jo.2 (by omega)⟩,by simp,hstep ((lim a).getD i 0-bo-(lim b).getD i 0) 0 (by omega)⟩ (by show(lim a).length-(i+1)<(lim a).length-i;omega) rfl (by simp(disch:=omega)only[go_sem,List.length_append];try omega) (by simp(disch:=omega)only[go_sem])⟩
  ·simp(disch:=omega)only[go_sem,h2]
   refine qi (fun h3=>?_) (fun h3=>?_)
   ·simp(disch:=omega)only[go_sem,h3]
    have hy0:=hyz (by omega)
    refine⟨by omega,qe (i+1,out++[(lim a).getD i 0-bo+65536],1) [(1,440000000)] ⟨by show i+1≤_;omega,by simp[hol],qT.2 ⟨hog,jo.2 (by omega)⟩,by simp,hstep ((lim a).getD i 0-bo+65536) 1 (by omega)⟩ (by show(lim a).length-(i+1)<(lim a).length-i;omega) rfl (by simp(disch:=omega)only[go_sem,List.length_append];try omega) (by simp(disch:=omega)only[go_sem])⟩
   ·simp(disch:=omega)only[go_sem,h3]
    have hy0:=hyz (by omega)
    refine⟨by omega,qe (i+1,out++[(lim a).getD i 0-bo],0) [(1,440000000)] ⟨by show i+1≤_;omega,by simp[hol],qT.2 ⟨hog,jo.2 (by omega)⟩,by simp,hstep ((lim a).getD i 0-bo) 0 (by omega)⟩ (by show(lim a).length-(i+1)<(lim a).length-i;omega) rfl (by simp(disch:=omega)only[go_sem,List.length_append];try omega) (by simp(disch:=omega)only[go_sem])⟩
 ·simp(disch:=omega)only[go_sem,h1]
  have hiA:i=(lim a).length:=by omega
  subst hiA
  rw[List.take_length,List.take_of_length_le lB]at hov
  have hva:=zd a
  have hvb:=zd b
  have hb0:bo=0:=by
   have h2:=Jt hog
   rw[hol]at h2
   rcases(by omega:bo=0∨bo=1)with h|h
   ·exact h
   ·subst h;omega
  subst hb0
  have hov2:vl out=((a-b:Nat):Int):=by omega
  refine qx (j7 true out (a-b) (by omega) hog hov2) (by simp(disch:=omega)only[go_sem]) ?_
  rintro r hs (⟨h0,rfl,rfl⟩|⟨zs,rfl,rfl⟩)
  ·refine⟨⟨by simp,by simp(disch:=omega)only[go_sem]⟩,?_⟩
   simp(disch:=omega)only[go_sem]
   refine qm [] [] [] [.ag [.v (.slice none 0 0)]] rfl (by simp(disch:=omega)only[go_sem]) (by simp(disch:=omega)only[go_sem]) (by simp) (by intro _;simp[zw,AV.pu,AV.pu.puL,Ob.pu,q8]) (.inl ⟨h0,rfl,rfl⟩)
  ·refine⟨⟨by simp,by simp(disch:=omega)only[go_sem]⟩,?_⟩
   simp(disch:=omega)only[go_sem]
   refine qm [(0,460000000)] [.own 1 (qg (lim (a-b)++zs))] [] [.ag [.rf 0 0 (lim (a-b)).length]] rfl (by simp(disch:=omega)only[go_sem]) (by simp(disch:=omega)only[go_sem]) (by simp) (by intro _;simp[zw,AV.pu,AV.pu.puL,Ob.pu,q8]) (.inr ⟨zs,rfl,rfl⟩)
end Go.Ab
namespace Go.Ab
open Go Go.Proofs
theorem QO(a b:Nat)(hle:b≤a)(la:(lim a).length≤1000000):Con Tryz.prog 252 false [.ag [.sl (lim (a)).length (qg (lim (a)))],.ag [.sl (lim (b)).length (qg (lim (b)))]] [] (isA (.ag [.sl (lim (a-b)).length (qg (lim (a-b)))])):=(awW false a b hle la).natF
theorem awU(s1:Bool)(m1:Nat)(s2:Bool)(m2:Nat)(h1:bl m1≤6000000)(h2:bl m2≤6000000):
  Con Tryz.prog 186 false [.ag [.v (.bool (s1)),.sl (lim (m1)).length (qg (lim (m1)))],.ag [.v (.bool (s2)),.sl (lim (m2)).length (qg (lim (m2)))]] [] (isA (.ag [.v (.bool (suS s1 m1 s2 m2)),.sl (lim (suM s1 m1 s2 m2)).length (qg (lim (suM s1 m1 s2 m2)))])):=by
 refine Con.frzA ?_
 have l1:=qE h1
 have l2:=qE h2
 have hge:(0≤zH (m1:Int) (m2:Int))↔m2≤m1:=by rw[ah6.2.2];omega
 have hb:=ajs (s1:=s1) (s2:=s2) h1 h2
 have l3:=qE hb
 rw[←aus]
 refine Con.of_w (rs:=[.cell 4 42]) Tryz.func186 rfl Tryz.ntmps186 rfl ?_
 simp(disch:=omega)only[go_sem]
 refine QS (fun c1=>?_) (fun c1=>?_)
 ·have c1':s1=s2:=by simpa using c1
  simp(disch:=omega)only[go_sem,c1]
  subst c1'
  rw[aiB,aiu]at*
  refine qv rfl [⟨0,[],[]⟩,⟨1,[],[]⟩,⟨2,[1],[]⟩,⟨3,[1],[]⟩,⟨4,[1,3],[]⟩,⟨5,[1,3],[]⟩,⟨6,[1],[]⟩,⟨7,[],[]⟩,⟨8,[],[]⟩] (by kernel_rfl) ?_
  simp(disch:=omega)only[go_sem]
  refine qa (yK m1 m2 (by omega) (by omega)) ?_
  simp(disch:=omega)only[go_sem]
  refine qa (qV s1 (m1+m2) (by omega)) ?_
  simp(disch:=omega)only[go_sem]
  exact qu
 ·have c1':s1≠s2:=by simpa using c1
  simp(disch:=omega)only[go_sem,c1]
  refine qn (QD m1 m2 (by omega) (by omega)) ?_
  simp(disch:=omega)only[go_sem]
  refine qi (fun c2=>?_) (fun c2=>?_)
  ·have c2':m2≤m1:=hge.1 (by omega)
   rw[aM6 c1' c2',aMZ c1' c2']at*
   simp(disch:=omega)only[go_sem,c2]
   refine qv rfl [⟨0,[],[]⟩,⟨1,[],[]⟩,⟨2,[1],[]⟩,⟨3,[1],[]⟩,⟨4,[1,3],[]⟩,⟨5,[1,3],[]⟩,⟨6,[1],[]⟩,⟨7,[],[]⟩,⟨8,[],[]⟩] (by kernel_rfl) ?_
   simp(disch:=omega)only[go_sem]
   refine qa (QO m1 m2 c2' (by omega)) ?_
   simp(disch:=omega)only[go_sem]
   refine qa (qV s1 (m1-m2) (by omega)) ?_
   simp(disch:=omega)only[go_sem]
   exact qu
  ·have c2':¬m2≤m1:=fun h=>c2 (by have:=hge.2 h;omega)
   rw[aM5 c1' c2',aMY c1' c2']at*
   simp(disch:=omega)only[go_sem,c2]
   refine qv rfl [⟨0,[],[]⟩,⟨1,[],[]⟩,⟨2,[1],[]⟩,⟨3,[1],[]⟩,⟨4,[1,3],[]⟩,⟨5,[1,3],[]⟩,⟨6,[1],[]⟩,⟨7,[],[]⟩,⟨8,[],[]⟩] (by kernel_rfl) ?_
   simp(disch:=omega)only[go_sem]
   refine qa (QO m2 m1 (by omega) (by omega)) ?_
   simp(disch:=omega)only[go_sem]
   refine qa (qV s2 (m2-m1) (by omega)) ?_
   simp(disch:=omega)only[go_sem]
   exact qu
theorem awR(s:Bool)(m:Nat)(hl:(lim m).length≤2^39):Con Tryz.prog 185 false [.ag [.v (.bool (s)),.sl (lim (m)).length (qg (lim (m)))]] [] (isA (.ag [.v (.bool ((!s)&&decide (m≠0))),.sl (lim (m)).length (qg (lim (m)))])):=by
 refine Con.frzA ?_
 refine Con.of_w (rs:=[.cell 2 42]) Tryz.func185 rfl Tryz.ntmps185 rfl ?_
 simp(disch:=omega)only[go_sem]
 refine qa (qV (!s) m hl) ?_
 simp(disch:=omega)only[go_sem]
 exact qu
theorem awO(s:Bool)(m:Nat)(e:Int)(hl:(lim m).length≤2^39):Con Tryz.prog 103 false [.ag [.v (.bool (s)),.sl (lim (m)).length (qg (lim (m))),.v (.int .i64 (e))]] [] (isA (.ag [.v (.bool ((!s)&&decide (m≠0))),.sl (lim (m)).length (qg (lim (m))),.v (.int .i64 (e))])):=by
 refine Con.frzA ?_
 refine Con.of_w (rs:=[.cell 2 44]) Tryz.func103 rfl Tryz.ntmps103 rfl ?_
 simp(disch:=omega)only[go_sem]
 refine qv rfl [⟨0,[],[]⟩,⟨1,[],[]⟩,⟨3,[1],[]⟩,⟨4,[1],[]⟩,⟨2,[4],[]⟩,⟨5,[],[]⟩,⟨6,[],[]⟩] (by kernel_rfl) ?_
 simp(disch:=omega)only[go_sem]
 refine qa (awR s m hl) ?_
 simp(disch:=omega)only[go_sem]
 exact qu
def alF(m1:Nat)(e1:Int)(m2:Nat)(e2:Int):Int:=if m1=0 then e2 else if m2=0 then e1 else if e1≤e2 then e1 else e2
theorem bfi(m1:Nat)(e1:Int)(m2:Nat)(e2:Int)(h:¬(m1=0∧m2=0)):alF m1 e1 m2 e2=alE m1 e1 m2 e2:=by
 unfold alF alE
 repeat' split
 all_goals omega
theorem YI(s1:Bool)(m1:Nat)(e1:Int)(s2:Bool)(m2:Nat)(e2:Int)(h1:bl m1≤4000000)(h2:bl m2≤4000000)(he1: -1000000≤e1∧e1≤1000000)(he2: -1000000≤e2∧e2≤1000000)(z1:m1=0→s1=false)(z2:m2=0→s2=false):
  Con Tryz.prog 175 false [.ag [.v (.bool (s1)),.sl (lim (m1)).length (qg (lim (m1))),.v (.int .i64 (e1))],.ag [.v (.bool (s2)),.sl (lim (m2)).length (qg (lim (m2))),.v (.int .i64 (e2))]] [] (isA (.tu [.ag [.v (.bool (s1)),.sl (lim (alA m1 e1 (alE m1 e1 m2 e2))).length (qg (lim (alA m1 e1 (alE m1 e1 m2 e2))))],.ag [.v (.bool (s2)),.sl (lim (alA m2 e2 (alE m1 e1 m2 e2))).length (qg (lim (alA m2 e2 (alE m1 e1 m2 e2))))],.v (.int .i64 (alF m1 e1 m2 e2))])):=by
 refine Con.frzA ?_
 have l1:=qE h1
 have l2:=qE h2
 refine Con.of_aw Tryz.func175 rfl Tryz.ntmps175 (by simp) (by simp) (by simp) (W.sound ?_)
 show @W Tryz.prog 70 ⟨_⟩ ⟨fun x σ=>@zl _ _ _ ⟨_⟩ _ ⟨_⟩ x σ⟩ _ _
 simp(disch:=omega)only[go_sem]
 refine qi (fun c1=>?_) (fun c1=>?_)
 ·have y1:m1=0:=qM.1 (List.length_eq_zero_iff.1 (by omega))
  have eF:alF m1 e1 m2 e2=e2:=by unfold alF;rw[if_pos y1]
  have a1:alA m1 e1 (alE m1 e1 m2 e2)=m1:=by rw[y1];unfold alA;rw[Nat.zero_mul]
  have a2:alA m2 e2 (alE m1 e1 m2 e2)=m2:=by
   by_cases y2:m2=0
   ·rw[y2];unfold alA;rw[Nat.zero_mul]
   ·unfold alA alE;rw[if_neg y2,if_pos y1,Int.sub_self];simp
  simp(disch:=omega)only[go_sem,c1]
  refine qv rfl [⟨0,[],[]⟩,⟨1,[],[]⟩,⟨2,[1],[]⟩,⟨3,[1],[]⟩,⟨4,[1,3],[]⟩,⟨5,[1,3],[]⟩,⟨6,[3,5],[]⟩,⟨7,[5],[]⟩,⟨8,[],[]⟩] (by kernel_rfl) ?_
  simp(disch:=omega)only[go_sem]
  refine q7 (by simp(disch:=omega)only[go_sem]) ?_
  show qK _ 6 _=_
  rw[eF,a1,a2]
  simp(disch:=omega)only[go_sem]
 ·have y1:m1≠0:=fun e=>c1 (by rw[e,qz];rfl)
  simp(disch:=omega)only[go_sem,c1]
  refine qi (fun c2=>?_) (fun c2=>?_)
  ·have y2:m2=0:=qM.1 (List.length_eq_zero_iff.1 (by omega))
   have eF:alF m1 e1 m2 e2=e1:=by unfold alF;rw[if_neg y1,if_pos y2]
   have a1:alA m1 e1 (alE m1 e1 m2 e2)=m1:=by unfold alA alE;rw[if_pos y2,Int.sub_self];simp
   have a2:alA m2 e2 (alE m1 e1 m2 e2)=m2:=by rw[y2];unfold alA;rw[Nat.zero_mul]
   simp(disch:=omega)only[go_sem,c2]
   refine qv rfl [⟨0,[],[]⟩,⟨1,[],[]⟩,⟨2,[1],[]⟩,⟨3,[1],[]⟩,⟨4,[1,3],[]⟩,⟨5,[1,3],[]⟩,⟨6,[3,5],[]⟩,⟨7,[5],[]⟩,⟨8,[],[]⟩] (by kernel_rfl) ?_
   simp(disch:=omega)only[go_sem]
   refine q7 (by simp(disch:=omega)only[go_sem]) ?_
   show qK _ 6 _=_
   rw[eF,a1,a2]
   simp(disch:=omega)only[go_sem]
  ·have y2:m2≠0:=fun e=>c2 (by rw[e,qz];rfl)
   simp(disch:=omega)only[go_sem,c2]
   refine qi (fun c3=>?_) (fun c3=>?_)
   ·have eF:alF m1 e1 m2 e2=e1:=by unfold alF;rw[if_neg y1,if_neg y2,if_pos c3]
    have eE:alE m1 e1 m2 e2=e1:=by unfold alE;rw[if_neg y2,if_neg y1,if_neg (by omega)]
    have a1:alA m1 e1 (alE m1 e1 m2 e2)=m1:=by rw[eE];unfold alA;rw[Int.sub_self];simp
    have ek:e2-e1=(((e2-e1).toNat:Nat):Int):=by omega
    have hb:bl (m2*2^(e2-e1).toNat)≤6000000:=by have:=Q7 m2 (e2-e1).toNat;omega
    have l3:=qE hb
    have hn:m2*2^(e2-e1).toNat≠0:=Nat.mul_ne_zero y2 (Nat.pos_iff_ne_zero.1 (Nat.pow_pos (by omega)))
    have hd:decide (m2*2^(e2-e1).toNat≠0)=true:=decide_eq_true hn
    simp(disch:=omega)only[go_sem,c3]
    refine qv rfl [⟨0,[],[]⟩,⟨1,[],[]⟩,⟨2,[1],[]⟩,⟨3,[1],[]⟩,⟨4,[1],[]⟩,⟨5,[1,4],[]⟩,⟨6,[1,4],[]⟩,⟨7,[1,4],[]⟩,⟨8,[1,4,7],[]⟩,⟨9,[1,4,7],[]⟩,⟨10,[1,4,7,9],[]⟩,⟨11,[1,4,7,9],[]⟩,⟨12,[1,4,7],[]⟩,⟨15,[1,4,7,9,11],[]⟩,⟨16,[1,4,7,9,11],[]⟩,⟨13,[1,4,16],[]⟩,⟨14,[1,16],[]⟩,⟨17,[16],[]⟩,⟨18,[16],[]⟩,⟨19,[],[]⟩] (by kernel_rfl) ?_
    simp(disch:=omega)only[go_sem]
    refine qF (j6 m2 (e2-e1).toNat (by omega) (by omega)) (by simp(disch:=omega)only[go_sem,←ek]) ?_
    rintro r hs ⟨rfl,rfl,_⟩
    refine⟨by simp[qL],?_⟩
    simp(disch:=omega)only[go_sem]
    refine qa (qV s2 (m2*2^(e2-e1).toNat) (by omega)) ?_
    simp(disch:=omega)only[go_sem]
    refine q7 (by simp(disch:=omega)only[go_sem]) ?_
    show qK _ 6 _=_
    rw[eF,a1,eE,hd];unfold alA
    simp(disch:=omega)only[go_sem,Bool.and_true]
   ·have eF:alF m1 e1 m2 e2=e2:=by unfold alF;rw[if_neg y1,if_neg y2,if_neg c3]
    have eE:alE m1 e1 m2 e2=e2:=by unfold alE;rw[if_neg y2,if_neg y1,if_pos (by omega)]
    have a2:alA m2 e2 (alE m1 e1 m2 e2)=m2:=by rw[eE];unfold alA;rw[Int.sub_self];simp
    have ek:e1-e2=(((e1-e2).toNat:Nat):Int):=by omega
    have hb:bl (m1*2^(e1-e2).toNat)≤6000000:=by have:=Q7 m1 (e1-e2).toNat;omega
    have l3:=qE hb
    have hn:m1*2^(e1-e2).toNat≠0:=Nat.mul_ne_zero y1 (Nat.pos_iff_ne_zero.1 (Nat.pow_pos (by omega)))
    have hd:decide (m1*2^(e1-e2).toNat≠0)=true:=decide_eq_true hn
    simp(disch:=omega)only[go_sem,c3]
    refine qv rfl [⟨0,[],[]⟩,⟨1,[],[]⟩,⟨2,[],[]⟩,⟨3,[2],[]⟩,⟨4,[2],[]⟩,⟨5,[2],[]⟩,⟨6,[2,5],[]⟩,⟨7,[2,5],[]⟩,⟨8,[2,5,7],[]⟩,⟨9,[2,5,7],[]⟩,⟨10,[2,5],[]⟩,⟨13,[2,5,7,9],[]⟩,⟨14,[2,5,7,9],[]⟩,⟨15,[2,5,7,9,14],[]⟩,⟨16,[2,5,7,9,14],[]⟩,⟨11,[2,14,16],[]⟩,⟨12,[14,16],[]⟩,⟨17,[14,16],[]⟩,⟨18,[16],[]⟩,⟨19,[],[]⟩] (by kernel_rfl) ?_
    simp(disch:=omega)only[go_sem]
    refine qF (j6 m1 (e1-e2).toNat (by omega) (by omega)) (by simp(disch:=omega)only[go_sem,←ek]) ?_
    rintro r hs ⟨rfl,rfl,_⟩
    refine⟨by simp[qL],?_⟩
    simp(disch:=omega)only[go_sem]
    refine qa (qV s1 (m1*2^(e1-e2).toNat) (by omega)) ?_
    simp(disch:=omega)only[go_sem]
    refine q7 (by simp(disch:=omega)only[go_sem]) ?_
    show qK _ 6 _=_
    rw[eF,a2,eE,hd];unfold alA
    simp(disch:=omega)only[go_sem,Bool.and_true]
theorem awQ(s1:Bool)(m1:Nat)(e1:Int)(s2:Bool)(m2:Nat)(e2:Int)(h1:bl m1≤4000000)(h2:bl m2≤4000000)(he1: -1000000≤e1∧e1≤1000000)(he2: -1000000≤e2∧e2≤1000000)(z1:m1=0→s1=false)(z2:m2=0→s2=false):
  Con Tryz.prog 104 false [.ag [.v (.bool (s1)),.sl (lim (m1)).length (qg (lim (m1))),.v (.int .i64 (e1))],.ag [.v (.bool (s2)),.sl (lim (m2)).length (qg (lim (m2))),.v (.int .i64 (e2))]] [] (isA (.ag [.v (.bool (oS (adS s1 m1 e1 s2 m2 e2) (adM s1 m1 e1 s2 m2 e2))),.sl (lim (oM (adM s1 m1 e1 s2 m2 e2))).length (qg (lim (oM (adM s1 m1 e1 s2 m2 e2)))),.v (.int .i64 (oE (adM s1 m1 e1 s2 m2 e2) (alE m1 e1 m2 e2)))])):=by
 refine Con.frzA ?_
 have hE:=ZE (m1:=m1) (m2:=m2) he1.1 he2.1
 have b1:=Jr (e:=e1) (E:=alE m1 e1 m2 e2) (C:=2000000) h1 (by omega)
 have b2:=Jr (e:=e2) (E:=alE m1 e1 m2 e2) (C:=2000000) h2 (by omega)
 have hF: -1000000≤alF m1 e1 m2 e2∧alF m1 e1 m2 e2≤1000000:=by
  unfold alF
  repeat' split
  all_goals omega
 have hX:oE (adM s1 m1 e1 s2 m2 e2) (alE m1 e1 m2 e2)=oE (adM s1 m1 e1 s2 m2 e2) (alF m1 e1 m2 e2):=by
  by_cases h:m1=0∧m2=0
  ·have:adM s1 m1 e1 s2 m2 e2=0:=by rw[h.1,h.2];unfold adM alA;rw[Nat.zero_mul,Nat.zero_mul];unfold suM;rw[Qi,Qi];rfl
   rw[this];rfl
  ·rw[bfi _ _ _ _ h]
 rw[hX]
 have l1:=qE h1
 have l2:=qE h2
 refine Con.of_w (rs:=[.cell 4 44]) Tryz.func104 rfl Tryz.ntmps104 rfl ?_
 simp(disch:=omega)only[go_sem]
 refine qa (YI s1 m1 e1 s2 m2 e2 h1 h2 he1 he2 z1 z2) ?_
 simp(disch:=omega)only[go_sem]
 unfold adS adM
 generalize alA m1 e1 (alE m1 e1 m2 e2)=A at*
 generalize alA m2 e2 (alE m1 e1 m2 e2)=B at*
 generalize alF m1 e1 m2 e2=E at*
 refine qa (awU s1 A s2 B (by omega) (by omega)) ?_
 simp(disch:=omega)only[go_sem]
 have hb:=ajs (s1:=s1) (s2:=s2) b1 b2
 refine qa (jA (suS s1 A s2 B) (suM s1 A s2 B) E (by omega) (by omega)) ?_
 simp(disch:=omega)only[go_sem]
 exact qu
end Go.Ab
namespace Go.Ab
open Go Go.Proofs
theorem ac3(s:Bool)(m:Nat)(e:Int):dyB (oS s m) (lim (oM m)) (oE m e)=VM m e:=by
 unfold dyB Qg VM QZ
 rw[zd,Int.toNat_natCast]
 have hod:=aNl m
 have hz:=bq1 s m
 by_cases h:(lim (oM m)).length≤100
 ·rw[aTS _ h,decide_eq_true h,Bool.true_and,Bool.true_and]
  by_cases h0:oM m=0
  ·have hm:m=0:=yz.1 h0
   rw[hz h0,h0,hm]
   simp[oE,qz]
  ·have h1:oM m % 2=1:=hod.resolve_right h0
   have h2:decide ((lim (oM m)).length=0)=false:=by
    have:=Qt h0
    exact decide_eq_false (by omega)
   rw[h2,decide_eq_true h1]
   simp
 ·rw[decide_eq_false h]
  have:Xu (lim (oM m))=false:=by unfold Xu;rw[decide_eq_false h,Bool.false_and]
  rw[this];simp
def pmS(s1:Bool)(m1:Nat)(s2:Bool)(m2:Nat):Bool:=(s1 != s2)&&decide (m1*m2≠0)
end Go.Ab
namespace Go.Ab
open Go Go.Proofs
theorem awT(s1:Bool)(m1:Nat)(s2:Bool)(m2:Nat)(l1:(lim m1).length≤2^40)(l2:(lim m2).length≤2^40)(z1:m1=0→s1=false)(z2:m2=0→s2=false):
  Con Tryz.prog 176 true [.ag [.v (.bool (s1)),.sl (lim (m1)).length (qg (lim (m1)))],.ag [.v (.bool (s2)),.sl (lim (m2)).length (qg (lim (m2)))]] [] (isA (.v (.int .i64 (zH (sv s1 m1) (sv s2 m2))))):=by
 rw[adA z1 z2]
 cases s1<;>cases s2
 ·refine Con.of_w (rs:=[.tmp 4]) Tryz.func176 rfl Tryz.ntmps176 rfl ?_
  simp(disch:=omega)only[go_sem]
  refine qn (QD m1 m2 l1 l2) ?_
  simp(disch:=omega)only[go_sem]
  exact qy
 ·refine Con.of_w (rs:=[.tmp 4]) Tryz.func176 rfl Tryz.ntmps176 rfl ?_
  simp(disch:=omega)only[go_sem]
  exact qy
 ·refine Con.of_w (rs:=[.tmp 4]) Tryz.func176 rfl Tryz.ntmps176 rfl ?_
  simp(disch:=omega)only[go_sem]
  exact qy
 ·refine Con.of_w (rs:=[.tmp 4]) Tryz.func176 rfl Tryz.ntmps176 rfl ?_
  simp(disch:=omega)only[go_sem]
  refine qn (QD m2 m1 l2 l1) ?_
  simp(disch:=omega)only[go_sem]
  exact qy
theorem adi(K:Nat)(s1:Bool)(m1:Nat)(e1:Int)(s2:Bool)(m2:Nat)(e2:Int)(h1:bl m1≤4000000)(h2:bl m2≤4000000)(he1: -1000000≤e1∧e1≤1000000)(he2: -1000000≤e2∧e2≤1000000)(k1: -(K:Int)≤e1)(k2: -(K:Int)≤e2)(z1:m1=0→s1=false)(z2:m2=0→s2=false):
  Con Tryz.prog 92 true [.ag [.v (.bool (s1)),.sl (lim (m1)).length (qg (lim (m1))),.v (.int .i64 (e1))],.ag [.v (.bool (s2)),.sl (lim (m2)).length (qg (lim (m2))),.v (.int .i64 (e2))]] [] (isA (.v (.int .i64 (zH (dv K s1 m1 e1) (dv K s2 m2 e2))))):=by
 have hE:=ZE (m1:=m1) (m2:=m2) he1.1 he2.1
 have b1:=qE (Jr (e:=e1) (E:=alE m1 e1 m2 e2) (C:=2000000) h1 (by omega))
 have b2:=qE (Jr (e:=e2) (E:=alE m1 e1 m2 e2) (C:=2000000) h2 (by omega))
 rw[←ajp k1 k2]
 have y1:alA m1 e1 (alE m1 e1 m2 e2)=0→s1=false:=fun h=>z1 (ZF.1 h)
 have y2:alA m2 e2 (alE m1 e1 m2 e2)=0→s2=false:=fun h=>z2 (ZF.1 h)
 refine Con.of_w (rs:=[.tmp 4]) Tryz.func92 rfl Tryz.ntmps92 rfl ?_
 simp(disch:=omega)only[go_sem]
 refine qa (YI s1 m1 e1 s2 m2 e2 h1 h2 he1 he2 z1 z2) ?_
 simp(disch:=omega)only[go_sem]
 refine qn (awT s1 (alA m1 e1 (alE m1 e1 m2 e2)) s2 (alA m2 e2 (alE m1 e1 m2 e2)) (by omega) (by omega) y1 y2) ?_
 simp(disch:=omega)only[go_sem]
 exact qy
end Go.Ab
namespace Go.Ab
open Go Go.Proofs
end Go.Ab
namespace Go.Ab
theorem aVF{K:Nat}{s:Bool}{m:Nat}{e:Int}{s':Bool}{m':Nat}{e':Int}(he: -(K:Int)≤e)(he': -(K:Int)≤e')(h:dv K s m e=dv K s' m' e'):oS s m=oS s' m'∧oM m=oM m'∧oE m e=oE m' e':=by
 by_cases h0:m=0
 ·have h0':m'=0:=by rw[h0,Z3]at h;exact aoq.1 h.symm
  rw[h0,h0'];exact⟨rfl,rfl,rfl⟩
 ·obtain⟨rfl,hM,hE,h0'⟩:=beA h0 he he' h
  refine⟨?_,hM,hE⟩
  unfold oS;rw[if_neg h0,if_neg h0']
end Go.Ab
namespace Go.Ab
open Go Go.Proofs
def ExV.val(K:Nat)(x:ExV):Int:=dv K x.s x.m x.e
theorem yl{x:ExV}(h:x.ok=true):(-3000≤x.e∧x.e≤3000)∧bl x.m≤1600∧(lim x.m).length≤100∧(x.m=0→x.s=false∧x.e=0)∧(x.m % 2=1∨x.m=0):=by
 obtain⟨m,e1,h1,h2,h3,h4,h5⟩:=aht h
 obtain rfl:=Vr e1
 exact⟨h3,h2,h1,fun h0=>⟨h5 h0,by omega⟩,by omega⟩
theorem aiS{x:ExV}(h:x.ok=true):x.can=x:=by
 obtain⟨h1,h2,h3,h4,h5⟩:=yl h
 show(⟨oS x.s x.m,oM x.m,oE x.m x.e⟩:ExV)=x
 obtain⟨s,m,e⟩:=x
 dsimp only at*
 rcases h5 with o|h0
 ·have h0:m≠0:=by omega
  have ht:=aip o
  have g1:oS s m=s:=by unfold oS;rw[if_neg h0]
  have g2:oM m=m:=by have:=@Jh m;rw[ht]at this;simpa using this
  have g3:oE m e=e:=by unfold oE;rw[if_neg h0,ht];simp
  rw[g1,g2,g3]
 ·obtain⟨rfl,rfl⟩:=h4 h0
  rw[h0,jv];rfl
theorem aNM{x:ExV}(h:x.fit=true):x.can.ok=true:=by
 show dyB (oS x.s x.m) (lim (oM x.m)) (oE x.m x.e)=true
 rw[ac3];exact h
theorem ac0:ex0.ok=true:=by show dyB false (lim 0) 0=true;rw[qz];decide
theorem z7{K:Nat}{x:ExV}(h: -(K:Int)≤x.e):x.can.val K=x.val K:=by
 show dv K (oS x.s x.m) (oM x.m) (oE x.m x.e)=_
 rw[aVE h,bnQ];rfl
theorem zB{K:Nat}{x y:ExV}(h1: -(K:Int)≤x.e)(h2: -(K:Int)≤y.e):(x.plus y).val K=x.val K+y.val K:=bol h1 h2
theorem yu{K K':Nat}{x y:ExV}(h1: -(K:Int)≤x.e)(h2: -(K':Int)≤y.e):(x.times y).val (K+K')=x.val K*y.val K':=by
 show dv (K+K') ((x.s != y.s)&&decide (x.m*y.m≠0)) (x.m*y.m) (x.e+y.e)=_
 rw[XA];exact bez h1 h2
theorem Vj{K:Nat}{x:ExV}:x.neg.val K= -x.val K:=by
 show dv K ((!x.s)&&decide (x.m≠0)) x.m x.e= -dv K x.s x.m x.e
 rw[XA];unfold dv;rw[aXD,Int.neg_mul]
theorem aWv{K:Nat}{x:ExV}:x.abs.val K=(x.val K).natAbs:=by
 show dv K false x.m x.e=((dv K x.s x.m x.e).natAbs:Int)
 unfold dv sv
 rw[Int.natAbs_mul]
 have hp:0≤(2:Int)^(x.e+(K:Int)).toNat:=Int.le_of_lt (Int.pow_pos (by omega))
 have e:(((2:Int)^(x.e+(K:Int)).toNat).natAbs:Int)=2^(x.e+(K:Int)).toNat:=by omega
 rw[Int.natCast_mul,e]
 cases x.s<;>simp
theorem ain{K j:Nat}{x:ExV}(h: -(K:Int)≤x.e):x.val (K+j)=x.val K*2^j:=by
 unfold ExV.val dv
 have:(x.e+((K+j:Nat):Int)).toNat=(x.e+(K:Int)).toNat+j:=by omega
 rw[this,Int.pow_add,Int.mul_assoc]
theorem yf{K:Int}{x y:ExV}(h1:K≤x.e)(h2:K≤y.e):K≤(x.plus y).e:=ZE h1 h2
theorem aVQ{K:Int}{x:ExV}(h: -K≤x.e)(h0:0≤K): -K≤x.can.e:=blY h h0
def ExV.tel(x:ExV):ExV:=if x.fit=true then x.can else ex0
def flD(F:FlV):ExV:=⟨oS (xS F.k F.s) F.m.toNat,oM F.m.toNat,oE F.m.toNat F.e⟩
end Go.Ab
namespace Go.Ab
open Go Go.Proofs
section
variable (g:Nat)(p:IvV→Bool)
end
end Go.Ab
namespace Go.Ab
open Go Go.Proofs
/-! ### Intervals that were drawn,and those that are valid-/
def DyV.ex(d:DyV):ExV:=⟨d.s,(vl d.xs).toNat,d.e⟩
def ExV.dyv(x:ExV):DyV:=⟨x.s,lim x.m,x.e⟩
theorem ahq(x:ExV):x.dyv.ex=x:=by unfold ExV.dyv DyV.ex;rw[zd,Int.toNat_natCast]
theorem aoo{d:DyV}(h:d.ok=true):d=d.ex.dyv∧d.ex.ok=true:=by
 obtain⟨s,xs,e⟩:=d
 obtain⟨m,hm, -⟩:=aht (show dyB s xs e=true from h)
 subst hm
 have e1:(DyV.mk s (lim m) e).ex=⟨s,m,e⟩:=ahq ⟨s,m,e⟩
 rw[e1]
 exact⟨rfl,h⟩
def ivB(v:IvV):Bool:=v.lo.ok&&(v.hi.ok&&decide (v.lo.ex.val 3000≤v.hi.ex.val 3000))
def IvV.sp(v:IvV):SpV:=⟨v.lo.ex,v.hi.ex⟩
def SpV.iv(s:SpV):IvV:=⟨s.lo.dyv,s.hi.dyv⟩
def SpV.ok(s:SpV):Bool:=s.lo.ok&&(s.hi.ok&&decide (s.lo.val 3000≤s.hi.val 3000))
theorem aNw(s:SpV):ivB s.iv=s.ok:=by
 unfold ivB SpV.ok SpV.iv
 rw[ahq,ahq];rfl
theorem aZy{v:IvV}(h:ivB v=true):∃s:SpV,v=s.iv∧s.ok=true:=by
 have h':=h
 simp only[ivB,Bool.and_eq_true]at h'
 obtain⟨lo,hi⟩:=v
 have e:(⟨lo,hi⟩:IvV)=(IvV.sp ⟨lo,hi⟩).iv:=by
  show _=IvV.mk lo.ex.dyv hi.ex.dyv
  rw[←(aoo h'.1).1,←(aoo h'.2.1).1]
 exact⟨_,e,by rw[←aNw,←e];exact h⟩
theorem aIF{s:SpV}(h:s.ok=true):s.lo.ok=true∧s.hi.ok=true∧s.lo.val 3000≤s.hi.val 3000:=by
 simpa [SpV.ok]using h
theorem aR7{s:SpV}(h:s.ok=true):s.bd (-3000) 4600:=⟨aTj (aIF h).1,aTj (aIF h).2.1⟩
theorem yi{K:Nat}{x y:ExV}(h1: -(K:Int)≤x.e)(h2: -(K:Int)≤y.e):x.cmp y=zH (x.val K) (y.val K):=by
 unfold ExV.cmp
 exact ajp h1 h2
def aWN(v:IvV):Prop:=v.lo.xs.length≤1000∧v.hi.xs.length≤1000
theorem aT2{s:SpV}(h:s.ok=true):aWN s.iv:=by
 have h1:=yl (aIF h).1
 have h2:=yl (aIF h).2.1
 exact⟨by show(lim s.lo.m).length≤1000;omega,by show(lim s.hi.m).length≤1000;omega⟩
def avi(s t:SpV):SpV:=⟨zh [s.lo,t.lo],zq [s.hi,t.hi]⟩
def brh(s t:SpV):SpV:=⟨zq [s.lo,t.lo],zh [s.hi,t.hi]⟩
theorem aNj{x:ExV}(h:x.ok=true):x.fit=true:=by
 show VM x.m x.e=true
 rw[←ac3 x.s x.m x.e]
 exact(show x.can.ok=true by rw[aiS h];exact h)
def SpV.tel(s:SpV):SpV:=if s.fit=true then s.can else sp0
def brd(s t:SpV):SpV:=if(avi s t).lo.val 3000≤(avi s t).hi.val 3000 then avi s t else sp0
theorem out_bd{s:SpV}{lo hi low:Int}(hs:s.bd lo hi)(h1:lo≤low)(h2:low≤hi):(s.out low).bd lo (hi+1):=⟨ExV.rnd_bd hs.1 h1 h2,ExV.rnd_bd hs.2 h1 h2⟩
def bqM(s:SpV)(x:ExV):Bool:=decide (s.lo.val 3000≤x.val 3000)&&decide (x.val 3000≤s.hi.val 3000)
end Go.Ab
namespace Go.Ab
open Go Go.Proofs
/-! ### Matrices that were drawn,and those that are valid-/
structure matV(n:Nat)(L:List ExV):Prop where
 n1:1≤n
 n4:n≤4
 len:L.length=n*n
 ok:∀x∈L,x.ok=true
theorem aZp{k:Int}{M:List DyV}(h:adH k M=true):∃(n:Nat) (L:List ExV),k=n∧M=L.map ExV.dyv∧matV n L:=by
 simp only[adH,Bool.and_eq_true,decide_eq_true_eq,List.all_eq_true]at h
 obtain⟨⟨h1,h2⟩,h3,h4⟩:=h
 obtain⟨n,rfl⟩:=Int.eq_ofNat_of_zero_le (show 0≤k by omega)
 have hm:M=(M.map DyV.ex).map ExV.dyv:=by
  rw[List.map_map]
  conv=>lhs;rw[←List.map_id M]
  exact List.map_congr_left fun d hd=>(aoo (h4 d hd)).1
 refine⟨n,M.map DyV.ex,rfl,hm,by omega,by omega,?_,fun x hx=>?_⟩
 ·rw[List.length_map];exact_mod_cast h3
 ·obtain⟨d,hd,rfl⟩:=List.mem_map.1 hx
  exact(aoo (h4 d hd)).2
theorem aiH(L:List ExV):ql DyV.cs (L.map ExV.dyv)=ql ExV.cs L:=by unfold ql;rw[List.map_map];rfl
theorem matV.bd{n:Nat}{L:List ExV}(h:matV n L):gbd (-3000) 4600 L:=fun x hx=>aTj (h.ok x hx)
theorem matV.l16{n:Nat}{L:List ExV}(h:matV n L):L.length≤16:=by rw[h.len];exact jU h.n4
theorem aoZ(n:Nat)(L:List ExV)(h:matV n L):Con Tryz.prog 109 true [.ag [.v (.int .i64 (n)),.sl (L).length (ql ExV.cs (L))]] [] (isA (.v (.bool true))):=by
 have c:=ao0 n L (by have:=h.l16;omega) (fun x hx=>by have:=(yl (h.ok x hx)).2.2.1;omega)
 rw[show aWL n L=true by
  unfold aWL
  simp only[Bool.and_eq_true,decide_eq_true_eq,List.all_eq_true]
  exact⟨⟨by have:=h.n1;omega,by have:=h.n4;omega⟩,by rw[h.len,Int.natCast_mul],h.ok⟩]at c
 exact c
def gN(n:Nat)(l:List ExV):Nat:=if l.all ExV.fit=true then n else 0
def gT(l:List ExV):List ExV:=if l.all ExV.fit=true then l.map ExV.can else []
def bsf(k:Int)(M:List DyV)(k':Int)(M':List DyV):Bool:=adH k M&&(adH k' M'&&decide (k=k'))
end Go.Ab
namespace Go.Ab
/-! ### Sums and greatest ones of whole numbers-/
def qD(f:Nat→Int):Nat→Int
 |0=>0
 |k+1=>qD f k+f k
def QR(f:Nat→Int):Nat→Int
 |0=>0
 |k+1=>if QR f k<f k then f k else QR f k
theorem qO{f g:Nat→Int}:∀{k:Nat},(∀i,i<k→f i=g i)→qD f k=qD g k
 |0,_=>rfl
 |k+1,h=>by rw[qD,qD,qO fun i hi=>h i (by omega),h k (by omega)]
theorem JI{f g:Nat→Int}:∀{k:Nat},(∀i,i<k→f i≤g i)→qD f k≤qD g k
 |0,_=>Int.le_refl _
 |k+1,h=>by
  have h1:=JI (f:=f) (g:=g) (k:=k) fun i hi=>h i (by omega)
  have h2:=h k (by omega)
  rw[qD,qD];omega
theorem J4(f g:Nat→Int):∀k:Nat,qD (fun i=>f i+g i) k=qD f k+qD g k
 |0=>rfl
 |k+1=>by rw[qD,qD,qD,J4 f g k];omega
theorem ZM(f:Nat→Int)(c:Int):∀k:Nat,qD (fun i=>f i*c) k=qD f k*c
 |0=>by simp[qD]
 |k+1=>by rw[qD,qD,ZM f c k,Int.add_mul]
theorem jr(f:Nat→Int)(c:Int):∀k:Nat,qD (fun i=>c*f i) k=c*qD f k
 |0=>by simp[qD]
 |k+1=>by rw[qD,qD,jr f c k,Int.mul_add]
theorem QI:∀k:Nat,qD (fun _=>0) k=0
 |0=>rfl
 |k+1=>by rw[qD,QI k];rfl
theorem ZN(g:Nat→Nat→Int)(m:Nat):∀k:Nat,qD (fun i=>qD (fun t=>g i t) m) k=qD (fun t=>qD (fun i=>g i t) k) m
 |0=>(QI m).symm
 |k+1=>by
  rw[qD,ZN g m k,←J4]
  exact qO fun t _=>rfl
theorem aca{f:Nat→Int}{k:Nat}(h:∀i,i<k→0≤f i):0≤qD f k:=by
 have:=JI (f:=fun _=>0) (g:=f) h
 rwa[QI]at this
theorem acb(f:Nat→Int):∀k:Nat,((qD f k).natAbs:Int)≤qD (fun i=>((f i).natAbs:Int)) k
 |0=>Int.le_refl _
 |k+1=>by
  have:=acb f k
  rw[qD,qD];omega
theorem jL{f:Nat→Int}{j:Nat}:∀{k:Nat},j<k→(∀i,i<k→i≠j→f i=0)→qD f k=f j
 |0,h,_=>by omega
 |k+1,h,h2=>by
  rw[qD]
  by_cases hj:j=k
  ·subst hj
   have:qD f j=qD (fun _=>0) j:=qO fun i hi=>h2 i (by omega) (by omega)
   rw[this,QI];omega
  ·rw[jL (by omega) (fun i hi=>h2 i (by omega)),h2 k (by omega) (by omega)];omega
theorem jO(f:Nat→Int):∀k:Nat,0≤QR f k
 |0=>Int.le_refl _
 |k+1=>by have:=jO f k;rw[QR];split<;>omega
theorem aiX(f:Nat→Int){j:Nat}:∀{k:Nat},j<k→f j≤QR f k
 |0,h=>by omega
 |k+1,h=>by
  rw[QR]
  by_cases hj:j=k
  ·subst hj;split<;>omega
  ·have:=aiX f (j:=j) (k:=k) (by omega)
   split<;>omega
theorem Vn{f:Nat→Int}{c:Int}(hc:0≤c):∀{k:Nat},(∀j,j<k→f j≤c)→QR f k≤c
 |0,_=>hc
 |k+1,h=>by
  have h1:=Vn hc (k:=k) fun j hj=>h j (by omega)
  have h2:=h k (by omega)
  rw[QR];split<;>omega
theorem Yl{f g:Nat→Int}:∀{k:Nat},(∀i,i<k→f i=g i)→QR f k=QR g k
 |0,_=>rfl
 |k+1,h=>by rw[QR,QR,Yl fun i hi=>h i (by omega),h k (by omega)]
def nrm(A:Nat→Nat→Int)(n:Nat):Int:=QR (fun j=>qD (fun i=>((A i j).natAbs:Int)) n) n
theorem Vh(A:Nat→Nat→Int){n j:Nat}(hj:j<n):qD (fun i=>((A i j).natAbs:Int)) n≤nrm A n:=aiX (fun j=>qD (fun i=>((A i j).natAbs:Int)) n) hj
theorem ZT(A:Nat→Nat→Int)(n:Nat):0≤nrm A n:=jO _ _
theorem auX{A B:Nat→Nat→Int}{n:Nat}(h:∀i j,i<n→j<n→A i j=B i j):nrm A n=nrm B n:=
 Yl fun j hj=>qO fun i hi=>by rw[h i j hi hj]
theorem aTu{A B C:Nat→Nat→Int}{n:Nat}(h:∀i j,i<n→j<n→C i j=qD (fun t=>A i t*B t j) n):nrm C n≤nrm A n*nrm B n:=by
 have h1:=ZT A n
 have h2:=ZT B n
 refine Vn (Int.mul_nonneg h1 h2) fun j hj=>?_
 have h4:=Vh B hj
 have h5:qD (fun i=>((C i j).natAbs:Int)) n≤qD (fun i=>qD (fun t=>((A i t).natAbs:Int)*((B t j).natAbs:Int)) n) n:=JI fun i hi=>by
  rw[h i j hi hj]
  refine Int.le_trans (acb _ n) (Int.le_of_eq (qO fun t _=>?_))
  rw[Int.natAbs_mul,Int.natCast_mul]
 rw[ZN]at h5
 have h6:qD (fun t=>qD (fun i=>((A i t).natAbs:Int)*((B t j).natAbs:Int)) n) n≤qD (fun t=>nrm A n*((B t j).natAbs:Int)) n:=JI fun t ht=>by
  rw[ZM]
  exact Int.mul_le_mul_of_nonneg_right (Vh A ht) (by omega)
 rw[jr]at h6
 have h7:nrm A n*qD (fun t=>((B t j).natAbs:Int)) n≤nrm A n*nrm B n:=Int.mul_le_mul_of_nonneg_left h4 h1
 omega
end Go.Ab
namespace Go.Ab
open Go Go.Proofs
/-! ### What matrices tell-/
def mv(K:Nat)(L:List ExV)(n i j:Nat):Int:=(L.getD (i*n+j) ex0).val K
def eK(K:Nat)(L:List ExV):Prop:=∀x∈L, -(K:Int)≤x.e
theorem Yz{K:Nat}{L:List ExV}{i:Nat}(h:eK K L)(hi:i<L.length): -(K:Int)≤(L.getD i ex0).e:=by
 rw[List.getD_eq_getElem?_getD,List.getElem?_eq_getElem hi]
 exact h _ (List.getElem_mem hi)
theorem matV.eK{n:Nat}{L:List ExV}(h:matV n L){K:Nat}(hK:3000≤K):eK K L:=fun x hx=>by have:=(yl (h.ok x hx)).1;omega
theorem Z2(K:Nat):ex0.val K=0:=Z3
theorem ajn{K n:Nat}{L:List ExV}{j:Nat}(hK:eK K L)(hl:L.length=n*n)(hj:j<n):∀k,k≤n→(adz n L j k).val K=qD (fun i=>((mv K L n i j).natAbs:Int)) k∧ -(K:Int)≤(adz n L j k).e
 |0,_=>⟨Z2 K,by show-(K:Int)≤0;omega⟩
 |k+1,hk=>by
  obtain⟨h1,h2⟩:=ajn hK hl hj k (by omega)
  have h3:=Yz hK (i:=k*n+j) (by rw[hl];exact zi (by omega) hj)
  rw[YS]
  refine⟨?_,yf h2 h3⟩
  rw[zB (y:=ExV.abs _) h2 h3,h1,aWv];rfl
theorem Qp{K n:Nat}{L:List ExV}(hK:eK K L)(hl:L.length=n*n):∀k,k≤n→(q6 n L k).val K=QR (fun j=>qD (fun i=>((mv K L n i j).natAbs:Int)) n) k∧ -(K:Int)≤(q6 n L k).e
 |0,_=>⟨Z2 K,by show-(K:Int)≤0;omega⟩
 |k+1,hk=>by
  obtain⟨h1,h2⟩:=Qp hK hl k (by omega)
  obtain⟨h3,h4⟩:=ajn hK hl (show k<n by omega) n (Nat.le_refl n)
  rw[QK]
  show(zb (q6 n L k) (adz n L k n)).val K=_∧_≤(zb (q6 n L k) (adz n L k n)).e
  unfold zb
  rw[yi h4 h2,h3,h1,QR]
  by_cases h:QR (fun j=>qD (fun i=>((mv K L n i j).natAbs:Int)) n) k<qD (fun i=>((mv K L n i k).natAbs:Int)) n
  ·rw[if_pos h,if_pos (by unfold zH;rw[if_neg (by omega),if_pos h];omega)]
   exact⟨h3,h4⟩
  ·rw[if_neg h,if_neg (by unfold zH;split<;>(try split)<;>omega)]
   exact⟨h1,h2⟩
theorem acA{n i j:Nat}(hj:j<n):(i*n+j)/n=i∧(i*n+j) % n=j:=by
 constructor
 ·rw[Nat.mul_comm,Nat.mul_add_div (by omega),Nat.div_eq_of_lt hj,Nat.add_zero]
 ·rw[Nat.mul_comm,Nat.mul_add_mod,Nat.mod_eq_of_lt hj]
theorem aUk{n:Nat}{g:Nat→Nat→ExV}{i j:Nat}(hi:i<n)(hj:j<n):(gl n g (n*n)).getD (i*n+j) ex0=g i j:=by
 rw[aZL (zi hi hj),(acA hj).1,(acA hj).2]
end Go.Ab
namespace Go.Ab
open Go Go.Proofs
def br9(l:List UInt8)(i h:Int):Ob:=.own 0 [.sl l.length (qN l),.v (.int .i64 i),.v (.int .i64 h)]
def br8(l:List UInt8)(Q:AV→Prop):AV→List Ob→List Ob→Prop:=fun r hs bs=>hs=[]∧Q r∧∃i h:Int,(0≤i∧i≤l.length)∧bs=[.own 0 [.sl l.length (qN l),.v (.int .i64 i),.v (.int .i64 h)]]
section
variable {P:Program}{N f c:Nat}{aa0 args:List AV}{hp:Nat→Ob}{K:KV}{Q:AV→Prop}{e:Nat→AV}{l:List UInt8}{i h:Int}
end
def bsa(l:List UInt8)(xs:List Int)(Q:AV→Prop):AV→List Ob→List Ob→Prop:=fun r hs bs=>hs=[]∧Q r∧∃i h:Int,(0≤i∧i≤l.length)∧bs=[.own 0 [.sl l.length (qN l),.v (.int .i64 i),.v (.int .i64 h)],.own 1 (qg xs)]
section
variable {P:Program}{N f c:Nat}{aa0 args:List AV}{hp:Nat→Ob}{K:KV}{Q:AV→Prop}{e:Nat→AV}{l:List UInt8}{i h:Int}
end
section
variable (l:List UInt8)(hl:l.length≤9223372036854775807)(i h:Int)(hi:0≤i∧i≤l.length)
include hl hi
end
end Go.Ab
namespace Go.Ab
open Go Go.Proofs
section
variable (l:List UInt8)(hl:l.length≤9223372036854775807)(i h:Int)(hi:0≤i∧i≤l.length)
include hl hi
end
end Go.Ab
namespace Go.Ab
open Go Go.Proofs
end Go.Ab
namespace Go.Ab
open Go Go.Proofs
end Go.Ab
namespace Go.Ab
open Go Go.Proofs
def awV(s:Bool)(m e:Int):FlV:=if m<9007199254740991 then⟨1,s,m+1,e⟩else if e<971 then⟨1,s,4503599627370496,e+1⟩else⟨2,s,0,0⟩
def toV(k:Int)(s:Bool)(m e:Int):FlV:=if k=2 then⟨1,s,9007199254740991,971⟩else if 4503599627370496<m∨(e= -1074∧1<m)then⟨k,s,m-1,e⟩else if-1074<e then⟨k,s,9007199254740991,e-1⟩else⟨0,s,0,0⟩
def nxV(k:Int)(s:Bool)(m e:Int):FlV:=if k=3∨(k=2∧s=false)then⟨k,s,m,e⟩else if k=0 then⟨1,false,1, -1074⟩else if s=true then toV k s m e else awV s m e
def ulE(k e:Int):Int:=if k=0 then-1074 else e
end Go.Ab
namespace Go.Ab
structure Adj(k:Int)(s:Bool)(m e:Int)(n:FlV)(t:Bool)(a:Nat)(E:Int):Prop where
 ha:a<2^53
 hf:2^52≤a∨E= -1074
 hE: -1074≤E∧E≤971
 ho:¬(a+1=2^53∧E=971)
 hu:E≤ulE k e
 lo:dv 1074 (xS k s) m.toNat e=dv 1074 t (if t=true then a+1 else a) E
 hi:dv 1074 (xS n.k n.s) n.m.toNat n.e=dv 1074 t (if t=true then a else a+1) E
theorem brP:ngS 1 false=true:=rfl
theorem brN:ngS 1 true=false:=rfl
theorem brO:ngS 2 false=true:=rfl
end Go.Ab
namespace Go.Ab
open Go Go.Proofs
def bqO(ok:Bool):AV→List Ob→List Ob→Prop:=fun r hs bs=>hs=[]∧bs=[]∧∃(S:Bool) (M:Nat) (E:Int) (b:Bool),dyB S (lim M) E=true∧(ok=false→b=false)∧r=.tu [.ag [.v (.bool (S)),.sl (lim (M)).length (qg (lim (M))),.v (.int .i64 (E))],.v (.bool b)]
end Go.Ab
namespace Go.Ab
def ivM(s:Bool)(m:Nat)(e mode:Int):Nat:=roM s m e 0 mode*2^(roE m e 0).toNat
end Go.Ab
namespace Go.Ab
open Go Go.Proofs
end Go.Ab
namespace Go.Ab
open Go Go.Proofs
end Go.Ab
namespace Go.Ab
open Go Go.Proofs
def brY(k m:Int):Nat:=if k=1 then oM m.toNat else 0
def brZ(k m e:Int):Int:=if k=1 then oE m.toNat e else 0
def brX(k:Int)(s:Bool)(m:Int):Bool:=if k=1 then oS (s&&decide (m.toNat≠0)) m.toNat else false
end Go.Ab
namespace Go.Ab
open Go Go.Proofs
def bqN:AV→List Ob→List Ob→Prop:=fun r hs bs=>hs=[]∧bs=[]∧∃x:FlV,r=.ag x.cs
section
variable (l:List UInt8)(hl:l.length≤9223372036854775807)(i h:Int)(hi:0≤i∧i≤l.length)
include hl hi
end
end Go.Ab
namespace Go.Ab
open Go Go.Proofs
section
variable (l:List UInt8)(hl:l.length≤9223372036854775807)(i h:Int)(hi:0≤i∧i≤l.length)
include hl hi
end
end Go.Ab
namespace Go.Ab
open Go
end Go.Ab
namespace Go.Ab
open Go Go.Proofs
end Go.Ab
namespace Go.Ab
open Go Go.Proofs
end Go.Ab
namespace Go.Ab
open Go Go.Proofs
section
variable (l:List UInt8)(hl:l.length≤9223372036854775807)(i h:Int)(hi:0≤i∧i≤l.length)
include hl hi
end
end Go.Ab
namespace Go.Ab
open Go Go.Proofs
end Go.Ab
namespace Go.Ab
open Go Go.Proofs
end Go.Ab
namespace Go.Ab
open Go Go.Proofs
end Go.Ab
namespace Go.Ab
open Go Go.Proofs
end Go.Ab
namespace Go.Ab
open Go Go.Proofs
end Go.Ab
namespace Go.Ab
open Go Go.Proofs
def brL(r:AV)(hs:List Ob)(xs:List Int):Prop:=(xs=[]∧r=.ag [.v (.slice none 0 0)]∧hs=[])∨∃zs,r=.ag [.rf 0 0 xs.length]∧hs=[.own 1 (qg (xs++zs))]
section
variable (l:List UInt8)(hl:l.length≤9223372036854775807)(i h:Int)(hi:0≤i∧i≤l.length)
include hl hi
omit hi hl in
omit hi hl in
omit hi hl in
omit hi hl in
omit hi hl in
end
theorem yJ(x y:ExV)(hx:x.bd (-400000) 400000)(hy:y.bd (-400000) 400000):Con Tryz.prog 104 false [.ag [.v (.bool (x).s),.sl (lim (x).m).length (qg (lim (x).m)),.v (.int .i64 (x).e)],.ag [.v (.bool (y).s),.sl (lim (y).m).length (qg (lim (y).m)),.v (.int .i64 (y).e)]] [] (isA (.ag [.v (.bool ((x.plus y).can).s),.sl (lim ((x.plus y).can).m).length (qg (lim ((x.plus y).can).m)),.v (.int .i64 ((x.plus y).can).e)])):=by
 obtain⟨z1,a1,a2⟩:=hx
 obtain⟨z2,b1,b2⟩:=hy
 exact awQ x.s x.m x.e y.s y.m y.e (by omega) (by omega) (by omega) (by omega) z1 z2
end Go.Ab
namespace Go.Ab
open Go Go.Proofs
theorem adg(n:Nat)(hn:n≤4):Con Tryz.prog 96 false [.v (.int .i64 n)] [] (fun r hs bs=>r=.ag [.v (.int .i64 n),.rf 0 0 (n*n)]∧hs=[.own 3 (zG (n*n) z3)]):=by
 have hq:=jU hn
 have hz:((n:Int)*n).toNat=n*n:=by rw[←Int.natCast_mul];rfl
 have hz2:(n:Int)*n=((n*n:Nat):Int):=(Int.natCast_mul n n).symm
 refine Con.of_aw Tryz.func96 rfl Tryz.ntmps96 (by simp) (by simp) (by simp) (W.sound ?_)
 show @W Tryz.prog 9 ⟨_⟩ ⟨fun x σ=>@zl _ _ _ ⟨_⟩ _ ⟨_⟩ x σ⟩ _ _
 simp(disch:=omega)only[go_sem]
 rw[hz]
 refine⟨by rw[hz2];omega,qm [(0,90000000)] [.own 3 (zG (n*n) z3)] [] [.ag [.v (.int .i64 n),.rf 0 0 (n*n)]] rfl (by simp(disch:=omega)only[go_sem]) (by simp(disch:=omega)only[go_sem,apl,apn];rfl) (by simp) (by simp) ⟨rfl,rfl⟩⟩
section
variable (l:List UInt8)(hl:l.length≤9223372036854775807)(i h:Int)(hi:0≤i∧i≤l.length)
include hl hi
def brS(r:AV):Prop:=∃(n:Int) (l:List DyV),l.length≤16∧(∀d∈l,d.xs.length≤200)∧r=.ag [.v (.int .i64 n),.sl l.length (ql DyV.cs l)]
omit hl hi in
omit hl hi in
def brA(n:Nat)(r:AV)(hs:List Ob):Prop:=∃(k:Int) (M:List DyV) (o m:Nat),M.length=o+m∧o≤1∧M.length=n*n∧(∀d∈M,d.xs.length≤200)∧r=.ag [.v (.int .i64 k),.rf 0 (o*3) m]∧hs=[.own 3 (ql DyV.cs M)]
end
end Go.Ab
namespace Go.Ab
open Go Go.Proofs
/-! ### Minors and determinants-/
def mnC(n:Nat)(l:List ExV)(r c i:Nat):Nat→List ExV
 |0=>[]
 |j+1=>if i≠r∧j≠c then mnC n l r c i j++[l.getD (i*n+j) ex0]else mnC n l r c i j
def mnR(n:Nat)(l:List ExV)(r c:Nat):Nat→List ExV
 |0=>[]
 |i+1=>mnR n l r c i++mnC n l r c i n
def ExV.sgn(x:ExV)(k:Nat):ExV:=if k % 2=1 then x.neg else x
def boH:Nat→List ExV→ExV
 |0,_=>ex1
 |n+1,l=>(List.range (n+1)).foldl (fun s j=>s.plus (((l.getD (0*(n+1)+j) ex0).times (boH n (mnR (n+1) l 0 j (n+1)))).sgn j)) ex0
end Go.Ab
namespace Go.Ab
open Go Go.Proofs
theorem aoK(x y:ExV)(hx:x.ok=true)(hy:y.ok=true):Con Tryz.prog 92 true [.ag [.v (.bool (x).s),.sl (lim (x).m).length (qg (lim (x).m)),.v (.int .i64 (x).e)],.ag [.v (.bool (y).s),.sl (lim (y).m).length (qg (lim (y).m)),.v (.int .i64 (y).e)]] [] (isA (.v (.int .i64 (zH (x.val 3000) (y.val 3000))))):=by
 obtain⟨a1,a2,a3,a4,a5⟩:=yl hx
 obtain⟨b1,b2,b3,b4,b5⟩:=yl hy
 exact adi 3000 x.s x.m x.e y.s y.m y.e (by omega) (by omega) (by omega) (by omega) (by omega) (by omega) (fun h=>(a4 h).1) (fun h=>(b4 h).1)
theorem axe(v:IvV)(h:aWN v):Con Tryz.prog 206 true [.ag [.v (.bool (v).lo.s),.sl (v).lo.xs.length (qg (v).lo.xs),.v (.int .i64 (v).lo.e),.v (.bool (v).hi.s),.sl (v).hi.xs.length (qg (v).hi.xs),.v (.int .i64 (v).hi.e)]] [] (isA (.v (.bool (ivB v)))):=by
 unfold ivB
 have k1:=ZB v.lo.s v.lo.xs v.lo.e (by have:=h.1;omega)
 have k2:=ZB v.hi.s v.hi.xs v.hi.e (by have:=h.2;omega)
 rw[show dyB v.lo.s v.lo.xs v.lo.e=v.lo.ok from rfl]at k1
 rw[show dyB v.hi.s v.hi.xs v.hi.e=v.hi.ok from rfl]at k2
 cases h1:v.lo.ok
 ·rw[h1]at k1
  refine Con.of_aw Tryz.func206 rfl Tryz.ntmps206 (by simp) (by simp) (by simp) (W.sound ?_)
  show @W Tryz.prog 19 ⟨_⟩ ⟨fun x σ=>@zl _ _ _ ⟨_⟩ _ ⟨_⟩ x σ⟩ _ _
  simp(disch:=omega)only[go_sem]
  refine qn (k1) ?_
  simp(disch:=omega)only[go_sem]
  exact qy
 cases h2:v.hi.ok
 ·rw[h1]at k1
  rw[h2]at k2
  refine Con.of_aw Tryz.func206 rfl Tryz.ntmps206 (by simp) (by simp) (by simp) (W.sound ?_)
  show @W Tryz.prog 19 ⟨_⟩ ⟨fun x σ=>@zl _ _ _ ⟨_⟩ _ ⟨_⟩ x σ⟩ _ _
  simp(disch:=omega)only[go_sem]
  refine qn (k1) ?_
  simp(disch:=omega)only[go_sem]
  refine qn (k2) ?_
  simp(disch:=omega)only[go_sem]
  exact qy
 ·rw[h1]at k1
  rw[h2]at k2
  obtain⟨lo,hi⟩:=v
  dsimp only at h1 h2 k1 k2 ⊢
  obtain⟨e1,o1⟩:=aoo h1
  obtain⟨e2,o2⟩:=aoo h2
  generalize lo.ex=x at*
  generalize hi.ex=y at*
  subst e1 e2
  unfold ExV.dyv at*
  refine Con.of_aw Tryz.func206 rfl Tryz.ntmps206 (by simp) (by simp) (by simp) (W.sound ?_)
  show @W Tryz.prog 19 ⟨_⟩ ⟨fun x σ=>@zl _ _ _ ⟨_⟩ _ ⟨_⟩ x σ⟩ _ _
  simp(disch:=omega)only[go_sem]
  refine qn (k1) ?_
  simp(disch:=omega)only[go_sem]
  refine qn (k2) ?_
  simp(disch:=omega)only[go_sem]
  refine qn (aoK x y o1 o2) ?_
  simp(disch:=omega)only[go_sem]
  refine qC (by simp(disch:=omega)only[go_sem]) (by simp(disch:=omega)only[go_sem]) ⟨?_,rfl,rfl⟩
  show AV.v (.bool _)=AV.v (.bool (true&&(true&&decide (ExV.val 3000 x≤ExV.val 3000 y))))
  rw[Bool.true_and,Bool.true_and]
  congr 2
  exact decide_eq_decide.2 (YT _ _).1
theorem adh(x:ExV)(h:x.ok=true):Con Tryz.prog 49 false [.ag [.v (.bool (x).s),.sl (lim (x).m).length (qg (lim (x).m)),.v (.int .i64 (x).e)]] [] (isA (.ag [.v (.bool (x).s),.sl (lim (x).m).length (qg (lim (x).m)),.v (.int .i64 (x).e)])):=by
 refine Con.frzA ?_
 obtain⟨a1,a2,a3,a4,a5⟩:=yl h
 have cm:=qV x.s x.m (by omega)
 rw[show(x.s&&decide (x.m≠0))=x.s by
  by_cases h0:x.m=0
  ·rw[(a4 h0).1];rfl
  ·simp[h0]]at cm
 refine Con.of_w (rs:=[.cell 2 44]) Tryz.func49 rfl Tryz.ntmps49 rfl ?_
 simp(disch:=omega)only[go_sem]
 refine qv rfl [⟨0,[],[]⟩,⟨1,[],[]⟩,⟨2,[],[]⟩,⟨3,[2],[]⟩,⟨4,[2],[]⟩,⟨5,[2],[]⟩,⟨7,[2,5],[]⟩,⟨8,[2,5],[]⟩,⟨6,[8],[]⟩,⟨9,[],[]⟩,⟨10,[],[]⟩] (by kernel_rfl) ?_
 simp(disch:=omega)only[go_sem]
 refine qa (cm) ?_
 simp(disch:=omega)only[go_sem]
 exact qu
def brg(x y:ExV):ExV:=if x.val 3000≤y.val 3000 then x else y
def bra(x y:ExV):ExV:=if y.val 3000≤x.val 3000 then x else y
section
variable (l:List UInt8)(hl:l.length≤9223372036854775807)(i h:Int)(hi:0≤i∧i≤l.length)
include hl hi
end
end Go.Ab
namespace Go.Ab
open Go Go.Proofs
/-! ### Rounding down and up-/
def rnF(s:Bool)(a b:Nat)(low mode:Int):FlV:=⟨flK s mode (rq s a b mode) low,s,bnN s mode (rq s a b mode) low,bnO s mode (rq s a b mode) low⟩
def upQ(a b:Nat):Nat:=if a % b=0 then a/b else a/b+1
def isN(F:FlV):Bool:=decide (F.k=0)||decide (F.k=1)
theorem auE(s:Bool)(a b:Nat):rq s a b 3=if s=true then upQ a b else a/b:=by
 unfold rq upQ rup
 by_cases h:a % b=0
 ·simp[h]
 ·cases s<;>simp[h]
theorem aXY(s:Bool)(a b:Nat):rq s a b 2=if s=true then a/b else upQ a b:=by
 unfold rq upQ rup
 by_cases h:a % b=0
 ·simp[h]
 ·cases s<;>simp[h]
def rqB(s:Bool)(a b:Nat)(low mode:Int):Prop:=rq s a b mode≠0∧1024<(bl (rq s a b mode):Int)+low
end Go.Ab
namespace Go.Ab
def stk(A B:Nat):Nat:=2*(A/B)+(if A % B=0 then 0 else 1)
theorem aud{A B j:Nat}(hB:0<B)(hj:1≤j):
  stk A B/2^(j+1)=A/(B*2^j)∧(stk A B % 2^(j+1)=0↔A % (B*2^j)=0)∧
   zH ((stk A B % 2^(j+1)*2:Nat):Int) ((2^(j+1):Nat):Int)=zH ((A % (B*2^j)*2:Nat):Int) ((B*2^j:Nat):Int):=by
 obtain⟨i,rfl⟩:∃i,j=i+1:=⟨j-1,by omega⟩
 have hm:A % B<B:=Nat.mod_lt _ hB
 have hp:0<2^i:=Nat.pow_pos (by omega)
 have e2:(2:Nat)^(i+1)=2*2^i:=Nat.pow_succ'
 have e3:(2:Nat)^(i+1+1)=2*(2*2^i):=by rw[Nat.pow_succ',e2]
 obtain⟨q,hq⟩:∃q,q=A/B:=⟨_,rfl⟩
 obtain⟨r,hr⟩:∃r,r=A % B:=⟨_,rfl⟩
 have d1:A/(B*2^(i+1))=q/(2*2^i):=by rw[e2,←Nat.div_div_eq_div_mul,←hq]
 have d2:A % (B*2^(i+1))=B*(q % (2*2^i))+r:=by
  rw[e2,Nat.mod_mul,←hq,←hr,Nat.add_comm]
 have s1:stk A B/2^(i+1+1)=q/(2*2^i):=by
  unfold stk
  rw[e3,←Nat.div_div_eq_div_mul,←hq]
  congr 1
  split<;>omega
 have s2:stk A B % 2^(i+1+1)=2*(q % (2*2^i))+(if r=0 then 0 else 1):=by
  unfold stk
  rw[e3,Nat.mod_mul,←hq,←hr]
  have h1:(2*q+(if r=0 then 0 else 1))/2=q:=by split<;>omega
  have h2:(2*q+(if r=0 then 0 else 1)) % 2=(if r=0 then 0 else 1):=by split<;>omega
  rw[h1,h2,Nat.add_comm]
 rw[d1,d2,s1,s2]
 have hu:q % (2*2^i)<2*2^i:=Nat.mod_lt _ (by omega)
 generalize q % (2*2^i)=u at*
 rw[←hr]at hm
 refine⟨rfl,?_,?_⟩
 ·rw[Nat.add_eq_zero_iff,Nat.add_eq_zero_iff,Nat.mul_eq_zero,Nat.mul_eq_zero]
  split<;>omega
 ·have key:∀x y X Y:Int,(X<Y↔x<y)→(Y<X↔y<x)→zH X Y=zH x y:=by
   intro x y X Y p q
   unfold zH
   by_cases h1:x<y
   ·rw[if_pos h1,if_pos (p.2 h1)]
   ·rw[if_neg h1,if_neg (fun h=>h1 (p.1 h))]
    by_cases h2:y<x
    ·rw[if_pos h2,if_pos (q.2 h2)]
    ·rw[if_neg h2,if_neg (fun h=>h2 (q.1 h))]
  rw[e2,e3]
  have hB2:B*(2*2^i)=2*(B*2^i):=by grind
  rw[hB2]
  generalize 2^i=h at*
  rcases Nat.lt_trichotomy u h with c|c|c
  ·have c1:B*u+B≤B*h:=by have:=Nat.mul_le_mul_left B (show u+1≤h from c);rw[Nat.mul_add,Nat.mul_one]at this;exact this
   generalize B*u=bu at*
   generalize B*h=bh at*
   refine key _ _ _ _ ?_ ?_<;>split<;>omega
  ·subst c
   generalize B*u=bu at*
   refine key _ _ _ _ ?_ ?_<;>split<;>omega
  ·have c1:B*h+B≤B*u:=by have:=Nat.mul_le_mul_left B (show h+1≤u from c);rw[Nat.mul_add,Nat.mul_one]at this;exact this
   generalize B*u=bu at*
   generalize B*h=bh at*
   refine key _ _ _ _ ?_ ?_<;>split<;>omega
theorem aXZ{s:Bool}{A B j:Nat}{mode:Int}(hB:0<B)(hj:1≤j):rq s (stk A B) (2^(j+1)) mode=rq s A (B*2^j) mode:=by
 obtain⟨h1,h2,h3⟩:=aud (A:=A) hB hj
 unfold rq
 rw[h1,h3]
 by_cases h:A % (B*2^j)=0
 ·rw[if_pos h,if_pos (h2.2 h)]
 ·rw[if_neg h,if_neg (fun g=>h (h2.1 g))]
end Go.Ab
namespace Go.Ab
def rtB(a:Nat):Nat→Nat
 |0=>0
 |n+1=>if(n+1)*(n+1)≤a then n+1 else rtB a n
def rt(a:Nat):Nat:=rtB a a
end Go.Ab
namespace Go.Ab
open Go Go.Proofs
end Go.Ab
namespace Go.Ab
open Go Go.Proofs
/-! ### A root,rounded-/
def stR(A S:Nat):Nat:=rt (A/S)*4+(if rt (A/S)*rt (A/S)*S=A then 0 else if A*4<(2*rt (A/S)+1)*(2*rt (A/S)+1)*S then 1 else if A*4=(2*rt (A/S)+1)*(2*rt (A/S)+1)*S then 2 else 3)
end Go.Ab
namespace Go.Ab
open Go Go.Proofs
def sqT(m:Nat)(e:Int):Int:=((bl m:Int)+e+1)/2
def sqL(m:Nat)(e:Int):Int:=Yu (sqT m e)
def sqA(m:Nat)(e low:Int):Nat:=stR (ovA m (e-2*low)) (2^(-(e-2*low)).toNat)
def sqV(k:Int)(s:Bool)(m e mode:Int):FlV:=
 if k=3∨k=0 then⟨k,s,m,e⟩else if s=true then⟨3,false,0,0⟩else if k=2 then⟨k,s,m,e⟩else
  ⟨flK false mode (rq false (sqA m.toNat e (sqL m.toNat e)) 4 mode) (sqL m.toNat e),false,bnN false mode (rq false (sqA m.toNat e (sqL m.toNat e)) 4 mode) (sqL m.toNat e),bnO false mode (rq false (sqA m.toNat e (sqL m.toNat e)) 4 mode) (sqL m.toNat e)⟩
def sqG(k:Int)(s:Bool)(m e mode:Int):Int:=
 if k=3∨k=0 then 0 else if s=true then 16 else if k=2 then 0 else
  boE (sqT m.toNat e) (decide (sqA m.toNat e (sqL m.toNat e) % 4=0)) (rq false (sqA m.toNat e (sqL m.toNat e)) 4 mode) (sqL m.toNat e)
end Go.Ab
namespace Go.Ab
open Go Go.Proofs
def rtE(x:ExV)(low md:Int):ExV:=⟨false,rq false (sqA x.m x.e low) 4 md,low⟩
def brU(n:Int):Bool:=decide (-3000≤n)&&decide (n≤3000)
end Go.Ab
namespace Go.Ab
open Go Go.Proofs
theorem aNd{K:Nat}{x:ExV}{low:Int}(hx: -(K:Int)≤x.e)(hl: -(K:Int)≤low):(x.rnd low 3).val K≤x.val K∧x.val K≤(x.rnd low 2).val K:=by
 obtain⟨s,m,e⟩:=x
 dsimp only at hx
 by_cases h:low≤e∨m=0
 ·have:∀md,ExV.rnd ⟨s,m,e⟩ low md=⟨s,m,e⟩:=fun md=>by
   unfold ExV.rnd roS roM roE
   dsimp only
   rw[if_pos h,if_pos h,if_pos h]
  rw[this,this];exact⟨Int.le_refl _,Int.le_refl _⟩
 ·have hv:∀md,(ExV.rnd ⟨s,m,e⟩ low md).val K=sv s (rq s m (2^(low-e).toNat) md*2^(low-e).toNat)*2^(e+(K:Int)).toNat:=fun md=>by
   unfold ExV.rnd roS roM roE ExV.val
   dsimp only
   rw[if_neg h,if_neg h,if_neg h,XA]
   unfold dv
   rw[J1,Int.natCast_pow,Int.mul_assoc]
   congr 1
   show _=(2:Int)^_*_
   rw[←Int.pow_add]
   congr 1
   omega
  rw[hv,hv,auE,aXY]
  have hB:0<2^(low-e).toNat:=Nat.pow_pos (by omega)
  have hP:(0:Int)<2^(e+(K:Int)).toNat:=Int.pow_pos (by omega)
  have hm:=Nat.div_add_mod m (2^(low-e).toNat)
  have hlt:=Nat.mod_lt m hB
  have h1:m/2^(low-e).toNat*2^(low-e).toNat≤m:=Nat.div_mul_le_self _ _
  have h2:m≤upQ m (2^(low-e).toNat)*2^(low-e).toNat:=by
   unfold upQ
   split
   ·rw[Nat.mul_comm];omega
   ·rw[Nat.add_mul,Nat.mul_comm];omega
  show _≤sv s m*2^(e+(K:Int)).toNat∧sv s m*2^(e+(K:Int)).toNat≤_
  generalize 2^(low-e).toNat=B at*
  generalize (2:Int)^(e+(K:Int)).toNat=P at*
  cases s
  ·rw[if_neg (by simp),if_neg (by simp)]
   exact⟨Int.mul_le_mul_of_nonneg_right (Int.ofNat_le.2 h1) (Int.le_of_lt hP),Int.mul_le_mul_of_nonneg_right (Int.ofNat_le.2 h2) (Int.le_of_lt hP)⟩
  ·rw[if_pos rfl,if_pos rfl]
   exact⟨Int.mul_le_mul_of_nonneg_right (Int.neg_le_neg (Int.ofNat_le.2 h2)) (Int.le_of_lt hP),Int.mul_le_mul_of_nonneg_right (Int.neg_le_neg (Int.ofNat_le.2 h1)) (Int.le_of_lt hP)⟩
end Go.Ab
namespace Go.Ab
open Go Go.Proofs
def rkI:Bool→Nat
 |false=>0
 |true=>1
def rkH(x:ExV):Bool→List (Nat×Ob)
 |false=>[(3,.own 1 [.v (.slice none 0 0)])]
 |true=>[(3,.own 1 [.rf 5 0 1]),(5,.own 3 [.v (.bool x.s),.sl (lim x.m).length (qg (lim x.m)),.v (.int .i64 x.e)])]
def ex5:ExV:=⟨false,5,0⟩
end Go.Ab
namespace Go.Ab
open Go Go.Proofs
def brV(M:List DyV):Prop:=M.length≤16∧∀d∈M,d.xs.length≤200
end Go.Ab
namespace Go.Ab
open Go Go.Proofs
theorem ah4(k:Int)(M:List DyV)(h1:M.length≤16)(h2:∀d∈M,d.xs.length≤200):Con Tryz.prog 44 true [.ag [.v (.int .i64 k),.sl M.length (ql DyV.cs M)]] [] (isA (.v (.bool (adH k M)))):=by
 unfold adH
 refine Con.of_w (rs:=[.tmp 2]) Tryz.func44 rfl Tryz.ntmps44 rfl ?_
 simp(disch:=omega)only[go_sem]
 by_cases c1:k<1
 ·rw[decide_eq_false (show ¬1≤k by omega),Bool.false_and,Bool.false_and]
  simp(disch:=omega)only[go_sem,c1]
  exact qy
 by_cases c2:4<k
 ·rw[decide_eq_false (show ¬k≤4 by omega),Bool.and_false,Bool.false_and]
  simp(disch:=omega)only[go_sem,c1,c2]
  exact qy
 rw[decide_eq_true (show 1≤k by omega),decide_eq_true (show k≤4 by omega),Bool.true_and,Bool.true_and]
 have hq:0≤k*k∧k*k≤16:=⟨Int.mul_nonneg (by omega) (by omega),Int.mul_le_mul (show k≤4 by omega) (show k≤4 by omega) (by omega) (by omega)⟩
 by_cases c3:(M.length:Int)=k*k
 rotate_left
 ·rw[decide_eq_false c3,Bool.false_and]
  simp(disch:=omega)only[go_sem,c1,c2,decide_eq_false c3]
  exact qy
 rw[decide_eq_true c3,Bool.true_and]
 simp(disch:=omega)only[go_sem,c1,c2,decide_eq_true c3]
 refine qj (fun i:Nat=>[(1,.pt 1 0),(2,.v (.bool false)),(3,.v (.int .i64 i))]) (fun _=>[(1,.own 0 [.v (.int .i64 k),.sl M.length (ql DyV.cs M)])]) (fun i=>i≤M.length∧∀j,j<i→(M.getD j dy0).ok=true) (fun i=>M.length-i) 0 ⟨by omega,fun j hj=>by omega⟩
  (Le.lst [(1,30000000)] _ _ rfl (by simp(disch:=omega)only[go_sem]) (by simp(disch:=omega)only[go_sem])) ?_
 rintro i ⟨hi,hp⟩
 simp(disch:=omega)only[go_sem]
 refine qi (fun h3=>?_) (fun h3=>?_)
 ·have hcut:=Qn (l:=M) Xz (i:=i) (by omega) dy0
  have hmem:M.getD i dy0∈M:=by
   rw[List.getD_eq_getElem?_getD,List.getElem?_eq_getElem (by omega)];exact List.getElem_mem _
  have hx:=h2 _ hmem
  have cd:=ZB (M.getD i dy0).s (M.getD i dy0).xs (M.getD i dy0).e (by omega)
  rw[show dyB (M.getD i dy0).s (M.getD i dy0).xs (M.getD i dy0).e=(M.getD i dy0).ok from rfl]at cd
  have hall:(M.getD i dy0).ok=false→M.all DyV.ok=false:=fun h=>List.all_eq_false.2 ⟨_,hmem,by rw[h];simp⟩
  have hnext:(M.getD i dy0).ok=true→∀j,j<i+1→(M.getD j dy0).ok=true:=fun h j hj=>by
   rcases(by omega:j<i∨j=i)with h'|rfl
   ·exact hp j h'
   ·exact h
  generalize M.getD i dy0=d at*
  simp(disch:=omega)only[go_sem,h3,hcut,DyV.cs]
  refine⟨by omega,by omega,qn cd ?_⟩
  simp(disch:=omega)only[go_sem]
  cases hd:d.ok
  ·rw[hall hd]
   simp(disch:=omega)only[go_sem,hd]
   exact qy
  ·simp(disch:=omega)only[go_sem,hd]
   exact qe (i+1) [] ⟨by omega,hnext hd⟩ (by show M.length-(i+1)<M.length-i;omega) rfl (by simp(disch:=omega)only[go_sem];try omega) (by simp(disch:=omega)only[go_sem])
 ·simp(disch:=omega)only[go_sem,h3]
  have hall:M.all DyV.ok=true:=List.all_eq_true.2 fun d hd=>by
   obtain⟨j,hj,rfl⟩:=List.getElem_of_mem hd
   have:=hp j (by omega)
   rw[List.getD_eq_getElem?_getD,List.getElem?_eq_getElem hj]at this
   exact this
  rw[hall]
  exact qy
end Go.Ab
namespace Go.Ab
open Go Go.Proofs
/-! ### Matrices that were told,or not-/
def optM(n N:Nat)(T:List ExV):Prop:=(N=n∧matV n T)∨(N=0∧T=[])
def bou(M:List DyV):Prop:=M.length≤16∧∀d∈M,d.xs.length≤200
theorem matV.lens{n:Nat}{L:List ExV}(h:matV n L):bou (L.map ExV.dyv):=⟨by rw[List.length_map];exact h.l16,fun d hd=>by
 obtain⟨x,hx,rfl⟩:=List.mem_map.1 hd
 have:=(yl (h.ok x hx)).2.2.1
 show(lim x.m).length≤200
 omega⟩
theorem optM.lens{n N:Nat}{T:List ExV}(h:optM n N T):bou (T.map ExV.dyv):=by
 rcases h with⟨-,h⟩|⟨-,rfl⟩
 ·exact h.lens
 ·exact⟨by simp,by simp⟩
theorem ah2(n:Nat)(L:List ExV)(h:matV n L):Con Tryz.prog 44 true [.ag [.v (.int .i64 (n)),.sl (L).length (ql ExV.cs (L))]] [] (isA (.v (.bool true))):=by
 have c:=ah4 n (L.map ExV.dyv) h.lens.1 h.lens.2
 rw[aiH,List.length_map,show adH (n:Int) (L.map ExV.dyv)=true by
  have:=avj (n:Int) L
  rw[show L.map ExV.dyv=L.map ExV.dy from rfl,this]
  unfold aWL
  simp only[Bool.and_eq_true,decide_eq_true_eq,List.all_eq_true]
  exact⟨⟨by have:=h.n1;omega,by have:=h.n4;omega⟩,by rw[h.len,Int.natCast_mul],h.ok⟩]at c
 exact c
end Go.Ab
namespace Go.Ab
/-! ### Determinants of integers-/
def sgI(k:Nat):Int:=if k % 2=1 then-1 else 1
def skp(r i:Nat):Nat:=if i<r then i else i+1
def ape(A:Nat→Nat→Int)(r c:Nat):Nat→Nat→Int:=fun i j=>A (skp r i) (skp c j)
def jY:Nat→(Nat→Nat→Int)→Int
 |0,_=>1
 |n+1,A=>qD (fun j=>sgI j*(A 0 j*jY n (ape A 0 j))) (n+1)
theorem axZ(A:Nat→Nat→Int):jY 1 A=A 0 0:=by
 simp[jY,qD,sgI]
theorem aph(A:Nat→Nat→Int):jY 2 A=A 0 0*A 1 1-A 0 1*A 1 0:=by
 simp[jY,qD,sgI,ape,skp];omega
theorem apg(A:Nat→Nat→Int):jY 3 A=A 0 0*(A 1 1*A 2 2-A 1 2*A 2 1)-A 0 1*(A 1 0*A 2 2-A 1 2*A 2 0)+A 0 2*(A 1 0*A 2 1-A 1 1*A 2 0):=by
 rw[jY]
 simp only[aph,qD,sgI,ape,skp]
 simp
 omega
theorem aNI(A:Nat→Nat→Int):jY 4 A=(A 0 0*A 1 1-A 0 1*A 1 0)*(A 2 2*A 3 3-A 2 3*A 3 2)-(A 0 0*A 1 2-A 0 2*A 1 0)*(A 2 1*A 3 3-A 2 3*A 3 1)
  +(A 0 0*A 1 3-A 0 3*A 1 0)*(A 2 1*A 3 2-A 2 2*A 3 1)+(A 0 1*A 1 2-A 0 2*A 1 1)*(A 2 0*A 3 3-A 2 3*A 3 0)
  -(A 0 1*A 1 3-A 0 3*A 1 1)*(A 2 0*A 3 2-A 2 2*A 3 0)+(A 0 2*A 1 3-A 0 3*A 1 2)*(A 2 0*A 3 1-A 2 1*A 3 0):=by
 rw[jY]
 simp only[apg,qD,sgI,ape,skp]
 simp
 grind
end Go.Ab
namespace Go.Ab
theorem aK8{n:Nat}(hn:n≤4)(A:Nat→Nat→Int):jY n (fun i j=>A j i)=jY n A:=by
 rcases(show n=0∨n=1∨n=2∨n=3∨n=4 by omega)with rfl|rfl|rfl|rfl|rfl
 ·rfl
 ·rw[axZ,axZ]
 ·rw[aph,aph];grind
 ·rw[apg,apg];grind
 ·rw[aNI,aNI];grind
theorem QB:∀{n:Nat} {A B:Nat→Nat→Int},(∀i j,i<n→j<n→A i j=B i j)→jY n A=jY n B
 |0,_,_,_=>rfl
 |n+1,A,B,h=>by
  rw[jY,jY]
  refine qO fun j hj=>?_
  rw[h 0 j (by omega) hj,QB (n:=n) (A:=ape A 0 j) (B:=ape B 0 j) fun i k hi hk=>?_]
  unfold ape skp
  exact h _ _ (by split<;>omega) (by split<;>omega)
def m2(A:Nat→Nat→Int)(r s c d:Nat):Int:=A r c*A s d-A r d*A s c
theorem ac5(A:Nat→Nat→Int):jY 4 A=m2 A 0 1 0 1*m2 A 2 3 2 3-m2 A 0 1 0 2*m2 A 2 3 1 3+m2 A 0 1 0 3*m2 A 2 3 1 2+m2 A 0 1 1 2*m2 A 2 3 0 3-m2 A 0 1 1 3*m2 A 2 3 0 2+m2 A 0 1 2 3*m2 A 2 3 0 1:=aNI A
def yL(n:Nat)(A B:Nat→Nat→Int):Nat→Nat→Int:=fun i j=>qD (fun t=>A i t*B t j) n
theorem bow(A B:Nat→Nat→Int)(i j:Nat):yL 4 A B i j=A i 0*B 0 j+A i 1*B 1 j+A i 2*B 2 j+A i 3*B 3 j:=by
 simp[yL,qD]
theorem boy(A B:Nat→Nat→Int)(i j:Nat):yL 3 A B i j=A i 0*B 0 j+A i 1*B 1 j+A i 2*B 2 j:=by
 simp[yL,qD]
theorem boz(A B:Nat→Nat→Int)(i j:Nat):yL 2 A B i j=A i 0*B 0 j+A i 1*B 1 j:=by
 simp[yL,qD]
theorem boA(A B:Nat→Nat→Int)(i j:Nat):yL 1 A B i j=A i 0*B 0 j:=by
 simp[yL,qD]
theorem aZq(A B:Nat→Nat→Int)(r s c d:Nat):m2 (yL 4 A B) r s c d=m2 A r s 0 1*m2 B 0 1 c d+m2 A r s 0 2*m2 B 0 2 c d+m2 A r s 0 3*m2 B 0 3 c d+m2 A r s 1 2*m2 B 1 2 c d+m2 A r s 1 3*m2 B 1 3 c d+m2 A r s 2 3*m2 B 2 3 c d:=by
 simp only[m2,bow]
 grind
def q4(B:Nat→Nat→Int)(p q r s:Nat):Int:=m2 B p q 0 1*m2 B r s 2 3-m2 B p q 0 2*m2 B r s 1 3+m2 B p q 0 3*m2 B r s 1 2+m2 B p q 1 2*m2 B r s 0 3-m2 B p q 1 3*m2 B r s 0 2+m2 B p q 2 3*m2 B r s 0 1
theorem Zi(B:Nat→Nat→Int)(p q s:Nat):q4 B p q p s=0:=by unfold q4 m2;grind
theorem aI2(B:Nat→Nat→Int)(p q r:Nat):q4 B p q r p=0:=by unfold q4 m2;grind
theorem aI1(B:Nat→Nat→Int)(p q s:Nat):q4 B p q q s=0:=by unfold q4 m2;grind
theorem acm(B:Nat→Nat→Int)(p q r:Nat):q4 B p q r q=0:=by unfold q4 m2;grind
theorem bqW(B:Nat→Nat→Int):q4 B 0 1 2 3=jY 4 B:=(ac5 B).symm
theorem bqV(B:Nat→Nat→Int):q4 B 0 2 1 3= -jY 4 B:=by rw[ac5];unfold q4 m2;grind
theorem bqU(B:Nat→Nat→Int):q4 B 0 3 1 2=jY 4 B:=by rw[ac5];unfold q4 m2;grind
theorem bqT(B:Nat→Nat→Int):q4 B 1 2 0 3=jY 4 B:=by rw[ac5];unfold q4 m2;grind
theorem bqS(B:Nat→Nat→Int):q4 B 1 3 0 2= -jY 4 B:=by rw[ac5];unfold q4 m2;grind
theorem bqR(B:Nat→Nat→Int):q4 B 2 3 0 1=jY 4 B:=by rw[ac5];unfold q4 m2;grind
theorem awo(A B:Nat→Nat→Int):jY 4 (yL 4 A B)=m2 A 0 1 0 1*m2 A 2 3 0 1*q4 B 0 1 0 1+m2 A 0 1 0 1*m2 A 2 3 0 2*q4 B 0 1 0 2+m2 A 0 1 0 1*m2 A 2 3 0 3*q4 B 0 1 0 3+m2 A 0 1 0 1*m2 A 2 3 1 2*q4 B 0 1 1 2+m2 A 0 1 0 1*m2 A 2 3 1 3*q4 B 0 1 1 3+m2 A 0 1 0 1*m2 A 2 3 2 3*q4 B 0 1 2 3+m2 A 0 1 0 2*m2 A 2 3 0 1*q4 B 0 2 0 1+m2 A 0 1 0 2*m2 A 2 3 0 2*q4 B 0 2 0 2+m2 A 0 1 0 2*m2 A 2 3 0 3*q4 B 0 2 0 3+m2 A 0 1 0 2*m2 A 2 3 1 2*q4 B 0 2 1 2+m2 A 0 1 0 2*m2 A 2 3 1 3*q4 B 0 2 1 3+m2 A 0 1 0 2*m2 A 2 3 2 3*q4 B 0 2 2 3+m2 A 0 1 0 3*m2 A 2 3 0 1*q4 B 0 3 0 1+m2 A 0 1 0 3*m2 A 2 3 0 2*q4 B 0 3 0 2+m2 A 0 1 0 3*m2 A 2 3 0 3*q4 B 0 3 0 3+m2 A 0 1 0 3*m2 A 2 3 1 2*q4 B 0 3 1 2+m2 A 0 1 0 3*m2 A 2 3 1 3*q4 B 0 3 1 3+m2 A 0 1 0 3*m2 A 2 3 2 3*q4 B 0 3 2 3+m2 A 0 1 1 2*m2 A 2 3 0 1*q4 B 1 2 0 1+m2 A 0 1 1 2*m2 A 2 3 0 2*q4 B 1 2 0 2+m2 A 0 1 1 2*m2 A 2 3 0 3*q4 B 1 2 0 3+m2 A 0 1 1 2*m2 A 2 3 1 2*q4 B 1 2 1 2+m2 A 0 1 1 2*m2 A 2 3 1 3*q4 B 1 2 1 3+m2 A 0 1 1 2*m2 A 2 3 2 3*q4 B 1 2 2 3+m2 A 0 1 1 3*m2 A 2 3 0 1*q4 B 1 3 0 1+m2 A 0 1 1 3*m2 A 2 3 0 2*q4 B 1 3 0 2+m2 A 0 1 1 3*m2 A 2 3 0 3*q4 B 1 3 0 3+m2 A 0 1 1 3*m2 A 2 3 1 2*q4 B 1 3 1 2+m2 A 0 1 1 3*m2 A 2 3 1 3*q4 B 1 3 1 3+m2 A 0 1 1 3*m2 A 2 3 2 3*q4 B 1 3 2 3+m2 A 0 1 2 3*m2 A 2 3 0 1*q4 B 2 3 0 1+m2 A 0 1 2 3*m2 A 2 3 0 2*q4 B 2 3 0 2+m2 A 0 1 2 3*m2 A 2 3 0 3*q4 B 2 3 0 3+m2 A 0 1 2 3*m2 A 2 3 1 2*q4 B 2 3 1 2+m2 A 0 1 2 3*m2 A 2 3 1 3*q4 B 2 3 1 3+m2 A 0 1 2 3*m2 A 2 3 2 3*q4 B 2 3 2 3:=by
 rw[ac5]
 simp only[aZq]
 simp only[q4]
 grind
theorem aLa(A B:Nat→Nat→Int):jY 4 (yL 4 A B)=jY 4 A*jY 4 B:=by
 rw[awo]
 rw[Zi B 0 1 1,Zi B 0 1 2,Zi B 0 1 3,aI1 B 0 1 2,aI1 B 0 1 3,Zi B 0 2 1,Zi B 0 2 2,Zi B 0 2 3,acm B 0 2 1,aI1 B 0 2 3,Zi B 0 3 1,Zi B 0 3 2,Zi B 0 3 3,acm B 0 3 1,acm B 0 3 2,aI2 B 1 2 0,acm B 1 2 0,Zi B 1 2 2,Zi B 1 2 3,aI1 B 1 2 3,aI2 B 1 3 0,acm B 1 3 0,Zi B 1 3 2,Zi B 1 3 3,acm B 1 3 2,aI2 B 2 3 0,acm B 2 3 0,aI2 B 2 3 1,acm B 2 3 1,Zi B 2 3 3]
 rw[bqW,bqV,bqU,bqT,bqS,bqR,ac5 A]
 grind
theorem YB{n:Nat}(hn:n≤4)(A B:Nat→Nat→Int):jY n (yL n A B)=jY n A*jY n B:=by
 rcases(show n=0∨n=1∨n=2∨n=3∨n=4 by omega)with rfl|rfl|rfl|rfl|rfl
 ·rfl
 ·rw[axZ,axZ,axZ,boA]
 ·rw[aph,aph,aph];simp only[boz];grind
 ·rw[apg,apg,apg];simp only[boy];grind
 ·exact aLa A B
end Go.Ab
namespace Go.Ab
def aWU(n:Nat)(A:Nat→Nat→Int)(k j:Nat):Int:=sgI (k+j)*jY (n-1) (ape A j k)
theorem aWs{n:Nat}(hn:n≤4)(A:Nat→Nat→Int){i j:Nat}(hi:i<n)(hj:j<n):yL n A (aWU n A) i j=if i=j then jY n A else 0:=by
 rcases(show n=1∨n=2∨n=3∨n=4 by omega)with rfl|rfl|rfl|rfl
 ·obtain rfl:i=0:=by omega
  obtain rfl:j=0:=by omega
  rw[boA,axZ,if_pos rfl]
  simp[aWU,sgI,jY]
 ·simp only[boz,aWU,aph,show 2-1=1 from rfl,axZ]
  rcases(show i=0∨i=1 by omega)with rfl|rfl<;>rcases(show j=0∨j=1 by omega)with rfl|rfl<;>(simp[sgI,ape,skp];try grind)
 ·simp only[boy,aWU,apg,show 3-1=2 from rfl,aph]
  rcases(show i=0∨i=1∨i=2 by omega)with rfl|rfl|rfl<;>rcases(show j=0∨j=1∨j=2 by omega)with rfl|rfl|rfl<;>(simp[sgI,ape,skp];try grind)
 ·simp only[bow,aWU,aNI,show 4-1=3 from rfl,apg]
  rcases(show i=0∨i=1∨i=2∨i=3 by omega)with rfl|rfl|rfl|rfl<;>rcases(show j=0∨j=1∨j=2∨j=3 by omega)with rfl|rfl|rfl|rfl<;>(simp[sgI,ape,skp];try grind)
end Go.Ab
namespace Go.Ab
open Go Go.Proofs
/-! ### What determinants are worth-/
end Go.Ab
namespace Go.Ab
open Go Go.Proofs
/-! ### Turned matrices-/
def brk(n:Nat)(l:List ExV):List ExV:=gl n (fun i j=>l.getD (j*n+i) ex0) (n*n)
end Go.Ab
namespace Go.Ab
open Go Go.Proofs
/-! ### Adjugates and minors-/
def brF(n:Nat)(l:List ExV)(a b:Nat):ExV:=(boH (n-1) (mnR n l b a n)).sgn (b+a)
def br3(n:Nat)(l:List ExV):List ExV:=gl n (brF n l) (n*n)
end Go.Ab
namespace Go.Ab
open Go Go.Proofs
section
variable (l:List UInt8)(hl:l.length≤9223372036854775807)(i h:Int)(hi:0≤i∧i≤l.length)
include hl hi
def brf(r:AV):Prop:=∃L:List DyV,L.length≤101∧(∀d∈L,d.xs.length≤200)∧r=.sl L.length (ql DyV.cs L)
end
end Go.Ab
namespace Go.Ab
open Go Go.Proofs
/-! ### Polynomials of a matrix-/
def bos(n:Nat)(L:List ExV):Nat→List ExV
 |0=>gId n
 |k+1=>aZN n (bos n L k) L
def bqL(n:Nat)(L p:List ExV):Nat→List ExV
 |0=>zv n (gId n) ex0
 |k+1=>bl8 n (bqL n L p k) (zv n (bos n L k) (p.getD k ex0))
end Go.Ab
namespace Go.Ab
def idI(i j:Nat):Int:=if i=j then 1 else 0
def Y6(n:Nat)(A:Nat→Nat→Int):Nat→Nat→Nat→Int
 |0=>idI
 |k+1=>yL n (Y6 n A k) A
def pm3(A:Nat→Nat→Int)(r:Nat):Int:=jY 3 (ape A r r)
end Go.Ab
namespace Go.Ab
/-! ### Ranks-/
theorem J2{f:Nat→Int}{k:Nat}:∀{m:Nat},k≤m→(∀i,k≤i→f i=0)→qD f m=qD f k
 |0,h,_=>by
  obtain rfl:k=0:=by omega
  rfl
 |m+1,h,hz=>by
  by_cases e:k=m+1
  ·rw[e]
  ·rw[qD,J2 (by omega) hz,hz m (by omega),Int.add_zero]
def anR(n k:Nat)(A:Nat→Nat→Int):Prop:=∃(c:Int) (B C:Nat→Nat→Int),c≠0∧∀i j,i<n→j<n→c*A i j=qD (fun t=>B i t*C t j) k
theorem ZK{n k:Nat}{A A':Nat→Nat→Int}(h:∀i j,i<n→j<n→A i j=A' i j):anR n k A→anR n k A'
 |⟨c,B,C,h0,h1⟩=>⟨c,B,C,h0,fun i j hi hj=>by rw[←h i j hi hj];exact h1 i j hi hj⟩
theorem ab3{n k:Nat}{A:Nat→Nat→Int}:anR n k A→anR n k (fun i j=>A j i)
 |⟨c,B,C,h0,h1⟩=>⟨c,fun i t=>C t i,fun t j=>B j t,h0,fun i j hi hj=>by
  rw[h1 j i hj hi];exact qO fun t _=>Int.mul_comm _ _⟩
theorem X0(n k:Nat)(f:Nat→Int)(g:Nat→Nat→Int)(h:Nat→Int):qD (fun s=>qD (fun t=>f t*g t s) k*h s) n=qD (fun t=>f t*qD (fun s=>g t s*h s) n) k:=by
 have e1:qD (fun s=>qD (fun t=>f t*g t s) k*h s) n=qD (fun s=>qD (fun t=>f t*(g t s*h s)) k) n:=
  qO fun s _=>by rw[←ZM];exact qO fun t _=>Int.mul_assoc _ _ _
 have e2:qD (fun t=>f t*qD (fun s=>g t s*h s) n) k=qD (fun t=>qD (fun s=>f t*(g t s*h s)) n) k:=
  qO fun t _=>by rw[←jr]
 rw[e1,e2,ZN]
theorem at4{n k:Nat}{A:Nat→Nat→Int}(D:Nat→Nat→Int):anR n k A→anR n k (yL n A D)
 |⟨c,B,C,h0,h1⟩=>⟨c,B,yL n C D,h0,fun i j hi hj=>by
  show c*qD (fun t=>A i t*D t j) n=qD (fun t=>B i t*qD (fun s=>C t s*D s j) n) k
  rw[←X0,←jr]
  exact qO fun s hs=>by rw[←h1 i s hi hs,Int.mul_assoc]⟩
theorem ab4{n k:Nat}{A:Nat→Nat→Int}(D:Nat→Nat→Int):anR n k A→anR n k (yL n D A)
 |⟨c,B,C,h0,h1⟩=>⟨c,yL n D B,C,h0,fun i j hi hj=>by
  show c*qD (fun t=>D i t*A t j) n=qD (fun t=>qD (fun s=>D i s*B s t) n*C t j) k
  rw[X0,←jr]
  exact qO fun s hs=>by rw[←h1 s j hs hj,Int.mul_left_comm]⟩
def dgI(c:Int)(i j:Nat):Int:=if i=j then c else 0
theorem aZl{n:Nat}(c:Int)(A:Nat→Nat→Int){i j:Nat}(hi:i<n):yL n (dgI c) A i j=c*A i j:=by
 unfold yL
 rw[jL (j:=i) hi (fun t _ hne=>by unfold dgI;rw[if_neg (fun h=>hne h.symm),Int.zero_mul])]
 unfold dgI;rw[if_pos rfl]
theorem beC{n:Nat}(hn:n≤4){c:Int}(hc:c≠0):jY n (dgI c)≠0:=by
 rcases(show n=0∨n=1∨n=2∨n=3∨n=4 by omega)with rfl|rfl|rfl|rfl|rfl
 ·intro h;cases h
 ·rw[axZ];simp[dgI,hc]
 ·rw[aph];simp[dgI,hc]
 ·rw[apg];simp[dgI,hc]
 ·rw[aNI];simp[dgI,hc]
theorem aK9{n:Nat}(hn:n≤4)(h1:1≤n){A:Nat→Nat→Int}(h:∀i,A i (n-1)=0):jY n A=0:=by
 rcases(show n=1∨n=2∨n=3∨n=4 by omega)with rfl|rfl|rfl|rfl
 ·have:=h 0
  rw[axZ];simpa using this
 ·have h:∀i,A i 1=0:=h
  rw[aph];simp[h]
 ·have h:∀i,A i 2=0:=h
  rw[apg];simp[h]
 ·have h:∀i,A i 3=0:=h
  rw[aNI];simp[h]
theorem aIp{n k:Nat}(hn:n≤4)(hk:k<n){A:Nat→Nat→Int}:anR n k A→jY n A=0
 |⟨c,B,C,h0,h1⟩=>by
  have e:jY n (yL n (dgI c) A)=jY n (yL n (fun i t=>if t<k then B i t else 0) C):=QB fun i j hi hj=>by
   rw[aZl c A hi,h1 i j hi hj]
   show _=qD (fun t=>(if t<k then B i t else 0)*C t j) n
   rw[J2 (f:=fun t=>(if t<k then B i t else 0)*C t j) (k:=k) (by omega) (fun t ht=>by rw[if_neg (by omega),Int.zero_mul])]
   exact qO fun t ht=>by rw[if_pos ht]
  rw[YB hn,YB hn,aK9 hn (by omega) (A:=fun i t=>if t<k then B i t else 0) (fun i=>if_neg (by omega)),Int.zero_mul]at e
  exact(Int.mul_eq_zero.1 e).resolve_left (beC hn h0)
theorem awm{r:Nat}(hr:r≤4){T:Nat→Nat→Int}(hd:∀t,t<r→T t t≠0)(hz:∀s t,t<s→s<r→T s t=0):jY r T≠0:=by
 rcases(show r=0∨r=1∨r=2∨r=3∨r=4 by omega)with rfl|rfl|rfl|rfl|rfl
 ·intro h;cases h
 ·rw[axZ];exact hd 0 (by omega)
 ·rw[aph,hz 1 0 (by omega) (by omega)]
  simp[hd 0 (by omega),hd 1 (by omega)]
 ·rw[apg,hz 1 0 (by omega) (by omega),hz 2 0 (by omega) (by omega),hz 2 1 (by omega) (by omega)]
  simp[hd 0 (by omega),hd 1 (by omega),hd 2 (by omega)]
 ·rw[aNI,hz 1 0 (by omega) (by omega),hz 2 0 (by omega) (by omega),hz 2 1 (by omega) (by omega),hz 3 0 (by omega) (by omega),hz 3 1 (by omega) (by omega),hz 3 2 (by omega) (by omega)]
  simp[hd 0 (by omega),hd 1 (by omega),hd 2 (by omega),hd 3 (by omega)]
structure isRank(n:Nat)(A:Nat→Nat→Int)(r:Nat):Prop where
 le:r≤n
 up:anR n r A
 low:∀k,anR n k A→r≤k
 full:r=n→jY n A≠0
theorem isRank.turn{n r s:Nat}{A:Nat→Nat→Int}(h:isRank n A r)(g:isRank n (fun i j=>A j i) s):s=r:=
 Nat.le_antisymm (g.low r (ab3 h.up)) (h.low s (ab3 g.up))
theorem isRank.congr{n r:Nat}{A B:Nat→Nat→Int}(h:isRank n A r)(e:∀i j,i<n→j<n→A i j=B i j):isRank n B r:=
 ⟨h.le,ZK e h.up,fun k hk=>h.low k (ZK (fun i j hi hj=>(e i j hi hj).symm) hk),fun hr=>by rw[←QB e];exact h.full hr⟩
theorem isRank.mul{n r s t:Nat}{A B:Nat→Nat→Int}(h:isRank n A r)(g:isRank n B s)(p:isRank n (yL n A B) t):t≤r∧t≤s:=
 ⟨p.low r (at4 B h.up),p.low s (ab4 A g.up)⟩
structure elim(n:Nat)(A C:Nat→Nat→Int)(r j:Nat):Prop where
 le:r≤n
 rj:r≤j
 u:∃U:Nat→Nat→Int,jY n U≠0∧∀i k,i<n→k<n→C i k=yL n U A i k
 p:∃p:Nat→Nat,∀t,t<r→p t<j∧p t<n∧C t (p t)≠0∧∀s,t<s→s<n→C s (p t)=0
 z:∀i k,r≤i→i<n→k<j→k<n→C i k=0
theorem Xv(n:Nat)(A B C:Nat→Nat→Int)(i j:Nat):yL n (yL n A B) C i j=yL n A (yL n B C) i j:=
 X0 n n (fun t=>A i t) B (fun s=>C s j)
theorem elim.rank{n:Nat}(hn:n≤4){A C:Nat→Nat→Int}{r:Nat}(h:elim n A C r n):isRank n A r:=by
 obtain⟨hle, -,⟨U,hU,hC⟩,⟨p,hp⟩,hz⟩:=h
 have lowC:∀k,anR n k C→r≤k:=fun k hk=>by
  rcases Nat.lt_or_ge k r with g|g
  ·exfalso
   obtain⟨c,B,D,h0,h1⟩:=hk
   have ht:anR r k (fun s t=>C s (p t)):=⟨c,B,fun u t=>D u (p t),h0,fun s t hs ht=>h1 s (p t) (by omega) (hp t ht).2.1⟩
   exact awm (by omega) (fun t ht=>(hp t ht).2.2.1) (fun s t hst hs=>(hp t (by omega)).2.2.2 s hst (by omega)) (aIp (by omega) g ht)
  ·exact g
 refine⟨hle,?_,fun k hk=>lowC k (ZK (fun i j hi hj=>(hC i j hi hj).symm) (ab4 U hk)),fun hr hd=>?_⟩
 ·
  obtain⟨V,hV⟩:∃V:Nat→Nat→Int,∀i j,i<n→j<n→yL n V U i j=if i=j then jY n U else 0:=by
   refine⟨fun i j=>aWU n (fun a b=>U b a) j i,fun i j hi hj=>?_⟩
   have:=aWs hn (fun a b=>U b a) hj hi
   rw[aK8 hn]at this
   have e2:(if i=j then jY n U else 0)=if j=i then jY n U else 0:=by
    by_cases e:i=j
    ·rw[if_pos e,if_pos e.symm]
    ·rw[if_neg e,if_neg (fun h=>e h.symm)]
   rw[e2,←this]
   exact qO fun t _=>Int.mul_comm _ _
  refine⟨jY n U,V,C,hU,fun i j hi hj=>?_⟩
  have e1:qD (fun t=>V i t*C t j) r=qD (fun t=>V i t*C t j) n:=by
   have:qD (fun t=>V i t*C t j) n=qD (fun t=>if t<r then V i t*C t j else 0) n:=qO fun t ht=>by
    by_cases g:t<r
    ·rw[if_pos g]
    ·rw[if_neg g,hz t j (by omega) ht hj hj,Int.mul_zero]
   rw[this,J2 hle (fun t ht=>if_neg (by omega))]
   exact qO fun t ht=>by rw[if_pos ht]
  rw[e1]
  have e2:qD (fun t=>V i t*C t j) n=yL n (yL n V U) A i j:=by
   rw[Xv]
   exact qO fun t ht=>by rw[hC t j ht hj]
  rw[e2]
  show _=qD (fun t=>yL n V U i t*A t j) n
  rw[jL (j:=i) hi (fun t ht hne=>by rw[hV i t hi ht,if_neg (fun h=>hne h.symm),Int.zero_mul]),hV i i hi hi,if_pos rfl]
 ·subst hr
  have h1:jY r C=0:=by
   rw[QB hC,YB hn,hd,Int.mul_zero]
  have h2:jY r (yL r C (fun u t=>if u=p t then 1 else 0))=0:=by rw[YB hn,h1,Int.zero_mul]
  refine awm hn (T:=fun s t=>C s (p t)) (fun t ht=>(hp t ht).2.2.1) (fun s t hst hs=>(hp t (by omega)).2.2.2 s hst (by omega)) ?_
  rw[←h2]
  refine QB fun i j hi hj=>?_
  show C i (p j)=qD (fun u=>C i u*(if u=p j then 1 else 0)) r
  rw[jL (j:=p j) (hp j hj).2.1 (fun t _ hne=>by rw[if_neg hne,Int.mul_zero]),if_pos rfl,Int.mul_one]
theorem elim.skip{n:Nat}{A C:Nat→Nat→Int}{r j:Nat}(h:elim n A C r j)(hz:∀i,r≤i→i<n→C i j=0):elim n A C r (j+1):=by
 obtain⟨h1,h2,h3,⟨p,hp⟩,h5⟩:=h
 refine⟨h1,by omega,h3,⟨p,fun t ht=>⟨by have:=(hp t ht).1;omega,(hp t ht).2⟩⟩,fun i k hi hin hk hkn=>?_⟩
 rcases(show k<j∨k=j by omega)with g|rfl
 ·exact h5 i k hi hin g hkn
 ·exact hz i hi hin
def swI(a b i:Nat):Nat:=if i=a then b else if i=b then a else i
theorem awn{n:Nat}(hn:n≤4){a r:Nat}(ha:a<n)(hr:r<n)(hne:a≠r)(p q:Int)(hp:p≠0):jY n (fun i j=>if i=a then(if j=a then p else if j=r then-q else 0)else if i=j then 1 else 0)≠0:=by
 rcases(show n=1∨n=2∨n=3∨n=4 by omega)with rfl|rfl|rfl|rfl
 ·omega
 ·rw[aph]
  rcases(show a=0∨a=1 by omega)with rfl|rfl<;>rcases(show r=0∨r=1 by omega)with rfl|rfl<;>first|omega|simp[hp]
 ·rw[apg]
  rcases(show a=0∨a=1∨a=2 by omega)with rfl|rfl|rfl<;>rcases(show r=0∨r=1∨r=2 by omega)with rfl|rfl|rfl<;>first|omega|simp[hp]
 ·rw[aNI]
  rcases(show a=0∨a=1∨a=2∨a=3 by omega)with rfl|rfl|rfl|rfl<;>rcases(show r=0∨r=1∨r=2∨r=3 by omega)with rfl|rfl|rfl|rfl<;>first|omega|simp[hp]
structure elimR(n:Nat)(A C:Nat→Nat→Int)(r j m:Nat):Prop where
 rn:r<n
 rj:r≤j
 jn:j<n
 rm:r<m
 u:∃U:Nat→Nat→Int,jY n U≠0∧∀i k,i<n→k<n→C i k=yL n U A i k
 p:∃p:Nat→Nat,∀t,t<r→p t<j∧p t<n∧C t (p t)≠0∧∀s,t<s→s<n→C s (p t)=0
 z:∀i k,r≤i→i<n→k<j→k<n→C i k=0
 pv:C r j≠0
 zm:∀i,r<i→i<m→i<n→C i j=0
theorem elim.pivot{n:Nat}{A C:Nat→Nat→Int}{r j:Nat}(h:elim n A C r j)(hr:r<n)(hj:j<n)(hp:C r j≠0):elimR n A C r j (r+1):=
 ⟨hr,h.rj,hj,by omega,h.u,h.p,h.z,hp,fun i h1 h2=>by omega⟩
theorem elimR.done{n:Nat}{A C:Nat→Nat→Int}{r j m:Nat}(h:elimR n A C r j m)(hm:n≤m):elim n A C (r+1) (j+1):=by
 obtain⟨h1,h2,h3,h4,h5,⟨p,hp⟩,h7,h8,h9⟩:=h
 refine⟨by omega,by omega,h5,⟨fun t=>if t=r then j else p t,fun t ht=>?_⟩,fun i k hi hin hk hkn=>?_⟩
 ·dsimp only
  by_cases e:t=r
  ·rw[if_pos e,e]
   exact⟨by omega,h3,h8,fun s hs hsn=>h9 s hs (by omega) hsn⟩
  ·rw[if_neg e]
   obtain⟨a,b,c,d⟩:=hp t (by omega)
   exact⟨by omega,b,c,d⟩
 ·rcases(show k<j∨k=j by omega)with g|rfl
  ·exact h7 i k (by omega) hin g hkn
  ·exact h9 i (by omega) (by omega) hin
theorem elimR.step{n:Nat}(hn:n≤4){A C C':Nat→Nat→Int}{r j m:Nat}(h:elimR n A C r j m)(hm:m<n)(h1:∀i k,i<n→k<n→i≠m→C' i k=C i k)(h2:∀k,k<n→C' m k=C m k*C r j-C r k*C m j):elimR n A C' r j (m+1):=by
 obtain⟨g1,g2,g3,g4,⟨U,hU,hC⟩,⟨p,hp⟩,g7,g8,g9⟩:=h
 refine⟨g1,g2,g3,by omega,⟨yL n (fun i k=>if i=m then(if k=m then C r j else if k=r then-C m j else 0)else if i=k then 1 else 0) U,?_,fun i k hi hk=>?_⟩,⟨p,fun t ht=>?_⟩,fun i k hi hin hk hkn=>?_,?_,fun i hi him hin=>?_⟩
 ·rw[YB hn]
  intro e
  rcases Int.mul_eq_zero.1 e with e|e
  ·exact awn hn hm g1 (by omega) (C r j) (C m j) g8 e
  ·exact hU e
 ·rw[Xv]
  show C' i k=qD (fun t=>(if i=m then(if t=m then C r j else if t=r then-C m j else 0)else if i=t then 1 else 0)*yL n U A t k) n
  by_cases e:i=m
  ·subst e
   have e2:qD (fun t=>(if i=i then(if t=i then C r j else if t=r then-C i j else 0)else if i=t then 1 else 0)*yL n U A t k) n=qD (fun t=>(if t=i then C r j*C i k else 0)+(if t=r then-C i j*C r k else 0)) n:=qO fun t ht=>by
    rw[if_pos rfl,←hC t k ht hk]
    by_cases a:t=i
    ·rw[if_pos a,if_pos a,if_neg (show ¬t=r by omega),a,Int.add_zero]
    ·rw[if_neg a,if_neg a]
     by_cases b:t=r
     ·rw[if_pos b,if_pos b,b,Int.zero_add]
     ·rw[if_neg b,if_neg b,Int.zero_mul,Int.add_zero]
   rw[e2,J4,jL (j:=i) hi (fun t _ hne=>if_neg hne),jL (j:=r) g1 (fun t _ hne=>if_neg hne),if_pos rfl,if_pos rfl,h2 k hk,Int.mul_comm (C i k),Int.neg_mul,Int.mul_comm (C r k)]
   omega
  ·rw[jL (j:=i) hi (fun t _ hne=>by rw[if_neg e,if_neg (fun h=>hne h.symm),Int.zero_mul]),if_neg e,if_pos rfl,Int.one_mul,h1 i k hi hk e]
   exact hC i k hi hk
 ·obtain⟨a,b,c,d⟩:=hp t ht
  refine⟨a,b,?_,fun s hts hsn=>?_⟩
  ·rw[h1 t (p t) (by omega) b (by omega)];exact c
  ·by_cases e:s=m
   ·rw[e,h2 _ b,d m (by omega) hm,d r (by omega) g1];simp
   ·rw[h1 s _ hsn b e];exact d s hts hsn
 ·by_cases e:i=m
  ·rw[e,h2 k hkn,g7 m k (by omega) hm hk hkn,g7 r k (by omega) g1 hk hkn];simp
  ·rw[h1 i k hin hkn e];exact g7 i k hi hin hk hkn
 ·rw[h1 r j g1 g3 (by omega)];exact g8
 ·by_cases e:i=m
  ·rw[e,h2 j g3,Int.mul_comm];omega
  ·rw[h1 i j hin g3 e];exact g9 i hi (by omega) hin
end Go.Ab
namespace Go.Ab
/-! ### Sums of powers of a matrix,at one scale-/
def p2(k:Nat):Int:=2^k
theorem zI(a b:Nat):p2 (a+b)=p2 a*p2 b:=Int.pow_add 2 a b
theorem ze(a:Nat):0<p2 a:=Int.pow_pos (by omega)
theorem Zj{a b c:Nat}(h:a=b+c):p2 a=p2 b*p2 c:=by rw[h,zI]
def brM(n:Nat)(P:Nat→Int)(A:Nat→Nat→Int)(m i j:Nat):Int:=qD (fun t=>P t*Y6 n A t i j*p2 (40000-3000*(t+1))) m
end Go.Ab
namespace Go.Ab
open Go Go.Proofs
/-! ### What polynomials of a matrix are worth-/
end Go.Ab
namespace Go.Ab
open Go Go.Proofs
/-! ### What rounded quotients are worth-/
theorem aNc(s:Bool)(a b:Nat)(hb:0<b):(s=false→rq s a b 3*b≤a)∧(s=true→a≤rq s a b 3*b)∧(s=false→a≤rq s a b 2*b)∧(s=true→rq s a b 2*b≤a):=by
 have h1:=Nat.div_add_mod a b
 have h2:=Nat.mod_lt a hb
 have h3:a/b*b=b*(a/b):=Nat.mul_comm _ _
 have h4:(a/b+1)*b=b*(a/b)+b:=by rw[Nat.add_mul,Nat.one_mul,Nat.mul_comm]
 unfold rq rup
 by_cases h:a % b=0
 ·simp only[if_pos h];refine⟨fun _=>?_,fun _=>?_,fun _=>?_,fun _=>?_⟩<;>omega
 ·simp only[if_neg h]
  cases s
  ·refine⟨fun _=>?_,(fun h=>by cases h),fun _=>?_,(fun h=>by cases h)⟩<;>simp<;>omega
  ·refine⟨fun h=>(by cases h),fun _=>?_,fun h=>(by cases h),fun _=>?_⟩<;>simp<;>omega
theorem blr(s:Bool)(m:Nat):sv s m=sv s 1*(m:Int):=by cases s<;>simp[sv]
theorem Zk{x y:ExV}{low mode:Int}{Kx Ky Kz:Nat}(hy0:y.m≠0)(hx: -(Kx:Int)≤x.e)(hy: -(Ky:Int)≤y.e)(hz: -(Kz:Int)≤low):
  ∃(a b:Nat) (f:Int),0<b∧0<f∧(x.over y low mode).val Kz*y.val Ky*p2 Kx=sv x.s 1*((rq (x.s != y.s) a b mode*b:Nat)*f)∧x.val Kx*p2 (Ky+Kz)=sv x.s 1*(a*f)∧((y.val Ky).natAbs:Int)*p2 ((low+Kz).toNat+Kx)=b*f:=by
 obtain⟨k,hk⟩:∃k,k=x.e-y.e-low:=⟨_,rfl⟩
 have hz':(x.over y low mode).val Kz=sv (x.s != y.s) (rq (x.s != y.s) (ovA x.m k) (ovA y.m (-k)) mode)*p2 (low+Kz).toNat:=by
  rw[hk]
  show dv Kz ((x.s != y.s)&&decide (ovQ (x.s != y.s) x.m x.e y.m y.e low mode≠0)) (ovQ (x.s != y.s) x.m x.e y.m y.e low mode) low=_
  rw[XA];rfl
 have hyv:y.val Ky=sv y.s y.m*p2 (y.e+Ky).toNat:=rfl
 have hxv:x.val Kx=sv x.s x.m*p2 (x.e+Kx).toNat:=rfl
 have hb:0<ovA y.m (-k):=Nat.mul_pos (Nat.pos_of_ne_zero hy0) (Nat.pow_pos (by omega))
 generalize hq:rq (x.s != y.s) (ovA x.m k) (ovA y.m (-k)) mode=q at*
 obtain⟨g,hg1,hg2⟩:∃g:Nat,(low+Kz).toNat+(y.e+Ky).toNat+Kx=(-k).toNat+g∧(x.e+Kx).toNat+(Ky+Kz)=k.toNat+g:=by
  refine⟨min ((low+Kz).toNat+(y.e+Ky).toNat+Kx) ((x.e+Kx).toNat+(Ky+Kz)),?_,?_⟩<;>omega
 have ea:((ovA x.m k:Nat):Int)=x.m*p2 k.toNat:=by unfold ovA p2;rw[Int.natCast_mul,Int.natCast_pow];rfl
 have eb:((ovA y.m (-k):Nat):Int)=y.m*p2 (-k).toNat:=by unfold ovA p2;rw[Int.natCast_mul,Int.natCast_pow];rfl
 refine⟨ovA x.m k,ovA y.m (-k),p2 g,hb,ze g,?_,?_,?_⟩
 ·rw[hq,hz',hyv,Int.natCast_mul,eb]
  have e1:p2 (low+Kz).toNat*p2 (y.e+Ky).toNat*p2 Kx=p2 (-k).toNat*p2 g:=by rw[←zI,←zI,hg1,zI]
  have e2:sv (x.s != y.s) q*sv y.s y.m=sv x.s 1*((q:Int)*y.m):=by
   cases x.s<;>cases y.s<;>(simp[sv];try grind)
  calc sv (x.s != y.s) q*p2 (low+Kz).toNat*(sv y.s y.m*p2 (y.e+Ky).toNat)*p2 Kx=(sv (x.s != y.s) q*sv y.s y.m)*(p2 (low+Kz).toNat*p2 (y.e+Ky).toNat*p2 Kx):=by grind
   _=_:=by rw[e1,e2];grind
 ·rw[hxv,ea,blr x.s x.m]
  have e1:p2 (x.e+Kx).toNat*p2 (Ky+Kz)=p2 k.toNat*p2 g:=by rw[←zI,hg2,zI]
  calc sv x.s 1*(x.m:Int)*p2 (x.e+Kx).toNat*p2 (Ky+Kz)=sv x.s 1*(x.m:Int)*(p2 (x.e+Kx).toNat*p2 (Ky+Kz)):=by rw[Int.mul_assoc]
   _=_:=by rw[e1];grind
 ·have e0:((y.val Ky).natAbs:Int)=y.m*p2 (y.e+Ky).toNat:=by
   have hp:=ze (y.e+Ky).toNat
   rw[hyv,Int.natAbs_mul,Je,Int.natCast_mul,show(((p2 (y.e+Ky).toNat).natAbs:Nat):Int)=p2 (y.e+Ky).toNat by omega]
  rw[e0,eb,zI]
  have e1:p2 (y.e+Ky).toNat*(p2 (low+Kz).toNat*p2 Kx)=p2 (-k).toNat*p2 g:=by rw[←zI,←zI,←zI,←hg1];exact congrArg p2 (by omega)
  calc (y.m:Int)*p2 (y.e+Ky).toNat*(p2 (low+Kz).toNat*p2 Kx)=(y.m:Int)*(p2 (y.e+Ky).toNat*(p2 (low+Kz).toNat*p2 Kx)):=by rw[Int.mul_assoc]
   _=_:=by rw[e1];grind
theorem aJc{x y:ExV}{low:Int}{Kx Ky Kz:Nat}(hy0:y.m≠0)(hx: -(Kx:Int)≤x.e)(hy: -(Ky:Int)≤y.e)(hz: -(Kz:Int)≤low):
  (y.s=false→(x.over y low 3).val Kz*y.val Ky*p2 Kx≤x.val Kx*p2 (Ky+Kz)∧x.val Kx*p2 (Ky+Kz)≤(x.over y low 2).val Kz*y.val Ky*p2 Kx)∧
  (y.s=true→x.val Kx*p2 (Ky+Kz)≤(x.over y low 3).val Kz*y.val Ky*p2 Kx∧(x.over y low 2).val Kz*y.val Ky*p2 Kx≤x.val Kx*p2 (Ky+Kz)):=by
 obtain⟨a,b,f,hb,hf,e1,e2,e3⟩:=Zk (mode:=3) hy0 hx hy hz
 obtain⟨a',b',f',hb',hf',e1',e2',e3'⟩:=Zk (mode:=2) hy0 hx hy hz
 obtain⟨h1,h2, -, -⟩:=aNc (x.s != y.s) a b hb
 obtain⟨-, -,h3,h4⟩:=aNc (x.s != y.s) a' b' hb'
 rw[e1,e1']
 have m1:∀p q:Nat,p≤q→(p:Int)*f≤q*f:=fun p q h=>Int.mul_le_mul_of_nonneg_right (by omega) (by omega)
 have m2:∀p q:Nat,p≤q→(p:Int)*f'≤q*f':=fun p q h=>Int.mul_le_mul_of_nonneg_right (by omega) (by omega)
 generalize rq (x.s != y.s) a b 3*b=q at*
 generalize rq (x.s != y.s) a' b' 2*b'=q' at*
 cases hxs:x.s<;>cases hys:y.s<;>rw[hxs,hys]at h1 h2 h3 h4<;>rw[hxs]at e2 e2'<;>simp only[sv]at* <;>refine⟨fun h=>?_,fun h=>?_⟩<;>first|(cases h;done)|skip
 ·have:=m1 _ _ (h1 rfl);have:=m2 _ _ (h3 rfl)
  constructor
  ·rw[e2];simp;omega
  ·rw[e2'];simp;omega
 ·have:=m1 _ _ (h2 rfl);have:=m2 _ _ (h4 rfl)
  constructor
  ·rw[e2];simp;omega
  ·rw[e2'];simp;omega
 ·have:=m1 _ _ (h2 rfl);have:=m2 _ _ (h4 rfl)
  constructor
  ·rw[e2];simp;omega
  ·rw[e2'];simp;omega
 ·have:=m1 _ _ (h1 rfl);have:=m2 _ _ (h3 rfl)
  constructor
  ·rw[e2];simp;omega
  ·rw[e2'];simp;omega
end Go.Ab
namespace Go.Ab
theorem ag8{a b c d x y m M:Int}(h1:a≤x)(h2:x≤b)(h3:c≤y)(h4:y≤d)(m1:m≤a*c)(m2:m≤a*d)(m3:m≤b*c)(m4:m≤b*d)(M1:a*c≤M)(M2:a*d≤M)(M3:b*c≤M)(M4:b*d≤M):m≤x*y∧x*y≤M:=by
 have key:∀e:Int,(a*e≤x*e∧x*e≤b*e)∨(b*e≤x*e∧x*e≤a*e):=fun e=>by
  rcases Int.le_total 0 e with h|h
  ·exact .inl ⟨Int.mul_le_mul_of_nonneg_right h1 h,Int.mul_le_mul_of_nonneg_right h2 h⟩
  ·exact .inr ⟨Int.mul_le_mul_of_nonpos_right h2 h,Int.mul_le_mul_of_nonpos_right h1 h⟩
 have kc:=key c
 have kd:=key d
 have ky:(x*c≤x*y∧x*y≤x*d)∨(x*d≤x*y∧x*y≤x*c):=by
  rcases Int.le_total 0 x with h|h
  ·exact .inl ⟨Int.mul_le_mul_of_nonneg_left h3 h,Int.mul_le_mul_of_nonneg_left h4 h⟩
  ·exact .inr ⟨Int.mul_le_mul_of_nonpos_left h h4,Int.mul_le_mul_of_nonpos_left h h3⟩
 omega
end Go.Ab
namespace Go.Ab
open Go Go.Proofs
/-! ### Rational points of intervals-/
theorem acF{K:Nat}:∀(l:List ExV) (m:ExV), -(K:Int)≤m.e→eK K l→(l.foldl qU m).val K≤m.val K∧(∀x∈l,(l.foldl qU m).val K≤x.val K)∧ -(K:Int)≤(l.foldl qU m).e
 | [],m,hm,_=>⟨Int.le_refl _,(fun x hx=>by cases hx),hm⟩
 |y::l,m,hm,hl=>by
  have hy:=hl y (List.mem_cons_self ..)
  have hl':eK K l:=fun x hx=>hl x (List.mem_cons_of_mem _ hx)
  have h1:(qU m y).val K≤m.val K∧(qU m y).val K≤y.val K∧ -(K:Int)≤(qU m y).e:=by
   rcases Int.lt_or_le (y.val K) (m.val K)with g|g
   ·have e:qU m y=y:=by
     unfold qU
     rw[yi hy hm,if_pos (by unfold zH;rw[if_pos g];decide)]
    rw[e];exact⟨Int.le_of_lt g,Int.le_refl _,hy⟩
   ·have e:qU m y=m:=by
     unfold qU
     rw[yi hy hm,if_neg (by unfold zH;rw[if_neg (by omega)];split<;>omega)]
    rw[e];exact⟨Int.le_refl _,g,hm⟩
  obtain⟨g1,g2,g3⟩:=acF l (qU m y) h1.2.2 hl'
  refine⟨Int.le_trans g1 h1.1,fun x hx=>?_,g3⟩
  rcases List.mem_cons.1 hx with rfl|hx
  ·exact Int.le_trans g1 h1.2.1
  ·exact g2 x hx
theorem aiV{K:Nat}:∀(l:List ExV) (m:ExV), -(K:Int)≤m.e→eK K l→m.val K≤(l.foldl zb m).val K∧(∀x∈l,x.val K≤(l.foldl zb m).val K)∧ -(K:Int)≤(l.foldl zb m).e
 | [],m,hm,_=>⟨Int.le_refl _,(fun x hx=>by cases hx),hm⟩
 |y::l,m,hm,hl=>by
  have hy:=hl y (List.mem_cons_self ..)
  have hl':eK K l:=fun x hx=>hl x (List.mem_cons_of_mem _ hx)
  have h1:m.val K≤(zb m y).val K∧y.val K≤(zb m y).val K∧ -(K:Int)≤(zb m y).e:=by
   rcases Int.lt_or_le (m.val K) (y.val K)with g|g
   ·have e:zb m y=y:=by
     unfold zb
     rw[yi hy hm,if_pos (by unfold zH;rw[if_neg (by omega),if_pos g];decide)]
    rw[e];exact⟨Int.le_of_lt g,Int.le_refl _,hy⟩
   ·have e:zb m y=m:=by
     unfold zb
     rw[yi hy hm,if_neg (by unfold zH;split<;>(try split)<;>omega)]
    rw[e];exact⟨Int.le_refl _,g,hm⟩
  obtain⟨g1,g2,g3⟩:=aiV l (zb m y) h1.2.2 hl'
  refine⟨Int.le_trans h1.1 g1,fun x hx=>?_,g3⟩
  rcases List.mem_cons.1 hx with rfl|hx
  ·exact Int.le_trans h1.2.1 g1
  ·exact g2 x hx
theorem yA{K:Nat}{l:List ExV}(h:eK K l):(∀x∈l,(zq l).val K≤x.val K)∧ -(K:Int)≤(zq l).e:=by
 cases l with
 |nil=>exact⟨(fun x hx=>by cases hx),by show-(K:Int)≤0;omega⟩
 |cons y l=>
  obtain⟨g1,g2,g3⟩:=acF (K:=K) l y (h y (List.mem_cons_self ..)) fun x hx=>h x (List.mem_cons_of_mem _ hx)
  refine⟨fun x hx=>?_,g3⟩
  rcases List.mem_cons.1 hx with rfl|hx
  ·exact g1
  ·exact g2 x hx
theorem Qr{K:Nat}{l:List ExV}(h:eK K l):(∀x∈l,x.val K≤(zh l).val K)∧ -(K:Int)≤(zh l).e:=by
 cases l with
 |nil=>exact⟨(fun x hx=>by cases hx),by show-(K:Int)≤0;omega⟩
 |cons y l=>
  obtain⟨g1,g2,g3⟩:=aiV (K:=K) l y (h y (List.mem_cons_self ..)) fun x hx=>h x (List.mem_cons_of_mem _ hx)
  refine⟨fun x hx=>?_,g3⟩
  rcases List.mem_cons.1 hx with rfl|hx
  ·exact g1
  ·exact g2 x hx
def SpV.eK(K:Nat)(s:SpV):Prop:= -(K:Int)≤s.lo.e∧ -(K:Int)≤s.hi.e
def inS(K:Nat)(s:SpV)(N D:Int):Prop:=s.lo.val K*D≤N∧N≤s.hi.val K*D
theorem aZB{K:Nat}{x:ExV}{D:Int}:inS K ⟨x,x⟩ (x.val K*D) D:=⟨Int.le_refl _,Int.le_refl _⟩
theorem times_eK{K K':Nat}{s t:SpV}(hs:s.eK K)(ht:t.eK K'):eK (K+K') (qG ExV.times s t):=fun x hx=>by
 obtain⟨a,b⟩:=hs
 obtain⟨c,d⟩:=ht
 simp only[qG,List.mem_cons,List.not_mem_nil,or_false]at hx
 rcases hx with rfl|rfl|rfl|rfl
 ·show _≤s.lo.e+t.lo.e;omega
 ·show _≤s.lo.e+t.hi.e;omega
 ·show _≤s.hi.e+t.lo.e;omega
 ·show _≤s.hi.e+t.hi.e;omega
theorem SpV.times_eK{K K':Nat}{s t:SpV}(hs:s.eK K)(ht:t.eK K'):(s.times t).eK (K+K'):=⟨(yA (Go.Ab.times_eK hs ht)).2,(Qr (Go.Ab.times_eK hs ht)).2⟩
theorem avI{K K':Nat}{s t:SpV}{N D N' D':Int}(hs:s.eK K)(ht:t.eK K')(hD:0<D)(hD':0<D')(h:inS K s N D)(h':inS K' t N' D'):inS (K+K') (s.times t) (N*N') (D*D'):=by
 have he:=Go.Ab.times_eK hs ht
 obtain⟨l1, -⟩:=yA he
 obtain⟨m1, -⟩:=Qr he
 have hDD:0≤D*D':=Int.le_of_lt (Int.mul_pos hD hD')
 obtain⟨a,b⟩:=hs
 obtain⟨c,d⟩:=ht
 have f:∀x y:ExV, -(K:Int)≤x.e→ -(K':Int)≤y.e→(x.times y).val (K+K')*(D*D')=(x.val K*D)*(y.val K'*D'):=fun x y hx hy=>by
  rw[yu hx hy];grind
 have L:∀x∈qG ExV.times s t,(zq (qG ExV.times s t)).val (K+K')*(D*D')≤x.val (K+K')*(D*D'):=fun x hx=>Int.mul_le_mul_of_nonneg_right (l1 x hx) hDD
 have M:∀x∈qG ExV.times s t,x.val (K+K')*(D*D')≤(zh (qG ExV.times s t)).val (K+K')*(D*D'):=fun x hx=>Int.mul_le_mul_of_nonneg_right (m1 x hx) hDD
 have i1:s.lo.times t.lo∈qG ExV.times s t:=by simp[qG]
 have i2:s.lo.times t.hi∈qG ExV.times s t:=by simp[qG]
 have i3:s.hi.times t.lo∈qG ExV.times s t:=by simp[qG]
 have i4:s.hi.times t.hi∈qG ExV.times s t:=by simp[qG]
 have L1:=L _ i1
 have L2:=L _ i2
 have L3:=L _ i3
 have L4:=L _ i4
 have M1:=M _ i1
 have M2:=M _ i2
 have M3:=M _ i3
 have M4:=M _ i4
 rw[f _ _ a c]at L1 M1
 rw[f _ _ a d]at L2 M2
 rw[f _ _ b c]at L3 M3
 rw[f _ _ b d]at L4 M4
 exact ag8 h.1 h.2 h'.1 h'.2 L1 L2 L3 L4 M1 M2 M3 M4
theorem SpV.plus_eK{K:Nat}{s t:SpV}(hs:s.eK K)(ht:t.eK K):(s.plus t).eK K:=⟨yf hs.1 ht.1,yf hs.2 ht.2⟩
theorem ai5{K:Nat}{s t:SpV}{N N' D:Int}(hs:s.eK K)(ht:t.eK K)(h:inS K s N D)(h':inS K t N' D):inS K (s.plus t) (N+N') D:=by
 obtain⟨a,b⟩:=h
 obtain⟨c,d⟩:=h'
 constructor
 ·show(s.lo.plus t.lo).val K*D≤_
  rw[zB hs.1 ht.1,Int.add_mul];omega
 ·show _≤(s.hi.plus t.hi).val K*D
  rw[zB hs.2 ht.2,Int.add_mul];omega
theorem aZz{K j:Nat}{s:SpV}{N D:Int}(hs:s.eK K)(h:inS K s N D):inS (K+j) s (N*p2 j) D:=by
 have hp:=ze j
 obtain⟨a,b⟩:=h
 have e1:s.lo.val (K+j)=s.lo.val K*p2 j:=ain hs.1
 have e2:s.hi.val (K+j)=s.hi.val K*p2 j:=ain hs.2
 constructor
 ·have:=Int.mul_le_mul_of_nonneg_right a (Int.le_of_lt hp)
  rw[e1,Int.mul_right_comm];exact this
 ·have:=Int.mul_le_mul_of_nonneg_right b (Int.le_of_lt hp)
  rw[e2,Int.mul_right_comm];exact this
theorem aUe{K:Nat}{s:SpV}{N D:Int}(hs:s.eK K):inS K s.can N D↔inS K s N D:=by
 unfold inS
 rw[show s.can.lo=s.lo.can from rfl,show s.can.hi=s.hi.can from rfl,z7 hs.1,z7 hs.2]
theorem SpV.can_eK{K:Nat}{s:SpV}(hs:s.eK K):s.can.eK K:=⟨aVQ hs.1 (by omega),aVQ hs.2 (by omega)⟩
theorem aZC{K:Nat}{s:SpV}{N D:Int}(hD:0<D)(h:inS K s N D):s.lo.val K≤s.hi.val K:=Int.le_of_mul_le_mul_right (Int.le_trans h.1 h.2) hD
theorem aNY{K j:Nat}{x y:ExV}(hx: -(K:Int)≤x.e)(hy: -(K:Int)≤y.e):x.val K≤y.val K↔x.val (K+j)≤y.val (K+j):=by
 rw[ain hx,ain hy]
 have hp:(0:Int)<2^j:=ze j
 exact⟨fun h=>Int.mul_le_mul_of_nonneg_right h (Int.le_of_lt hp),fun h=>Int.le_of_mul_le_mul_right h hp⟩
theorem aug{K:Nat}{s:SpV}(hK:3000≤K)(hs:s.eK K)(h:s.lo.val K≤s.hi.val K):s.tel.ok=true:=by
 unfold SpV.tel
 split
 ·rename_i hf
  have hf:(s.lo.fit&&s.hi.fit)=true:=hf
  rw[Bool.and_eq_true]at hf
  have o1:=aNM hf.1
  have o2:=aNM hf.2
  show(s.lo.can.ok&&(s.hi.can.ok&&decide (s.lo.can.val 3000≤s.hi.can.val 3000)))=true
  rw[o1,o2,Bool.true_and,Bool.true_and]
  refine decide_eq_true ((aNY (j:=K-3000) (yl o1).1.1 (yl o2).1.1).2 ?_)
  rw[show 3000+(K-3000)=K by omega,z7 hs.1,z7 hs.2]
  exact h
 ·decide+kernel
theorem aiy{s:SpV}(h:s.ok=true):s.eK 3000∧s.lo.val 3000≤s.hi.val 3000∧s.lo.ok=true∧s.hi.ok=true:=by
 have h:(s.lo.ok&&(s.hi.ok&&decide (s.lo.val 3000≤s.hi.val 3000)))=true:=h
 simp only[Bool.and_eq_true,decide_eq_true_eq]at h
 exact⟨⟨(yl h.1).1.1,(yl h.2.1).1.1⟩,h.2.2,h.1,h.2.1⟩
end Go.Ab
namespace Go.Ab
open Go Go.Proofs
/-! ### Matrices of intervals-/
structure imatV(n:Nat)(S:List SpV):Prop where
 n1:1≤n
 n4:n≤4
 len:S.length=n*n
 ok:∀s∈S,s.ok=true
theorem imatV.l16{n:Nat}{S:List SpV}(h:imatV n S):S.length≤16:=by rw[h.len];exact jU h.n4
theorem imatV.bd{n:Nat}{S:List SpV}(h:imatV n S):sbd (-3000) 4600 S:=fun s hs=>aR7 (h.ok s hs)
def aNs(k:Int)(M:List IvV):Bool:=(decide (1≤k)&&decide (k≤4))&&(decide ((M.length:Int)=k*k)&&M.all ivB)
theorem aSl(S:List SpV):ql IvV.cs (S.map SpV.iv)=ql SpV.cs S:=by unfold ql;rw[List.map_map];rfl
theorem bl3{k:Int}{M:List IvV}(h:aNs k M=true):∃(n:Nat) (S:List SpV),k=n∧M=S.map SpV.iv∧imatV n S:=by
 simp only[aNs,Bool.and_eq_true,decide_eq_true_eq,List.all_eq_true]at h
 obtain⟨⟨h1,h2⟩,h3,h4⟩:=h
 obtain⟨n,rfl⟩:=Int.eq_ofNat_of_zero_le (show 0≤k by omega)
 have hm:M=(M.map IvV.sp).map SpV.iv:=by
  rw[List.map_map]
  conv=>lhs;rw[←List.map_id M]
  refine List.map_congr_left fun v hv=>?_
  obtain⟨s,e, -⟩:=aZy (h4 v hv)
  show v=(IvV.sp v).iv
  rw[e]
  show s.iv=SpV.iv ⟨s.lo.dyv.ex,s.hi.dyv.ex⟩
  rw[ahq,ahq]
 refine⟨n,M.map IvV.sp,rfl,hm,by omega,by omega,?_,fun s hs=>?_⟩
 ·rw[List.length_map];exact_mod_cast h3
 ·obtain⟨v,hv,rfl⟩:=List.mem_map.1 hs
  have hb:=h4 v hv
  obtain⟨s,e,ho⟩:=aZy hb
  rw[e]
  show SpV.ok ⟨s.lo.dyv.ex,s.hi.dyv.ex⟩=true
  rw[ahq,ahq];exact ho
theorem avK{n:Nat}{S:List SpV}(h:imatV n S):aNs n (S.map SpV.iv)=true:=by
 unfold aNs
 simp only[Bool.and_eq_true,decide_eq_true_eq,List.all_eq_true]
 refine⟨⟨by have:=h.n1;omega,by have:=h.n4;omega⟩,by rw[List.length_map,h.len,Int.natCast_mul],fun v hv=>?_⟩
 obtain⟨s,hs,rfl⟩:=List.mem_map.1 hv
 rw[aNw];exact h.ok s hs
theorem avJ{n:Nat}{S:List SpV}(h:imatV n S):∀v∈S.map SpV.iv,aWN v:=fun v hv=>by
 obtain⟨s,hs,rfl⟩:=List.mem_map.1 hv
 exact aT2 (h.ok s hs)
def fN(n:Nat)(l:List SpV):Nat:=if l.all SpV.fit=true then n else 0
def fT(l:List SpV):List SpV:=if l.all SpV.fit=true then l.map SpV.can else []
theorem bnP{n K:Nat}{l:List SpV}(hK:3000≤K)(h1:1≤n)(h4:n≤4)(hl:l.length=n*n)(he:∀s∈l,s.eK K∧s.lo.val K≤s.hi.val K)(h:l.all SpV.fit=true):fN n l=n∧fT l=l.map SpV.can∧imatV n (l.map SpV.can):=by
 refine⟨if_pos h,if_pos h,h1,h4,by rw[List.length_map];exact hl,fun s hs=>?_⟩
 obtain⟨t,ht,rfl⟩:=List.mem_map.1 hs
 have:=aug hK (he t ht).1 (he t ht).2
 rw[show t.tel=t.can from if_pos (List.all_eq_true.1 h t ht)]at this
 exact this
def bse(k:Int)(M:List IvV)(k':Int)(M':List IvV):Bool:=aNs k M&&(aNs k' M'&&decide (k=k'))
def br1(S:List SpV)(L:List ExV)(k:Nat):Bool:=(List.range k).all fun i=>bqM (S.getD i sp0) (L.getD i ex0)
end Go.Ab
namespace Go.Ab
open Go Go.Proofs
/-! ### Drawn matrices of intervals-/
theorem jB(n:Nat)(hn:n≤4):Con Tryz.prog 130 false [.v (.int .i64 n)] [] (fun r hs bs=>r=.ag [.v (.int .i64 n),.rf 0 0 (n*n)]∧hs=[.own 6 (zG (n*n) z6)]):=by
 have hq:=jU hn
 have hz:((n:Int)*n).toNat=n*n:=by rw[←Int.natCast_mul];rfl
 have hz2:(n:Int)*n=((n*n:Nat):Int):=(Int.natCast_mul n n).symm
 refine Con.of_aw Tryz.func130 rfl Tryz.ntmps130 (by simp) (by simp) (by simp) (W.sound ?_)
 show @W Tryz.prog 9 ⟨_⟩ ⟨fun x σ=>@zl _ _ _ ⟨_⟩ _ ⟨_⟩ x σ⟩ _ _
 simp(disch:=omega)only[go_sem]
 rw[hz]
 refine⟨by rw[hz2];omega,qm [(0,90000000)] [.own 6 (zG (n*n) z6)] [] [.ag [.v (.int .i64 n),.rf 0 0 (n*n)]] rfl (by simp(disch:=omega)only[go_sem]) (by simp(disch:=omega)only[go_sem,aL2,aL3];rfl) (by simp) (by simp) ⟨rfl,rfl⟩⟩
theorem aw0(n:Nat)(L:List ExV)(hn:n≤4)(hl:L.length=n*n):Con Tryz.prog 133 false [.ag [.v (.int .i64 (n)),.sl (L).length (ql ExV.cs (L))]] [] (fun r hs bs=>r=.ag [.v (.int .i64 n),.rf 0 0 (n*n)]∧hs=[.own 6 (ql SpV.cs (L.map ptS))]):=by
 have hq:=jU hn
 refine Con.of_aw Tryz.func133 rfl Tryz.ntmps133 (by simp) (by simp) (by simp) (W.sound ?_)
 show @W Tryz.prog 31 ⟨_⟩ ⟨fun x σ=>@zl _ _ _ ⟨_⟩ _ ⟨_⟩ x σ⟩ _ _
 simp(disch:=omega)only[go_sem]
 refine qF (jB n hn) (by simp(disch:=omega)only[go_sem]) ?_
 rintro r hs ⟨rfl,rfl⟩
 refine⟨by simp[qL];simp(disch:=omega)only[go_sem],?_⟩
 simp(disch:=omega)only[go_sem]
 refine qj (fun i:Nat=>[(1,.pt 1 0),(2,.pt 2 0),(3,.pt 3 0),(4,.v (.int .i64 i))])
  (fun i=>[(1,.own 0 [.v (.int .i64 n),.sl L.length (ql ExV.cs L)]),(2,.own 0 [.v (.int .i64 0),.v (.slice none 0 0)]),(3,.own 0 [.v (.int .i64 n),.rf 4 0 (n*n)]),(4,.own 6 (ql SpV.cs (mpT L ptS i)++zG (n*n-i) z6))]) (fun i=>i≤n*n) (fun i=>n*n-i) 0 (by omega)
  (Le.lst [(1,30000000),(2,40000000),(3,50000000),(4,90000000)] _ _ rfl (by simp(disch:=omega)only[go_sem]) (by simp(disch:=omega)only[go_sem,Zm,yb,List.nil_append];try rfl)) ?_
 intro i hi
 simp(disch:=omega)only[go_sem]
 refine qi (fun c1=>?_) (fun c1=>?_)
 ·have hi2:i<L.length:=by omega
  have hcut:=jy hi2
  have hml:=zK (F:=ptS) (l:=L) (i:=i) (by omega)
  have hms:=jF (F:=ptS) ex0 hi2
  obtain⟨k,hk⟩:∃k,n*n-i=k+1:=⟨n*n-i-1,by omega⟩
  generalize L.getD i ex0=x at*
  rw[hk]
  simp(disch:=omega)only[go_sem,c1]
  refine qv rfl [⟨0,[],[]⟩,⟨1,[],[]⟩,⟨2,[1],[]⟩,⟨3,[1],[]⟩,⟨4,[1],[]⟩,⟨5,[1,4],[]⟩,⟨6,[1],[]⟩,⟨7,[1],[]⟩,⟨8,[1,4,7],[]⟩,⟨9,[1,4,7],[]⟩,⟨10,[1,4,7,9],[]⟩,⟨11,[1,4,7],[]⟩,⟨12,[1,4,7],[]⟩,⟨13,[1],[]⟩,⟨14,[],[]⟩,⟨15,[],[]⟩] (by kernel_rfl) ?_
  simp(disch:=omega)only[go_sem,hcut]
  have hf:=yN (L:=mpT L ptS i) (k:=k) (x:=ptS x)
  rw[hml]at hf
  change wr (ql SpV.cs (mpT L ptS i)++zG (k+1) z6) (i*6) [.v (.bool x.s),.sl (lim x.m).length (qg (lim x.m)),.v (.int .i64 x.e),.v (.bool x.s),.sl (lim x.m).length (qg (lim x.m)),.v (.int .i64 x.e)]=_ at hf
  rw[hf]
  refine⟨by omega,by omega,by omega,by omega,by omega,by rw[List.length_append,yc,Jc,hml];omega,qe (i+1) [] (by show i+1≤n*n;omega) (by show n*n-(i+1)<k+1;omega) rfl (by simp(disch:=omega)only[go_sem];try omega) (by simp(disch:=omega)only[go_sem,hms,show n*n-(i+1)=k by omega])⟩
 ·obtain rfl:i=n*n:=by omega
  simp(disch:=omega)only[go_sem,c1]
  have hall:mpT L ptS (n*n)=L.map ptS:=by rw[←hl,yh]
  refine qm [(0,4)] [.own 6 (ql SpV.cs (L.map ptS))] [] [.ag [.v (.int .i64 n),.rf 0 0 (n*n)]] rfl (by simp(disch:=omega)only[go_sem]) (by simp(disch:=omega)only[go_sem,hall,Nat.sub_self,Q8,List.append_nil]) (by simp) (by simp) ⟨rfl,rfl⟩
def brT(r:AV):Prop:=∃(n:Int) (l:List IvV),l.length≤16∧(∀v∈l,aWN v)∧r=.ag [.v (.int .i64 n),.sl l.length (ql IvV.cs l)]
section
variable (l:List UInt8)(hl:l.length≤9223372036854775807)(i h:Int)(hi:0≤i∧i≤l.length)
include hl hi
end
def brW(M:List IvV):Prop:=M.length≤16∧∀v∈M,aWN v
end Go.Ab
