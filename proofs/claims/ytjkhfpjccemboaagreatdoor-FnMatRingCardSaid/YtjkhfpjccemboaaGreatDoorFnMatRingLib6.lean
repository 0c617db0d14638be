/- What the proof of this claim stands on: the walks of the functions and the plain laws, part 6. -/
import Derived.Test.YtjkhfpjccemboaaGreatDoorFnMatRingLib5
import Derived.Test.YtjkhfpjccemboaaGreatDoorRows
import Derived.Test.YtjkhfpjccemboaaGreatDoorCards
import Derived.Test.YtjkhfpjccemboaaGreatDoorTie
import Derived.Handed
import Derived.ChangeSame
import Derived.JoinedOf
import Derived.RowKit
import Derived.WalkKit
import Derived.ProofKit
import Derived.OpenShut
import Derived.LaidLaws
import Derived.LaidHandle
import Derived.SevenTiedAt
import Derived.Stop.LaidErr
import Derived.Lib.LaidTab
import Derived.SizedLaws
set_option linter.unusedVariables false
set_option linter.unusedSimpArgs false
namespace Go.Ab
open Go Go.Proofs
/-! ### Matrices that were told,or not-/
def optM(n N:Nat)(T:List ExV):Prop:=(N=n∧matV n T)∨(N=0∧T=[])
theorem Zu{n:Nat}{l:List ExV}(h1:1≤n)(h4:n≤4)(hl:l.length=n*n):optM n (gN n l) (gT l):=by
 cases hf:l.all ExV.fit
 ·exact .inr ⟨if_neg (by rw[hf];simp),if_neg (by rw[hf];simp)⟩
 ·obtain⟨e1,e2,e3⟩:=Qp (l:=l) h1 h4 hl hf
  exact .inl ⟨e1,by rw[e2];exact e3⟩
def bbq(M:List DyV):Prop:=M.length≤16∧∀d∈M,d.xs.length≤200
theorem matV.lens{n:Nat}{L:List ExV}(h:matV n L):bbq (L.map ExV.dyv):=⟨by rw[List.length_map];exact h.l16,fun d hd=>by
 obtain⟨x,hx,rfl⟩:=List.mem_map.1 hd
 have:=(jE (h.ok x hx)).2.2.1
 show(lim x.m).length≤200
 omega⟩
theorem optM.lens{n N:Nat}{T:List ExV}(h:optM n N T):bbq (T.map ExV.dyv):=by
 rcases h with⟨-,h⟩|⟨-,rfl⟩
 ·exact h.lens
 ·exact⟨by simp,by simp⟩
theorem aiT(M:List DyV):Jt ((0:Nat):Int) M=false:=by unfold Jt;simp
theorem ZX(n:Nat)(L:List ExV)(h:matV n L):Con Tryz.prog 33 true [.ag [.v (.int .i64 (n)),.sl (L).length (qm ExV.cs (L))]] [] (isA (.v (.bool true))):=by
 have c:=jm n (L.map ExV.dyv) h.lens.1 h.lens.2
 rw[zK,List.length_map,show Jt (n:Int) (L.map ExV.dyv)=true by
  have:=aoN (n:Int) L
  rw[show L.map ExV.dyv=L.map ExV.dy from rfl,this]
  unfold aEc
  simp only[Bool.and_eq_true,decide_eq_true_eq,List.all_eq_true]
  exact⟨⟨by have:=h.n1;omega,by have:=h.n4;omega⟩,by rw[h.len,Int.natCast_mul],h.ok⟩]at c
 exact c
theorem Z0(n N N':Nat)(T T':List ExV)(h1:1≤n)(h4:n≤4)(h:optM n N T)(h':optM n N' T'):Con Tryz.prog 21 false [.ag [.v (.int .i64 (N)),.sl (T).length (qm ExV.cs (T))],.ag [.v (.int .i64 (N')),.sl (T').length (qm ExV.cs (T'))]] []
  (fun r hs bs=>hs=[]∧bs=[]∧∃(N2:Nat) (T2:List ExV) (b:Bool),optM n N2 T2∧(b=true→(N=n∧matV n T)∧(N'=n∧matV n T')∧(zg n T T').all ExV.fit=true∧(N2=n∧matV n T2)∧T2=(zg n T T').map ExV.can)∧r=.tu [.ag [.v (.int .i64 (N2)),.sl (T2).length (qm ExV.cs (T2))],.v (.bool b)]):=by
 have l1:=h.lens
 have l2:=h'.lens
 have bad:JN N (T.map ExV.dyv) N' (T'.map ExV.dyv)=false→Con Tryz.prog 21 false [.ag [.v (.int .i64 (N)),.sl (T).length (qm ExV.cs (T))],.ag [.v (.int .i64 (N')),.sl (T').length (qm ExV.cs (T'))]] [] (isA (.tu [.ag [.v (.int .i64 0),.sl 0 []],.v (.bool false)])):=fun hb=>by
  have c:=jh N N' (T.map ExV.dyv) (T'.map ExV.dyv) l1.1 l1.2 l2.1 l2.2 hb
  rw[zK,zK,List.length_map,List.length_map]at c
  exact c
 have fin:∀{r:AV} {hs bs:List Ob},isA (.tu [.ag [.v (.int .i64 0),.sl 0 []],.v (.bool false)]) r hs bs→hs=[]∧bs=[]∧∃(N2:Nat) (T2:List ExV) (b:Bool),optM n N2 T2∧(b=true→(N=n∧matV n T)∧(N'=n∧matV n T')∧(zg n T T').all ExV.fit=true∧(N2=n∧matV n T2)∧T2=(zg n T T').map ExV.can)∧r=.tu [.ag [.v (.int .i64 (N2)),.sl (T2).length (qm ExV.cs (T2))],.v (.bool b)]:=
  fun⟨a,b,c⟩=>⟨b,c,0,[],false,.inr ⟨rfl,rfl⟩,(fun h=>by cases h),a⟩
 rcases h with⟨rfl,hT⟩|⟨rfl,rfl⟩
 ·rcases h' with⟨rfl,hT'⟩|⟨rfl,rfl⟩
  ·refine(ZZ _ T T' hT hT').mono fun r hs bs ⟨a,b,c⟩=>⟨b,c,_,_,_,Zu (l:=zg _ T T') h1 h4 zi,fun hf=>?_,a⟩
   obtain⟨e1,e2,e3⟩:=Qp (l:=zg _ T T') h1 h4 zi hf
   exact⟨⟨rfl,hT⟩,⟨rfl,hT'⟩,hf,⟨e1,by rw[e2];exact e3⟩,e2⟩
  ·exact(bad (by unfold JN;rw[aiT,Bool.false_and,Bool.and_false])).mono fun r hs bs h=>fin h
 ·exact(bad (by unfold JN;rw[aiT,Bool.false_and])).mono fun r hs bs h=>fin h
theorem adW(n N N':Nat)(T T':List ExV)(h1:1≤n)(h4:n≤4)(h:optM n N T)(h':optM n N' T'):Con Tryz.prog 36 false [.ag [.v (.int .i64 (N)),.sl (T).length (qm ExV.cs (T))],.ag [.v (.int .i64 (N')),.sl (T').length (qm ExV.cs (T'))]] []
  (fun r hs bs=>hs=[]∧bs=[]∧∃(N2:Nat) (T2:List ExV) (b:Bool),optM n N2 T2∧(b=true→(N=n∧matV n T)∧(N'=n∧matV n T')∧(zm n T T').all ExV.fit=true∧(N2=n∧matV n T2)∧T2=(zm n T T').map ExV.can)∧r=.tu [.ag [.v (.int .i64 (N2)),.sl (T2).length (qm ExV.cs (T2))],.v (.bool b)]):=by
 have l1:=h.lens
 have l2:=h'.lens
 have bad:JN N (T.map ExV.dyv) N' (T'.map ExV.dyv)=false→Con Tryz.prog 36 false [.ag [.v (.int .i64 (N)),.sl (T).length (qm ExV.cs (T))],.ag [.v (.int .i64 (N')),.sl (T').length (qm ExV.cs (T'))]] [] (isA (.tu [.ag [.v (.int .i64 0),.sl 0 []],.v (.bool false)])):=fun hb=>by
  have c:=YD N N' (T.map ExV.dyv) (T'.map ExV.dyv) l1.1 l1.2 l2.1 l2.2 hb
  rw[zK,zK,List.length_map,List.length_map]at c
  exact c
 have fin:∀{r:AV} {hs bs:List Ob},isA (.tu [.ag [.v (.int .i64 0),.sl 0 []],.v (.bool false)]) r hs bs→hs=[]∧bs=[]∧∃(N2:Nat) (T2:List ExV) (b:Bool),optM n N2 T2∧(b=true→(N=n∧matV n T)∧(N'=n∧matV n T')∧(zm n T T').all ExV.fit=true∧(N2=n∧matV n T2)∧T2=(zm n T T').map ExV.can)∧r=.tu [.ag [.v (.int .i64 (N2)),.sl (T2).length (qm ExV.cs (T2))],.v (.bool b)]:=
  fun⟨a,b,c⟩=>⟨b,c,0,[],false,.inr ⟨rfl,rfl⟩,(fun h=>by cases h),a⟩
 rcases h with⟨rfl,hT⟩|⟨rfl,rfl⟩
 ·rcases h' with⟨rfl,hT'⟩|⟨rfl,rfl⟩
  ·refine(ZW _ T T' hT hT').mono fun r hs bs ⟨a,b,c⟩=>⟨b,c,_,_,_,Zu (l:=zm _ T T') h1 h4 zi,fun hf=>?_,a⟩
   obtain⟨e1,e2,e3⟩:=Qp (l:=zm _ T T') h1 h4 zi hf
   exact⟨⟨rfl,hT⟩,⟨rfl,hT'⟩,hf,⟨e1,by rw[e2];exact e3⟩,e2⟩
  ·exact(bad (by unfold JN;rw[aiT,Bool.false_and,Bool.and_false])).mono fun r hs bs h=>fin h
 ·exact(bad (by unfold JN;rw[aiT,Bool.false_and])).mono fun r hs bs h=>fin h
theorem zV(n N N':Nat)(T T':List ExV)(h1:1≤n)(h4:n≤4)(h:optM n N T)(h':optM n N' T'):Con Tryz.prog 22 false [.ag [.v (.int .i64 (N)),.sl (T).length (qm ExV.cs (T))],.ag [.v (.int .i64 (N')),.sl (T').length (qm ExV.cs (T'))]] []
  (fun r hs bs=>hs=[]∧bs=[]∧∃(N2:Nat) (T2:List ExV) (b:Bool),optM n N2 T2∧(b=true→(N=n∧matV n T)∧(N'=n∧matV n T')∧(zk n T T').all ExV.fit=true∧(N2=n∧matV n T2)∧T2=(zk n T T').map ExV.can)∧r=.tu [.ag [.v (.int .i64 (N2)),.sl (T2).length (qm ExV.cs (T2))],.v (.bool b)]):=by
 have l1:=h.lens
 have l2:=h'.lens
 have bad:JN N (T.map ExV.dyv) N' (T'.map ExV.dyv)=false→Con Tryz.prog 22 false [.ag [.v (.int .i64 (N)),.sl (T).length (qm ExV.cs (T))],.ag [.v (.int .i64 (N')),.sl (T').length (qm ExV.cs (T'))]] [] (isA (.tu [.ag [.v (.int .i64 0),.sl 0 []],.v (.bool false)])):=fun hb=>by
  have c:=YE N N' (T.map ExV.dyv) (T'.map ExV.dyv) l1.1 l1.2 l2.1 l2.2 hb
  rw[zK,zK,List.length_map,List.length_map]at c
  exact c
 have fin:∀{r:AV} {hs bs:List Ob},isA (.tu [.ag [.v (.int .i64 0),.sl 0 []],.v (.bool false)]) r hs bs→hs=[]∧bs=[]∧∃(N2:Nat) (T2:List ExV) (b:Bool),optM n N2 T2∧(b=true→(N=n∧matV n T)∧(N'=n∧matV n T')∧(zk n T T').all ExV.fit=true∧(N2=n∧matV n T2)∧T2=(zk n T T').map ExV.can)∧r=.tu [.ag [.v (.int .i64 (N2)),.sl (T2).length (qm ExV.cs (T2))],.v (.bool b)]:=
  fun⟨a,b,c⟩=>⟨b,c,0,[],false,.inr ⟨rfl,rfl⟩,(fun h=>by cases h),a⟩
 rcases h with⟨rfl,hT⟩|⟨rfl,rfl⟩
 ·rcases h' with⟨rfl,hT'⟩|⟨rfl,rfl⟩
  ·refine(ZY _ T T' hT hT').mono fun r hs bs ⟨a,b,c⟩=>⟨b,c,_,_,_,Zu (l:=zk _ T T') h1 h4 zi,fun hf=>?_,a⟩
   obtain⟨e1,e2,e3⟩:=Qp (l:=zk _ T T') h1 h4 zi hf
   exact⟨⟨rfl,hT⟩,⟨rfl,hT'⟩,hf,⟨e1,by rw[e2];exact e3⟩,e2⟩
  ·exact(bad (by unfold JN;rw[aiT,Bool.false_and,Bool.and_false])).mono fun r hs bs h=>fin h
 ·exact(bad (by unfold JN;rw[aiT,Bool.false_and])).mono fun r hs bs h=>fin h
theorem adA(n:Nat)(L L':List ExV)(h:matV n L)(h':matV n L'):Con Tryz.prog 36 false [.ag [.v (.int .i64 (gN n (zg n L L'))),.sl (gT (zg n L L')).length (qm ExV.cs (gT (zg n L L')))],.ag [.v (.int .i64 (n)),.sl (L').length (qm ExV.cs (L'))]] []
  (fun r hs bs=>hs=[]∧bs=[]∧∃(N2:Nat) (T2:List ExV) (b:Bool),((zg n L L').all ExV.fit=true→n=N2∧L=T2∧true=b)∧r=.tu [.ag [.v (.int .i64 (N2)),.sl (T2).length (qm ExV.cs (T2))],.v (.bool b)]):=by
 cases hf:(zg n L L').all ExV.fit
 ·exact(adW n _ n _ L' h.n1 h.n4 (Zu (l:=zg n L L') h.n1 h.n4 zi) (.inl ⟨rfl,h'⟩)).mono fun r hs bs ⟨a,b,N2,T2,c,_,_,d⟩=>⟨a,b,N2,T2,c,(fun h=>by cases h),d⟩
 ·obtain⟨e1,e2,e3⟩:=Qp (l:=zg n L L') h.n1 h.n4 zi hf
  obtain⟨f1,f2⟩:=aiE h h' hf
  have c:=ZW n _ L' e3 h'
  obtain⟨g1,g2, -⟩:=Qp (l:=zm n ((zg n L L').map ExV.can) L') h.n1 h.n4 zi f1
  rw[f1,g1,g2,f2]at c
  rw[e1,e2]
  exact c.mono fun r hs bs ⟨a,b,c⟩=>⟨b,c,n,L,true,fun _=>⟨rfl,rfl,rfl⟩,a⟩
theorem yB(l:List UInt8)(hl:l.length≤9223372036854775807):Con Tryz.prog 32 false [.sl l.length (qk l)] [] (fun r hs bs=>hs=[]∧bs=[]∧∃(n n':Int) (L L':List DyV),bbs L∧bbs L'∧r=.tu [.ag [.v (.int .i64 n),.sl L.length (qm DyV.cs L)],.ag [.v (.int .i64 n'),.sl L'.length (qm DyV.cs L')]]):=by
 refine Con.of_aw Tryz.func32 rfl Tryz.ntmps32 (by simp) (by simp) (by simp) (W.sound ?_)
 show @W Tryz.prog 8 ⟨_⟩ ⟨fun x σ=>@qX _ _ _ ⟨_⟩ _ ⟨_⟩ x σ⟩ _ _
 simp(disch:=omega)only[go_sem]
 refine qC (ajj l hl) (by simp(disch:=omega)only[go_sem]) ?_
 rintro r hs ⟨rfl, -,⟨n,n',L,L',h1,h2,rfl⟩⟩
 refine⟨by simp(disch:=omega)only[go_sem],?_⟩
 simp(disch:=omega)only[go_sem]
 exact qN (by simp(disch:=omega)only[go_sem]) ⟨rfl,rfl,n,n',L,L',h1,h2,rfl⟩
set_option maxRecDepth 100000 in
set_option maxHeartbeats 4000000 in
theorem adi(l:List UInt8)(hl:l.length≤140737488351232):Con Tryz.prog 6 true [.sl l.length (qk l)] [] (isA (.v (.bool true))):=by
 refine Con.of_w (rs:=[.tmp 2]) Tryz.func6 rfl Tryz.ntmps6 rfl ?_
 simp(disch:=omega)only[go_sem]
 refine qj (aCp) ?_
 simp(disch:=omega)only[go_sem]
 refine qC (yB l (by omega)) (by simp(disch:=omega)only[go_sem]) ?_
 rintro r hs ⟨rfl, -,⟨k,k',M,M',⟨a1,a2⟩,⟨b1,b2⟩,rfl⟩⟩
 refine⟨by simp[qK],?_⟩
 simp(disch:=omega)only[go_sem]
 have cA:=jm k M a1 a2
 have cB:=jm k' M' b1 b2
 cases hA:Jt k M
 ·rw[hA]at cA
  have hno:JN k M k' M'=false:=by unfold JN;rw[hA];rfl
  refine qa (jh k k' M M' a1 a2 b1 b2 hno) ?_
  simp(disch:=omega)only[go_sem]
  refine qj (cA) ?_
  simp(disch:=omega)only[go_sem]
  refine qj (ZU) ?_
  simp(disch:=omega)only[go_sem]
  exact qu
 cases hB:Jt k' M'
 ·rw[hA]at cA
  rw[hB]at cB
  have hno:JN k M k' M'=false:=by unfold JN;rw[hB,Bool.false_and,Bool.and_false]
  refine qa (jh k k' M M' a1 a2 b1 b2 hno) ?_
  simp(disch:=omega)only[go_sem]
  refine qj (cA) ?_
  simp(disch:=omega)only[go_sem]
  refine qj (cB) ?_
  simp(disch:=omega)only[go_sem]
  refine qj (ZU) ?_
  simp(disch:=omega)only[go_sem]
  exact qu
 by_cases hn:k=k'
 rotate_left
 ·rw[hA]at cA
  rw[hB]at cB
  have hno:JN k M k' M'=false:=by unfold JN;rw[decide_eq_false hn,Bool.and_false,Bool.and_false]
  refine qa (jh k k' M M' a1 a2 b1 b2 hno) ?_
  simp(disch:=omega)only[go_sem]
  refine qj (cA) ?_
  simp(disch:=omega)only[go_sem]
  refine qj (cB) ?_
  simp(disch:=omega)only[go_sem]
  simp(disch:=omega)only[go_sem,decide_eq_false hn]
  refine qj (ZU) ?_
  simp(disch:=omega)only[go_sem]
  exact qu
 subst hn
 obtain⟨n,L,rfl,rfl,hL⟩:=aet hA
 obtain⟨n',L',hn',rfl,hL'⟩:=aet hB
 obtain rfl:n=n':=by omega
 clear cA cB
 rw[zK,zK,List.length_map,List.length_map]
 refine qa (ZZ n L L' hL hL') ?_
 simp(disch:=omega)only[go_sem]
 refine qj (ZX n L hL) ?_
 simp(disch:=omega)only[go_sem]
 refine qj (ZX n L' hL') ?_
 simp(disch:=omega)only[go_sem]
 refine qa (apU l hl) ?_
 simp(disch:=omega)only[go_sem]
 have cD:=yB (1::7::l) (by simp only[List.length_cons];omega)
 rw[show((1::7::l:List UInt8)).length=l.length+2 from rfl]at cD
 refine qC cD (by simp(disch:=omega)only[go_sem]) ?_
 rintro r hs ⟨rfl, -,⟨-,kc, -,C, -,⟨c1,c2⟩,rfl⟩⟩
 refine⟨by simp[qK],?_⟩
 simp(disch:=omega)only[go_sem]
 refine qa (ajE n hL.n1 hL.n4) ?_
 simp(disch:=omega)only[go_sem]
 have cX:=ZY n L (gId n) hL (adl hL.n1 hL.n4)
 obtain⟨f1,f2⟩:=arj hL
 rw[f1]at cX
 obtain⟨e1,e2, -⟩:=Qp (l:=zk n L (gId n)) hL.n1 hL.n4 zi f1
 rw[e1,e2,f2]at cX
 refine qa (cX) ?_
 simp(disch:=omega)only[go_sem]
 have cSb:=adA n L L' hL hL'
 have hS:optM n (gN n (zg n L L')) (gT (zg n L L')):=Zu hL.n1 hL.n4 zi
 have vS:(zg n L L').all ExV.fit=true→∀i j,i<n→j<n→mv 3000 (gT (zg n L L')) n i j=mv 3000 L n i j+mv 3000 L' n i j:=fun hf i j hi hj=>by
  rw[(Qp (l:=zg n L L') hL.n1 hL.n4 zi hf).2.1]
  exact ac8 (hL.eK (by omega)) (hL'.eK (by omega)) hL.len hL'.len hi hj
 generalize gN n (zg n L L')=NS at*
 generalize gT (zg n L L')=S at*
 generalize (zg n L L').all ExV.fit=ok at*
 refine qC cSb (by simp(disch:=omega)only[go_sem]) ?_
 rintro r hs ⟨rfl, -,ND,D,j,hD,rfl⟩
 refine⟨by simp[qK],?_⟩
 simp(disch:=omega)only[go_sem]
 have cs:=ZP n L L hL hL
 rw[decide_eq_true rfl]at cs
 refine qj (cs) ?_
 simp(disch:=omega)only[go_sem]
 refine qj (ajF n L hL) ?_
 simp(disch:=omega)only[go_sem]
 cases ok
 ·simp(disch:=omega)only[go_sem]
  by_cases hk:kc=n
  rotate_left
  ·simp(disch:=omega)only[go_sem,decide_eq_false hk]
   exact qu
  subst hk
  simp(disch:=omega)only[go_sem]
  have cC:=jm n C c1 c2
  cases hC:Jt n C
  ·rw[hC]at cC
   refine qj (cC) ?_
   simp(disch:=omega)only[go_sem]
   exact qu
  rw[hC]at cC
  obtain⟨n2,C,h2,rfl,hC⟩:=aet hC
  obtain rfl:n=n2:=by omega
  rw[zK,List.length_map]at cC ⊢
  refine qj (cC) ?_
  simp(disch:=omega)only[go_sem]
  refine qC (zV n NS n S C hL.n1 hL.n4 hS (.inl ⟨rfl,hC⟩)) (by simp(disch:=omega)only[go_sem]) ?_
  rintro r hs ⟨rfl, -,NP,P,k,oP,hP,rfl⟩
  refine⟨by simp[qK],?_⟩
  simp(disch:=omega)only[go_sem]
  refine qC (zV n n n L C hL.n1 hL.n4 (.inl ⟨rfl,hL⟩) (.inl ⟨rfl,hC⟩)) (by simp(disch:=omega)only[go_sem]) ?_
  rintro r hs ⟨rfl, -,NQ,Q,k2,oQ,hQ,rfl⟩
  refine⟨by simp[qK],?_⟩
  simp(disch:=omega)only[go_sem]
  refine qC (zV n n n L' C hL.n1 hL.n4 (.inl ⟨rfl,hL'⟩) (.inl ⟨rfl,hC⟩)) (by simp(disch:=omega)only[go_sem]) ?_
  rintro r hs ⟨rfl, -,NR,R,k3,oR,hR,rfl⟩
  refine⟨by simp[qK],?_⟩
  simp(disch:=omega)only[go_sem]
  refine qC (Z0 n NQ NR Q R hL.n1 hL.n4 oQ oR) (by simp(disch:=omega)only[go_sem]) ?_
  rintro r hs ⟨rfl, -,NT,T,k4,oT,hT,rfl⟩
  refine⟨by simp[qK],?_⟩
  simp(disch:=omega)only[go_sem]
  exact qu
 ·obtain⟨rfl,rfl,rfl⟩:=hD rfl
  simp(disch:=omega)only[go_sem]
  refine qj (cs) ?_
  simp(disch:=omega)only[go_sem]
  by_cases hk:kc=n
  rotate_left
  ·simp(disch:=omega)only[go_sem,decide_eq_false hk]
   exact qu
  subst hk
  simp(disch:=omega)only[go_sem]
  have cC:=jm n C c1 c2
  cases hC:Jt n C
  ·rw[hC]at cC
   refine qj (cC) ?_
   simp(disch:=omega)only[go_sem]
   exact qu
  rw[hC]at cC
  obtain⟨n2,C,h2,rfl,hC⟩:=aet hC
  obtain rfl:n=n2:=by omega
  rw[zK,List.length_map]at cC ⊢
  refine qj (cC) ?_
  simp(disch:=omega)only[go_sem]
  refine qC (zV n NS n S C hL.n1 hL.n4 hS (.inl ⟨rfl,hC⟩)) (by simp(disch:=omega)only[go_sem]) ?_
  rintro r hs ⟨rfl, -,NP,P,k,oP,hP,rfl⟩
  refine⟨by simp[qK],?_⟩
  simp(disch:=omega)only[go_sem]
  refine qC (zV n n n L C hL.n1 hL.n4 (.inl ⟨rfl,hL⟩) (.inl ⟨rfl,hC⟩)) (by simp(disch:=omega)only[go_sem]) ?_
  rintro r hs ⟨rfl, -,NQ,Q,k2,oQ,hQ,rfl⟩
  refine⟨by simp[qK],?_⟩
  simp(disch:=omega)only[go_sem]
  refine qC (zV n n n L' C hL.n1 hL.n4 (.inl ⟨rfl,hL'⟩) (.inl ⟨rfl,hC⟩)) (by simp(disch:=omega)only[go_sem]) ?_
  rintro r hs ⟨rfl, -,NR,R,k3,oR,hR,rfl⟩
  refine⟨by simp[qK],?_⟩
  simp(disch:=omega)only[go_sem]
  refine qC (Z0 n NQ NR Q R hL.n1 hL.n4 oQ oR) (by simp(disch:=omega)only[go_sem]) ?_
  rintro r hs ⟨rfl, -,NT,T,k4,oT,hT,rfl⟩
  refine⟨by simp[qK],?_⟩
  simp(disch:=omega)only[go_sem]
  cases k
  ·simp(disch:=omega)only[go_sem]
   exact qu
  cases k2
  ·simp(disch:=omega)only[go_sem]
   exact qu
  cases k3
  ·simp(disch:=omega)only[go_sem]
   exact qu
  cases k4
  ·simp(disch:=omega)only[go_sem]
   exact qu
  simp(disch:=omega)only[go_sem]
  obtain⟨⟨rfl,gS⟩, -, -,⟨rfl,gP⟩,eP⟩:=hP rfl
  obtain⟨-, -, -,⟨rfl,gQ⟩,eQ⟩:=hQ rfl
  obtain⟨-, -, -,⟨rfl,gR⟩,eR⟩:=hR rfl
  obtain⟨-, -, -,⟨rfl,gT⟩,eT⟩:=hT rfl
  have vS:=vS rfl
  clear cX cSb cs cD hP hQ hR hT hD
  have hPT:P=T:=ade (K:=3000+3000) (by omega) gP gT fun i j hi hj=>by
   have hz:=fun {X:List ExV} (h:matV NT X)=>h.eK (K:=3000) (by omega)
   have k1:=J6 (hz gS) (hz hC) gS.len hC.len hi hj
   have k2:=J6 (hz hL) (hz hC) hL.len hC.len hi hj
   have k3:=J6 (hz hL') (hz hC) hL'.len hC.len hi hj
   have k4:=ac8 (K:=3000+3000) (gQ.eK (by omega)) (gR.eK (by omega)) gQ.len gR.len hi hj
   rw[←eP]at k1
   rw[←eQ]at k2
   rw[←eR]at k3
   rw[←eT]at k4
   rw[k1,k4,k2,k3,←Kf]
   refine yE fun t ht=>?_
   rw[vS i t hi ht,Int.add_mul]
  have cs:=ZP NT P T gP gT
  rw[decide_eq_true hPT]at cs
  refine qj (cs) ?_
  simp(disch:=omega)only[go_sem]
  exact qu
end Go.Ab
namespace Go.Proofs.YtjkhfpjccemboaaGreatDoor
open Go.ChangeShapes Go.WideShapes Go.ChangeAt Go.RowKit Go.Ab
theorem own:ownKnob Tryz.prog.godebug=none:=by kernel_rfl
theorem aJ3:laidOutB Tryz.prog=true:=by kernel_rfl
theorem an4:Tryz.prog.globalNamed "math/bits.deBruijn64tab" =some 1:=by kernel_rfl
theorem aIg:(Tryz.prog.globals[1]?).map (·.type)=some 257:=by kernel_rfl
theorem aIf:Tryz.prog.underlying 257=some (.array 64 5):=by kernel_rfl
theorem aIj:Tryz.prog.underlying 5=some (.int .u8):=by kernel_rfl
theorem aIk:Tryz.prog.cellsOf 5=1:=by kernel_rfl
theorem aIh:Tryz.prog.cellsOf 257=64:=by kernel_rfl
noncomputable def yp:List (String×DataW Unit):=[("math/bits.deBruijn32tab",Rows.laid_math_bits_deBruijn32tab),("math/bits.deBruijn64tab",Rows.laid_math_bits_deBruijn64tab)]
theorem aIi{W:World}(h:laidMetH Tryz.prog yp W):Gd W:=by
 have h':laidMet Tryz.prog yp W:=h
 have h2:laidMet Tryz.prog [("math/bits.deBruijn64tab",Lib.tabData .u8 (Lib.deBruijn64tab.map Int.ofNat))] W:=laidMet.tail h'
 have hT:=Lib.tabIs_of_head an4 aIg aIf aIj aIk aIh h2
 intro g l hg
 unfold glb at hg
 split at hg
 ·rename_i e
  subst e
  cases hg
  have hc:∀i,i<Lib.deBruijn64tab.length→W.cell? ⟨1,i,none⟩=some (.int .u8 ((Lib.deBruijn64tab.getD i 0:Nat):Int)):=fun i hi=>by
   have:=hT.cell an4 i (by simpa using hi)
   rw[this]
   simp[List.getD,hi]
  exact⟨aeO (hc 0 (by decide)),hc⟩
 ·cases hg
noncomputable def KB(os:Os):World:=
 let w0:=World.holding Tryz.prog os ⟨#[],#[],[]⟩
 {w0 with heap:=(w0.heap.modify 1 fun
   | .cells _ t frozen=>.cells (Lib.deBruijn64tab.map fun z=>Value.int .u8 (Int.ofNat z)).toArray t frozen
   |o=>o).modify 0 fun
   | .cells _ t frozen=>.cells (Lib.deBruijn32tab.map fun z=>Value.int .u8 (Int.ofNat z)).toArray t frozen
   |o=>o}
theorem Ye(os:Os)(args:Array Value):laidMetH Tryz.prog yp ((KB os).forCall (fun _ _=>0) ⟨#[],args,[]⟩).memory:=
 laidMetH_of_parts (laidMet_of_run' 8 (by kernel_rfl) (by kernel_rfl)) (by kernel_rfl)
end Go.Proofs.YtjkhfpjccemboaaGreatDoor
namespace Go.Ab
open Go
theorem aAN{H:Type}{enc:TypeId×Value→H}{P:Program}{W:World}{t e fuel:Nat}{cs:List Value}{x:DataW H×List MemPlace}(ht:P.underlying t=some (.slice e))(he:P.underlying e=some (.int .u8))(hc:P.cellsOf e=1)(hb:P.bytesOf e=1)
  (h:DataW.trod enc P W 0 (fun _=>true) true fuel t cs=some x) {ts:List TypeId} {ds:List (DataW H)} (h1:ts[0]? =some t) (h2:ds[0]? =some x.1) (hz:(DataW.weightsEach P ts ds).all (· ≤reachBytes)=true):
  ∃(v:Value) (l:List UInt8),cs=[v]∧l.length≤140737488351232∧FRep (fun b=>b<W.heap.size) W v (.sl l.length (qk l)):=by
 rcases ChangeShapes.open_ints ht he hc h with⟨rfl,_⟩|⟨a,len,cap,zs,rfl,_,hl,hm,hzs,hx,hcell,hwf⟩
 ·exact⟨_,[],rfl,Nat.zero_le _,aBz⟩
 ·rw[if_pos rfl]at hzs
  refine⟨_,_,rfl,?_,ai1 hl hzs hcell (fun n hn=>aOR (hwf n hn)) (fun _ h=>h)⟩
  rw[hx]at h2
  have:=sized_slice hz h1 h2 ht
  rw[hb,Nat.mul_one]at this
  have e1:(ChangeShapes.lits (H:=H) .u8 (zs.take len)).length=(zs.take len).length:=by unfold ChangeShapes.lits;exact List.length_map _
  rw[e1]at this
  rw[List.length_map]
  have e2:reachBytes=140737488351232:=rfl
  omega
end Go.Ab
