/- What the proof of this claim stands on: the walks of the functions and the plain laws, part 6. -/
import Derived.Test.YtgkehjnacdccfaaGreatDoorFnRanksLib5
set_option linter.unusedVariables false
set_option linter.unusedSimpArgs false
namespace Go.Ab
open Go Go.Proofs
/-! ### Minors and determinants-/
def mnC(n:Nat)(l:List ExV)(r c i:Nat):Nat→List ExV
 |0=>[]
 |j+1=>if i≠r∧j≠c then mnC n l r c i j++[l.getD (i*n+j) ex0]else mnC n l r c i j
def mnR(n:Nat)(l:List ExV)(r c:Nat):Nat→List ExV
 |0=>[]
 |i+1=>mnR n l r c i++mnC n l r c i n
theorem aeH{n:Nat}{l:List ExV}{r c i:Nat}:∀j,(mnC n l r c i j).length≤j
 |0=>Nat.le_refl _
 |j+1=>by
  have:=aeH (n:=n) (l:=l) (r:=r) (c:=c) (i:=i) j
  rw[mnC];split
  ·rw[List.length_append];simp;omega
  ·omega
theorem aeF{n:Nat}{l:List ExV}{r c:Nat}:∀i,(mnR n l r c i).length≤i*n
 |0=>by simp[mnR]
 |i+1=>by
  have h1:=aeF (n:=n) (l:=l) (r:=r) (c:=c) i
  have h2:=aeH (n:=n) (l:=l) (r:=r) (c:=c) (i:=i) n
  rw[mnR,List.length_append,Nat.succ_mul];omega
theorem asN(n:Nat)(l:List ExV)(r c:Nat)(hn:1≤n∧n≤4)(hl:l.length=n*n)(hr:r<n)(hc:c<n):Con Tryz.prog 186 false [.ag [.v (.int .i64 (n)),.sl (l).length (qg ExV.cs (l))],.v (.int .i64 r),.v (.int .i64 c)] [] (isA (.ag [.v (.int .i64 (n-1)),.sl (mnR n l r c n).length (qg ExV.cs (mnR n l r c n))])):=by
 refine Con.frzA ?_
 have hq:=yW hn.2
 refine Con.of_aw Tryz.func186 rfl Tryz.ntmps186 (by simp) (by simp) (by simp) (W.sound ?_)
 show @W Tryz.prog 44 ⟨_⟩ ⟨fun x σ=>@q9 _ _ _ ⟨_⟩ _ ⟨_⟩ x σ⟩ _ _
 simp(disch:=omega)only[go_sem]
 have hE:∀i j:Nat,i<n→j<n→i*n+j<l.length:=fun i j hi hj=>by rw[hl];exact zn hi hj
 refine qc (fun i:Nat=>[(1,.v (.int .i64 r)),(2,.v (.int .i64 c)),(3,.pt 1 0),(6,.pt 2 0),(7,.pt 3 0),(15,.v (.int .i64 n)),(16,.v (.int .i64 i))])
  (fun i=>[(1,.own 0 [.v (.int .i64 n),.sl l.length (qg ExV.cs l)]),(2,.own 0 [.v (.int .i64 0),.v (.slice none 0 0)]),(3,.own 0 [.v (.int .i64 (n-1)),.rf 4 0 (mnR n l r c i).length]),(4,.own 3 (qg ExV.cs (mnR n l r c i)))]) (fun i=>i≤n) (fun i=>n-i) 0 (by omega)
  ((Le.ghostC 90000000 1 4 3 (zo:=0) (cs:=[.v (.int .i64 (n-1)),.v (.slice none 0 0)]) (by simp(disch:=omega)only[go_sem]) rfl (by simp(disch:=omega)only[go_sem])).trans (Le.lst [(1,50000000),(2,80000000),(3,90000000)] _ _ rfl (by simp(disch:=omega)only[go_sem]) (by simp(disch:=omega)only[go_sem,show mnR n l r c 0=[] from rfl,Q3,List.length_nil,List.set_cons_succ,List.set_cons_zero]))) ?_
 intro i hi
 simp(disch:=omega)only[go_sem]
 refine qe (fun h1=>?_) (fun h1=>?_)
 ·simp(disch:=omega)only[go_sem,h1]
  generalize hA:mnR n l r c i=A at*
  refine qc (fun j:Nat=>[(1,.v (.int .i64 r)),(2,.v (.int .i64 c)),(3,.pt 1 0),(6,.pt 2 0),(7,.pt 3 0),(8,.v (.int .i64 i)),(15,.v (.int .i64 n)),(16,.v (.int .i64 i)),(20,.v (.int .i64 n)),(21,.v (.int .i64 j))])
   (fun j=>[(1,.own 0 [.v (.int .i64 n),.sl l.length (qg ExV.cs l)]),(2,.own 0 [.v (.int .i64 0),.v (.slice none 0 0)]),(3,.own 0 [.v (.int .i64 (n-1)),.rf 4 0 (A++mnC n l r c i j).length]),(4,.own 3 (qg ExV.cs (A++mnC n l r c i j)))]) (fun j=>j≤n) (fun j=>n-j) 0 (by omega)
   (Le.lst [] _ _ rfl (by simp(disch:=omega)only[go_sem]) (by simp(disch:=omega)only[go_sem,show mnC n l r c i 0=[] from rfl,List.append_nil])) ?_
  intro j hj
  have hs:mnC n l r c i (j+1)=if i≠r∧j≠c then mnC n l r c i j++[l.getD (i*n+j) ex0]else mnC n l r c i j:=rfl
  have hlen:(A++mnC n l r c i j).length≤40:=by
   have h3:=@aeH n l r c i j
   have h4:=@aeF n l r c i
   rw[hA]at h4
   have:i*n≤n*n:=Nat.mul_le_mul_right n (by omega)
   rw[List.length_append];omega
  generalize hB:mnC n l r c i j=B at*
  simp(disch:=omega)only[go_sem]
  refine qe (fun h2=>?_) (fun h2=>?_)
  ·by_cases c1:i=r
   ·rw[if_neg (fun h=>h.1 c1)]at hs
    simp(disch:=omega)only[go_sem,h2,decide_eq_true (show(i:Int)=r by omega)]
    exact qa (j+1) [] (by show j+1≤n;omega) (by show n-(j+1)<n-j;omega) rfl (by simp(disch:=omega)only[go_sem];try omega) (by simp(disch:=omega)only[go_sem,hs])
   by_cases c2:j=c
   ·rw[if_neg (fun h=>h.2 c2)]at hs
    simp(disch:=omega)only[go_sem,h2,decide_eq_false (show ¬(i:Int)=r by omega),decide_eq_true (show(j:Int)=c by omega)]
    exact qa (j+1) [] (by show j+1≤n;omega) (by show n-(j+1)<n-j;omega) rfl (by simp(disch:=omega)only[go_sem];try omega) (by simp(disch:=omega)only[go_sem,hs])
   ·rw[if_pos ⟨c1,c2⟩]at hs
    have ca:=y5 n l i j (hE i j (by omega) (by omega)) (by omega) (by omega) (by omega) (by omega)
    generalize l.getD (i*n+j) ex0=x at*
    simp(disch:=omega)only[go_sem,h2,decide_eq_false (show ¬(i:Int)=r by omega),decide_eq_false (show ¬(j:Int)=c by omega)]
    refine qm rfl [⟨0,[],[]⟩,⟨1,[],[]⟩,⟨2,[1],[]⟩,⟨3,[1,2],[]⟩,⟨4,[1,2],[]⟩,⟨5,[1],[]⟩,⟨6,[1],[]⟩,⟨7,[],[]⟩,⟨8,[],[]⟩,⟨9,[],[]⟩] (by kernel_rfl) ?_
    simp(disch:=omega)only[go_sem]
    refine qb (ca) ?_
    simp(disch:=omega)only[go_sem]
    have hl4:(A++B++[x]).length=(A++B).length+1:=by simp;omega
    exact⟨by omega,qa (j+1) [(4,410000000)] (by show j+1≤n;omega) (by show n-(j+1)<n-j;omega) rfl (by simp(disch:=omega)only[go_sem];try omega) (by simp(disch:=omega)only[go_sem,hs,(List.append_assoc A B [x]).symm,hl4,aeW,yR])⟩
  ·obtain rfl:j=n:=by omega
   have hs2:mnR j l r c (i+1)=A++B:=by rw[mnR,hA,hB]
   simp(disch:=omega)only[go_sem,h2]
   exact qa (i+1) [] (by show i+1≤j;omega) (by show j-(i+1)<j-i;omega) rfl (by simp(disch:=omega)only[go_sem];try omega) (by simp(disch:=omega)only[go_sem,hs2])
 ·obtain rfl:i=n:=by omega
  have hl2:=@aeF i l r c i
  simp(disch:=omega)only[go_sem,h1]
  generalize mnR i l r c i=A at*
  refine ql [(0,4)] [.own 3 (qg ExV.cs A)] [] [.ag [.v (.int .i64 (i-1)),.rf 0 0 A.length]] rfl (by simp(disch:=omega)only[go_sem]) (by simp(disch:=omega)only[go_sem]) (by simp) (by simp) ?_
  show qN _ 6 _=_
  simp(disch:=omega)only[go_sem,zg,aeW]
def ExV.sgn(x:ExV)(k:Nat):ExV:=if k % 2=1 then x.neg else x
theorem alf(x:ExV)(k:Nat)(hk:k≤100):Con Tryz.prog 187 false [.ag [.v (.bool (x).s),.sl (lim (x).m).length (qh (lim (x).m)),.v (.int .i64 (x).e)],.v (.int .i64 k)] [] (isA (.ag [.v (.bool (x.sgn k).s),.sl (lim (x.sgn k).m).length (qh (lim (x.sgn k).m)),.v (.int .i64 (x.sgn k).e)])):=by
 refine Con.frzA ?_
 have cn:=age x
 unfold ExV.sgn
 refine Con.of_w (rs:=[.cell 4 117]) Tryz.func187 rfl Tryz.ntmps187 rfl ?_
 simp(disch:=omega)only[go_sem]
 by_cases h:k % 2=1
 ·rw[if_pos h]
  generalize x.neg=y at*
  simp(disch:=omega)only[go_sem,decide_eq_true (show(k:Int) % 2=1 by omega)]
  refine qb (cn) ?_
  simp(disch:=omega)only[go_sem]
  exact qq
 ·rw[if_neg h]
  simp(disch:=omega)only[go_sem,decide_eq_false (show ¬(k:Int) % 2=1 by omega)]
  exact qq
theorem ExV.sgn_bd{lo hi:Int}{x:ExV}{k:Nat}(h:x.bd lo hi):(x.sgn k).bd lo hi:=by
 unfold ExV.sgn;split
 ·exact ExV.neg_bd h
 ·exact h
def j7:Nat→List ExV→ExV
 |0,_=>ex1
 |n+1,l=>(List.range (n+1)).foldl (fun s j=>s.plus (((l.getD (0*(n+1)+j) ex0).times (j7 n (mnR (n+1) l 0 j (n+1)))).sgn j)) ex0
theorem aeG{n:Nat}{l:List ExV}{r c i:Nat}(hl:l.length=n*n)(hi:i<n):∀j,j≤n→∀x∈mnC n l r c i j,x∈l
 |0,_,x,hx=>by cases hx
 |j+1,hj,x,hx=>by
  rw[mnC]at hx
  split at hx
  ·rcases List.mem_append.1 hx with hx|hx
   ·exact aeG hl hi j (by omega) x hx
   ·rw[List.mem_singleton.1 hx,List.getD_eq_getElem?_getD,List.getElem?_eq_getElem (by rw[hl];exact zn hi (by omega))]
    exact List.getElem_mem _
  ·exact aeG hl hi j (by omega) x hx
theorem Z3{n:Nat}{l:List ExV}{r c:Nat}(hl:l.length=n*n):∀i,i≤n→∀x∈mnR n l r c i,x∈l
 |0,_,x,hx=>by cases hx
 |i+1,hi,x,hx=>by
  rw[mnR]at hx
  rcases List.mem_append.1 hx with hx|hx
  ·exact Z3 hl i (by omega) x hx
  ·exact aeG hl (by omega) n (Nat.le_refl n) x hx
theorem ZA{n:Nat}{l:List ExV}{r c i:Nat}:∀j,(mnC n l r c i j).length=if i=r then 0 else if c<j then j-1 else j
 |0=>by simp[mnC]
 |j+1=>by
  have:=ZA (n:=n) (l:=l) (r:=r) (c:=c) (i:=i) j
  rw[mnC]
  by_cases h1:i=r
  ·rw[if_neg (by omega),this];simp[h1]
  ·rw[if_neg h1]at this ⊢
   by_cases h2:j=c
   ·rw[if_neg (by omega),this];split<;>split<;>omega
   ·rw[if_pos ⟨h1,h2⟩,List.length_append,this];simp;split<;>split<;>omega
theorem yM{n:Nat}{l:List ExV}{r c:Nat}(hc:c<n):∀i,(mnR n l r c i).length=(if r<i then i-1 else i)*(n-1)
 |0=>by simp[mnR]
 |i+1=>by
  rw[mnR,List.length_append,yM hc i,ZA]
  by_cases h1:i=r
  ·rw[if_pos h1,if_neg (by omega),if_pos (by omega)];simp
  ·rw[if_neg h1,if_pos hc]
   by_cases h2:r<i
   ·rw[if_pos h2,if_pos (by omega),show i+1-1=(i-1)+1 by omega,Nat.add_mul,Nat.one_mul]
   ·rw[if_neg h2,if_neg (by omega),Nat.add_mul,Nat.one_mul]
theorem YQ:∀(n:Nat) {l:List ExV},n≤4→l.length=n*n→gbd (-10000) 10000 l→(j7 n l).bd (-10000*n) (10004*n+1)
 |0,l,_,_,_=>⟨fun _=>rfl,by show _≤(0:Int);omega,by show(bl 1:Int)+0≤_;have:bl 1≤1:=zD.2 (by decide);omega⟩
 |n+1,l,hn,hl,hb=>by
  rw[j7]
  refine(QC (lo:= -10000*(n+1)) (hi:=10004*n+10001) (fun j=>((l.getD (0*(n+1)+j) ex0).times (j7 n (mnR (n+1) l 0 j (n+1)))).sgn j) (by omega) (n+1) (fun j hj=>?_)).mono (by omega) (by omega)
  have h1:=qi hb (i:=0*(n+1)+j) (by rw[hl];exact zn (by omega) hj)
  have h2:=YQ n (l:=mnR (n+1) l 0 j (n+1)) (by omega) (by rw[yM hj,if_pos (by omega)];rfl) (fun x hx=>hb x (Z3 hl _ (Nat.le_refl _) x hx))
  exact ExV.sgn_bd ((ExV.times_bd h1 h2).mono (by omega) (by omega))
set_option maxRecDepth 100000 in
theorem aQy(n:Nat):∀L:List ExV,n≤4→L.length=n*n→gbd (-10000) 10000 L→Con Tryz.prog 91 false [.ag [.v (.int .i64 (n)),.sl (L).length (qg ExV.cs (L))]] [] (isA (.ag [.v (.bool (j7 n L).s),.sl (lim (j7 n L).m).length (qh (lim (j7 n L).m)),.v (.int .i64 (j7 n L).e)])):=by
 induction n with
 |zero=>
  intro L hn hl hb
  refine Con.frzA ?_
  have c1:=ZD
  unfold j7
  generalize ex1=y at*
  refine Con.of_w (rs:=[.cell 2 117]) Tryz.func91 rfl Tryz.ntmps91 rfl ?_
  simp(disch:=omega)only[go_sem]
  refine qb (c1) ?_
  simp(disch:=omega)only[go_sem]
  exact qq
 |succ n ih=>
  intro L hn hl hb
  refine Con.frzA ?_
  refine Con.of_w (rs:=[.cell 2 117]) Tryz.func91 rfl Tryz.ntmps91 rfl ?_
  simp(disch:=omega)only[go_sem]
  obtain⟨N,hN⟩:∃N,N=n+1:=⟨_,rfl⟩
  rw[←hN]at hn hl
  have hd:j7 (n+1) L=(List.range N).foldl (fun s j=>s.plus (((L.getD (0*N+j) ex0).times (j7 n (mnR N L 0 j N))).sgn j)) ex0:=by rw[hN];rfl
  rw[hd,←hN]
  simp(disch:=omega)only[go_sem,decide_eq_false (show ¬(N:Int)=0 by omega)]
  have hb2:=QC (lo:= -10000*(n+1)) (hi:=10004*n+10001) (fun j=>((L.getD (0*N+j) ex0).times (j7 n (mnR N L 0 j N))).sgn j) (by omega)
  obtain⟨D,hD⟩:∃D:Nat→ExV,D=fun k=>(List.range k).foldl (fun s j=>s.plus (((L.getD (0*N+j) ex0).times (j7 n (mnR N L 0 j N))).sgn j)) ex0:=⟨_,rfl⟩
  have hDs:∀k,D (k+1)=(D k).plus (((L.getD (0*N+k) ex0).times (j7 n (mnR N L 0 k N))).sgn k):=fun k=>by rw[hD];simp only[List.range_succ,List.foldl_append,List.foldl_cons,List.foldl_nil]
  have hD0:D 0=ex0:=by rw[hD];rfl
  have hDN:(List.range N).foldl (fun s j=>s.plus (((L.getD (0*N+j) ex0).times (j7 n (mnR N L 0 j N))).sgn j)) ex0=D N:=by rw[hD]
  have hDb:∀k,k≤N→(D k).bd (-40000) 40020:=fun k hk=>by
   rw[hD]
   refine(hb2 k fun j hj=>?_).mono (by omega) (by omega)
   have h1:=qi hb (i:=0*N+j) (by rw[hl];exact zn (by omega) (by omega))
   have h2:=YQ n (l:=mnR N L 0 j N) (by omega) (by rw[yM (by omega),if_pos (by omega),hN];rfl) (fun x hx=>hb x (Z3 hl _ (Nat.le_refl _) x hx))
   exact ExV.sgn_bd ((ExV.times_bd h1 h2).mono (by omega) (by omega))
  rw[hDN]
  clear hb2 hd hDN
  refine qc (fun j:Nat=>[(1,.pt 1 0),(2,.pt 2 0),(3,.pt 3 0),(10,.v (.int .i64 N)),(11,.v (.int .i64 j))])
   (fun j=>[(1,.own 0 [.v (.int .i64 N),.sl L.length (qg ExV.cs L)]),(2,.own 0 [.v (.bool false),.v (.slice none 0 0),.v (.int .i64 0)]),(3,.own 0 [.v (.bool (D j).s),.sl (lim (D j).m).length (qh (lim (D j).m)),.v (.int .i64 (D j).e)])]) (fun j=>j≤N) (fun j=>N-j) 0 (by omega)
   ((Le.nilC 50000000 1 (zo:=0) (cs:=[.v (.bool false),.v (.slice none 0 0),.v (.int .i64 0)]) (by simp(disch:=omega)only[go_sem]) rfl).trans (Le.lst [(1,30000000),(2,40000000),(3,50000000)] _ _ rfl (by simp(disch:=omega)only[go_sem]) (by simp(disch:=omega)only[go_sem,List.set_cons_succ,List.set_cons_zero,hD0,ex0,qt]))) ?_
  intro j hj
  have hs:=hDs j
  have hjb:=hDb j hj
  generalize hA:D j=A at*
  simp(disch:=omega)only[go_sem]
  refine qe (fun h1=>?_) (fun h1=>?_)
  ·have hm:(mnR N L 0 j N).length=n*n:=by rw[yM (by omega),if_pos (by omega),hN];rfl
   have hmb:gbd (-10000) 10000 (mnR N L 0 j N):=fun x hx=>hb x (Z3 hl _ (Nat.le_refl _) x hx)
   have ca:=y5 N L 0 j (by rw[hl];exact zn (by omega) (by omega)) (by have:=yW hn;omega) (by omega) (by omega) (by omega)
   have cm:=asN N L 0 j (by omega) hl (by omega) (by omega)
   have cd:=ih (mnR N L 0 j N) (by omega) hm hmb
   have h1b:=qi hb (i:=0*N+j) (by rw[hl];exact zn (by omega) (by omega))
   have h2b:=YQ n (by omega) hm hmb
   rw[show((N:Int)-1)=(n:Int) by omega]at cm
   generalize L.getD (0*N+j) ex0=x at*
   generalize j7 n (mnR N L 0 j N)=y at*
   generalize mnR N L 0 j N=M at*
   have ct:=qn x y (h1b.mono (by omega) (by omega)) (h2b.mono (by omega) (by omega))
   have bt:=ExV.times_bd h1b h2b
   generalize x.times y=z at*
   have bs:=ExV.sgn_bd (k:=j) bt
   simp(disch:=omega)only[go_sem,h1]
   refine qm rfl [⟨0,[],[]⟩,⟨1,[0],[]⟩,⟨2,[0,1],[]⟩,⟨4,[0,1],[]⟩,⟨5,[0,1,4],[]⟩,⟨9,[0,1,4],[]⟩,⟨3,[0,4],[]⟩,⟨6,[0],[]⟩,⟨7,[0],[]⟩,⟨8,[0],[]⟩,⟨10,[0],[]⟩,⟨11,[],[]⟩,⟨12,[],[]⟩] (by kernel_rfl) ?_
   simp(disch:=omega)only[go_sem]
   refine qb (ca) ?_
   simp(disch:=omega)only[go_sem]
   refine qb (cm) ?_
   simp(disch:=omega)only[go_sem]
   refine qb (cd) ?_
   simp(disch:=omega)only[go_sem]
   refine qb (ct) ?_
   simp(disch:=omega)only[go_sem]
   refine qb (alf z j (by omega)) ?_
   simp(disch:=omega)only[go_sem]
   refine qb (z8 A (z.sgn j) (hjb.mono (by omega) (by omega)) (bs.mono (by omega) (by omega))) ?_
   simp(disch:=omega)only[go_sem]
   exact qa (j+1) [] (by show j+1≤N;omega) (by show N-(j+1)<N-j;omega) rfl (by simp(disch:=omega)only[go_sem];try omega) (by simp(disch:=omega)only[go_sem,hs])
  ·obtain rfl:j=N:=by omega
   rw[hA]
   simp(disch:=omega)only[go_sem,h1]
   exact qq
theorem Ju(n:Nat)(L:List ExV)(h:matV n L):Con Tryz.prog 24 false [.ag [.v (.int .i64 (n)),.sl (L).length (qg ExV.cs (L))]] [] (isA (.tu [.ag [.v (.bool ((j7 n L).tel).s),.sl (lim ((j7 n L).tel).m).length (qh (lim ((j7 n L).tel).m)),.v (.int .i64 ((j7 n L).tel).e)],.v (.bool (j7 n L).fit)])):=by
 refine Con.frzA ?_
 have hb:gbd (-10000) 10000 L:=yh h.bd (by omega) (by omega)
 have cn:=aQy n L h.n4 h.len hb
 have cd:=aQw (j7 n L) ((YQ n h.n4 h.len hb).mono (by have:=h.n4;omega) (by have:=h.n4;omega))
 generalize j7 n L=y at*
 refine Con.of_w (rs:=[.cell 2 42,.tmp 3]) Tryz.func24 rfl Tryz.ntmps24 rfl ?_
 simp(disch:=omega)only[go_sem]
 refine qo (jy n L h) ?_
 simp(disch:=omega)only[go_sem]
 refine qb (zC n L (by have:=h.l16;omega)) ?_
 simp(disch:=omega)only[go_sem]
 refine qb (cn) ?_
 simp(disch:=omega)only[go_sem]
 refine qb (cd) ?_
 simp(disch:=omega)only[go_sem]
 exact qq
theorem Y2(k:Int)(M:List DyV)(h1:M.length≤16)(h2:∀d∈M,d.xs.length≤200)(h:JC k M=false):Con Tryz.prog 24 false [.ag [.v (.int .i64 k),.sl M.length (qg DyV.cs M)]] [] (isA (.tu [.ag [.v (.bool (false)),.sl (lim (0)).length (qh (lim (0))),.v (.int .i64 (0))],.v (.bool false)])):=by
 refine Con.frzA ?_
 have c:=yU k M h1 h2
 rw[h]at c
 rw[qt]
 refine Con.of_w (rs:=[.cell 2 42,.tmp 3]) Tryz.func24 rfl Tryz.ntmps24 rfl ?_
 simp(disch:=omega)only[go_sem]
 refine qo (c) ?_
 simp(disch:=omega)only[go_sem]
 exact qq
end Go.Ab
namespace Go.Ab
open Go
def z3:List AV:=[.v (.bool false),.v (.slice none 0 0),.v (.int .i64 0)]
def z6:List AV:=[.v (.bool false),.v (.slice none 0 0),.v (.int .i64 0),.v (.bool false),.v (.slice none 0 0),.v (.int .i64 0)]
section
variable {X:Type}{f:X→List AV}{z:Nat}{n:Nat}{zs:List AV}{ρ:Nat→Nat}{p:Nat→Prop}
theorem afz(h:zU ρ zs=zs):zU ρ (zV n zs)=zV n zs:=by
 unfold zV
 induction n with
 |zero=>rfl
 |succ n ih=>
  rw[List.replicate_succ,List.flatten_cons]
  have:∀a b:List AV,zU ρ (a++b)=zU ρ a++zU ρ b:=fun a b=>by simp[q6]
  rw[this,h,ih]
theorem afA(h:AllL p zs):AllL p (zV n zs):=by
 unfold zV
 induction n with
 |zero=>simp[AllL]
 |succ n ih=>rw[List.replicate_succ,List.flatten_cons];exact AllL.append h ih
theorem Yj:∀(ks a b:List AV) (o:Nat),o+ks.length≤a.length→wr (a++b) o ks=wr a o ks++b
 | [],a,b,o,_=>by simp[wr]
 |k::r,a,b,o,h=>by
  simp only[List.length_cons]at h
  rw[wr,wr,List.set_append_left _ _ (by omega),Yj r]
  rw[List.length_set];omega
theorem aES(hz:∀x,(f x).length=z){x y:X}{L:List X}:wr (qg f (x::L)) 0 (f y)=qg f (y::L):=by
 rw[zy,zy,Yj _ _ _ _ (by rw[hz,hz];omega)]
 have:=Qj [] (f x) (f y) (by rw[hz,hz])
 rw[List.nil_append,List.nil_append]at this
 exact congrArg (· ++qg f L) this
theorem aET(hz:∀x,(f x).length=z)(hs:zs.length=z){L:List X}{k:Nat}(x:X):wr (qg f L++zV (k+1) zs) (L.length*z) (f x)=qg f (L++[x])++zV k zs:=by
 unfold zV
 rw[List.replicate_succ,List.flatten_cons,←List.append_assoc]
 have h1:(qg f L++zs).length=(qg f L).length+z:=by simp[hs]
 have h2:=Qj (qg f L) zs (f x) (by rw[hz,hs])
 rw[ye hz]at h2
 rw[Yj _ _ _ _ (by rw[h1,ye hz,hz];exact Nat.le_refl _),h2,←QV,zy,yq,List.append_nil]
theorem aHz:zU ρ (zV n z3)=zV n z3:=afz rfl
theorem aHA:AllL p (zV n z3)=True:=eq_true (afA (by simp[z3,AllL,AV.All]))
theorem al4:(zV n z3).length=n*3:=zx n z3
theorem aRF:zU ρ (zV n z6)=zV n z6:=afz rfl
theorem aRH:AllL p (zV n z6)=True:=eq_true (afA (by simp[z6,AllL,AV.All]))
theorem aRG:(zV n z6).length=n*6:=zx n z6
theorem aRE:zV 0 zs=[]:=by simp[zV]
theorem af4{L:List ExV}{k:Nat}{x:ExV}:wr (qg ExV.cs L++zV (k+1) z3) (L.length*3) [.v (.bool x.s),.sl (lim x.m).length (qh (lim x.m)),.v (.int .i64 x.e)]=qg ExV.cs (L++[x])++zV k z3:=aET jG rfl x
theorem aGC{x:DyV}{L:List DyV}{s:Bool}{xs:List Int}{e:Int}:wr (qg DyV.cs (x::L)) 0 [.v (.bool s),.sl xs.length (qh xs),.v (.int .i64 e)]=qg DyV.cs (⟨s,xs,e⟩::L):=aES Zf (y:=⟨s,xs,e⟩)
theorem aE2{a b:List AV}:zU ρ (a++b)=zU ρ a++zU ρ b:=by simp[q6]
theorem aHq{a b:List AV}:AllL p (a++b)=(AllL p a∧AllL p b):=propext ⟨fun h=>by
 induction a with
 |nil=>exact⟨by simp[AllL],h⟩
 |cons x r ih=>exact⟨⟨h.1,(ih h.2).1⟩,(ih h.2).2⟩,fun h=>AllL.append h.1 h.2⟩
end
attribute [go_sem] aHz aHA al4 aRF aRH aRG aE2 aHq
end Go.Ab
namespace Go.Ab
open Go
section
variable {X:Type}{f:X→List AV}{z:Nat}
theorem aq4(hz:∀x,(f x).length=z){y:X}{L:List X}{i:Nat}(hi:i<L.length):wr (qg f L) (i*z) (f y)=qg f (L.set i y):=by
 have e:L=L.take i++[L[i]]++L.drop (i+1):=by
  rw[List.append_assoc,List.singleton_append,List.getElem_cons_drop,List.take_append_drop]
 have h1:(qg f (L.take i)).length=i*z:=by rw[ye hz,List.length_take,Nat.min_eq_left (by omega)]
 have h2:qg f L=qg f (L.take i)++f L[i]++qg f (L.drop (i+1)):=by
  conv=>lhs;rw[e]
  rw[←QV,←QV,zy,yq,List.append_nil]
 rw[h2,Yj _ _ _ _ (by rw[List.length_append,h1,hz,hz];omega),←h1,Qj _ _ _ (by rw[hz,hz]),List.set_eq_take_append_cons_drop,if_pos hi,←QV,zy,List.append_assoc]
end
theorem aQd{L:List DyV}{i:Nat}{s:Bool}{xs:List Int}{e:Int}(hi:i<L.length):wr (qg DyV.cs L) (i*3) [.v (.bool s),.sl xs.length (qh xs),.v (.int .i64 e)]=qg DyV.cs (L.set i ⟨s,xs,e⟩):=aq4 Zf (y:=⟨s,xs,e⟩) hi
theorem qU{L:List ExV}{i:Nat}{x:ExV}(hi:i<L.length):wr (qg ExV.cs L) (i*3) [.v (.bool x.s),.sl (lim x.m).length (qh (lim x.m)),.v (.int .i64 x.e)]=qg ExV.cs (L.set i x):=aq4 jG (y:=x) hi
theorem aQg{l:List DyV}{i:Nat}(hi:i<l.length):cut (qg DyV.cs l) (i*3) 3=[.v (.bool (l.getD i dy0).s),.sl (l.getD i dy0).xs.length (qh (l.getD i dy0).xs),.v (.int .i64 (l.getD i dy0).e)]:=QU (l:=l) Zf hi dy0
end Go.Ab
namespace Go.Ab
open Go
section
variable {σ:St}
end
end Go.Ab
namespace Go.Ab
open Go Go.Proofs
theorem aYK{R:List ExV}:qZ (qg ExV.cs R)=True:=by
 refine eq_true fun k hk=>?_
 unfold qg at hk
 simp only[List.mem_flatten,List.mem_map]at hk
 obtain⟨l,⟨x,_,rfl⟩,hk⟩:=hk
 simp only[ExV.cs,List.mem_cons,List.not_mem_nil,or_false]at hk
 rcases hk with rfl|rfl|rfl<;>rfl
theorem zz(R:List ExV)(hl:R.length≤1000)(h0:0<R.length):Con Tryz.prog 182 false [.sl R.length (qg ExV.cs R)] [] (fun r hs bs=>r=.rf 0 0 R.length∧hs=[.own 3 (qg ExV.cs R)]):=by
 have hcut:=qV (l:=R) rfl
 refine Con.of_aw Tryz.func182 rfl Tryz.ntmps182 (by simp) (by simp) (by simp) (W.sound ?_)
 show @W Tryz.prog 8 ⟨_⟩ ⟨fun x σ=>@q9 _ _ _ ⟨_⟩ _ ⟨_⟩ x σ⟩ _ _
 simp(disch:=omega)only[go_sem,hcut,aYK]
 exact⟨fun h=>absurd (congrArg List.length h) (by rw[Ji];simp;omega),by omega,ql [(0,90000000)] [.own 3 (qg ExV.cs R)] [] [.rf 0 0 R.length] rfl (by simp(disch:=omega)only[go_sem]) (by simp(disch:=omega)only[go_sem]) (by simp) (by simp) ⟨rfl,rfl⟩⟩
theorem aQn(R:List ExV)(j:Nat)(hj:j<R.length)(hl:R.length≤1000):Con Tryz.prog 184 true [.sl R.length (qg ExV.cs R),.fp [.v (.int .i64 j)] 0] [] (isA (.v (.bool (decide ((R.getD j ex0).m≠0))))):=by
 have hc:=qk hj
 have c:=yT (R.getD j ex0).s (R.getD j ex0).m (R.getD j ex0).e
 generalize R.getD j ex0=x at*
 by_cases h0:x.m=0
 ·rw[decide_eq_true h0]at c
  rw[decide_eq_false (show ¬x.m≠0 from fun h=>h h0)]
  refine Con.of_w (rs:=[.tmp 3]) Tryz.func184 rfl Tryz.ntmps184 rfl ?_
  simp(disch:=omega)only[go_sem,hc]
  refine⟨by omega,by omega,?_⟩
  refine qo (c) ?_
  simp(disch:=omega)only[go_sem]
  exact qz
 ·rw[decide_eq_false h0]at c
  rw[decide_eq_true (show x.m≠0 from h0)]
  refine Con.of_w (rs:=[.tmp 3]) Tryz.func184 rfl Tryz.ntmps184 rfl ?_
  simp(disch:=omega)only[go_sem,hc]
  refine⟨by omega,by omega,?_⟩
  refine qo (c) ?_
  simp(disch:=omega)only[go_sem]
  exact qz
def rwC(n:Nat)(R:List ExV):List AV:=[.sl n (qg ExV.cs R)]
theorem aIF{n:Nat}(R:List ExV):(rwC n R).length=1:=rfl
theorem zN(n j:Nat)(Rs:List (List ExV))(hn:n≤4)(hj:j<n)(hl:∀R∈Rs,R.length=n)(hlen:Rs.length≤4):Con Tryz.prog 183 true [.sl Rs.length (qg (rwC n) Rs),.fn 184 [.fp [.v (.int .i64 j)] 0]] []
  (fun r hs bs=>hs=[]∧bs=[]∧((r=.v (.int .i64 (-1))∧∀t,t<Rs.length→((Rs.getD t []).getD j ex0).m=0)∨∃k:Nat,k<Rs.length∧r=.v (.int .i64 k)∧((Rs.getD k []).getD j ex0).m≠0)):=by
 have hg:qs Tryz.prog 184=True:=by simp(disch:=omega)only[go_sem]
 refine Con.of_aw Tryz.func183 rfl Tryz.ntmps183 (by simp) (by simp) (by simp) (W.sound ?_)
 show @W Tryz.prog 19 ⟨_⟩ ⟨fun x σ=>@q9 _ _ _ ⟨_⟩ _ ⟨_⟩ x σ⟩ _ _
 simp(disch:=omega)only[go_sem]
 refine qc (fun i:Nat=>[(0,.sl Rs.length (qg (rwC n) Rs)),(1,.fn 184 [.fp [.v (.int .i64 j)] 0]),(6,.sl Rs.length (qg (rwC n) Rs)),(7,.v (.int .i64 Rs.length)),(8,.v (.int .i64 i))]) (fun _=>[]) (fun i=>i≤Rs.length∧∀t,t<i→((Rs.getD t []).getD j ex0).m=0) (fun i=>Rs.length-i) 0 ⟨by omega,fun t ht=>by omega⟩
  (Le.lst [] _ _ rfl (by simp(disch:=omega)only[go_sem]) (by simp(disch:=omega)only[go_sem])) ?_
 rintro i ⟨hi,hz⟩
 simp(disch:=omega)only[go_sem]
 refine qe (fun h1=>?_) (fun h1=>?_)
 ·have hi2:i<Rs.length:=by omega
  have hc:=QU (f:=rwC n) (l:=Rs) (z:=1) aIF hi2 []
  have hR:=hl (Rs.getD i []) (by rw[List.getD_eq_getElem?_getD,List.getElem?_eq_getElem hi2];exact List.getElem_mem _)
  have hz':((Rs.getD i []).getD j ex0).m=0→∀t,t<i+1→((Rs.getD t []).getD j ex0).m=0:=fun h t ht=>by
   rcases(show t<i∨t=i by omega)with g|g
   ·exact hz t g
   ·rw[g];exact h
  have hf:((Rs.getD i []).getD j ex0).m≠0→∃k:Nat,k<Rs.length∧AV.v (.int .i64 (i:Int))=.v (.int .i64 k)∧((Rs.getD k []).getD j ex0).m≠0:=fun h=>⟨i,hi2,rfl,h⟩
  generalize Rs.getD i []=R at*
  have cz:=aQn R j (by omega) (by omega)
  rw[hR]at cz
  unfold rwC at hc
  have hc2:rdA false 1 (qg (rwC n) Rs) i=.sl n (qg ExV.cs R):=by
   have h2:(cut (qg (rwC n) Rs) (i*1) 1)[0]? =some (.sl n (qg ExV.cs R)):=by
    show(cut (qg (rwC n) Rs) (i*1) 1)[0]? =_
    unfold rwC at*
    rw[hc];rfl
   unfold cut at h2
   rw[List.getElem?_take_of_lt (by omega),List.getElem?_drop]at h2
   show(qg (rwC n) Rs).getD i .un=_
   rw[List.getD_eq_getElem?_getD]
   rw[show i*1+0=i by omega]at h2
   rw[h2];rfl
  have hrl:(qg (rwC n) Rs).length=Rs.length:=by rw[ye (f:=rwC n) (z:=1) aIF];omega
  simp(disch:=omega)only[go_sem,h1,hrl]
  refine⟨by omega,?_⟩
  rw[aeL,hc2]
  refine⟨by rw[hrl];show i+1≤_;omega,?_⟩
  simp(disch:=omega)only[go_sem,hg]
  by_cases h0:(R.getD j ex0).m=0
  ·rw[decide_eq_false (show ¬(R.getD j ex0).m≠0 from fun h=>h h0)]at cz
   refine qo (cz) ?_
   simp(disch:=omega)only[go_sem]
   exact qa (i+1) [] ⟨by omega,hz' h0⟩ (by show Rs.length-(i+1)<Rs.length-i;omega) rfl (by simp(disch:=omega)only[go_sem];try omega) (by simp(disch:=omega)only[go_sem])
  ·rw[decide_eq_true (show(R.getD j ex0).m≠0 from h0)]at cz
   refine qo (cz) ?_
   simp(disch:=omega)only[go_sem]
   exact qC (by simp(disch:=omega)only[go_sem]) (by simp(disch:=omega)only[go_sem]) ⟨rfl,rfl,.inr (hf h0)⟩
 ·simp(disch:=omega)only[go_sem,h1]
  obtain rfl:i=Rs.length:=by omega
  exact qC (by simp(disch:=omega)only[go_sem]) (by simp(disch:=omega)only[go_sem]) ⟨rfl,rfl,.inl ⟨rfl,hz⟩⟩
end Go.Ab
namespace Go.Ab
open Go Go.Proofs
def aNB(n:Nat)(L:List ExV):Nat→List (Nat×Ob)
 |0=>[(3,.own 1 [.v (.slice none 0 0)])]
 |_=>[(3,.own 1 [.rf 5 0 n]),(5,.own 3 (qg ExV.cs (jq n L 0)))]
set_option maxRecDepth 100000 in
set_option maxHeartbeats 4000000 in
theorem alj(n:Nat)(hN:n=1)(L:List ExV)(h:matV n L):Con Tryz.prog 90 true [.ag [.v (.int .i64 (n)),.sl (L).length (qg ExV.cs (L))]] [] (rkQ n L):=by
 have hz:zV n [.v (.slice none 0 0)]=[AV.v (.slice none 0 0)]:=by rw[hN];rfl
 have hn4:n≤4:=by omega
 have hl:=h.len
 have hLN:L.length=1:=by rw[hl,hN]
 have hl0:=zW (i:=0) hl (by omega)
 have cc0:=zz (jq n L 0) (by omega) (by omega)
 rw[hl0]at cc0
 have hr0:cut (qg ExV.cs L) ((0*n)*3) (n*3)=qg ExV.cs (jq n L 0):=jb jG (0*n) n
 refine Con.of_aw Tryz.func90 rfl Tryz.ntmps90 (by simp) (by simp) (by simp) (W.sound ?_)
 show @W Tryz.prog 114 ⟨_⟩ ⟨fun x σ=>@q9 _ _ _ ⟨_⟩ _ ⟨_⟩ x σ⟩ _ _
 simp(disch:=omega)only[go_sem]
 rw[hz]
 refine⟨by omega,?_⟩
 refine qc (fun i:Nat=>[(1,.pt 1 0),(2,.v (.int .i64 0)),(3,.rf 3 0 n),(17,.v (.int .i64 n)),(18,.v (.int .i64 i))])
  (fun i=>(1,.own 0 [.v (.int .i64 n),.sl L.length (qg ExV.cs L)])::aNB n L i) (fun i=>i≤1) (fun i=>1-i) 0 (by omega)
  (Le.lst [(1,30000000),(3,170000000)] _ _ rfl (by simp(disch:=omega)only[go_sem,aNB];try rfl) (by simp(disch:=omega)only[go_sem,aNB])) ?_
 intro i hi
 rcases(show i=0∨i=1 by omega)with rfl|rfl
 ·dsimp only[aNB]
  simp(disch:=omega)only[go_sem]
  simp(disch:=omega)only[go_sem,decide_eq_true (show((0:Nat):Int)<(n:Int) by omega),decide_eq_true (show(0:Int)<(n:Int) by omega)]
  have e1:((0+1)*(n:Int)-0*(n:Int)).toNat=n:=by omega
  have e2:(0*(n:Int)).toNat=0*n:=by omega
  rw[e1,e2,hr0]
  refine⟨by omega,qK cc0 (by simp(disch:=omega)only[go_sem]) ?_⟩
  rintro r hs ⟨rfl,rfl⟩
  refine⟨by simp[qG];simp(disch:=omega)only[go_sem],?_⟩
  simp(disch:=omega)only[go_sem]
  exact⟨by omega,qa 1 [(3,3),(5,370000000)] (by omega) (by omega) rfl (by simp(disch:=omega)only[go_sem,aNB,Int.zero_add,show(1:Int)+1=2 from rfl,show(2:Int)+1=3 from rfl,show(3:Int)+1=4 from rfl];try rfl) (by simp(disch:=omega)only[go_sem,aNB])⟩
 ·dsimp only[aNB]
  simp(disch:=omega)only[go_sem]
  simp(disch:=omega)only[go_sem,decide_eq_false (show ¬((1:Nat):Int)<(n:Int) by omega),decide_eq_false (show ¬(1:Int)<(n:Int) by omega)]
  refine qc (fun x:Nat×Nat×(Nat→List ExV)=>[(3,.rf 3 0 n),(5,.v (.int .i64 x.2.1)),(39,.v (.int .i64 n)),(40,.v (.int .i64 x.1))])
   (fun x=>[(3,.own 1 [.rf 5 0 n]),(5,.own 3 (qg ExV.cs (x.2.2 0)))]) (fun x=>rkInv n L x.1 x.2.1 x.2.2) (fun x=>n-x.1) (0,0,jq n L) (rkInv.start h)
   (Le.lst [] _ _ rfl (by simp(disch:=omega)only[go_sem];try rfl) (by simp(disch:=omega)only[go_sem])) ?_
  rintro⟨j,r,R⟩ hI
  dsimp only at hI ⊢
  have hrj:=hI.rj
  have hjn:=hI.jn
  simp(disch:=omega)only[go_sem]
  refine qe (fun c1=>?_) (fun c1=>?_)
  rotate_left
  ·obtain rfl:j=n:=by omega
   simp(disch:=omega)only[go_sem,c1]
   exact qC (by simp(disch:=omega)only[go_sem]) (by simp(disch:=omega)only[go_sem]) ⟨rfl,rfl,r,hI.rank hn4,rfl⟩
  have lR0:=hI.len 0 (by omega)
  have hcR0:=qV lR0
  rcases(show r=0 by omega)with rfl
  ·have hx:=zN n j [R 0] hn4 (by omega) (by simp[lR0]) (by simp)
   change Con _ _ _ [.sl 1 [.sl n (qg ExV.cs (R 0))],_] _ _ at hx
   simp(disch:=omega)only[go_sem,c1]
   rw[show((n:Int)-0).toNat=1 by omega]
   refine⟨by omega,?_⟩
   refine qy hx (by simp(disch:=omega)only[go_sem,hcR0]) ?_
   rintro x hs ⟨rfl, -,(⟨rfl,hz0⟩|⟨k,hk,rfl,hk0⟩)⟩
   ·refine⟨by simp[qG],?_⟩
    simp(disch:=omega)only[go_sem]
    exact qa (j+1,0,R) [] (hI.skip (by omega) (fun i h1 h2=>by
     have:=hz0 (i-0) (by simp;omega)
     rcases(show i=0 by omega)with rfl
     ·exact this)) (by show n-(j+1)<n-j;omega) rfl (by simp(disch:=omega)only[go_sem];try omega) (by simp(disch:=omega)only[go_sem])
   ·refine⟨by simp[qG],?_⟩
    have hk:k<1:=hk
    rcases(show k=0 by omega)with rfl
    ·have hP:=hI.pivot hn4 (by omega) (k:=0) (by omega) hk0
     simp(disch:=omega)only[go_sem]
     refine qm rfl [⟨0,[],[]⟩,⟨1,[],[]⟩,⟨2,[],[]⟩,⟨3,[],[]⟩,⟨4,[],[]⟩,⟨5,[],[]⟩,⟨6,[],[]⟩,⟨7,[],[]⟩,⟨8,[],[]⟩,⟨9,[],[]⟩,⟨10,[],[]⟩,⟨11,[],[]⟩,⟨12,[11],[]⟩,⟨13,[11],[]⟩,⟨14,[11],[]⟩,⟨15,[11],[]⟩,⟨16,[],[]⟩,⟨17,[],[]⟩,⟨18,[],[]⟩,⟨19,[],[]⟩] (by kernel_rfl) ?_
     simp(disch:=omega)only[go_sem,Int.add_zero,Int.zero_add,Int.toNat_zero,List.getD_cons_zero,List.getD_cons_succ,show(1:Int)+1=2 from rfl,show(1:Int)+2=3 from rfl,show(2:Int)+1=3 from rfl,show(3:Int)+1=4 from rfl,show(1:Int).toNat=1 from rfl,show(2:Int).toNat=2 from rfl,show(3:Int).toNat=3 from rfl]
     refine⟨by omega,by omega,by omega,by omega,by omega,by omega,?_⟩
     rw[show((n:Int)-1).toNat=0 by omega]
     refine qc (fun x:Nat×(Nat→List ExV)=>[(3,.rf 3 0 n),(5,.v (.int .i64 1)),(6,.pt 20 0),(8,.rf 5 0 n),(39,.v (.int .i64 n)),(40,.v (.int .i64 j)),(76,.rf 3 1 0),(77,.v (.int .i64 ((0:Nat):Int))),(78,.v (.int .i64 x.1))])
      (fun x=>[(3,.own 1 [.rf 5 0 n]),(5,.own 3 (qg ExV.cs (x.2 0))),(20,.own 0 [.v (.int .i64 j)])]) (fun x=>x.1≤0∧rkRed n L j 0 (1+x.1) x.2) (fun x=>0-x.1) (0,fun i=>R (swI 0 (0+0) i)) ⟨by omega,hP⟩
      (Le.lst [(5,5),(20,80000000)] _ _ rfl (by simp(disch:=omega)only[go_sem,Int.zero_add,show(1:Int)+1=2 from rfl,show(2:Int)+1=3 from rfl,show(3:Int)+1=4 from rfl];try rfl) (by simp(disch:=omega)only[go_sem,show swI 0 (0+0) 0=0 from rfl])) ?_
     rintro⟨m,R2⟩ ⟨hm,hE⟩
     dsimp only at hm hE ⊢
     have lS0:=hE.len 0 (by omega)
     rcases(show m=0 by omega)with rfl
     ·simp(disch:=omega)only[go_sem]
      try simp(disch:=omega)only[go_sem]
      exact qa (j+1,1,R2) [] (hE.done (by omega)) (by show n-(j+1)<n-j;omega) rfl (by simp(disch:=omega)only[go_sem];try omega) (by simp(disch:=omega)only[go_sem])
end Go.Ab
namespace Go.Ab
open Go Go.Proofs
def atX(n:Nat)(L:List ExV):Nat→List (Nat×Ob)
 |0=>[(3,.own 1 [.v (.slice none 0 0),.v (.slice none 0 0)])]
 |1=>[(3,.own 1 [.rf 5 0 n,.v (.slice none 0 0)]),(5,.own 3 (qg ExV.cs (jq n L 0)))]
 |_=>[(3,.own 1 [.rf 5 0 n,.rf 6 0 n]),(5,.own 3 (qg ExV.cs (jq n L 0))),(6,.own 3 (qg ExV.cs (jq n L 1)))]
set_option maxRecDepth 100000 in
set_option maxHeartbeats 4000000 in
theorem ali(n:Nat)(hN:n=2)(L:List ExV)(h:matV n L):Con Tryz.prog 90 true [.ag [.v (.int .i64 (n)),.sl (L).length (qg ExV.cs (L))]] [] (rkQ n L):=by
 have hz:zV n [.v (.slice none 0 0)]=[AV.v (.slice none 0 0),AV.v (.slice none 0 0)]:=by rw[hN];rfl
 have hn4:n≤4:=by omega
 have hl:=h.len
 have hLN:L.length=4:=by rw[hl,hN]
 have hl0:=zW (i:=0) hl (by omega)
 have cc0:=zz (jq n L 0) (by omega) (by omega)
 rw[hl0]at cc0
 have hr0:cut (qg ExV.cs L) ((0*n)*3) (n*3)=qg ExV.cs (jq n L 0):=jb jG (0*n) n
 have hl1:=zW (i:=1) hl (by omega)
 have cc1:=zz (jq n L 1) (by omega) (by omega)
 rw[hl1]at cc1
 have hr1:cut (qg ExV.cs L) ((1*n)*3) (n*3)=qg ExV.cs (jq n L 1):=jb jG (1*n) n
 refine Con.of_aw Tryz.func90 rfl Tryz.ntmps90 (by simp) (by simp) (by simp) (W.sound ?_)
 show @W Tryz.prog 114 ⟨_⟩ ⟨fun x σ=>@q9 _ _ _ ⟨_⟩ _ ⟨_⟩ x σ⟩ _ _
 simp(disch:=omega)only[go_sem]
 rw[hz]
 refine⟨by omega,?_⟩
 refine qc (fun i:Nat=>[(1,.pt 1 0),(2,.v (.int .i64 0)),(3,.rf 3 0 n),(17,.v (.int .i64 n)),(18,.v (.int .i64 i))])
  (fun i=>(1,.own 0 [.v (.int .i64 n),.sl L.length (qg ExV.cs L)])::atX n L i) (fun i=>i≤2) (fun i=>2-i) 0 (by omega)
  (Le.lst [(1,30000000),(3,170000000)] _ _ rfl (by simp(disch:=omega)only[go_sem,atX];try rfl) (by simp(disch:=omega)only[go_sem,atX])) ?_
 intro i hi
 rcases(show i=0∨i=1∨i=2 by omega)with rfl|rfl|rfl
 ·dsimp only[atX]
  simp(disch:=omega)only[go_sem]
  simp(disch:=omega)only[go_sem,decide_eq_true (show((0:Nat):Int)<(n:Int) by omega),decide_eq_true (show(0:Int)<(n:Int) by omega)]
  have e1:((0+1)*(n:Int)-0*(n:Int)).toNat=n:=by omega
  have e2:(0*(n:Int)).toNat=0*n:=by omega
  rw[e1,e2,hr0]
  refine⟨by omega,qK cc0 (by simp(disch:=omega)only[go_sem]) ?_⟩
  rintro r hs ⟨rfl,rfl⟩
  refine⟨by simp[qG];simp(disch:=omega)only[go_sem],?_⟩
  simp(disch:=omega)only[go_sem]
  exact⟨by omega,qa 1 [(3,3),(5,370000000)] (by omega) (by omega) rfl (by simp(disch:=omega)only[go_sem,atX,Int.zero_add,show(1:Int)+1=2 from rfl,show(2:Int)+1=3 from rfl,show(3:Int)+1=4 from rfl];try rfl) (by simp(disch:=omega)only[go_sem,atX])⟩
 ·dsimp only[atX]
  simp(disch:=omega)only[go_sem]
  simp(disch:=omega)only[go_sem,decide_eq_true (show((1:Nat):Int)<(n:Int) by omega),decide_eq_true (show(1:Int)<(n:Int) by omega)]
  have e1:((1+1)*(n:Int)-1*(n:Int)).toNat=n:=by omega
  have e2:(1*(n:Int)).toNat=1*n:=by omega
  rw[e1,e2,hr1]
  refine⟨by omega,qK cc1 (by simp(disch:=omega)only[go_sem]) ?_⟩
  rintro r hs ⟨rfl,rfl⟩
  refine⟨by simp[qG];simp(disch:=omega)only[go_sem],?_⟩
  simp(disch:=omega)only[go_sem]
  exact⟨by omega,qa 2 [(3,3),(5,5),(6,370000000)] (by omega) (by omega) rfl (by simp(disch:=omega)only[go_sem,atX,Int.zero_add,show(1:Int)+1=2 from rfl,show(2:Int)+1=3 from rfl,show(3:Int)+1=4 from rfl];try rfl) (by simp(disch:=omega)only[go_sem,atX])⟩
 ·dsimp only[atX]
  simp(disch:=omega)only[go_sem]
  simp(disch:=omega)only[go_sem,decide_eq_false (show ¬((2:Nat):Int)<(n:Int) by omega),decide_eq_false (show ¬(2:Int)<(n:Int) by omega)]
  refine qc (fun x:Nat×Nat×(Nat→List ExV)=>[(3,.rf 3 0 n),(5,.v (.int .i64 x.2.1)),(39,.v (.int .i64 n)),(40,.v (.int .i64 x.1))])
   (fun x=>[(3,.own 1 [.rf 5 0 n,.rf 6 0 n]),(5,.own 3 (qg ExV.cs (x.2.2 0))),(6,.own 3 (qg ExV.cs (x.2.2 1)))]) (fun x=>rkInv n L x.1 x.2.1 x.2.2) (fun x=>n-x.1) (0,0,jq n L) (rkInv.start h)
   (Le.lst [] _ _ rfl (by simp(disch:=omega)only[go_sem];try rfl) (by simp(disch:=omega)only[go_sem])) ?_
  rintro⟨j,r,R⟩ hI
  dsimp only at hI ⊢
  have hrj:=hI.rj
  have hjn:=hI.jn
  simp(disch:=omega)only[go_sem]
  refine qe (fun c1=>?_) (fun c1=>?_)
  rotate_left
  ·obtain rfl:j=n:=by omega
   simp(disch:=omega)only[go_sem,c1]
   exact qC (by simp(disch:=omega)only[go_sem]) (by simp(disch:=omega)only[go_sem]) ⟨rfl,rfl,r,hI.rank hn4,rfl⟩
  have lR0:=hI.len 0 (by omega)
  have hcR0:=qV lR0
  have lR1:=hI.len 1 (by omega)
  have hcR1:=qV lR1
  rcases(show r=0∨r=1 by omega)with rfl|rfl
  ·have hx:=zN n j [R 0,R 1] hn4 (by omega) (by simp[lR0,lR1]) (by simp)
   change Con _ _ _ [.sl 2 [.sl n (qg ExV.cs (R 0)),.sl n (qg ExV.cs (R 1))],_] _ _ at hx
   simp(disch:=omega)only[go_sem,c1]
   rw[show((n:Int)-0).toNat=2 by omega]
   refine⟨by omega,?_⟩
   refine qy hx (by simp(disch:=omega)only[go_sem,hcR0,hcR1]) ?_
   rintro x hs ⟨rfl, -,(⟨rfl,hz0⟩|⟨k,hk,rfl,hk0⟩)⟩
   ·refine⟨by simp[qG],?_⟩
    simp(disch:=omega)only[go_sem]
    exact qa (j+1,0,R) [] (hI.skip (by omega) (fun i h1 h2=>by
     have:=hz0 (i-0) (by simp;omega)
     rcases(show i=0∨i=1 by omega)with rfl|rfl
     ·exact this
     ·exact this)) (by show n-(j+1)<n-j;omega) rfl (by simp(disch:=omega)only[go_sem];try omega) (by simp(disch:=omega)only[go_sem])
   ·refine⟨by simp[qG],?_⟩
    have hk:k<2:=hk
    rcases(show k=0∨k=1 by omega)with rfl|rfl
    ·have hP:=hI.pivot hn4 (by omega) (k:=0) (by omega) hk0
     simp(disch:=omega)only[go_sem]
     refine qm rfl [⟨0,[],[]⟩,⟨1,[],[]⟩,⟨2,[],[]⟩,⟨3,[],[]⟩,⟨4,[],[]⟩,⟨5,[],[]⟩,⟨6,[],[]⟩,⟨7,[],[]⟩,⟨8,[],[]⟩,⟨9,[],[]⟩,⟨10,[],[]⟩,⟨11,[],[]⟩,⟨12,[11],[]⟩,⟨13,[11],[]⟩,⟨14,[11],[]⟩,⟨15,[11],[]⟩,⟨16,[],[]⟩,⟨17,[],[]⟩,⟨18,[],[]⟩,⟨19,[],[]⟩] (by kernel_rfl) ?_
     simp(disch:=omega)only[go_sem,Int.add_zero,Int.zero_add,Int.toNat_zero,List.getD_cons_zero,List.getD_cons_succ,show(1:Int)+1=2 from rfl,show(1:Int)+2=3 from rfl,show(2:Int)+1=3 from rfl,show(3:Int)+1=4 from rfl,show(1:Int).toNat=1 from rfl,show(2:Int).toNat=2 from rfl,show(3:Int).toNat=3 from rfl]
     refine⟨by omega,by omega,by omega,by omega,by omega,by omega,?_⟩
     rw[show((n:Int)-1).toNat=1 by omega]
     refine qc (fun x:Nat×(Nat→List ExV)=>[(3,.rf 3 0 n),(5,.v (.int .i64 1)),(6,.pt 20 0),(8,.rf 5 0 n),(39,.v (.int .i64 n)),(40,.v (.int .i64 j)),(76,.rf 3 1 1),(77,.v (.int .i64 ((1:Nat):Int))),(78,.v (.int .i64 x.1))])
      (fun x=>[(3,.own 1 [.rf 5 0 n,.rf 6 0 n]),(5,.own 3 (qg ExV.cs (x.2 0))),(6,.own 3 (qg ExV.cs (x.2 1))),(20,.own 0 [.v (.int .i64 j)])]) (fun x=>x.1≤1∧rkRed n L j 0 (1+x.1) x.2) (fun x=>1-x.1) (0,fun i=>R (swI 0 (0+0) i)) ⟨by omega,hP⟩
      (Le.lst [(5,5),(6,6),(20,80000000)] _ _ rfl (by simp(disch:=omega)only[go_sem,Int.zero_add,show(1:Int)+1=2 from rfl,show(2:Int)+1=3 from rfl,show(3:Int)+1=4 from rfl];try rfl) (by simp(disch:=omega)only[go_sem,show swI 0 (0+0) 0=0 from rfl,show swI 0 (0+0) 1=1 from rfl])) ?_
     rintro⟨m,R2⟩ ⟨hm,hE⟩
     dsimp only at hm hE ⊢
     have lS0:=hE.len 0 (by omega)
     have lS1:=hE.len 1 (by omega)
     rcases(show m=0∨m=1 by omega)with rfl|rfl
     ·have hS:=hE.step hn4 (show 1<n by omega)
      have bX:=hE.bd0 1 (by omega) (.inr (by omega))
      have bP:=hE.bd0 0 (by omega) (.inl (by omega))
      have hjX:=qk (l:=R2 1) (i:=j) (by omega)
      have hjP:=qk (l:=R2 0) (i:=j) (by omega)
      generalize hA:R2 1=X at*
      generalize hB:R2 0=P at*
      simp(disch:=omega)only[go_sem]
      simp(disch:=omega)only[go_sem,hjX]
      refine⟨by omega,by omega,?_⟩
      refine qc (fun c:Nat=>[(3,.rf 3 0 n),(5,.v (.int .i64 1)),(6,.pt 20 0),(8,.rf 5 0 n),(10,.rf 6 0 n),(11,.pt 21 0),(39,.v (.int .i64 n)),(40,.v (.int .i64 j)),(76,.rf 3 1 1),(77,.v (.int .i64 ((1:Nat):Int))),(78,.v (.int .i64 ((0:Nat):Int))),(87,.v (.int .i64 n)),(88,.v (.int .i64 c))])
       (fun c=>[(3,.own 1 [.rf 5 0 n,.rf 6 0 n]),(5,.own 3 (qg ExV.cs (P))),(6,.own 3 (qg ExV.cs (uR n X P j c))),(20,.own 0 [.v (.int .i64 j)]),(21,.own 0 [.v (.bool (X.getD j ex0).s),.sl (lim (X.getD j ex0).m).length (qh (lim (X.getD j ex0).m)),.v (.int .i64 (X.getD j ex0).e)])]) (fun c=>c≤n) (fun c=>n-c) 0 (by omega)
       (Le.lst [(21,130000000)] _ _ rfl (by simp(disch:=omega)only[go_sem];try rfl) (by simp(disch:=omega)only[go_sem,qT lS1])) ?_
      intro c hc
      simp(disch:=omega)only[go_sem]
      refine qe (fun c2=>?_) (fun c2=>?_)
      ·have hcX:=qk (l:=uR n X P j c) (i:=c) (by rw[qF];omega)
       rw[za (by omega),if_neg (show ¬c<c by omega)]at hcX
       have hcP:=qk (l:=P) (i:=c) (by omega)
       obtain⟨b1,b2,b3⟩:=zR lS1 lS0 (show c<n by omega) (show j<n by omega) bX bP
       have hj8:2^j≤2^3:=Nat.pow_le_pow_right (by decide) (by omega)
       have e8:2^(j+1)=2*2^j:=by rw[Nat.pow_succ];omega
       rw[e8]at b1 b2
       have g1:=qi bX (show c<X.length by omega)
       have g2:=qi bX (show j<X.length by omega)
       have g3:=qi bP (show c<P.length by omega)
       have g4:=qi bP (show j<P.length by omega)
       have hlu:(uR n X P j c).length=n:=qF
       have hset:=qU (L:=uR n X P j c) (i:=c) (x:=nwX X P j c) (by omega)
       rw[zl (show c<n by omega)]at hset
       have t1:=qn (X.getD c ex0) (P.getD j ex0) (g1.mono (by omega) (by omega)) (g4.mono (by omega) (by omega))
       have t2:=qn (P.getD c ex0) (X.getD j ex0) (g3.mono (by omega) (by omega)) (g2.mono (by omega) (by omega))
       have t3:=qB ((X.getD c ex0).times (P.getD j ex0)) ((P.getD c ex0).times (X.getD j ex0)) (b1.mono (by omega) (by omega)) (b2.mono (by omega) (by omega))
       change Con _ _ _ _ _ (isA (.ag [.v (.bool (nwX X P j c).s),.sl (lim (nwX X P j c).m).length (qh (lim (nwX X P j c).m)),.v (.int .i64 (nwX X P j c).e)]))at t3
       generalize nwX X P j c=Y at*
       generalize uR n X P j c=U at*
       generalize hU2:uR n X P j (c+1)=U2 at*
       simp(disch:=omega)only[go_sem,c2]
       refine qm rfl [⟨0,[],[]⟩,⟨1,[],[]⟩,⟨2,[],[]⟩,⟨3,[],[]⟩,⟨4,[],[]⟩,⟨5,[],[]⟩,⟨6,[5],[]⟩,⟨7,[5],[]⟩,⟨8,[5],[]⟩,⟨9,[5],[]⟩,⟨11,[5,7,9],[]⟩,⟨12,[5,7,9],[]⟩,⟨13,[5,7,9],[]⟩,⟨14,[5,7,9],[]⟩,⟨15,[5,7,9,14],[]⟩,⟨10,[14,15],[]⟩,⟨16,[],[]⟩,⟨17,[],[]⟩,⟨18,[],[]⟩,⟨19,[],[]⟩] (by kernel_rfl) ?_
       simp(disch:=omega)only[go_sem,hcX,hjP,hcP]
       refine⟨by omega,by omega,by omega,by omega,by omega,by omega,?_⟩
       refine qb (t1) ?_
       simp(disch:=omega)only[go_sem]
       refine qb (t2) ?_
       simp(disch:=omega)only[go_sem]
       refine qb (t3) ?_
       simp(disch:=omega)only[go_sem]
       rw[hset]
       exact⟨by omega,by omega,qa (c+1) [] (by show c+1≤n;omega) (by show n-(c+1)<n-c;omega) rfl (by simp(disch:=omega)only[go_sem];try omega) (by simp(disch:=omega)only[go_sem,hU2])⟩
      ·obtain rfl:c=n:=by omega
       simp(disch:=omega)only[go_sem,c2]
       exact qa (1,fun i=>if i=1 then uR c (R2 1) (R2 0) j c else R2 i) [] ⟨by omega,hA▸hB▸hS⟩ (by show 1-1<1-0;omega) rfl (by simp(disch:=omega)only[go_sem,Int.zero_add,show(1:Int)+1=2 from rfl,show(2:Int)+1=3 from rfl];try rfl) (by simp(disch:=omega)only[go_sem,hA,hB,show(if(0:Nat)=1 then uR c X P j c else P)=P from rfl,show(if(1:Nat)=1 then uR c X P j c else X)=uR c X P j c from rfl])
     ·simp(disch:=omega)only[go_sem]
      try simp(disch:=omega)only[go_sem]
      exact qa (j+1,1,R2) [] (hE.done (by omega)) (by show n-(j+1)<n-j;omega) rfl (by simp(disch:=omega)only[go_sem];try omega) (by simp(disch:=omega)only[go_sem])
    ·have hP:=hI.pivot hn4 (by omega) (k:=1) (by omega) hk0
     simp(disch:=omega)only[go_sem]
     refine qm rfl [⟨0,[],[]⟩,⟨1,[],[]⟩,⟨2,[],[]⟩,⟨3,[],[]⟩,⟨4,[],[]⟩,⟨5,[],[]⟩,⟨6,[],[]⟩,⟨7,[],[]⟩,⟨8,[],[]⟩,⟨9,[],[]⟩,⟨10,[],[]⟩,⟨11,[],[]⟩,⟨12,[11],[]⟩,⟨13,[11],[]⟩,⟨14,[11],[]⟩,⟨15,[11],[]⟩,⟨16,[],[]⟩,⟨17,[],[]⟩,⟨18,[],[]⟩,⟨19,[],[]⟩] (by kernel_rfl) ?_
     simp(disch:=omega)only[go_sem,Int.add_zero,Int.zero_add,Int.toNat_zero,List.getD_cons_zero,List.getD_cons_succ,show(1:Int)+1=2 from rfl,show(1:Int)+2=3 from rfl,show(2:Int)+1=3 from rfl,show(3:Int)+1=4 from rfl,show(1:Int).toNat=1 from rfl,show(2:Int).toNat=2 from rfl,show(3:Int).toNat=3 from rfl]
     refine⟨by omega,by omega,by omega,by omega,by omega,by omega,?_⟩
     rw[show((n:Int)-1).toNat=1 by omega]
     refine qc (fun x:Nat×(Nat→List ExV)=>[(3,.rf 3 0 n),(5,.v (.int .i64 1)),(6,.pt 20 0),(8,.rf 5 0 n),(39,.v (.int .i64 n)),(40,.v (.int .i64 j)),(76,.rf 3 1 1),(77,.v (.int .i64 ((1:Nat):Int))),(78,.v (.int .i64 x.1))])
      (fun x=>[(3,.own 1 [.rf 5 0 n,.rf 6 0 n]),(5,.own 3 (qg ExV.cs (x.2 0))),(6,.own 3 (qg ExV.cs (x.2 1))),(20,.own 0 [.v (.int .i64 j)])]) (fun x=>x.1≤1∧rkRed n L j 0 (1+x.1) x.2) (fun x=>1-x.1) (0,fun i=>R (swI 0 (0+1) i)) ⟨by omega,hP⟩
      (Le.lst [(5,6),(6,5),(20,80000000)] _ _ rfl (by simp(disch:=omega)only[go_sem,Int.zero_add,show(1:Int)+1=2 from rfl,show(2:Int)+1=3 from rfl,show(3:Int)+1=4 from rfl];try rfl) (by simp(disch:=omega)only[go_sem,show swI 0 (0+1) 0=1 from rfl,show swI 0 (0+1) 1=0 from rfl])) ?_
     rintro⟨m,R2⟩ ⟨hm,hE⟩
     dsimp only at hm hE ⊢
     have lS0:=hE.len 0 (by omega)
     have lS1:=hE.len 1 (by omega)
     rcases(show m=0∨m=1 by omega)with rfl|rfl
     ·have hS:=hE.step hn4 (show 1<n by omega)
      have bX:=hE.bd0 1 (by omega) (.inr (by omega))
      have bP:=hE.bd0 0 (by omega) (.inl (by omega))
      have hjX:=qk (l:=R2 1) (i:=j) (by omega)
      have hjP:=qk (l:=R2 0) (i:=j) (by omega)
      generalize hA:R2 1=X at*
      generalize hB:R2 0=P at*
      simp(disch:=omega)only[go_sem]
      simp(disch:=omega)only[go_sem,hjX]
      refine⟨by omega,by omega,?_⟩
      refine qc (fun c:Nat=>[(3,.rf 3 0 n),(5,.v (.int .i64 1)),(6,.pt 20 0),(8,.rf 5 0 n),(10,.rf 6 0 n),(11,.pt 21 0),(39,.v (.int .i64 n)),(40,.v (.int .i64 j)),(76,.rf 3 1 1),(77,.v (.int .i64 ((1:Nat):Int))),(78,.v (.int .i64 ((0:Nat):Int))),(87,.v (.int .i64 n)),(88,.v (.int .i64 c))])
       (fun c=>[(3,.own 1 [.rf 5 0 n,.rf 6 0 n]),(5,.own 3 (qg ExV.cs (P))),(6,.own 3 (qg ExV.cs (uR n X P j c))),(20,.own 0 [.v (.int .i64 j)]),(21,.own 0 [.v (.bool (X.getD j ex0).s),.sl (lim (X.getD j ex0).m).length (qh (lim (X.getD j ex0).m)),.v (.int .i64 (X.getD j ex0).e)])]) (fun c=>c≤n) (fun c=>n-c) 0 (by omega)
       (Le.lst [(21,130000000)] _ _ rfl (by simp(disch:=omega)only[go_sem];try rfl) (by simp(disch:=omega)only[go_sem,qT lS1])) ?_
      intro c hc
      simp(disch:=omega)only[go_sem]
      refine qe (fun c2=>?_) (fun c2=>?_)
      ·have hcX:=qk (l:=uR n X P j c) (i:=c) (by rw[qF];omega)
       rw[za (by omega),if_neg (show ¬c<c by omega)]at hcX
       have hcP:=qk (l:=P) (i:=c) (by omega)
       obtain⟨b1,b2,b3⟩:=zR lS1 lS0 (show c<n by omega) (show j<n by omega) bX bP
       have hj8:2^j≤2^3:=Nat.pow_le_pow_right (by decide) (by omega)
       have e8:2^(j+1)=2*2^j:=by rw[Nat.pow_succ];omega
       rw[e8]at b1 b2
       have g1:=qi bX (show c<X.length by omega)
       have g2:=qi bX (show j<X.length by omega)
       have g3:=qi bP (show c<P.length by omega)
       have g4:=qi bP (show j<P.length by omega)
       have hlu:(uR n X P j c).length=n:=qF
       have hset:=qU (L:=uR n X P j c) (i:=c) (x:=nwX X P j c) (by omega)
       rw[zl (show c<n by omega)]at hset
       have t1:=qn (X.getD c ex0) (P.getD j ex0) (g1.mono (by omega) (by omega)) (g4.mono (by omega) (by omega))
       have t2:=qn (P.getD c ex0) (X.getD j ex0) (g3.mono (by omega) (by omega)) (g2.mono (by omega) (by omega))
       have t3:=qB ((X.getD c ex0).times (P.getD j ex0)) ((P.getD c ex0).times (X.getD j ex0)) (b1.mono (by omega) (by omega)) (b2.mono (by omega) (by omega))
       change Con _ _ _ _ _ (isA (.ag [.v (.bool (nwX X P j c).s),.sl (lim (nwX X P j c).m).length (qh (lim (nwX X P j c).m)),.v (.int .i64 (nwX X P j c).e)]))at t3
       generalize nwX X P j c=Y at*
       generalize uR n X P j c=U at*
       generalize hU2:uR n X P j (c+1)=U2 at*
       simp(disch:=omega)only[go_sem,c2]
       refine qm rfl [⟨0,[],[]⟩,⟨1,[],[]⟩,⟨2,[],[]⟩,⟨3,[],[]⟩,⟨4,[],[]⟩,⟨5,[],[]⟩,⟨6,[5],[]⟩,⟨7,[5],[]⟩,⟨8,[5],[]⟩,⟨9,[5],[]⟩,⟨11,[5,7,9],[]⟩,⟨12,[5,7,9],[]⟩,⟨13,[5,7,9],[]⟩,⟨14,[5,7,9],[]⟩,⟨15,[5,7,9,14],[]⟩,⟨10,[14,15],[]⟩,⟨16,[],[]⟩,⟨17,[],[]⟩,⟨18,[],[]⟩,⟨19,[],[]⟩] (by kernel_rfl) ?_
       simp(disch:=omega)only[go_sem,hcX,hjP,hcP]
       refine⟨by omega,by omega,by omega,by omega,by omega,by omega,?_⟩
       refine qb (t1) ?_
       simp(disch:=omega)only[go_sem]
       refine qb (t2) ?_
       simp(disch:=omega)only[go_sem]
       refine qb (t3) ?_
       simp(disch:=omega)only[go_sem]
       rw[hset]
       exact⟨by omega,by omega,qa (c+1) [] (by show c+1≤n;omega) (by show n-(c+1)<n-c;omega) rfl (by simp(disch:=omega)only[go_sem];try omega) (by simp(disch:=omega)only[go_sem,hU2])⟩
      ·obtain rfl:c=n:=by omega
       simp(disch:=omega)only[go_sem,c2]
       exact qa (1,fun i=>if i=1 then uR c (R2 1) (R2 0) j c else R2 i) [] ⟨by omega,hA▸hB▸hS⟩ (by show 1-1<1-0;omega) rfl (by simp(disch:=omega)only[go_sem,Int.zero_add,show(1:Int)+1=2 from rfl,show(2:Int)+1=3 from rfl];try rfl) (by simp(disch:=omega)only[go_sem,hA,hB,show(if(0:Nat)=1 then uR c X P j c else P)=P from rfl,show(if(1:Nat)=1 then uR c X P j c else X)=uR c X P j c from rfl])
     ·simp(disch:=omega)only[go_sem]
      try simp(disch:=omega)only[go_sem]
      exact qa (j+1,1,R2) [] (hE.done (by omega)) (by show n-(j+1)<n-j;omega) rfl (by simp(disch:=omega)only[go_sem];try omega) (by simp(disch:=omega)only[go_sem])
  ·have hx:=zN n j [R 1] hn4 (by omega) (by simp[lR1]) (by simp)
   change Con _ _ _ [.sl 1 [.sl n (qg ExV.cs (R 1))],_] _ _ at hx
   simp(disch:=omega)only[go_sem,c1]
   rw[show((n:Int)-1).toNat=1 by omega]
   refine⟨by omega,?_⟩
   refine qy hx (by simp(disch:=omega)only[go_sem,hcR0,hcR1]) ?_
   rintro x hs ⟨rfl, -,(⟨rfl,hz0⟩|⟨k,hk,rfl,hk0⟩)⟩
   ·refine⟨by simp[qG],?_⟩
    simp(disch:=omega)only[go_sem]
    exact qa (j+1,1,R) [] (hI.skip (by omega) (fun i h1 h2=>by
     have:=hz0 (i-1) (by simp;omega)
     rcases(show i=1 by omega)with rfl
     ·exact this)) (by show n-(j+1)<n-j;omega) rfl (by simp(disch:=omega)only[go_sem];try omega) (by simp(disch:=omega)only[go_sem])
   ·refine⟨by simp[qG],?_⟩
    have hk:k<1:=hk
    rcases(show k=0 by omega)with rfl
    ·have hP:=hI.pivot hn4 (by omega) (k:=0) (by omega) hk0
     simp(disch:=omega)only[go_sem]
     refine qm rfl [⟨0,[],[]⟩,⟨1,[],[]⟩,⟨2,[],[]⟩,⟨3,[],[]⟩,⟨4,[],[]⟩,⟨5,[],[]⟩,⟨6,[],[]⟩,⟨7,[],[]⟩,⟨8,[],[]⟩,⟨9,[],[]⟩,⟨10,[],[]⟩,⟨11,[],[]⟩,⟨12,[11],[]⟩,⟨13,[11],[]⟩,⟨14,[11],[]⟩,⟨15,[11],[]⟩,⟨16,[],[]⟩,⟨17,[],[]⟩,⟨18,[],[]⟩,⟨19,[],[]⟩] (by kernel_rfl) ?_
     simp(disch:=omega)only[go_sem,Int.add_zero,Int.zero_add,Int.toNat_zero,List.getD_cons_zero,List.getD_cons_succ,show(1:Int)+1=2 from rfl,show(1:Int)+2=3 from rfl,show(2:Int)+1=3 from rfl,show(3:Int)+1=4 from rfl,show(1:Int).toNat=1 from rfl,show(2:Int).toNat=2 from rfl,show(3:Int).toNat=3 from rfl]
     refine⟨by omega,by omega,by omega,by omega,by omega,by omega,?_⟩
     rw[show((n:Int)-2).toNat=0 by omega]
     refine qc (fun x:Nat×(Nat→List ExV)=>[(3,.rf 3 0 n),(5,.v (.int .i64 2)),(6,.pt 20 0),(8,.rf 6 0 n),(39,.v (.int .i64 n)),(40,.v (.int .i64 j)),(76,.rf 3 2 0),(77,.v (.int .i64 ((0:Nat):Int))),(78,.v (.int .i64 x.1))])
      (fun x=>[(3,.own 1 [.rf 5 0 n,.rf 6 0 n]),(5,.own 3 (qg ExV.cs (x.2 0))),(6,.own 3 (qg ExV.cs (x.2 1))),(20,.own 0 [.v (.int .i64 j)])]) (fun x=>x.1≤0∧rkRed n L j 1 (2+x.1) x.2) (fun x=>0-x.1) (0,fun i=>R (swI 1 (1+0) i)) ⟨by omega,hP⟩
      (Le.lst [(5,5),(6,6),(20,80000000)] _ _ rfl (by simp(disch:=omega)only[go_sem,Int.zero_add,show(1:Int)+1=2 from rfl,show(2:Int)+1=3 from rfl,show(3:Int)+1=4 from rfl];try rfl) (by simp(disch:=omega)only[go_sem,show swI 1 (1+0) 0=0 from rfl,show swI 1 (1+0) 1=1 from rfl])) ?_
     rintro⟨m,R2⟩ ⟨hm,hE⟩
     dsimp only at hm hE ⊢
     have lS0:=hE.len 0 (by omega)
     have lS1:=hE.len 1 (by omega)
     rcases(show m=0 by omega)with rfl
     ·simp(disch:=omega)only[go_sem]
      try simp(disch:=omega)only[go_sem]
      exact qa (j+1,2,R2) [] (hE.done (by omega)) (by show n-(j+1)<n-j;omega) rfl (by simp(disch:=omega)only[go_sem];try omega) (by simp(disch:=omega)only[go_sem])
end Go.Ab
namespace Go.Ab
open Go Go.Proofs
def akG(n:Nat)(L:List ExV):Nat→List (Nat×Ob)
 |0=>[(3,.own 1 [.v (.slice none 0 0),.v (.slice none 0 0),.v (.slice none 0 0)])]
 |1=>[(3,.own 1 [.rf 5 0 n,.v (.slice none 0 0),.v (.slice none 0 0)]),(5,.own 3 (qg ExV.cs (jq n L 0)))]
 |2=>[(3,.own 1 [.rf 5 0 n,.rf 6 0 n,.v (.slice none 0 0)]),(5,.own 3 (qg ExV.cs (jq n L 0))),(6,.own 3 (qg ExV.cs (jq n L 1)))]
 |_=>[(3,.own 1 [.rf 5 0 n,.rf 6 0 n,.rf 7 0 n]),(5,.own 3 (qg ExV.cs (jq n L 0))),(6,.own 3 (qg ExV.cs (jq n L 1))),(7,.own 3 (qg ExV.cs (jq n L 2)))]
set_option maxRecDepth 100000 in
set_option maxHeartbeats 4000000 in
theorem alh(n:Nat)(hN:n=3)(L:List ExV)(h:matV n L):Con Tryz.prog 90 true [.ag [.v (.int .i64 (n)),.sl (L).length (qg ExV.cs (L))]] [] (rkQ n L):=by
 have hz:zV n [.v (.slice none 0 0)]=[AV.v (.slice none 0 0),AV.v (.slice none 0 0),AV.v (.slice none 0 0)]:=by rw[hN];rfl
 have hn4:n≤4:=by omega
 have hl:=h.len
 have hLN:L.length=9:=by rw[hl,hN]
 have hl0:=zW (i:=0) hl (by omega)
 have cc0:=zz (jq n L 0) (by omega) (by omega)
 rw[hl0]at cc0
 have hr0:cut (qg ExV.cs L) ((0*n)*3) (n*3)=qg ExV.cs (jq n L 0):=jb jG (0*n) n
 have hl1:=zW (i:=1) hl (by omega)
 have cc1:=zz (jq n L 1) (by omega) (by omega)
 rw[hl1]at cc1
 have hr1:cut (qg ExV.cs L) ((1*n)*3) (n*3)=qg ExV.cs (jq n L 1):=jb jG (1*n) n
 have hl2:=zW (i:=2) hl (by omega)
 have cc2:=zz (jq n L 2) (by omega) (by omega)
 rw[hl2]at cc2
 have hr2:cut (qg ExV.cs L) ((2*n)*3) (n*3)=qg ExV.cs (jq n L 2):=jb jG (2*n) n
 refine Con.of_aw Tryz.func90 rfl Tryz.ntmps90 (by simp) (by simp) (by simp) (W.sound ?_)
 show @W Tryz.prog 114 ⟨_⟩ ⟨fun x σ=>@q9 _ _ _ ⟨_⟩ _ ⟨_⟩ x σ⟩ _ _
 simp(disch:=omega)only[go_sem]
 rw[hz]
 refine⟨by omega,?_⟩
 refine qc (fun i:Nat=>[(1,.pt 1 0),(2,.v (.int .i64 0)),(3,.rf 3 0 n),(17,.v (.int .i64 n)),(18,.v (.int .i64 i))])
  (fun i=>(1,.own 0 [.v (.int .i64 n),.sl L.length (qg ExV.cs L)])::akG n L i) (fun i=>i≤3) (fun i=>3-i) 0 (by omega)
  (Le.lst [(1,30000000),(3,170000000)] _ _ rfl (by simp(disch:=omega)only[go_sem,akG];try rfl) (by simp(disch:=omega)only[go_sem,akG])) ?_
 intro i hi
 rcases(show i=0∨i=1∨i=2∨i=3 by omega)with rfl|rfl|rfl|rfl
 ·dsimp only[akG]
  simp(disch:=omega)only[go_sem]
  simp(disch:=omega)only[go_sem,decide_eq_true (show((0:Nat):Int)<(n:Int) by omega),decide_eq_true (show(0:Int)<(n:Int) by omega)]
  have e1:((0+1)*(n:Int)-0*(n:Int)).toNat=n:=by omega
  have e2:(0*(n:Int)).toNat=0*n:=by omega
  rw[e1,e2,hr0]
  refine⟨by omega,qK cc0 (by simp(disch:=omega)only[go_sem]) ?_⟩
  rintro r hs ⟨rfl,rfl⟩
  refine⟨by simp[qG];simp(disch:=omega)only[go_sem],?_⟩
  simp(disch:=omega)only[go_sem]
  exact⟨by omega,qa 1 [(3,3),(5,370000000)] (by omega) (by omega) rfl (by simp(disch:=omega)only[go_sem,akG,Int.zero_add,show(1:Int)+1=2 from rfl,show(2:Int)+1=3 from rfl,show(3:Int)+1=4 from rfl];try rfl) (by simp(disch:=omega)only[go_sem,akG])⟩
 ·dsimp only[akG]
  simp(disch:=omega)only[go_sem]
  simp(disch:=omega)only[go_sem,decide_eq_true (show((1:Nat):Int)<(n:Int) by omega),decide_eq_true (show(1:Int)<(n:Int) by omega)]
  have e1:((1+1)*(n:Int)-1*(n:Int)).toNat=n:=by omega
  have e2:(1*(n:Int)).toNat=1*n:=by omega
  rw[e1,e2,hr1]
  refine⟨by omega,qK cc1 (by simp(disch:=omega)only[go_sem]) ?_⟩
  rintro r hs ⟨rfl,rfl⟩
  refine⟨by simp[qG];simp(disch:=omega)only[go_sem],?_⟩
  simp(disch:=omega)only[go_sem]
  exact⟨by omega,qa 2 [(3,3),(5,5),(6,370000000)] (by omega) (by omega) rfl (by simp(disch:=omega)only[go_sem,akG,Int.zero_add,show(1:Int)+1=2 from rfl,show(2:Int)+1=3 from rfl,show(3:Int)+1=4 from rfl];try rfl) (by simp(disch:=omega)only[go_sem,akG])⟩
 ·dsimp only[akG]
  simp(disch:=omega)only[go_sem]
  simp(disch:=omega)only[go_sem,decide_eq_true (show((2:Nat):Int)<(n:Int) by omega),decide_eq_true (show(2:Int)<(n:Int) by omega)]
  have e1:((2+1)*(n:Int)-2*(n:Int)).toNat=n:=by omega
  have e2:(2*(n:Int)).toNat=2*n:=by omega
  rw[e1,e2,hr2]
  refine⟨by omega,qK cc2 (by simp(disch:=omega)only[go_sem]) ?_⟩
  rintro r hs ⟨rfl,rfl⟩
  refine⟨by simp[qG];simp(disch:=omega)only[go_sem],?_⟩
  simp(disch:=omega)only[go_sem]
  exact⟨by omega,qa 3 [(3,3),(5,5),(6,6),(7,370000000)] (by omega) (by omega) rfl (by simp(disch:=omega)only[go_sem,akG,Int.zero_add,show(1:Int)+1=2 from rfl,show(2:Int)+1=3 from rfl,show(3:Int)+1=4 from rfl];try rfl) (by simp(disch:=omega)only[go_sem,akG])⟩
 ·dsimp only[akG]
  simp(disch:=omega)only[go_sem]
  simp(disch:=omega)only[go_sem,decide_eq_false (show ¬((3:Nat):Int)<(n:Int) by omega),decide_eq_false (show ¬(3:Int)<(n:Int) by omega)]
  refine qc (fun x:Nat×Nat×(Nat→List ExV)=>[(3,.rf 3 0 n),(5,.v (.int .i64 x.2.1)),(39,.v (.int .i64 n)),(40,.v (.int .i64 x.1))])
   (fun x=>[(3,.own 1 [.rf 5 0 n,.rf 6 0 n,.rf 7 0 n]),(5,.own 3 (qg ExV.cs (x.2.2 0))),(6,.own 3 (qg ExV.cs (x.2.2 1))),(7,.own 3 (qg ExV.cs (x.2.2 2)))]) (fun x=>rkInv n L x.1 x.2.1 x.2.2) (fun x=>n-x.1) (0,0,jq n L) (rkInv.start h)
   (Le.lst [] _ _ rfl (by simp(disch:=omega)only[go_sem];try rfl) (by simp(disch:=omega)only[go_sem])) ?_
  rintro⟨j,r,R⟩ hI
  dsimp only at hI ⊢
  have hrj:=hI.rj
  have hjn:=hI.jn
  simp(disch:=omega)only[go_sem]
  refine qe (fun c1=>?_) (fun c1=>?_)
  rotate_left
  ·obtain rfl:j=n:=by omega
   simp(disch:=omega)only[go_sem,c1]
   exact qC (by simp(disch:=omega)only[go_sem]) (by simp(disch:=omega)only[go_sem]) ⟨rfl,rfl,r,hI.rank hn4,rfl⟩
  have lR0:=hI.len 0 (by omega)
  have hcR0:=qV lR0
  have lR1:=hI.len 1 (by omega)
  have hcR1:=qV lR1
  have lR2:=hI.len 2 (by omega)
  have hcR2:=qV lR2
  rcases(show r=0∨r=1∨r=2 by omega)with rfl|rfl|rfl
  ·have hx:=zN n j [R 0,R 1,R 2] hn4 (by omega) (by simp[lR0,lR1,lR2]) (by simp)
   change Con _ _ _ [.sl 3 [.sl n (qg ExV.cs (R 0)),.sl n (qg ExV.cs (R 1)),.sl n (qg ExV.cs (R 2))],_] _ _ at hx
   simp(disch:=omega)only[go_sem,c1]
   rw[show((n:Int)-0).toNat=3 by omega]
   refine⟨by omega,?_⟩
   refine qy hx (by simp(disch:=omega)only[go_sem,hcR0,hcR1,hcR2]) ?_
   rintro x hs ⟨rfl, -,(⟨rfl,hz0⟩|⟨k,hk,rfl,hk0⟩)⟩
   ·refine⟨by simp[qG],?_⟩
    simp(disch:=omega)only[go_sem]
    exact qa (j+1,0,R) [] (hI.skip (by omega) (fun i h1 h2=>by
     have:=hz0 (i-0) (by simp;omega)
     rcases(show i=0∨i=1∨i=2 by omega)with rfl|rfl|rfl
     ·exact this
     ·exact this
     ·exact this)) (by show n-(j+1)<n-j;omega) rfl (by simp(disch:=omega)only[go_sem];try omega) (by simp(disch:=omega)only[go_sem])
   ·refine⟨by simp[qG],?_⟩
    have hk:k<3:=hk
    rcases(show k=0∨k=1∨k=2 by omega)with rfl|rfl|rfl
    ·have hP:=hI.pivot hn4 (by omega) (k:=0) (by omega) hk0
     simp(disch:=omega)only[go_sem]
     refine qm rfl [⟨0,[],[]⟩,⟨1,[],[]⟩,⟨2,[],[]⟩,⟨3,[],[]⟩,⟨4,[],[]⟩,⟨5,[],[]⟩,⟨6,[],[]⟩,⟨7,[],[]⟩,⟨8,[],[]⟩,⟨9,[],[]⟩,⟨10,[],[]⟩,⟨11,[],[]⟩,⟨12,[11],[]⟩,⟨13,[11],[]⟩,⟨14,[11],[]⟩,⟨15,[11],[]⟩,⟨16,[],[]⟩,⟨17,[],[]⟩,⟨18,[],[]⟩,⟨19,[],[]⟩] (by kernel_rfl) ?_
     simp(disch:=omega)only[go_sem,Int.add_zero,Int.zero_add,Int.toNat_zero,List.getD_cons_zero,List.getD_cons_succ,show(1:Int)+1=2 from rfl,show(1:Int)+2=3 from rfl,show(2:Int)+1=3 from rfl,show(3:Int)+1=4 from rfl,show(1:Int).toNat=1 from rfl,show(2:Int).toNat=2 from rfl,show(3:Int).toNat=3 from rfl]
     refine⟨by omega,by omega,by omega,by omega,by omega,by omega,?_⟩
     rw[show((n:Int)-1).toNat=2 by omega]
     refine qc (fun x:Nat×(Nat→List ExV)=>[(3,.rf 3 0 n),(5,.v (.int .i64 1)),(6,.pt 20 0),(8,.rf 5 0 n),(39,.v (.int .i64 n)),(40,.v (.int .i64 j)),(76,.rf 3 1 2),(77,.v (.int .i64 ((2:Nat):Int))),(78,.v (.int .i64 x.1))])
      (fun x=>[(3,.own 1 [.rf 5 0 n,.rf 6 0 n,.rf 7 0 n]),(5,.own 3 (qg ExV.cs (x.2 0))),(6,.own 3 (qg ExV.cs (x.2 1))),(7,.own 3 (qg ExV.cs (x.2 2))),(20,.own 0 [.v (.int .i64 j)])]) (fun x=>x.1≤2∧rkRed n L j 0 (1+x.1) x.2) (fun x=>2-x.1) (0,fun i=>R (swI 0 (0+0) i)) ⟨by omega,hP⟩
      (Le.lst [(5,5),(6,6),(7,7),(20,80000000)] _ _ rfl (by simp(disch:=omega)only[go_sem,Int.zero_add,show(1:Int)+1=2 from rfl,show(2:Int)+1=3 from rfl,show(3:Int)+1=4 from rfl];try rfl) (by simp(disch:=omega)only[go_sem,show swI 0 (0+0) 0=0 from rfl,show swI 0 (0+0) 1=1 from rfl,show swI 0 (0+0) 2=2 from rfl])) ?_
     rintro⟨m,R2⟩ ⟨hm,hE⟩
     dsimp only at hm hE ⊢
     have lS0:=hE.len 0 (by omega)
     have lS1:=hE.len 1 (by omega)
     have lS2:=hE.len 2 (by omega)
     rcases(show m=0∨m=1∨m=2 by omega)with rfl|rfl|rfl
     ·have hS:=hE.step hn4 (show 1<n by omega)
      have bX:=hE.bd0 1 (by omega) (.inr (by omega))
      have bP:=hE.bd0 0 (by omega) (.inl (by omega))
      have hjX:=qk (l:=R2 1) (i:=j) (by omega)
      have hjP:=qk (l:=R2 0) (i:=j) (by omega)
      generalize hA:R2 1=X at*
      generalize hB:R2 0=P at*
      simp(disch:=omega)only[go_sem]
      simp(disch:=omega)only[go_sem,hjX]
      refine⟨by omega,by omega,?_⟩
      refine qc (fun c:Nat=>[(3,.rf 3 0 n),(5,.v (.int .i64 1)),(6,.pt 20 0),(8,.rf 5 0 n),(10,.rf 6 0 n),(11,.pt 21 0),(39,.v (.int .i64 n)),(40,.v (.int .i64 j)),(76,.rf 3 1 2),(77,.v (.int .i64 ((2:Nat):Int))),(78,.v (.int .i64 ((0:Nat):Int))),(87,.v (.int .i64 n)),(88,.v (.int .i64 c))])
       (fun c=>[(3,.own 1 [.rf 5 0 n,.rf 6 0 n,.rf 7 0 n]),(5,.own 3 (qg ExV.cs (P))),(6,.own 3 (qg ExV.cs (uR n X P j c))),(7,.own 3 (qg ExV.cs (R2 2))),(20,.own 0 [.v (.int .i64 j)]),(21,.own 0 [.v (.bool (X.getD j ex0).s),.sl (lim (X.getD j ex0).m).length (qh (lim (X.getD j ex0).m)),.v (.int .i64 (X.getD j ex0).e)])]) (fun c=>c≤n) (fun c=>n-c) 0 (by omega)
       (Le.lst [(21,130000000)] _ _ rfl (by simp(disch:=omega)only[go_sem];try rfl) (by simp(disch:=omega)only[go_sem,qT lS1])) ?_
      intro c hc
      simp(disch:=omega)only[go_sem]
      refine qe (fun c2=>?_) (fun c2=>?_)
      ·have hcX:=qk (l:=uR n X P j c) (i:=c) (by rw[qF];omega)
       rw[za (by omega),if_neg (show ¬c<c by omega)]at hcX
       have hcP:=qk (l:=P) (i:=c) (by omega)
       obtain⟨b1,b2,b3⟩:=zR lS1 lS0 (show c<n by omega) (show j<n by omega) bX bP
       have hj8:2^j≤2^3:=Nat.pow_le_pow_right (by decide) (by omega)
       have e8:2^(j+1)=2*2^j:=by rw[Nat.pow_succ];omega
       rw[e8]at b1 b2
       have g1:=qi bX (show c<X.length by omega)
       have g2:=qi bX (show j<X.length by omega)
       have g3:=qi bP (show c<P.length by omega)
       have g4:=qi bP (show j<P.length by omega)
       have hlu:(uR n X P j c).length=n:=qF
       have hset:=qU (L:=uR n X P j c) (i:=c) (x:=nwX X P j c) (by omega)
       rw[zl (show c<n by omega)]at hset
       have t1:=qn (X.getD c ex0) (P.getD j ex0) (g1.mono (by omega) (by omega)) (g4.mono (by omega) (by omega))
       have t2:=qn (P.getD c ex0) (X.getD j ex0) (g3.mono (by omega) (by omega)) (g2.mono (by omega) (by omega))
       have t3:=qB ((X.getD c ex0).times (P.getD j ex0)) ((P.getD c ex0).times (X.getD j ex0)) (b1.mono (by omega) (by omega)) (b2.mono (by omega) (by omega))
       change Con _ _ _ _ _ (isA (.ag [.v (.bool (nwX X P j c).s),.sl (lim (nwX X P j c).m).length (qh (lim (nwX X P j c).m)),.v (.int .i64 (nwX X P j c).e)]))at t3
       generalize nwX X P j c=Y at*
       generalize uR n X P j c=U at*
       generalize hU2:uR n X P j (c+1)=U2 at*
       simp(disch:=omega)only[go_sem,c2]
       refine qm rfl [⟨0,[],[]⟩,⟨1,[],[]⟩,⟨2,[],[]⟩,⟨3,[],[]⟩,⟨4,[],[]⟩,⟨5,[],[]⟩,⟨6,[5],[]⟩,⟨7,[5],[]⟩,⟨8,[5],[]⟩,⟨9,[5],[]⟩,⟨11,[5,7,9],[]⟩,⟨12,[5,7,9],[]⟩,⟨13,[5,7,9],[]⟩,⟨14,[5,7,9],[]⟩,⟨15,[5,7,9,14],[]⟩,⟨10,[14,15],[]⟩,⟨16,[],[]⟩,⟨17,[],[]⟩,⟨18,[],[]⟩,⟨19,[],[]⟩] (by kernel_rfl) ?_
       simp(disch:=omega)only[go_sem,hcX,hjP,hcP]
       refine⟨by omega,by omega,by omega,by omega,by omega,by omega,?_⟩
       refine qb (t1) ?_
       simp(disch:=omega)only[go_sem]
       refine qb (t2) ?_
       simp(disch:=omega)only[go_sem]
       refine qb (t3) ?_
       simp(disch:=omega)only[go_sem]
       rw[hset]
       exact⟨by omega,by omega,qa (c+1) [] (by show c+1≤n;omega) (by show n-(c+1)<n-c;omega) rfl (by simp(disch:=omega)only[go_sem];try omega) (by simp(disch:=omega)only[go_sem,hU2])⟩
      ·obtain rfl:c=n:=by omega
       simp(disch:=omega)only[go_sem,c2]
       exact qa (1,fun i=>if i=1 then uR c (R2 1) (R2 0) j c else R2 i) [] ⟨by omega,hA▸hB▸hS⟩ (by show 2-1<2-0;omega) rfl (by simp(disch:=omega)only[go_sem,Int.zero_add,show(1:Int)+1=2 from rfl,show(2:Int)+1=3 from rfl];try rfl) (by simp(disch:=omega)only[go_sem,hA,hB,show(if(0:Nat)=1 then uR c X P j c else P)=P from rfl,show(if(1:Nat)=1 then uR c X P j c else X)=uR c X P j c from rfl,show(if(2:Nat)=1 then uR c X P j c else R2 2)=R2 2 from rfl])
     ·have hS:=hE.step hn4 (show 2<n by omega)
      have bX:=hE.bd0 2 (by omega) (.inr (by omega))
      have bP:=hE.bd0 0 (by omega) (.inl (by omega))
      have hjX:=qk (l:=R2 2) (i:=j) (by omega)
      have hjP:=qk (l:=R2 0) (i:=j) (by omega)
      generalize hA:R2 2=X at*
      generalize hB:R2 0=P at*
      simp(disch:=omega)only[go_sem]
      simp(disch:=omega)only[go_sem,hjX]
      refine⟨by omega,by omega,?_⟩
      refine qc (fun c:Nat=>[(3,.rf 3 0 n),(5,.v (.int .i64 1)),(6,.pt 20 0),(8,.rf 5 0 n),(10,.rf 7 0 n),(11,.pt 21 0),(39,.v (.int .i64 n)),(40,.v (.int .i64 j)),(76,.rf 3 1 2),(77,.v (.int .i64 ((2:Nat):Int))),(78,.v (.int .i64 ((1:Nat):Int))),(87,.v (.int .i64 n)),(88,.v (.int .i64 c))])
       (fun c=>[(3,.own 1 [.rf 5 0 n,.rf 6 0 n,.rf 7 0 n]),(5,.own 3 (qg ExV.cs (P))),(6,.own 3 (qg ExV.cs (R2 1))),(7,.own 3 (qg ExV.cs (uR n X P j c))),(20,.own 0 [.v (.int .i64 j)]),(21,.own 0 [.v (.bool (X.getD j ex0).s),.sl (lim (X.getD j ex0).m).length (qh (lim (X.getD j ex0).m)),.v (.int .i64 (X.getD j ex0).e)])]) (fun c=>c≤n) (fun c=>n-c) 0 (by omega)
       (Le.lst [(21,130000000)] _ _ rfl (by simp(disch:=omega)only[go_sem];try rfl) (by simp(disch:=omega)only[go_sem,qT lS2])) ?_
      intro c hc
      simp(disch:=omega)only[go_sem]
      refine qe (fun c2=>?_) (fun c2=>?_)
      ·have hcX:=qk (l:=uR n X P j c) (i:=c) (by rw[qF];omega)
       rw[za (by omega),if_neg (show ¬c<c by omega)]at hcX
       have hcP:=qk (l:=P) (i:=c) (by omega)
       obtain⟨b1,b2,b3⟩:=zR lS2 lS0 (show c<n by omega) (show j<n by omega) bX bP
       have hj8:2^j≤2^3:=Nat.pow_le_pow_right (by decide) (by omega)
       have e8:2^(j+1)=2*2^j:=by rw[Nat.pow_succ];omega
       rw[e8]at b1 b2
       have g1:=qi bX (show c<X.length by omega)
       have g2:=qi bX (show j<X.length by omega)
       have g3:=qi bP (show c<P.length by omega)
       have g4:=qi bP (show j<P.length by omega)
       have hlu:(uR n X P j c).length=n:=qF
       have hset:=qU (L:=uR n X P j c) (i:=c) (x:=nwX X P j c) (by omega)
       rw[zl (show c<n by omega)]at hset
       have t1:=qn (X.getD c ex0) (P.getD j ex0) (g1.mono (by omega) (by omega)) (g4.mono (by omega) (by omega))
       have t2:=qn (P.getD c ex0) (X.getD j ex0) (g3.mono (by omega) (by omega)) (g2.mono (by omega) (by omega))
       have t3:=qB ((X.getD c ex0).times (P.getD j ex0)) ((P.getD c ex0).times (X.getD j ex0)) (b1.mono (by omega) (by omega)) (b2.mono (by omega) (by omega))
       change Con _ _ _ _ _ (isA (.ag [.v (.bool (nwX X P j c).s),.sl (lim (nwX X P j c).m).length (qh (lim (nwX X P j c).m)),.v (.int .i64 (nwX X P j c).e)]))at t3
       generalize nwX X P j c=Y at*
       generalize uR n X P j c=U at*
       generalize hU2:uR n X P j (c+1)=U2 at*
       simp(disch:=omega)only[go_sem,c2]
       refine qm rfl [⟨0,[],[]⟩,⟨1,[],[]⟩,⟨2,[],[]⟩,⟨3,[],[]⟩,⟨4,[],[]⟩,⟨5,[],[]⟩,⟨6,[5],[]⟩,⟨7,[5],[]⟩,⟨8,[5],[]⟩,⟨9,[5],[]⟩,⟨11,[5,7,9],[]⟩,⟨12,[5,7,9],[]⟩,⟨13,[5,7,9],[]⟩,⟨14,[5,7,9],[]⟩,⟨15,[5,7,9,14],[]⟩,⟨10,[14,15],[]⟩,⟨16,[],[]⟩,⟨17,[],[]⟩,⟨18,[],[]⟩,⟨19,[],[]⟩] (by kernel_rfl) ?_
       simp(disch:=omega)only[go_sem,hcX,hjP,hcP]
       refine⟨by omega,by omega,by omega,by omega,by omega,by omega,?_⟩
       refine qb (t1) ?_
       simp(disch:=omega)only[go_sem]
       refine qb (t2) ?_
       simp(disch:=omega)only[go_sem]
       refine qb (t3) ?_
       simp(disch:=omega)only[go_sem]
       rw[hset]
       exact⟨by omega,by omega,qa (c+1) [] (by show c+1≤n;omega) (by show n-(c+1)<n-c;omega) rfl (by simp(disch:=omega)only[go_sem];try omega) (by simp(disch:=omega)only[go_sem,hU2])⟩
      ·obtain rfl:c=n:=by omega
       simp(disch:=omega)only[go_sem,c2]
       exact qa (2,fun i=>if i=2 then uR c (R2 2) (R2 0) j c else R2 i) [] ⟨by omega,hA▸hB▸hS⟩ (by show 2-2<2-1;omega) rfl (by simp(disch:=omega)only[go_sem,Int.zero_add,show(1:Int)+1=2 from rfl,show(2:Int)+1=3 from rfl];try rfl) (by simp(disch:=omega)only[go_sem,hA,hB,show(if(0:Nat)=2 then uR c X P j c else P)=P from rfl,show(if(1:Nat)=2 then uR c X P j c else R2 1)=R2 1 from rfl,show(if(2:Nat)=2 then uR c X P j c else X)=uR c X P j c from rfl])
     ·simp(disch:=omega)only[go_sem]
      try simp(disch:=omega)only[go_sem]
      exact qa (j+1,1,R2) [] (hE.done (by omega)) (by show n-(j+1)<n-j;omega) rfl (by simp(disch:=omega)only[go_sem];try omega) (by simp(disch:=omega)only[go_sem])
    ·have hP:=hI.pivot hn4 (by omega) (k:=1) (by omega) hk0
     simp(disch:=omega)only[go_sem]
     refine qm rfl [⟨0,[],[]⟩,⟨1,[],[]⟩,⟨2,[],[]⟩,⟨3,[],[]⟩,⟨4,[],[]⟩,⟨5,[],[]⟩,⟨6,[],[]⟩,⟨7,[],[]⟩,⟨8,[],[]⟩,⟨9,[],[]⟩,⟨10,[],[]⟩,⟨11,[],[]⟩,⟨12,[11],[]⟩,⟨13,[11],[]⟩,⟨14,[11],[]⟩,⟨15,[11],[]⟩,⟨16,[],[]⟩,⟨17,[],[]⟩,⟨18,[],[]⟩,⟨19,[],[]⟩] (by kernel_rfl) ?_
     simp(disch:=omega)only[go_sem,Int.add_zero,Int.zero_add,Int.toNat_zero,List.getD_cons_zero,List.getD_cons_succ,show(1:Int)+1=2 from rfl,show(1:Int)+2=3 from rfl,show(2:Int)+1=3 from rfl,show(3:Int)+1=4 from rfl,show(1:Int).toNat=1 from rfl,show(2:Int).toNat=2 from rfl,show(3:Int).toNat=3 from rfl]
     refine⟨by omega,by omega,by omega,by omega,by omega,by omega,?_⟩
     rw[show((n:Int)-1).toNat=2 by omega]
     refine qc (fun x:Nat×(Nat→List ExV)=>[(3,.rf 3 0 n),(5,.v (.int .i64 1)),(6,.pt 20 0),(8,.rf 5 0 n),(39,.v (.int .i64 n)),(40,.v (.int .i64 j)),(76,.rf 3 1 2),(77,.v (.int .i64 ((2:Nat):Int))),(78,.v (.int .i64 x.1))])
      (fun x=>[(3,.own 1 [.rf 5 0 n,.rf 6 0 n,.rf 7 0 n]),(5,.own 3 (qg ExV.cs (x.2 0))),(6,.own 3 (qg ExV.cs (x.2 1))),(7,.own 3 (qg ExV.cs (x.2 2))),(20,.own 0 [.v (.int .i64 j)])]) (fun x=>x.1≤2∧rkRed n L j 0 (1+x.1) x.2) (fun x=>2-x.1) (0,fun i=>R (swI 0 (0+1) i)) ⟨by omega,hP⟩
      (Le.lst [(5,6),(6,5),(7,7),(20,80000000)] _ _ rfl (by simp(disch:=omega)only[go_sem,Int.zero_add,show(1:Int)+1=2 from rfl,show(2:Int)+1=3 from rfl,show(3:Int)+1=4 from rfl];try rfl) (by simp(disch:=omega)only[go_sem,show swI 0 (0+1) 0=1 from rfl,show swI 0 (0+1) 1=0 from rfl,show swI 0 (0+1) 2=2 from rfl])) ?_
     rintro⟨m,R2⟩ ⟨hm,hE⟩
     dsimp only at hm hE ⊢
     have lS0:=hE.len 0 (by omega)
     have lS1:=hE.len 1 (by omega)
     have lS2:=hE.len 2 (by omega)
     rcases(show m=0∨m=1∨m=2 by omega)with rfl|rfl|rfl
     ·have hS:=hE.step hn4 (show 1<n by omega)
      have bX:=hE.bd0 1 (by omega) (.inr (by omega))
      have bP:=hE.bd0 0 (by omega) (.inl (by omega))
      have hjX:=qk (l:=R2 1) (i:=j) (by omega)
      have hjP:=qk (l:=R2 0) (i:=j) (by omega)
      generalize hA:R2 1=X at*
      generalize hB:R2 0=P at*
      simp(disch:=omega)only[go_sem]
      simp(disch:=omega)only[go_sem,hjX]
      refine⟨by omega,by omega,?_⟩
      refine qc (fun c:Nat=>[(3,.rf 3 0 n),(5,.v (.int .i64 1)),(6,.pt 20 0),(8,.rf 5 0 n),(10,.rf 6 0 n),(11,.pt 21 0),(39,.v (.int .i64 n)),(40,.v (.int .i64 j)),(76,.rf 3 1 2),(77,.v (.int .i64 ((2:Nat):Int))),(78,.v (.int .i64 ((0:Nat):Int))),(87,.v (.int .i64 n)),(88,.v (.int .i64 c))])
       (fun c=>[(3,.own 1 [.rf 5 0 n,.rf 6 0 n,.rf 7 0 n]),(5,.own 3 (qg ExV.cs (P))),(6,.own 3 (qg ExV.cs (uR n X P j c))),(7,.own 3 (qg ExV.cs (R2 2))),(20,.own 0 [.v (.int .i64 j)]),(21,.own 0 [.v (.bool (X.getD j ex0).s),.sl (lim (X.getD j ex0).m).length (qh (lim (X.getD j ex0).m)),.v (.int .i64 (X.getD j ex0).e)])]) (fun c=>c≤n) (fun c=>n-c) 0 (by omega)
       (Le.lst [(21,130000000)] _ _ rfl (by simp(disch:=omega)only[go_sem];try rfl) (by simp(disch:=omega)only[go_sem,qT lS1])) ?_
      intro c hc
      simp(disch:=omega)only[go_sem]
      refine qe (fun c2=>?_) (fun c2=>?_)
      ·have hcX:=qk (l:=uR n X P j c) (i:=c) (by rw[qF];omega)
       rw[za (by omega),if_neg (show ¬c<c by omega)]at hcX
       have hcP:=qk (l:=P) (i:=c) (by omega)
       obtain⟨b1,b2,b3⟩:=zR lS1 lS0 (show c<n by omega) (show j<n by omega) bX bP
       have hj8:2^j≤2^3:=Nat.pow_le_pow_right (by decide) (by omega)
       have e8:2^(j+1)=2*2^j:=by rw[Nat.pow_succ];omega
       rw[e8]at b1 b2
       have g1:=qi bX (show c<X.length by omega)
       have g2:=qi bX (show j<X.length by omega)
       have g3:=qi bP (show c<P.length by omega)
       have g4:=qi bP (show j<P.length by omega)
       have hlu:(uR n X P j c).length=n:=qF
       have hset:=qU (L:=uR n X P j c) (i:=c) (x:=nwX X P j c) (by omega)
       rw[zl (show c<n by omega)]at hset
       have t1:=qn (X.getD c ex0) (P.getD j ex0) (g1.mono (by omega) (by omega)) (g4.mono (by omega) (by omega))
       have t2:=qn (P.getD c ex0) (X.getD j ex0) (g3.mono (by omega) (by omega)) (g2.mono (by omega) (by omega))
       have t3:=qB ((X.getD c ex0).times (P.getD j ex0)) ((P.getD c ex0).times (X.getD j ex0)) (b1.mono (by omega) (by omega)) (b2.mono (by omega) (by omega))
       change Con _ _ _ _ _ (isA (.ag [.v (.bool (nwX X P j c).s),.sl (lim (nwX X P j c).m).length (qh (lim (nwX X P j c).m)),.v (.int .i64 (nwX X P j c).e)]))at t3
       generalize nwX X P j c=Y at*
       generalize uR n X P j c=U at*
       generalize hU2:uR n X P j (c+1)=U2 at*
       simp(disch:=omega)only[go_sem,c2]
       refine qm rfl [⟨0,[],[]⟩,⟨1,[],[]⟩,⟨2,[],[]⟩,⟨3,[],[]⟩,⟨4,[],[]⟩,⟨5,[],[]⟩,⟨6,[5],[]⟩,⟨7,[5],[]⟩,⟨8,[5],[]⟩,⟨9,[5],[]⟩,⟨11,[5,7,9],[]⟩,⟨12,[5,7,9],[]⟩,⟨13,[5,7,9],[]⟩,⟨14,[5,7,9],[]⟩,⟨15,[5,7,9,14],[]⟩,⟨10,[14,15],[]⟩,⟨16,[],[]⟩,⟨17,[],[]⟩,⟨18,[],[]⟩,⟨19,[],[]⟩] (by kernel_rfl) ?_
       simp(disch:=omega)only[go_sem,hcX,hjP,hcP]
       refine⟨by omega,by omega,by omega,by omega,by omega,by omega,?_⟩
       refine qb (t1) ?_
       simp(disch:=omega)only[go_sem]
       refine qb (t2) ?_
       simp(disch:=omega)only[go_sem]
       refine qb (t3) ?_
       simp(disch:=omega)only[go_sem]
       rw[hset]
       exact⟨by omega,by omega,qa (c+1) [] (by show c+1≤n;omega) (by show n-(c+1)<n-c;omega) rfl (by simp(disch:=omega)only[go_sem];try omega) (by simp(disch:=omega)only[go_sem,hU2])⟩
      ·obtain rfl:c=n:=by omega
       simp(disch:=omega)only[go_sem,c2]
       exact qa (1,fun i=>if i=1 then uR c (R2 1) (R2 0) j c else R2 i) [] ⟨by omega,hA▸hB▸hS⟩ (by show 2-1<2-0;omega) rfl (by simp(disch:=omega)only[go_sem,Int.zero_add,show(1:Int)+1=2 from rfl,show(2:Int)+1=3 from rfl];try rfl) (by simp(disch:=omega)only[go_sem,hA,hB,show(if(0:Nat)=1 then uR c X P j c else P)=P from rfl,show(if(1:Nat)=1 then uR c X P j c else X)=uR c X P j c from rfl,show(if(2:Nat)=1 then uR c X P j c else R2 2)=R2 2 from rfl])
     ·have hS:=hE.step hn4 (show 2<n by omega)
      have bX:=hE.bd0 2 (by omega) (.inr (by omega))
      have bP:=hE.bd0 0 (by omega) (.inl (by omega))
      have hjX:=qk (l:=R2 2) (i:=j) (by omega)
      have hjP:=qk (l:=R2 0) (i:=j) (by omega)
      generalize hA:R2 2=X at*
      generalize hB:R2 0=P at*
      simp(disch:=omega)only[go_sem]
      simp(disch:=omega)only[go_sem,hjX]
      refine⟨by omega,by omega,?_⟩
      refine qc (fun c:Nat=>[(3,.rf 3 0 n),(5,.v (.int .i64 1)),(6,.pt 20 0),(8,.rf 5 0 n),(10,.rf 7 0 n),(11,.pt 21 0),(39,.v (.int .i64 n)),(40,.v (.int .i64 j)),(76,.rf 3 1 2),(77,.v (.int .i64 ((2:Nat):Int))),(78,.v (.int .i64 ((1:Nat):Int))),(87,.v (.int .i64 n)),(88,.v (.int .i64 c))])
       (fun c=>[(3,.own 1 [.rf 5 0 n,.rf 6 0 n,.rf 7 0 n]),(5,.own 3 (qg ExV.cs (P))),(6,.own 3 (qg ExV.cs (R2 1))),(7,.own 3 (qg ExV.cs (uR n X P j c))),(20,.own 0 [.v (.int .i64 j)]),(21,.own 0 [.v (.bool (X.getD j ex0).s),.sl (lim (X.getD j ex0).m).length (qh (lim (X.getD j ex0).m)),.v (.int .i64 (X.getD j ex0).e)])]) (fun c=>c≤n) (fun c=>n-c) 0 (by omega)
       (Le.lst [(21,130000000)] _ _ rfl (by simp(disch:=omega)only[go_sem];try rfl) (by simp(disch:=omega)only[go_sem,qT lS2])) ?_
      intro c hc
      simp(disch:=omega)only[go_sem]
      refine qe (fun c2=>?_) (fun c2=>?_)
      ·have hcX:=qk (l:=uR n X P j c) (i:=c) (by rw[qF];omega)
       rw[za (by omega),if_neg (show ¬c<c by omega)]at hcX
       have hcP:=qk (l:=P) (i:=c) (by omega)
       obtain⟨b1,b2,b3⟩:=zR lS2 lS0 (show c<n by omega) (show j<n by omega) bX bP
       have hj8:2^j≤2^3:=Nat.pow_le_pow_right (by decide) (by omega)
       have e8:2^(j+1)=2*2^j:=by rw[Nat.pow_succ];omega
       rw[e8]at b1 b2
       have g1:=qi bX (show c<X.length by omega)
       have g2:=qi bX (show j<X.length by omega)
       have g3:=qi bP (show c<P.length by omega)
       have g4:=qi bP (show j<P.length by omega)
       have hlu:(uR n X P j c).length=n:=qF
       have hset:=qU (L:=uR n X P j c) (i:=c) (x:=nwX X P j c) (by omega)
       rw[zl (show c<n by omega)]at hset
       have t1:=qn (X.getD c ex0) (P.getD j ex0) (g1.mono (by omega) (by omega)) (g4.mono (by omega) (by omega))
       have t2:=qn (P.getD c ex0) (X.getD j ex0) (g3.mono (by omega) (by omega)) (g2.mono (by omega) (by omega))
       have t3:=qB ((X.getD c ex0).times (P.getD j ex0)) ((P.getD c ex0).times (X.getD j ex0)) (b1.mono (by omega) (by omega)) (b2.mono (by omega) (by omega))
       change Con _ _ _ _ _ (isA (.ag [.v (.bool (nwX X P j c).s),.sl (lim (nwX X P j c).m).length (qh (lim (nwX X P j c).m)),.v (.int .i64 (nwX X P j c).e)]))at t3
       generalize nwX X P j c=Y at*
       generalize uR n X P j c=U at*
       generalize hU2:uR n X P j (c+1)=U2 at*
       simp(disch:=omega)only[go_sem,c2]
       refine qm rfl [⟨0,[],[]⟩,⟨1,[],[]⟩,⟨2,[],[]⟩,⟨3,[],[]⟩,⟨4,[],[]⟩,⟨5,[],[]⟩,⟨6,[5],[]⟩,⟨7,[5],[]⟩,⟨8,[5],[]⟩,⟨9,[5],[]⟩,⟨11,[5,7,9],[]⟩,⟨12,[5,7,9],[]⟩,⟨13,[5,7,9],[]⟩,⟨14,[5,7,9],[]⟩,⟨15,[5,7,9,14],[]⟩,⟨10,[14,15],[]⟩,⟨16,[],[]⟩,⟨17,[],[]⟩,⟨18,[],[]⟩,⟨19,[],[]⟩] (by kernel_rfl) ?_
       simp(disch:=omega)only[go_sem,hcX,hjP,hcP]
       refine⟨by omega,by omega,by omega,by omega,by omega,by omega,?_⟩
       refine qb (t1) ?_
       simp(disch:=omega)only[go_sem]
       refine qb (t2) ?_
       simp(disch:=omega)only[go_sem]
       refine qb (t3) ?_
       simp(disch:=omega)only[go_sem]
       rw[hset]
       exact⟨by omega,by omega,qa (c+1) [] (by show c+1≤n;omega) (by show n-(c+1)<n-c;omega) rfl (by simp(disch:=omega)only[go_sem];try omega) (by simp(disch:=omega)only[go_sem,hU2])⟩
      ·obtain rfl:c=n:=by omega
       simp(disch:=omega)only[go_sem,c2]
       exact qa (2,fun i=>if i=2 then uR c (R2 2) (R2 0) j c else R2 i) [] ⟨by omega,hA▸hB▸hS⟩ (by show 2-2<2-1;omega) rfl (by simp(disch:=omega)only[go_sem,Int.zero_add,show(1:Int)+1=2 from rfl,show(2:Int)+1=3 from rfl];try rfl) (by simp(disch:=omega)only[go_sem,hA,hB,show(if(0:Nat)=2 then uR c X P j c else P)=P from rfl,show(if(1:Nat)=2 then uR c X P j c else R2 1)=R2 1 from rfl,show(if(2:Nat)=2 then uR c X P j c else X)=uR c X P j c from rfl])
     ·simp(disch:=omega)only[go_sem]
      try simp(disch:=omega)only[go_sem]
      exact qa (j+1,1,R2) [] (hE.done (by omega)) (by show n-(j+1)<n-j;omega) rfl (by simp(disch:=omega)only[go_sem];try omega) (by simp(disch:=omega)only[go_sem])
    ·have hP:=hI.pivot hn4 (by omega) (k:=2) (by omega) hk0
     simp(disch:=omega)only[go_sem]
     refine qm rfl [⟨0,[],[]⟩,⟨1,[],[]⟩,⟨2,[],[]⟩,⟨3,[],[]⟩,⟨4,[],[]⟩,⟨5,[],[]⟩,⟨6,[],[]⟩,⟨7,[],[]⟩,⟨8,[],[]⟩,⟨9,[],[]⟩,⟨10,[],[]⟩,⟨11,[],[]⟩,⟨12,[11],[]⟩,⟨13,[11],[]⟩,⟨14,[11],[]⟩,⟨15,[11],[]⟩,⟨16,[],[]⟩,⟨17,[],[]⟩,⟨18,[],[]⟩,⟨19,[],[]⟩] (by kernel_rfl) ?_
     simp(disch:=omega)only[go_sem,Int.add_zero,Int.zero_add,Int.toNat_zero,List.getD_cons_zero,List.getD_cons_succ,show(1:Int)+1=2 from rfl,show(1:Int)+2=3 from rfl,show(2:Int)+1=3 from rfl,show(3:Int)+1=4 from rfl,show(1:Int).toNat=1 from rfl,show(2:Int).toNat=2 from rfl,show(3:Int).toNat=3 from rfl]
     refine⟨by omega,by omega,by omega,by omega,by omega,by omega,?_⟩
     rw[show((n:Int)-1).toNat=2 by omega]
     refine qc (fun x:Nat×(Nat→List ExV)=>[(3,.rf 3 0 n),(5,.v (.int .i64 1)),(6,.pt 20 0),(8,.rf 5 0 n),(39,.v (.int .i64 n)),(40,.v (.int .i64 j)),(76,.rf 3 1 2),(77,.v (.int .i64 ((2:Nat):Int))),(78,.v (.int .i64 x.1))])
      (fun x=>[(3,.own 1 [.rf 5 0 n,.rf 6 0 n,.rf 7 0 n]),(5,.own 3 (qg ExV.cs (x.2 0))),(6,.own 3 (qg ExV.cs (x.2 1))),(7,.own 3 (qg ExV.cs (x.2 2))),(20,.own 0 [.v (.int .i64 j)])]) (fun x=>x.1≤2∧rkRed n L j 0 (1+x.1) x.2) (fun x=>2-x.1) (0,fun i=>R (swI 0 (0+2) i)) ⟨by omega,hP⟩
      (Le.lst [(5,7),(6,6),(7,5),(20,80000000)] _ _ rfl (by simp(disch:=omega)only[go_sem,Int.zero_add,show(1:Int)+1=2 from rfl,show(2:Int)+1=3 from rfl,show(3:Int)+1=4 from rfl];try rfl) (by simp(disch:=omega)only[go_sem,show swI 0 (0+2) 0=2 from rfl,show swI 0 (0+2) 1=1 from rfl,show swI 0 (0+2) 2=0 from rfl])) ?_
     rintro⟨m,R2⟩ ⟨hm,hE⟩
     dsimp only at hm hE ⊢
     have lS0:=hE.len 0 (by omega)
     have lS1:=hE.len 1 (by omega)
     have lS2:=hE.len 2 (by omega)
     rcases(show m=0∨m=1∨m=2 by omega)with rfl|rfl|rfl
     ·have hS:=hE.step hn4 (show 1<n by omega)
      have bX:=hE.bd0 1 (by omega) (.inr (by omega))
      have bP:=hE.bd0 0 (by omega) (.inl (by omega))
      have hjX:=qk (l:=R2 1) (i:=j) (by omega)
      have hjP:=qk (l:=R2 0) (i:=j) (by omega)
      generalize hA:R2 1=X at*
      generalize hB:R2 0=P at*
      simp(disch:=omega)only[go_sem]
      simp(disch:=omega)only[go_sem,hjX]
      refine⟨by omega,by omega,?_⟩
      refine qc (fun c:Nat=>[(3,.rf 3 0 n),(5,.v (.int .i64 1)),(6,.pt 20 0),(8,.rf 5 0 n),(10,.rf 6 0 n),(11,.pt 21 0),(39,.v (.int .i64 n)),(40,.v (.int .i64 j)),(76,.rf 3 1 2),(77,.v (.int .i64 ((2:Nat):Int))),(78,.v (.int .i64 ((0:Nat):Int))),(87,.v (.int .i64 n)),(88,.v (.int .i64 c))])
       (fun c=>[(3,.own 1 [.rf 5 0 n,.rf 6 0 n,.rf 7 0 n]),(5,.own 3 (qg ExV.cs (P))),(6,.own 3 (qg ExV.cs (uR n X P j c))),(7,.own 3 (qg ExV.cs (R2 2))),(20,.own 0 [.v (.int .i64 j)]),(21,.own 0 [.v (.bool (X.getD j ex0).s),.sl (lim (X.getD j ex0).m).length (qh (lim (X.getD j ex0).m)),.v (.int .i64 (X.getD j ex0).e)])]) (fun c=>c≤n) (fun c=>n-c) 0 (by omega)
       (Le.lst [(21,130000000)] _ _ rfl (by simp(disch:=omega)only[go_sem];try rfl) (by simp(disch:=omega)only[go_sem,qT lS1])) ?_
      intro c hc
      simp(disch:=omega)only[go_sem]
      refine qe (fun c2=>?_) (fun c2=>?_)
      ·have hcX:=qk (l:=uR n X P j c) (i:=c) (by rw[qF];omega)
       rw[za (by omega),if_neg (show ¬c<c by omega)]at hcX
       have hcP:=qk (l:=P) (i:=c) (by omega)
       obtain⟨b1,b2,b3⟩:=zR lS1 lS0 (show c<n by omega) (show j<n by omega) bX bP
       have hj8:2^j≤2^3:=Nat.pow_le_pow_right (by decide) (by omega)
       have e8:2^(j+1)=2*2^j:=by rw[Nat.pow_succ];omega
       rw[e8]at b1 b2
       have g1:=qi bX (show c<X.length by omega)
       have g2:=qi bX (show j<X.length by omega)
       have g3:=qi bP (show c<P.length by omega)
       have g4:=qi bP (show j<P.length by omega)
       have hlu:(uR n X P j c).length=n:=qF
       have hset:=qU (L:=uR n X P j c) (i:=c) (x:=nwX X P j c) (by omega)
       rw[zl (show c<n by omega)]at hset
       have t1:=qn (X.getD c ex0) (P.getD j ex0) (g1.mono (by omega) (by omega)) (g4.mono (by omega) (by omega))
       have t2:=qn (P.getD c ex0) (X.getD j ex0) (g3.mono (by omega) (by omega)) (g2.mono (by omega) (by omega))
       have t3:=qB ((X.getD c ex0).times (P.getD j ex0)) ((P.getD c ex0).times (X.getD j ex0)) (b1.mono (by omega) (by omega)) (b2.mono (by omega) (by omega))
       change Con _ _ _ _ _ (isA (.ag [.v (.bool (nwX X P j c).s),.sl (lim (nwX X P j c).m).length (qh (lim (nwX X P j c).m)),.v (.int .i64 (nwX X P j c).e)]))at t3
       generalize nwX X P j c=Y at*
       generalize uR n X P j c=U at*
       generalize hU2:uR n X P j (c+1)=U2 at*
       simp(disch:=omega)only[go_sem,c2]
       refine qm rfl [⟨0,[],[]⟩,⟨1,[],[]⟩,⟨2,[],[]⟩,⟨3,[],[]⟩,⟨4,[],[]⟩,⟨5,[],[]⟩,⟨6,[5],[]⟩,⟨7,[5],[]⟩,⟨8,[5],[]⟩,⟨9,[5],[]⟩,⟨11,[5,7,9],[]⟩,⟨12,[5,7,9],[]⟩,⟨13,[5,7,9],[]⟩,⟨14,[5,7,9],[]⟩,⟨15,[5,7,9,14],[]⟩,⟨10,[14,15],[]⟩,⟨16,[],[]⟩,⟨17,[],[]⟩,⟨18,[],[]⟩,⟨19,[],[]⟩] (by kernel_rfl) ?_
       simp(disch:=omega)only[go_sem,hcX,hjP,hcP]
       refine⟨by omega,by omega,by omega,by omega,by omega,by omega,?_⟩
       refine qb (t1) ?_
       simp(disch:=omega)only[go_sem]
       refine qb (t2) ?_
       simp(disch:=omega)only[go_sem]
       refine qb (t3) ?_
       simp(disch:=omega)only[go_sem]
       rw[hset]
       exact⟨by omega,by omega,qa (c+1) [] (by show c+1≤n;omega) (by show n-(c+1)<n-c;omega) rfl (by simp(disch:=omega)only[go_sem];try omega) (by simp(disch:=omega)only[go_sem,hU2])⟩
      ·obtain rfl:c=n:=by omega
       simp(disch:=omega)only[go_sem,c2]
       exact qa (1,fun i=>if i=1 then uR c (R2 1) (R2 0) j c else R2 i) [] ⟨by omega,hA▸hB▸hS⟩ (by show 2-1<2-0;omega) rfl (by simp(disch:=omega)only[go_sem,Int.zero_add,show(1:Int)+1=2 from rfl,show(2:Int)+1=3 from rfl];try rfl) (by simp(disch:=omega)only[go_sem,hA,hB,show(if(0:Nat)=1 then uR c X P j c else P)=P from rfl,show(if(1:Nat)=1 then uR c X P j c else X)=uR c X P j c from rfl,show(if(2:Nat)=1 then uR c X P j c else R2 2)=R2 2 from rfl])
     ·have hS:=hE.step hn4 (show 2<n by omega)
      have bX:=hE.bd0 2 (by omega) (.inr (by omega))
      have bP:=hE.bd0 0 (by omega) (.inl (by omega))
      have hjX:=qk (l:=R2 2) (i:=j) (by omega)
      have hjP:=qk (l:=R2 0) (i:=j) (by omega)
      generalize hA:R2 2=X at*
      generalize hB:R2 0=P at*
      simp(disch:=omega)only[go_sem]
      simp(disch:=omega)only[go_sem,hjX]
      refine⟨by omega,by omega,?_⟩
      refine qc (fun c:Nat=>[(3,.rf 3 0 n),(5,.v (.int .i64 1)),(6,.pt 20 0),(8,.rf 5 0 n),(10,.rf 7 0 n),(11,.pt 21 0),(39,.v (.int .i64 n)),(40,.v (.int .i64 j)),(76,.rf 3 1 2),(77,.v (.int .i64 ((2:Nat):Int))),(78,.v (.int .i64 ((1:Nat):Int))),(87,.v (.int .i64 n)),(88,.v (.int .i64 c))])
       (fun c=>[(3,.own 1 [.rf 5 0 n,.rf 6 0 n,.rf 7 0 n]),(5,.own 3 (qg ExV.cs (P))),(6,.own 3 (qg ExV.cs (R2 1))),(7,.own 3 (qg ExV.cs (uR n X P j c))),(20,.own 0 [.v (.int .i64 j)]),(21,.own 0 [.v (.bool (X.getD j ex0).s),.sl (lim (X.getD j ex0).m).length (qh (lim (X.getD j ex0).m)),.v (.int .i64 (X.getD j ex0).e)])]) (fun c=>c≤n) (fun c=>n-c) 0 (by omega)
       (Le.lst [(21,130000000)] _ _ rfl (by simp(disch:=omega)only[go_sem];try rfl) (by simp(disch:=omega)only[go_sem,qT lS2])) ?_
      intro c hc
      simp(disch:=omega)only[go_sem]
      refine qe (fun c2=>?_) (fun c2=>?_)
      ·have hcX:=qk (l:=uR n X P j c) (i:=c) (by rw[qF];omega)
       rw[za (by omega),if_neg (show ¬c<c by omega)]at hcX
       have hcP:=qk (l:=P) (i:=c) (by omega)
       obtain⟨b1,b2,b3⟩:=zR lS2 lS0 (show c<n by omega) (show j<n by omega) bX bP
       have hj8:2^j≤2^3:=Nat.pow_le_pow_right (by decide) (by omega)
       have e8:2^(j+1)=2*2^j:=by rw[Nat.pow_succ];omega
       rw[e8]at b1 b2
       have g1:=qi bX (show c<X.length by omega)
       have g2:=qi bX (show j<X.length by omega)
       have g3:=qi bP (show c<P.length by omega)
       have g4:=qi bP (show j<P.length by omega)
       have hlu:(uR n X P j c).length=n:=qF
       have hset:=qU (L:=uR n X P j c) (i:=c) (x:=nwX X P j c) (by omega)
       rw[zl (show c<n by omega)]at hset
       have t1:=qn (X.getD c ex0) (P.getD j ex0) (g1.mono (by omega) (by omega)) (g4.mono (by omega) (by omega))
       have t2:=qn (P.getD c ex0) (X.getD j ex0) (g3.mono (by omega) (by omega)) (g2.mono (by omega) (by omega))
       have t3:=qB ((X.getD c ex0).times (P.getD j ex0)) ((P.getD c ex0).times (X.getD j ex0)) (b1.mono (by omega) (by omega)) (b2.mono (by omega) (by omega))
       change Con _ _ _ _ _ (isA (.ag [.v (.bool (nwX X P j c).s),.sl (lim (nwX X P j c).m).length (qh (lim (nwX X P j c).m)),.v (.int .i64 (nwX X P j c).e)]))at t3
       generalize nwX X P j c=Y at*
       generalize uR n X P j c=U at*
       generalize hU2:uR n X P j (c+1)=U2 at*
       simp(disch:=omega)only[go_sem,c2]
       refine qm rfl [⟨0,[],[]⟩,⟨1,[],[]⟩,⟨2,[],[]⟩,⟨3,[],[]⟩,⟨4,[],[]⟩,⟨5,[],[]⟩,⟨6,[5],[]⟩,⟨7,[5],[]⟩,⟨8,[5],[]⟩,⟨9,[5],[]⟩,⟨11,[5,7,9],[]⟩,⟨12,[5,7,9],[]⟩,⟨13,[5,7,9],[]⟩,⟨14,[5,7,9],[]⟩,⟨15,[5,7,9,14],[]⟩,⟨10,[14,15],[]⟩,⟨16,[],[]⟩,⟨17,[],[]⟩,⟨18,[],[]⟩,⟨19,[],[]⟩] (by kernel_rfl) ?_
       simp(disch:=omega)only[go_sem,hcX,hjP,hcP]
       refine⟨by omega,by omega,by omega,by omega,by omega,by omega,?_⟩
       refine qb (t1) ?_
       simp(disch:=omega)only[go_sem]
       refine qb (t2) ?_
       simp(disch:=omega)only[go_sem]
       refine qb (t3) ?_
       simp(disch:=omega)only[go_sem]
       rw[hset]
       exact⟨by omega,by omega,qa (c+1) [] (by show c+1≤n;omega) (by show n-(c+1)<n-c;omega) rfl (by simp(disch:=omega)only[go_sem];try omega) (by simp(disch:=omega)only[go_sem,hU2])⟩
      ·obtain rfl:c=n:=by omega
       simp(disch:=omega)only[go_sem,c2]
       exact qa (2,fun i=>if i=2 then uR c (R2 2) (R2 0) j c else R2 i) [] ⟨by omega,hA▸hB▸hS⟩ (by show 2-2<2-1;omega) rfl (by simp(disch:=omega)only[go_sem,Int.zero_add,show(1:Int)+1=2 from rfl,show(2:Int)+1=3 from rfl];try rfl) (by simp(disch:=omega)only[go_sem,hA,hB,show(if(0:Nat)=2 then uR c X P j c else P)=P from rfl,show(if(1:Nat)=2 then uR c X P j c else R2 1)=R2 1 from rfl,show(if(2:Nat)=2 then uR c X P j c else X)=uR c X P j c from rfl])
     ·simp(disch:=omega)only[go_sem]
      try simp(disch:=omega)only[go_sem]
      exact qa (j+1,1,R2) [] (hE.done (by omega)) (by show n-(j+1)<n-j;omega) rfl (by simp(disch:=omega)only[go_sem];try omega) (by simp(disch:=omega)only[go_sem])
  ·have hx:=zN n j [R 1,R 2] hn4 (by omega) (by simp[lR1,lR2]) (by simp)
   change Con _ _ _ [.sl 2 [.sl n (qg ExV.cs (R 1)),.sl n (qg ExV.cs (R 2))],_] _ _ at hx
   simp(disch:=omega)only[go_sem,c1]
   rw[show((n:Int)-1).toNat=2 by omega]
   refine⟨by omega,?_⟩
   refine qy hx (by simp(disch:=omega)only[go_sem,hcR0,hcR1,hcR2]) ?_
   rintro x hs ⟨rfl, -,(⟨rfl,hz0⟩|⟨k,hk,rfl,hk0⟩)⟩
   ·refine⟨by simp[qG],?_⟩
    simp(disch:=omega)only[go_sem]
    exact qa (j+1,1,R) [] (hI.skip (by omega) (fun i h1 h2=>by
     have:=hz0 (i-1) (by simp;omega)
     rcases(show i=1∨i=2 by omega)with rfl|rfl
     ·exact this
     ·exact this)) (by show n-(j+1)<n-j;omega) rfl (by simp(disch:=omega)only[go_sem];try omega) (by simp(disch:=omega)only[go_sem])
   ·refine⟨by simp[qG],?_⟩
    have hk:k<2:=hk
    rcases(show k=0∨k=1 by omega)with rfl|rfl
    ·have hP:=hI.pivot hn4 (by omega) (k:=0) (by omega) hk0
     simp(disch:=omega)only[go_sem]
     refine qm rfl [⟨0,[],[]⟩,⟨1,[],[]⟩,⟨2,[],[]⟩,⟨3,[],[]⟩,⟨4,[],[]⟩,⟨5,[],[]⟩,⟨6,[],[]⟩,⟨7,[],[]⟩,⟨8,[],[]⟩,⟨9,[],[]⟩,⟨10,[],[]⟩,⟨11,[],[]⟩,⟨12,[11],[]⟩,⟨13,[11],[]⟩,⟨14,[11],[]⟩,⟨15,[11],[]⟩,⟨16,[],[]⟩,⟨17,[],[]⟩,⟨18,[],[]⟩,⟨19,[],[]⟩] (by kernel_rfl) ?_
     simp(disch:=omega)only[go_sem,Int.add_zero,Int.zero_add,Int.toNat_zero,List.getD_cons_zero,List.getD_cons_succ,show(1:Int)+1=2 from rfl,show(1:Int)+2=3 from rfl,show(2:Int)+1=3 from rfl,show(3:Int)+1=4 from rfl,show(1:Int).toNat=1 from rfl,show(2:Int).toNat=2 from rfl,show(3:Int).toNat=3 from rfl]
     refine⟨by omega,by omega,by omega,by omega,by omega,by omega,?_⟩
     rw[show((n:Int)-2).toNat=1 by omega]
     refine qc (fun x:Nat×(Nat→List ExV)=>[(3,.rf 3 0 n),(5,.v (.int .i64 2)),(6,.pt 20 0),(8,.rf 6 0 n),(39,.v (.int .i64 n)),(40,.v (.int .i64 j)),(76,.rf 3 2 1),(77,.v (.int .i64 ((1:Nat):Int))),(78,.v (.int .i64 x.1))])
      (fun x=>[(3,.own 1 [.rf 5 0 n,.rf 6 0 n,.rf 7 0 n]),(5,.own 3 (qg ExV.cs (x.2 0))),(6,.own 3 (qg ExV.cs (x.2 1))),(7,.own 3 (qg ExV.cs (x.2 2))),(20,.own 0 [.v (.int .i64 j)])]) (fun x=>x.1≤1∧rkRed n L j 1 (2+x.1) x.2) (fun x=>1-x.1) (0,fun i=>R (swI 1 (1+0) i)) ⟨by omega,hP⟩
      (Le.lst [(5,5),(6,6),(7,7),(20,80000000)] _ _ rfl (by simp(disch:=omega)only[go_sem,Int.zero_add,show(1:Int)+1=2 from rfl,show(2:Int)+1=3 from rfl,show(3:Int)+1=4 from rfl];try rfl) (by simp(disch:=omega)only[go_sem,show swI 1 (1+0) 0=0 from rfl,show swI 1 (1+0) 1=1 from rfl,show swI 1 (1+0) 2=2 from rfl])) ?_
     rintro⟨m,R2⟩ ⟨hm,hE⟩
     dsimp only at hm hE ⊢
     have lS0:=hE.len 0 (by omega)
     have lS1:=hE.len 1 (by omega)
     have lS2:=hE.len 2 (by omega)
     rcases(show m=0∨m=1 by omega)with rfl|rfl
     ·have hS:=hE.step hn4 (show 2<n by omega)
      have bX:=hE.bd0 2 (by omega) (.inr (by omega))
      have bP:=hE.bd0 1 (by omega) (.inl (by omega))
      have hjX:=qk (l:=R2 2) (i:=j) (by omega)
      have hjP:=qk (l:=R2 1) (i:=j) (by omega)
      generalize hA:R2 2=X at*
      generalize hB:R2 1=P at*
      simp(disch:=omega)only[go_sem]
      simp(disch:=omega)only[go_sem,hjX]
      refine⟨by omega,by omega,?_⟩
      refine qc (fun c:Nat=>[(3,.rf 3 0 n),(5,.v (.int .i64 2)),(6,.pt 20 0),(8,.rf 6 0 n),(10,.rf 7 0 n),(11,.pt 21 0),(39,.v (.int .i64 n)),(40,.v (.int .i64 j)),(76,.rf 3 2 1),(77,.v (.int .i64 ((1:Nat):Int))),(78,.v (.int .i64 ((0:Nat):Int))),(87,.v (.int .i64 n)),(88,.v (.int .i64 c))])
       (fun c=>[(3,.own 1 [.rf 5 0 n,.rf 6 0 n,.rf 7 0 n]),(5,.own 3 (qg ExV.cs (R2 0))),(6,.own 3 (qg ExV.cs (P))),(7,.own 3 (qg ExV.cs (uR n X P j c))),(20,.own 0 [.v (.int .i64 j)]),(21,.own 0 [.v (.bool (X.getD j ex0).s),.sl (lim (X.getD j ex0).m).length (qh (lim (X.getD j ex0).m)),.v (.int .i64 (X.getD j ex0).e)])]) (fun c=>c≤n) (fun c=>n-c) 0 (by omega)
       (Le.lst [(21,130000000)] _ _ rfl (by simp(disch:=omega)only[go_sem];try rfl) (by simp(disch:=omega)only[go_sem,qT lS2])) ?_
      intro c hc
      simp(disch:=omega)only[go_sem]
      refine qe (fun c2=>?_) (fun c2=>?_)
      ·have hcX:=qk (l:=uR n X P j c) (i:=c) (by rw[qF];omega)
       rw[za (by omega),if_neg (show ¬c<c by omega)]at hcX
       have hcP:=qk (l:=P) (i:=c) (by omega)
       obtain⟨b1,b2,b3⟩:=zR lS2 lS1 (show c<n by omega) (show j<n by omega) bX bP
       have hj8:2^j≤2^3:=Nat.pow_le_pow_right (by decide) (by omega)
       have e8:2^(j+1)=2*2^j:=by rw[Nat.pow_succ];omega
       rw[e8]at b1 b2
       have g1:=qi bX (show c<X.length by omega)
       have g2:=qi bX (show j<X.length by omega)
       have g3:=qi bP (show c<P.length by omega)
       have g4:=qi bP (show j<P.length by omega)
       have hlu:(uR n X P j c).length=n:=qF
       have hset:=qU (L:=uR n X P j c) (i:=c) (x:=nwX X P j c) (by omega)
       rw[zl (show c<n by omega)]at hset
       have t1:=qn (X.getD c ex0) (P.getD j ex0) (g1.mono (by omega) (by omega)) (g4.mono (by omega) (by omega))
       have t2:=qn (P.getD c ex0) (X.getD j ex0) (g3.mono (by omega) (by omega)) (g2.mono (by omega) (by omega))
       have t3:=qB ((X.getD c ex0).times (P.getD j ex0)) ((P.getD c ex0).times (X.getD j ex0)) (b1.mono (by omega) (by omega)) (b2.mono (by omega) (by omega))
       change Con _ _ _ _ _ (isA (.ag [.v (.bool (nwX X P j c).s),.sl (lim (nwX X P j c).m).length (qh (lim (nwX X P j c).m)),.v (.int .i64 (nwX X P j c).e)]))at t3
       generalize nwX X P j c=Y at*
       generalize uR n X P j c=U at*
       generalize hU2:uR n X P j (c+1)=U2 at*
       simp(disch:=omega)only[go_sem,c2]
       refine qm rfl [⟨0,[],[]⟩,⟨1,[],[]⟩,⟨2,[],[]⟩,⟨3,[],[]⟩,⟨4,[],[]⟩,⟨5,[],[]⟩,⟨6,[5],[]⟩,⟨7,[5],[]⟩,⟨8,[5],[]⟩,⟨9,[5],[]⟩,⟨11,[5,7,9],[]⟩,⟨12,[5,7,9],[]⟩,⟨13,[5,7,9],[]⟩,⟨14,[5,7,9],[]⟩,⟨15,[5,7,9,14],[]⟩,⟨10,[14,15],[]⟩,⟨16,[],[]⟩,⟨17,[],[]⟩,⟨18,[],[]⟩,⟨19,[],[]⟩] (by kernel_rfl) ?_
       simp(disch:=omega)only[go_sem,hcX,hjP,hcP]
       refine⟨by omega,by omega,by omega,by omega,by omega,by omega,?_⟩
       refine qb (t1) ?_
       simp(disch:=omega)only[go_sem]
       refine qb (t2) ?_
       simp(disch:=omega)only[go_sem]
       refine qb (t3) ?_
       simp(disch:=omega)only[go_sem]
       rw[hset]
       exact⟨by omega,by omega,qa (c+1) [] (by show c+1≤n;omega) (by show n-(c+1)<n-c;omega) rfl (by simp(disch:=omega)only[go_sem];try omega) (by simp(disch:=omega)only[go_sem,hU2])⟩
      ·obtain rfl:c=n:=by omega
       simp(disch:=omega)only[go_sem,c2]
       exact qa (1,fun i=>if i=2 then uR c (R2 2) (R2 1) j c else R2 i) [] ⟨by omega,hA▸hB▸hS⟩ (by show 1-1<1-0;omega) rfl (by simp(disch:=omega)only[go_sem,Int.zero_add,show(1:Int)+1=2 from rfl,show(2:Int)+1=3 from rfl];try rfl) (by simp(disch:=omega)only[go_sem,hA,hB,show(if(0:Nat)=2 then uR c X P j c else R2 0)=R2 0 from rfl,show(if(1:Nat)=2 then uR c X P j c else P)=P from rfl,show(if(2:Nat)=2 then uR c X P j c else X)=uR c X P j c from rfl])
     ·simp(disch:=omega)only[go_sem]
      try simp(disch:=omega)only[go_sem]
      exact qa (j+1,2,R2) [] (hE.done (by omega)) (by show n-(j+1)<n-j;omega) rfl (by simp(disch:=omega)only[go_sem];try omega) (by simp(disch:=omega)only[go_sem])
    ·have hP:=hI.pivot hn4 (by omega) (k:=1) (by omega) hk0
     simp(disch:=omega)only[go_sem]
     refine qm rfl [⟨0,[],[]⟩,⟨1,[],[]⟩,⟨2,[],[]⟩,⟨3,[],[]⟩,⟨4,[],[]⟩,⟨5,[],[]⟩,⟨6,[],[]⟩,⟨7,[],[]⟩,⟨8,[],[]⟩,⟨9,[],[]⟩,⟨10,[],[]⟩,⟨11,[],[]⟩,⟨12,[11],[]⟩,⟨13,[11],[]⟩,⟨14,[11],[]⟩,⟨15,[11],[]⟩,⟨16,[],[]⟩,⟨17,[],[]⟩,⟨18,[],[]⟩,⟨19,[],[]⟩] (by kernel_rfl) ?_
     simp(disch:=omega)only[go_sem,Int.add_zero,Int.zero_add,Int.toNat_zero,List.getD_cons_zero,List.getD_cons_succ,show(1:Int)+1=2 from rfl,show(1:Int)+2=3 from rfl,show(2:Int)+1=3 from rfl,show(3:Int)+1=4 from rfl,show(1:Int).toNat=1 from rfl,show(2:Int).toNat=2 from rfl,show(3:Int).toNat=3 from rfl]
     refine⟨by omega,by omega,by omega,by omega,by omega,by omega,?_⟩
     rw[show((n:Int)-2).toNat=1 by omega]
     refine qc (fun x:Nat×(Nat→List ExV)=>[(3,.rf 3 0 n),(5,.v (.int .i64 2)),(6,.pt 20 0),(8,.rf 6 0 n),(39,.v (.int .i64 n)),(40,.v (.int .i64 j)),(76,.rf 3 2 1),(77,.v (.int .i64 ((1:Nat):Int))),(78,.v (.int .i64 x.1))])
      (fun x=>[(3,.own 1 [.rf 5 0 n,.rf 6 0 n,.rf 7 0 n]),(5,.own 3 (qg ExV.cs (x.2 0))),(6,.own 3 (qg ExV.cs (x.2 1))),(7,.own 3 (qg ExV.cs (x.2 2))),(20,.own 0 [.v (.int .i64 j)])]) (fun x=>x.1≤1∧rkRed n L j 1 (2+x.1) x.2) (fun x=>1-x.1) (0,fun i=>R (swI 1 (1+1) i)) ⟨by omega,hP⟩
      (Le.lst [(5,5),(6,7),(7,6),(20,80000000)] _ _ rfl (by simp(disch:=omega)only[go_sem,Int.zero_add,show(1:Int)+1=2 from rfl,show(2:Int)+1=3 from rfl,show(3:Int)+1=4 from rfl];try rfl) (by simp(disch:=omega)only[go_sem,show swI 1 (1+1) 0=0 from rfl,show swI 1 (1+1) 1=2 from rfl,show swI 1 (1+1) 2=1 from rfl])) ?_
     rintro⟨m,R2⟩ ⟨hm,hE⟩
     dsimp only at hm hE ⊢
     have lS0:=hE.len 0 (by omega)
     have lS1:=hE.len 1 (by omega)
     have lS2:=hE.len 2 (by omega)
     rcases(show m=0∨m=1 by omega)with rfl|rfl
     ·have hS:=hE.step hn4 (show 2<n by omega)
      have bX:=hE.bd0 2 (by omega) (.inr (by omega))
      have bP:=hE.bd0 1 (by omega) (.inl (by omega))
      have hjX:=qk (l:=R2 2) (i:=j) (by omega)
      have hjP:=qk (l:=R2 1) (i:=j) (by omega)
      generalize hA:R2 2=X at*
      generalize hB:R2 1=P at*
      simp(disch:=omega)only[go_sem]
      simp(disch:=omega)only[go_sem,hjX]
      refine⟨by omega,by omega,?_⟩
      refine qc (fun c:Nat=>[(3,.rf 3 0 n),(5,.v (.int .i64 2)),(6,.pt 20 0),(8,.rf 6 0 n),(10,.rf 7 0 n),(11,.pt 21 0),(39,.v (.int .i64 n)),(40,.v (.int .i64 j)),(76,.rf 3 2 1),(77,.v (.int .i64 ((1:Nat):Int))),(78,.v (.int .i64 ((0:Nat):Int))),(87,.v (.int .i64 n)),(88,.v (.int .i64 c))])
       (fun c=>[(3,.own 1 [.rf 5 0 n,.rf 6 0 n,.rf 7 0 n]),(5,.own 3 (qg ExV.cs (R2 0))),(6,.own 3 (qg ExV.cs (P))),(7,.own 3 (qg ExV.cs (uR n X P j c))),(20,.own 0 [.v (.int .i64 j)]),(21,.own 0 [.v (.bool (X.getD j ex0).s),.sl (lim (X.getD j ex0).m).length (qh (lim (X.getD j ex0).m)),.v (.int .i64 (X.getD j ex0).e)])]) (fun c=>c≤n) (fun c=>n-c) 0 (by omega)
       (Le.lst [(21,130000000)] _ _ rfl (by simp(disch:=omega)only[go_sem];try rfl) (by simp(disch:=omega)only[go_sem,qT lS2])) ?_
      intro c hc
      simp(disch:=omega)only[go_sem]
      refine qe (fun c2=>?_) (fun c2=>?_)
      ·have hcX:=qk (l:=uR n X P j c) (i:=c) (by rw[qF];omega)
       rw[za (by omega),if_neg (show ¬c<c by omega)]at hcX
       have hcP:=qk (l:=P) (i:=c) (by omega)
       obtain⟨b1,b2,b3⟩:=zR lS2 lS1 (show c<n by omega) (show j<n by omega) bX bP
       have hj8:2^j≤2^3:=Nat.pow_le_pow_right (by decide) (by omega)
       have e8:2^(j+1)=2*2^j:=by rw[Nat.pow_succ];omega
       rw[e8]at b1 b2
       have g1:=qi bX (show c<X.length by omega)
       have g2:=qi bX (show j<X.length by omega)
       have g3:=qi bP (show c<P.length by omega)
       have g4:=qi bP (show j<P.length by omega)
       have hlu:(uR n X P j c).length=n:=qF
       have hset:=qU (L:=uR n X P j c) (i:=c) (x:=nwX X P j c) (by omega)
       rw[zl (show c<n by omega)]at hset
       have t1:=qn (X.getD c ex0) (P.getD j ex0) (g1.mono (by omega) (by omega)) (g4.mono (by omega) (by omega))
       have t2:=qn (P.getD c ex0) (X.getD j ex0) (g3.mono (by omega) (by omega)) (g2.mono (by omega) (by omega))
       have t3:=qB ((X.getD c ex0).times (P.getD j ex0)) ((P.getD c ex0).times (X.getD j ex0)) (b1.mono (by omega) (by omega)) (b2.mono (by omega) (by omega))
       change Con _ _ _ _ _ (isA (.ag [.v (.bool (nwX X P j c).s),.sl (lim (nwX X P j c).m).length (qh (lim (nwX X P j c).m)),.v (.int .i64 (nwX X P j c).e)]))at t3
       generalize nwX X P j c=Y at*
       generalize uR n X P j c=U at*
       generalize hU2:uR n X P j (c+1)=U2 at*
       simp(disch:=omega)only[go_sem,c2]
       refine qm rfl [⟨0,[],[]⟩,⟨1,[],[]⟩,⟨2,[],[]⟩,⟨3,[],[]⟩,⟨4,[],[]⟩,⟨5,[],[]⟩,⟨6,[5],[]⟩,⟨7,[5],[]⟩,⟨8,[5],[]⟩,⟨9,[5],[]⟩,⟨11,[5,7,9],[]⟩,⟨12,[5,7,9],[]⟩,⟨13,[5,7,9],[]⟩,⟨14,[5,7,9],[]⟩,⟨15,[5,7,9,14],[]⟩,⟨10,[14,15],[]⟩,⟨16,[],[]⟩,⟨17,[],[]⟩,⟨18,[],[]⟩,⟨19,[],[]⟩] (by kernel_rfl) ?_
       simp(disch:=omega)only[go_sem,hcX,hjP,hcP]
       refine⟨by omega,by omega,by omega,by omega,by omega,by omega,?_⟩
       refine qb (t1) ?_
       simp(disch:=omega)only[go_sem]
       refine qb (t2) ?_
       simp(disch:=omega)only[go_sem]
       refine qb (t3) ?_
       simp(disch:=omega)only[go_sem]
       rw[hset]
       exact⟨by omega,by omega,qa (c+1) [] (by show c+1≤n;omega) (by show n-(c+1)<n-c;omega) rfl (by simp(disch:=omega)only[go_sem];try omega) (by simp(disch:=omega)only[go_sem,hU2])⟩
      ·obtain rfl:c=n:=by omega
       simp(disch:=omega)only[go_sem,c2]
       exact qa (1,fun i=>if i=2 then uR c (R2 2) (R2 1) j c else R2 i) [] ⟨by omega,hA▸hB▸hS⟩ (by show 1-1<1-0;omega) rfl (by simp(disch:=omega)only[go_sem,Int.zero_add,show(1:Int)+1=2 from rfl,show(2:Int)+1=3 from rfl];try rfl) (by simp(disch:=omega)only[go_sem,hA,hB,show(if(0:Nat)=2 then uR c X P j c else R2 0)=R2 0 from rfl,show(if(1:Nat)=2 then uR c X P j c else P)=P from rfl,show(if(2:Nat)=2 then uR c X P j c else X)=uR c X P j c from rfl])
     ·simp(disch:=omega)only[go_sem]
      try simp(disch:=omega)only[go_sem]
      exact qa (j+1,2,R2) [] (hE.done (by omega)) (by show n-(j+1)<n-j;omega) rfl (by simp(disch:=omega)only[go_sem];try omega) (by simp(disch:=omega)only[go_sem])
  ·have hx:=zN n j [R 2] hn4 (by omega) (by simp[lR2]) (by simp)
   change Con _ _ _ [.sl 1 [.sl n (qg ExV.cs (R 2))],_] _ _ at hx
   simp(disch:=omega)only[go_sem,c1]
   rw[show((n:Int)-2).toNat=1 by omega]
   refine⟨by omega,?_⟩
   refine qy hx (by simp(disch:=omega)only[go_sem,hcR0,hcR1,hcR2]) ?_
   rintro x hs ⟨rfl, -,(⟨rfl,hz0⟩|⟨k,hk,rfl,hk0⟩)⟩
   ·refine⟨by simp[qG],?_⟩
    simp(disch:=omega)only[go_sem]
    exact qa (j+1,2,R) [] (hI.skip (by omega) (fun i h1 h2=>by
     have:=hz0 (i-2) (by simp;omega)
     rcases(show i=2 by omega)with rfl
     ·exact this)) (by show n-(j+1)<n-j;omega) rfl (by simp(disch:=omega)only[go_sem];try omega) (by simp(disch:=omega)only[go_sem])
   ·refine⟨by simp[qG],?_⟩
    have hk:k<1:=hk
    rcases(show k=0 by omega)with rfl
    ·have hP:=hI.pivot hn4 (by omega) (k:=0) (by omega) hk0
     simp(disch:=omega)only[go_sem]
     refine qm rfl [⟨0,[],[]⟩,⟨1,[],[]⟩,⟨2,[],[]⟩,⟨3,[],[]⟩,⟨4,[],[]⟩,⟨5,[],[]⟩,⟨6,[],[]⟩,⟨7,[],[]⟩,⟨8,[],[]⟩,⟨9,[],[]⟩,⟨10,[],[]⟩,⟨11,[],[]⟩,⟨12,[11],[]⟩,⟨13,[11],[]⟩,⟨14,[11],[]⟩,⟨15,[11],[]⟩,⟨16,[],[]⟩,⟨17,[],[]⟩,⟨18,[],[]⟩,⟨19,[],[]⟩] (by kernel_rfl) ?_
     simp(disch:=omega)only[go_sem,Int.add_zero,Int.zero_add,Int.toNat_zero,List.getD_cons_zero,List.getD_cons_succ,show(1:Int)+1=2 from rfl,show(1:Int)+2=3 from rfl,show(2:Int)+1=3 from rfl,show(3:Int)+1=4 from rfl,show(1:Int).toNat=1 from rfl,show(2:Int).toNat=2 from rfl,show(3:Int).toNat=3 from rfl]
     refine⟨by omega,by omega,by omega,by omega,by omega,by omega,?_⟩
     rw[show((n:Int)-3).toNat=0 by omega]
     refine qc (fun x:Nat×(Nat→List ExV)=>[(3,.rf 3 0 n),(5,.v (.int .i64 3)),(6,.pt 20 0),(8,.rf 7 0 n),(39,.v (.int .i64 n)),(40,.v (.int .i64 j)),(76,.rf 3 3 0),(77,.v (.int .i64 ((0:Nat):Int))),(78,.v (.int .i64 x.1))])
      (fun x=>[(3,.own 1 [.rf 5 0 n,.rf 6 0 n,.rf 7 0 n]),(5,.own 3 (qg ExV.cs (x.2 0))),(6,.own 3 (qg ExV.cs (x.2 1))),(7,.own 3 (qg ExV.cs (x.2 2))),(20,.own 0 [.v (.int .i64 j)])]) (fun x=>x.1≤0∧rkRed n L j 2 (3+x.1) x.2) (fun x=>0-x.1) (0,fun i=>R (swI 2 (2+0) i)) ⟨by omega,hP⟩
      (Le.lst [(5,5),(6,6),(7,7),(20,80000000)] _ _ rfl (by simp(disch:=omega)only[go_sem,Int.zero_add,show(1:Int)+1=2 from rfl,show(2:Int)+1=3 from rfl,show(3:Int)+1=4 from rfl];try rfl) (by simp(disch:=omega)only[go_sem,show swI 2 (2+0) 0=0 from rfl,show swI 2 (2+0) 1=1 from rfl,show swI 2 (2+0) 2=2 from rfl])) ?_
     rintro⟨m,R2⟩ ⟨hm,hE⟩
     dsimp only at hm hE ⊢
     have lS0:=hE.len 0 (by omega)
     have lS1:=hE.len 1 (by omega)
     have lS2:=hE.len 2 (by omega)
     rcases(show m=0 by omega)with rfl
     ·simp(disch:=omega)only[go_sem]
      try simp(disch:=omega)only[go_sem]
      exact qa (j+1,3,R2) [] (hE.done (by omega)) (by show n-(j+1)<n-j;omega) rfl (by simp(disch:=omega)only[go_sem];try omega) (by simp(disch:=omega)only[go_sem])
end Go.Ab
namespace Go.Ab
open Go Go.Proofs
def abl(n:Nat)(L:List ExV):Nat→List (Nat×Ob)
 |0=>[(3,.own 1 [.v (.slice none 0 0),.v (.slice none 0 0),.v (.slice none 0 0),.v (.slice none 0 0)])]
 |1=>[(3,.own 1 [.rf 5 0 n,.v (.slice none 0 0),.v (.slice none 0 0),.v (.slice none 0 0)]),(5,.own 3 (qg ExV.cs (jq n L 0)))]
 |2=>[(3,.own 1 [.rf 5 0 n,.rf 6 0 n,.v (.slice none 0 0),.v (.slice none 0 0)]),(5,.own 3 (qg ExV.cs (jq n L 0))),(6,.own 3 (qg ExV.cs (jq n L 1)))]
 |3=>[(3,.own 1 [.rf 5 0 n,.rf 6 0 n,.rf 7 0 n,.v (.slice none 0 0)]),(5,.own 3 (qg ExV.cs (jq n L 0))),(6,.own 3 (qg ExV.cs (jq n L 1))),(7,.own 3 (qg ExV.cs (jq n L 2)))]
 |_=>[(3,.own 1 [.rf 5 0 n,.rf 6 0 n,.rf 7 0 n,.rf 8 0 n]),(5,.own 3 (qg ExV.cs (jq n L 0))),(6,.own 3 (qg ExV.cs (jq n L 1))),(7,.own 3 (qg ExV.cs (jq n L 2))),(8,.own 3 (qg ExV.cs (jq n L 3)))]
set_option maxRecDepth 100000 in
set_option maxHeartbeats 4000000 in
theorem alg(n:Nat)(hN:n=4)(L:List ExV)(h:matV n L):Con Tryz.prog 90 true [.ag [.v (.int .i64 (n)),.sl (L).length (qg ExV.cs (L))]] [] (rkQ n L):=by
 have hz:zV n [.v (.slice none 0 0)]=[AV.v (.slice none 0 0),AV.v (.slice none 0 0),AV.v (.slice none 0 0),AV.v (.slice none 0 0)]:=by rw[hN];rfl
 have hn4:n≤4:=by omega
 have hl:=h.len
 have hLN:L.length=16:=by rw[hl,hN]
 have hl0:=zW (i:=0) hl (by omega)
 have cc0:=zz (jq n L 0) (by omega) (by omega)
 rw[hl0]at cc0
 have hr0:cut (qg ExV.cs L) ((0*n)*3) (n*3)=qg ExV.cs (jq n L 0):=jb jG (0*n) n
 have hl1:=zW (i:=1) hl (by omega)
 have cc1:=zz (jq n L 1) (by omega) (by omega)
 rw[hl1]at cc1
 have hr1:cut (qg ExV.cs L) ((1*n)*3) (n*3)=qg ExV.cs (jq n L 1):=jb jG (1*n) n
 have hl2:=zW (i:=2) hl (by omega)
 have cc2:=zz (jq n L 2) (by omega) (by omega)
 rw[hl2]at cc2
 have hr2:cut (qg ExV.cs L) ((2*n)*3) (n*3)=qg ExV.cs (jq n L 2):=jb jG (2*n) n
 have hl3:=zW (i:=3) hl (by omega)
 have cc3:=zz (jq n L 3) (by omega) (by omega)
 rw[hl3]at cc3
 have hr3:cut (qg ExV.cs L) ((3*n)*3) (n*3)=qg ExV.cs (jq n L 3):=jb jG (3*n) n
 refine Con.of_aw Tryz.func90 rfl Tryz.ntmps90 (by simp) (by simp) (by simp) (W.sound ?_)
 show @W Tryz.prog 114 ⟨_⟩ ⟨fun x σ=>@q9 _ _ _ ⟨_⟩ _ ⟨_⟩ x σ⟩ _ _
 simp(disch:=omega)only[go_sem]
 rw[hz]
 refine⟨by omega,?_⟩
 refine qc (fun i:Nat=>[(1,.pt 1 0),(2,.v (.int .i64 0)),(3,.rf 3 0 n),(17,.v (.int .i64 n)),(18,.v (.int .i64 i))])
  (fun i=>(1,.own 0 [.v (.int .i64 n),.sl L.length (qg ExV.cs L)])::abl n L i) (fun i=>i≤4) (fun i=>4-i) 0 (by omega)
  (Le.lst [(1,30000000),(3,170000000)] _ _ rfl (by simp(disch:=omega)only[go_sem,abl];try rfl) (by simp(disch:=omega)only[go_sem,abl])) ?_
 intro i hi
 rcases(show i=0∨i=1∨i=2∨i=3∨i=4 by omega)with rfl|rfl|rfl|rfl|rfl
 ·dsimp only[abl]
  simp(disch:=omega)only[go_sem]
  simp(disch:=omega)only[go_sem,decide_eq_true (show((0:Nat):Int)<(n:Int) by omega),decide_eq_true (show(0:Int)<(n:Int) by omega)]
  have e1:((0+1)*(n:Int)-0*(n:Int)).toNat=n:=by omega
  have e2:(0*(n:Int)).toNat=0*n:=by omega
  rw[e1,e2,hr0]
  refine⟨by omega,qK cc0 (by simp(disch:=omega)only[go_sem]) ?_⟩
  rintro r hs ⟨rfl,rfl⟩
  refine⟨by simp[qG];simp(disch:=omega)only[go_sem],?_⟩
  simp(disch:=omega)only[go_sem]
  exact⟨by omega,qa 1 [(3,3),(5,370000000)] (by omega) (by omega) rfl (by simp(disch:=omega)only[go_sem,abl,Int.zero_add,show(1:Int)+1=2 from rfl,show(2:Int)+1=3 from rfl,show(3:Int)+1=4 from rfl];try rfl) (by simp(disch:=omega)only[go_sem,abl])⟩
 ·dsimp only[abl]
  simp(disch:=omega)only[go_sem]
  simp(disch:=omega)only[go_sem,decide_eq_true (show((1:Nat):Int)<(n:Int) by omega),decide_eq_true (show(1:Int)<(n:Int) by omega)]
  have e1:((1+1)*(n:Int)-1*(n:Int)).toNat=n:=by omega
  have e2:(1*(n:Int)).toNat=1*n:=by omega
  rw[e1,e2,hr1]
  refine⟨by omega,qK cc1 (by simp(disch:=omega)only[go_sem]) ?_⟩
  rintro r hs ⟨rfl,rfl⟩
  refine⟨by simp[qG];simp(disch:=omega)only[go_sem],?_⟩
  simp(disch:=omega)only[go_sem]
  exact⟨by omega,qa 2 [(3,3),(5,5),(6,370000000)] (by omega) (by omega) rfl (by simp(disch:=omega)only[go_sem,abl,Int.zero_add,show(1:Int)+1=2 from rfl,show(2:Int)+1=3 from rfl,show(3:Int)+1=4 from rfl];try rfl) (by simp(disch:=omega)only[go_sem,abl])⟩
 ·dsimp only[abl]
  simp(disch:=omega)only[go_sem]
  simp(disch:=omega)only[go_sem,decide_eq_true (show((2:Nat):Int)<(n:Int) by omega),decide_eq_true (show(2:Int)<(n:Int) by omega)]
  have e1:((2+1)*(n:Int)-2*(n:Int)).toNat=n:=by omega
  have e2:(2*(n:Int)).toNat=2*n:=by omega
  rw[e1,e2,hr2]
  refine⟨by omega,qK cc2 (by simp(disch:=omega)only[go_sem]) ?_⟩
  rintro r hs ⟨rfl,rfl⟩
  refine⟨by simp[qG];simp(disch:=omega)only[go_sem],?_⟩
  simp(disch:=omega)only[go_sem]
  exact⟨by omega,qa 3 [(3,3),(5,5),(6,6),(7,370000000)] (by omega) (by omega) rfl (by simp(disch:=omega)only[go_sem,abl,Int.zero_add,show(1:Int)+1=2 from rfl,show(2:Int)+1=3 from rfl,show(3:Int)+1=4 from rfl];try rfl) (by simp(disch:=omega)only[go_sem,abl])⟩
 ·dsimp only[abl]
  simp(disch:=omega)only[go_sem]
  simp(disch:=omega)only[go_sem,decide_eq_true (show((3:Nat):Int)<(n:Int) by omega),decide_eq_true (show(3:Int)<(n:Int) by omega)]
  have e1:((3+1)*(n:Int)-3*(n:Int)).toNat=n:=by omega
  have e2:(3*(n:Int)).toNat=3*n:=by omega
  rw[e1,e2,hr3]
  refine⟨by omega,qK cc3 (by simp(disch:=omega)only[go_sem]) ?_⟩
  rintro r hs ⟨rfl,rfl⟩
  refine⟨by simp[qG];simp(disch:=omega)only[go_sem],?_⟩
  simp(disch:=omega)only[go_sem]
  exact⟨by omega,qa 4 [(3,3),(5,5),(6,6),(7,7),(8,370000000)] (by omega) (by omega) rfl (by simp(disch:=omega)only[go_sem,abl,Int.zero_add,show(1:Int)+1=2 from rfl,show(2:Int)+1=3 from rfl,show(3:Int)+1=4 from rfl];try rfl) (by simp(disch:=omega)only[go_sem,abl])⟩
 ·dsimp only[abl]
  simp(disch:=omega)only[go_sem]
  simp(disch:=omega)only[go_sem,decide_eq_false (show ¬((4:Nat):Int)<(n:Int) by omega),decide_eq_false (show ¬(4:Int)<(n:Int) by omega)]
  refine qc (fun x:Nat×Nat×(Nat→List ExV)=>[(3,.rf 3 0 n),(5,.v (.int .i64 x.2.1)),(39,.v (.int .i64 n)),(40,.v (.int .i64 x.1))])
   (fun x=>[(3,.own 1 [.rf 5 0 n,.rf 6 0 n,.rf 7 0 n,.rf 8 0 n]),(5,.own 3 (qg ExV.cs (x.2.2 0))),(6,.own 3 (qg ExV.cs (x.2.2 1))),(7,.own 3 (qg ExV.cs (x.2.2 2))),(8,.own 3 (qg ExV.cs (x.2.2 3)))]) (fun x=>rkInv n L x.1 x.2.1 x.2.2) (fun x=>n-x.1) (0,0,jq n L) (rkInv.start h)
   (Le.lst [] _ _ rfl (by simp(disch:=omega)only[go_sem];try rfl) (by simp(disch:=omega)only[go_sem])) ?_
  rintro⟨j,r,R⟩ hI
  dsimp only at hI ⊢
  have hrj:=hI.rj
  have hjn:=hI.jn
  simp(disch:=omega)only[go_sem]
  refine qe (fun c1=>?_) (fun c1=>?_)
  rotate_left
  ·obtain rfl:j=n:=by omega
   simp(disch:=omega)only[go_sem,c1]
   exact qC (by simp(disch:=omega)only[go_sem]) (by simp(disch:=omega)only[go_sem]) ⟨rfl,rfl,r,hI.rank hn4,rfl⟩
  have lR0:=hI.len 0 (by omega)
  have hcR0:=qV lR0
  have lR1:=hI.len 1 (by omega)
  have hcR1:=qV lR1
  have lR2:=hI.len 2 (by omega)
  have hcR2:=qV lR2
  have lR3:=hI.len 3 (by omega)
  have hcR3:=qV lR3
  rcases(show r=0∨r=1∨r=2∨r=3 by omega)with rfl|rfl|rfl|rfl
  ·have hx:=zN n j [R 0,R 1,R 2,R 3] hn4 (by omega) (by simp[lR0,lR1,lR2,lR3]) (by simp)
   change Con _ _ _ [.sl 4 [.sl n (qg ExV.cs (R 0)),.sl n (qg ExV.cs (R 1)),.sl n (qg ExV.cs (R 2)),.sl n (qg ExV.cs (R 3))],_] _ _ at hx
   simp(disch:=omega)only[go_sem,c1]
   rw[show((n:Int)-0).toNat=4 by omega]
   refine⟨by omega,?_⟩
   refine qy hx (by simp(disch:=omega)only[go_sem,hcR0,hcR1,hcR2,hcR3]) ?_
   rintro x hs ⟨rfl, -,(⟨rfl,hz0⟩|⟨k,hk,rfl,hk0⟩)⟩
   ·refine⟨by simp[qG],?_⟩
    simp(disch:=omega)only[go_sem]
    exact qa (j+1,0,R) [] (hI.skip (by omega) (fun i h1 h2=>by
     have:=hz0 (i-0) (by simp;omega)
     rcases(show i=0∨i=1∨i=2∨i=3 by omega)with rfl|rfl|rfl|rfl
     ·exact this
     ·exact this
     ·exact this
     ·exact this)) (by show n-(j+1)<n-j;omega) rfl (by simp(disch:=omega)only[go_sem];try omega) (by simp(disch:=omega)only[go_sem])
   ·refine⟨by simp[qG],?_⟩
    have hk:k<4:=hk
    rcases(show k=0∨k=1∨k=2∨k=3 by omega)with rfl|rfl|rfl|rfl
    ·have hP:=hI.pivot hn4 (by omega) (k:=0) (by omega) hk0
     simp(disch:=omega)only[go_sem]
     refine qm rfl [⟨0,[],[]⟩,⟨1,[],[]⟩,⟨2,[],[]⟩,⟨3,[],[]⟩,⟨4,[],[]⟩,⟨5,[],[]⟩,⟨6,[],[]⟩,⟨7,[],[]⟩,⟨8,[],[]⟩,⟨9,[],[]⟩,⟨10,[],[]⟩,⟨11,[],[]⟩,⟨12,[11],[]⟩,⟨13,[11],[]⟩,⟨14,[11],[]⟩,⟨15,[11],[]⟩,⟨16,[],[]⟩,⟨17,[],[]⟩,⟨18,[],[]⟩,⟨19,[],[]⟩] (by kernel_rfl) ?_
     simp(disch:=omega)only[go_sem,Int.add_zero,Int.zero_add,Int.toNat_zero,List.getD_cons_zero,List.getD_cons_succ,show(1:Int)+1=2 from rfl,show(1:Int)+2=3 from rfl,show(2:Int)+1=3 from rfl,show(3:Int)+1=4 from rfl,show(1:Int).toNat=1 from rfl,show(2:Int).toNat=2 from rfl,show(3:Int).toNat=3 from rfl]
     refine⟨by omega,by omega,by omega,by omega,by omega,by omega,?_⟩
     rw[show((n:Int)-1).toNat=3 by omega]
     refine qc (fun x:Nat×(Nat→List ExV)=>[(3,.rf 3 0 n),(5,.v (.int .i64 1)),(6,.pt 20 0),(8,.rf 5 0 n),(39,.v (.int .i64 n)),(40,.v (.int .i64 j)),(76,.rf 3 1 3),(77,.v (.int .i64 ((3:Nat):Int))),(78,.v (.int .i64 x.1))])
      (fun x=>[(3,.own 1 [.rf 5 0 n,.rf 6 0 n,.rf 7 0 n,.rf 8 0 n]),(5,.own 3 (qg ExV.cs (x.2 0))),(6,.own 3 (qg ExV.cs (x.2 1))),(7,.own 3 (qg ExV.cs (x.2 2))),(8,.own 3 (qg ExV.cs (x.2 3))),(20,.own 0 [.v (.int .i64 j)])]) (fun x=>x.1≤3∧rkRed n L j 0 (1+x.1) x.2) (fun x=>3-x.1) (0,fun i=>R (swI 0 (0+0) i)) ⟨by omega,hP⟩
      (Le.lst [(5,5),(6,6),(7,7),(8,8),(20,80000000)] _ _ rfl (by simp(disch:=omega)only[go_sem,Int.zero_add,show(1:Int)+1=2 from rfl,show(2:Int)+1=3 from rfl,show(3:Int)+1=4 from rfl];try rfl) (by simp(disch:=omega)only[go_sem,show swI 0 (0+0) 0=0 from rfl,show swI 0 (0+0) 1=1 from rfl,show swI 0 (0+0) 2=2 from rfl,show swI 0 (0+0) 3=3 from rfl])) ?_
     rintro⟨m,R2⟩ ⟨hm,hE⟩
     dsimp only at hm hE ⊢
     have lS0:=hE.len 0 (by omega)
     have lS1:=hE.len 1 (by omega)
     have lS2:=hE.len 2 (by omega)
     have lS3:=hE.len 3 (by omega)
     rcases(show m=0∨m=1∨m=2∨m=3 by omega)with rfl|rfl|rfl|rfl
     ·have hS:=hE.step hn4 (show 1<n by omega)
      have bX:=hE.bd0 1 (by omega) (.inr (by omega))
      have bP:=hE.bd0 0 (by omega) (.inl (by omega))
      have hjX:=qk (l:=R2 1) (i:=j) (by omega)
      have hjP:=qk (l:=R2 0) (i:=j) (by omega)
      generalize hA:R2 1=X at*
      generalize hB:R2 0=P at*
      simp(disch:=omega)only[go_sem]
      simp(disch:=omega)only[go_sem,hjX]
      refine⟨by omega,by omega,?_⟩
      refine qc (fun c:Nat=>[(3,.rf 3 0 n),(5,.v (.int .i64 1)),(6,.pt 20 0),(8,.rf 5 0 n),(10,.rf 6 0 n),(11,.pt 21 0),(39,.v (.int .i64 n)),(40,.v (.int .i64 j)),(76,.rf 3 1 3),(77,.v (.int .i64 ((3:Nat):Int))),(78,.v (.int .i64 ((0:Nat):Int))),(87,.v (.int .i64 n)),(88,.v (.int .i64 c))])
       (fun c=>[(3,.own 1 [.rf 5 0 n,.rf 6 0 n,.rf 7 0 n,.rf 8 0 n]),(5,.own 3 (qg ExV.cs (P))),(6,.own 3 (qg ExV.cs (uR n X P j c))),(7,.own 3 (qg ExV.cs (R2 2))),(8,.own 3 (qg ExV.cs (R2 3))),(20,.own 0 [.v (.int .i64 j)]),(21,.own 0 [.v (.bool (X.getD j ex0).s),.sl (lim (X.getD j ex0).m).length (qh (lim (X.getD j ex0).m)),.v (.int .i64 (X.getD j ex0).e)])]) (fun c=>c≤n) (fun c=>n-c) 0 (by omega)
       (Le.lst [(21,130000000)] _ _ rfl (by simp(disch:=omega)only[go_sem];try rfl) (by simp(disch:=omega)only[go_sem,qT lS1])) ?_
      intro c hc
      simp(disch:=omega)only[go_sem]
      refine qe (fun c2=>?_) (fun c2=>?_)
      ·have hcX:=qk (l:=uR n X P j c) (i:=c) (by rw[qF];omega)
       rw[za (by omega),if_neg (show ¬c<c by omega)]at hcX
       have hcP:=qk (l:=P) (i:=c) (by omega)
       obtain⟨b1,b2,b3⟩:=zR lS1 lS0 (show c<n by omega) (show j<n by omega) bX bP
       have hj8:2^j≤2^3:=Nat.pow_le_pow_right (by decide) (by omega)
       have e8:2^(j+1)=2*2^j:=by rw[Nat.pow_succ];omega
       rw[e8]at b1 b2
       have g1:=qi bX (show c<X.length by omega)
       have g2:=qi bX (show j<X.length by omega)
       have g3:=qi bP (show c<P.length by omega)
       have g4:=qi bP (show j<P.length by omega)
       have hlu:(uR n X P j c).length=n:=qF
       have hset:=qU (L:=uR n X P j c) (i:=c) (x:=nwX X P j c) (by omega)
       rw[zl (show c<n by omega)]at hset
       have t1:=qn (X.getD c ex0) (P.getD j ex0) (g1.mono (by omega) (by omega)) (g4.mono (by omega) (by omega))
       have t2:=qn (P.getD c ex0) (X.getD j ex0) (g3.mono (by omega) (by omega)) (g2.mono (by omega) (by omega))
       have t3:=qB ((X.getD c ex0).times (P.getD j ex0)) ((P.getD c ex0).times (X.getD j ex0)) (b1.mono (by omega) (by omega)) (b2.mono (by omega) (by omega))
       change Con _ _ _ _ _ (isA (.ag [.v (.bool (nwX X P j c).s),.sl (lim (nwX X P j c).m).length (qh (lim (nwX X P j c).m)),.v (.int .i64 (nwX X P j c).e)]))at t3
       generalize nwX X P j c=Y at*
       generalize uR n X P j c=U at*
       generalize hU2:uR n X P j (c+1)=U2 at*
       simp(disch:=omega)only[go_sem,c2]
       refine qm rfl [⟨0,[],[]⟩,⟨1,[],[]⟩,⟨2,[],[]⟩,⟨3,[],[]⟩,⟨4,[],[]⟩,⟨5,[],[]⟩,⟨6,[5],[]⟩,⟨7,[5],[]⟩,⟨8,[5],[]⟩,⟨9,[5],[]⟩,⟨11,[5,7,9],[]⟩,⟨12,[5,7,9],[]⟩,⟨13,[5,7,9],[]⟩,⟨14,[5,7,9],[]⟩,⟨15,[5,7,9,14],[]⟩,⟨10,[14,15],[]⟩,⟨16,[],[]⟩,⟨17,[],[]⟩,⟨18,[],[]⟩,⟨19,[],[]⟩] (by kernel_rfl) ?_
       simp(disch:=omega)only[go_sem,hcX,hjP,hcP]
       refine⟨by omega,by omega,by omega,by omega,by omega,by omega,?_⟩
       refine qb (t1) ?_
       simp(disch:=omega)only[go_sem]
       refine qb (t2) ?_
       simp(disch:=omega)only[go_sem]
       refine qb (t3) ?_
       simp(disch:=omega)only[go_sem]
       rw[hset]
       exact⟨by omega,by omega,qa (c+1) [] (by show c+1≤n;omega) (by show n-(c+1)<n-c;omega) rfl (by simp(disch:=omega)only[go_sem];try omega) (by simp(disch:=omega)only[go_sem,hU2])⟩
      ·obtain rfl:c=n:=by omega
       simp(disch:=omega)only[go_sem,c2]
       exact qa (1,fun i=>if i=1 then uR c (R2 1) (R2 0) j c else R2 i) [] ⟨by omega,hA▸hB▸hS⟩ (by show 3-1<3-0;omega) rfl (by simp(disch:=omega)only[go_sem,Int.zero_add,show(1:Int)+1=2 from rfl,show(2:Int)+1=3 from rfl];try rfl) (by simp(disch:=omega)only[go_sem,hA,hB,show(if(0:Nat)=1 then uR c X P j c else P)=P from rfl,show(if(1:Nat)=1 then uR c X P j c else X)=uR c X P j c from rfl,show(if(2:Nat)=1 then uR c X P j c else R2 2)=R2 2 from rfl,show(if(3:Nat)=1 then uR c X P j c else R2 3)=R2 3 from rfl])
     ·have hS:=hE.step hn4 (show 2<n by omega)
      have bX:=hE.bd0 2 (by omega) (.inr (by omega))
      have bP:=hE.bd0 0 (by omega) (.inl (by omega))
      have hjX:=qk (l:=R2 2) (i:=j) (by omega)
      have hjP:=qk (l:=R2 0) (i:=j) (by omega)
      generalize hA:R2 2=X at*
      generalize hB:R2 0=P at*
      simp(disch:=omega)only[go_sem]
      simp(disch:=omega)only[go_sem,hjX]
      refine⟨by omega,by omega,?_⟩
      refine qc (fun c:Nat=>[(3,.rf 3 0 n),(5,.v (.int .i64 1)),(6,.pt 20 0),(8,.rf 5 0 n),(10,.rf 7 0 n),(11,.pt 21 0),(39,.v (.int .i64 n)),(40,.v (.int .i64 j)),(76,.rf 3 1 3),(77,.v (.int .i64 ((3:Nat):Int))),(78,.v (.int .i64 ((1:Nat):Int))),(87,.v (.int .i64 n)),(88,.v (.int .i64 c))])
       (fun c=>[(3,.own 1 [.rf 5 0 n,.rf 6 0 n,.rf 7 0 n,.rf 8 0 n]),(5,.own 3 (qg ExV.cs (P))),(6,.own 3 (qg ExV.cs (R2 1))),(7,.own 3 (qg ExV.cs (uR n X P j c))),(8,.own 3 (qg ExV.cs (R2 3))),(20,.own 0 [.v (.int .i64 j)]),(21,.own 0 [.v (.bool (X.getD j ex0).s),.sl (lim (X.getD j ex0).m).length (qh (lim (X.getD j ex0).m)),.v (.int .i64 (X.getD j ex0).e)])]) (fun c=>c≤n) (fun c=>n-c) 0 (by omega)
       (Le.lst [(21,130000000)] _ _ rfl (by simp(disch:=omega)only[go_sem];try rfl) (by simp(disch:=omega)only[go_sem,qT lS2])) ?_
      intro c hc
      simp(disch:=omega)only[go_sem]
      refine qe (fun c2=>?_) (fun c2=>?_)
      ·have hcX:=qk (l:=uR n X P j c) (i:=c) (by rw[qF];omega)
       rw[za (by omega),if_neg (show ¬c<c by omega)]at hcX
       have hcP:=qk (l:=P) (i:=c) (by omega)
       obtain⟨b1,b2,b3⟩:=zR lS2 lS0 (show c<n by omega) (show j<n by omega) bX bP
       have hj8:2^j≤2^3:=Nat.pow_le_pow_right (by decide) (by omega)
       have e8:2^(j+1)=2*2^j:=by rw[Nat.pow_succ];omega
       rw[e8]at b1 b2
       have g1:=qi bX (show c<X.length by omega)
       have g2:=qi bX (show j<X.length by omega)
       have g3:=qi bP (show c<P.length by omega)
       have g4:=qi bP (show j<P.length by omega)
       have hlu:(uR n X P j c).length=n:=qF
       have hset:=qU (L:=uR n X P j c) (i:=c) (x:=nwX X P j c) (by omega)
       rw[zl (show c<n by omega)]at hset
       have t1:=qn (X.getD c ex0) (P.getD j ex0) (g1.mono (by omega) (by omega)) (g4.mono (by omega) (by omega))
       have t2:=qn (P.getD c ex0) (X.getD j ex0) (g3.mono (by omega) (by omega)) (g2.mono (by omega) (by omega))
       have t3:=qB ((X.getD c ex0).times (P.getD j ex0)) ((P.getD c ex0).times (X.getD j ex0)) (b1.mono (by omega) (by omega)) (b2.mono (by omega) (by omega))
       change Con _ _ _ _ _ (isA (.ag [.v (.bool (nwX X P j c).s),.sl (lim (nwX X P j c).m).length (qh (lim (nwX X P j c).m)),.v (.int .i64 (nwX X P j c).e)]))at t3
       generalize nwX X P j c=Y at*
       generalize uR n X P j c=U at*
       generalize hU2:uR n X P j (c+1)=U2 at*
       simp(disch:=omega)only[go_sem,c2]
       refine qm rfl [⟨0,[],[]⟩,⟨1,[],[]⟩,⟨2,[],[]⟩,⟨3,[],[]⟩,⟨4,[],[]⟩,⟨5,[],[]⟩,⟨6,[5],[]⟩,⟨7,[5],[]⟩,⟨8,[5],[]⟩,⟨9,[5],[]⟩,⟨11,[5,7,9],[]⟩,⟨12,[5,7,9],[]⟩,⟨13,[5,7,9],[]⟩,⟨14,[5,7,9],[]⟩,⟨15,[5,7,9,14],[]⟩,⟨10,[14,15],[]⟩,⟨16,[],[]⟩,⟨17,[],[]⟩,⟨18,[],[]⟩,⟨19,[],[]⟩] (by kernel_rfl) ?_
       simp(disch:=omega)only[go_sem,hcX,hjP,hcP]
       refine⟨by omega,by omega,by omega,by omega,by omega,by omega,?_⟩
       refine qb (t1) ?_
       simp(disch:=omega)only[go_sem]
       refine qb (t2) ?_
       simp(disch:=omega)only[go_sem]
       refine qb (t3) ?_
       simp(disch:=omega)only[go_sem]
       rw[hset]
       exact⟨by omega,by omega,qa (c+1) [] (by show c+1≤n;omega) (by show n-(c+1)<n-c;omega) rfl (by simp(disch:=omega)only[go_sem];try omega) (by simp(disch:=omega)only[go_sem,hU2])⟩
      ·obtain rfl:c=n:=by omega
       simp(disch:=omega)only[go_sem,c2]
       exact qa (2,fun i=>if i=2 then uR c (R2 2) (R2 0) j c else R2 i) [] ⟨by omega,hA▸hB▸hS⟩ (by show 3-2<3-1;omega) rfl (by simp(disch:=omega)only[go_sem,Int.zero_add,show(1:Int)+1=2 from rfl,show(2:Int)+1=3 from rfl];try rfl) (by simp(disch:=omega)only[go_sem,hA,hB,show(if(0:Nat)=2 then uR c X P j c else P)=P from rfl,show(if(1:Nat)=2 then uR c X P j c else R2 1)=R2 1 from rfl,show(if(2:Nat)=2 then uR c X P j c else X)=uR c X P j c from rfl,show(if(3:Nat)=2 then uR c X P j c else R2 3)=R2 3 from rfl])
     ·have hS:=hE.step hn4 (show 3<n by omega)
      have bX:=hE.bd0 3 (by omega) (.inr (by omega))
      have bP:=hE.bd0 0 (by omega) (.inl (by omega))
      have hjX:=qk (l:=R2 3) (i:=j) (by omega)
      have hjP:=qk (l:=R2 0) (i:=j) (by omega)
      generalize hA:R2 3=X at*
      generalize hB:R2 0=P at*
      simp(disch:=omega)only[go_sem]
      simp(disch:=omega)only[go_sem,hjX]
      refine⟨by omega,by omega,?_⟩
      refine qc (fun c:Nat=>[(3,.rf 3 0 n),(5,.v (.int .i64 1)),(6,.pt 20 0),(8,.rf 5 0 n),(10,.rf 8 0 n),(11,.pt 21 0),(39,.v (.int .i64 n)),(40,.v (.int .i64 j)),(76,.rf 3 1 3),(77,.v (.int .i64 ((3:Nat):Int))),(78,.v (.int .i64 ((2:Nat):Int))),(87,.v (.int .i64 n)),(88,.v (.int .i64 c))])
       (fun c=>[(3,.own 1 [.rf 5 0 n,.rf 6 0 n,.rf 7 0 n,.rf 8 0 n]),(5,.own 3 (qg ExV.cs (P))),(6,.own 3 (qg ExV.cs (R2 1))),(7,.own 3 (qg ExV.cs (R2 2))),(8,.own 3 (qg ExV.cs (uR n X P j c))),(20,.own 0 [.v (.int .i64 j)]),(21,.own 0 [.v (.bool (X.getD j ex0).s),.sl (lim (X.getD j ex0).m).length (qh (lim (X.getD j ex0).m)),.v (.int .i64 (X.getD j ex0).e)])]) (fun c=>c≤n) (fun c=>n-c) 0 (by omega)
       (Le.lst [(21,130000000)] _ _ rfl (by simp(disch:=omega)only[go_sem];try rfl) (by simp(disch:=omega)only[go_sem,qT lS3])) ?_
      intro c hc
      simp(disch:=omega)only[go_sem]
      refine qe (fun c2=>?_) (fun c2=>?_)
      ·have hcX:=qk (l:=uR n X P j c) (i:=c) (by rw[qF];omega)
       rw[za (by omega),if_neg (show ¬c<c by omega)]at hcX
       have hcP:=qk (l:=P) (i:=c) (by omega)
       obtain⟨b1,b2,b3⟩:=zR lS3 lS0 (show c<n by omega) (show j<n by omega) bX bP
       have hj8:2^j≤2^3:=Nat.pow_le_pow_right (by decide) (by omega)
       have e8:2^(j+1)=2*2^j:=by rw[Nat.pow_succ];omega
       rw[e8]at b1 b2
       have g1:=qi bX (show c<X.length by omega)
       have g2:=qi bX (show j<X.length by omega)
       have g3:=qi bP (show c<P.length by omega)
       have g4:=qi bP (show j<P.length by omega)
       have hlu:(uR n X P j c).length=n:=qF
       have hset:=qU (L:=uR n X P j c) (i:=c) (x:=nwX X P j c) (by omega)
       rw[zl (show c<n by omega)]at hset
       have t1:=qn (X.getD c ex0) (P.getD j ex0) (g1.mono (by omega) (by omega)) (g4.mono (by omega) (by omega))
       have t2:=qn (P.getD c ex0) (X.getD j ex0) (g3.mono (by omega) (by omega)) (g2.mono (by omega) (by omega))
       have t3:=qB ((X.getD c ex0).times (P.getD j ex0)) ((P.getD c ex0).times (X.getD j ex0)) (b1.mono (by omega) (by omega)) (b2.mono (by omega) (by omega))
       change Con _ _ _ _ _ (isA (.ag [.v (.bool (nwX X P j c).s),.sl (lim (nwX X P j c).m).length (qh (lim (nwX X P j c).m)),.v (.int .i64 (nwX X P j c).e)]))at t3
       generalize nwX X P j c=Y at*
       generalize uR n X P j c=U at*
       generalize hU2:uR n X P j (c+1)=U2 at*
       simp(disch:=omega)only[go_sem,c2]
       refine qm rfl [⟨0,[],[]⟩,⟨1,[],[]⟩,⟨2,[],[]⟩,⟨3,[],[]⟩,⟨4,[],[]⟩,⟨5,[],[]⟩,⟨6,[5],[]⟩,⟨7,[5],[]⟩,⟨8,[5],[]⟩,⟨9,[5],[]⟩,⟨11,[5,7,9],[]⟩,⟨12,[5,7,9],[]⟩,⟨13,[5,7,9],[]⟩,⟨14,[5,7,9],[]⟩,⟨15,[5,7,9,14],[]⟩,⟨10,[14,15],[]⟩,⟨16,[],[]⟩,⟨17,[],[]⟩,⟨18,[],[]⟩,⟨19,[],[]⟩] (by kernel_rfl) ?_
       simp(disch:=omega)only[go_sem,hcX,hjP,hcP]
       refine⟨by omega,by omega,by omega,by omega,by omega,by omega,?_⟩
       refine qb (t1) ?_
       simp(disch:=omega)only[go_sem]
       refine qb (t2) ?_
       simp(disch:=omega)only[go_sem]
       refine qb (t3) ?_
       simp(disch:=omega)only[go_sem]
       rw[hset]
       exact⟨by omega,by omega,qa (c+1) [] (by show c+1≤n;omega) (by show n-(c+1)<n-c;omega) rfl (by simp(disch:=omega)only[go_sem];try omega) (by simp(disch:=omega)only[go_sem,hU2])⟩
      ·obtain rfl:c=n:=by omega
       simp(disch:=omega)only[go_sem,c2]
       exact qa (3,fun i=>if i=3 then uR c (R2 3) (R2 0) j c else R2 i) [] ⟨by omega,hA▸hB▸hS⟩ (by show 3-3<3-2;omega) rfl (by simp(disch:=omega)only[go_sem,Int.zero_add,show(1:Int)+1=2 from rfl,show(2:Int)+1=3 from rfl];try rfl) (by simp(disch:=omega)only[go_sem,hA,hB,show(if(0:Nat)=3 then uR c X P j c else P)=P from rfl,show(if(1:Nat)=3 then uR c X P j c else R2 1)=R2 1 from rfl,show(if(2:Nat)=3 then uR c X P j c else R2 2)=R2 2 from rfl,show(if(3:Nat)=3 then uR c X P j c else X)=uR c X P j c from rfl])
     ·simp(disch:=omega)only[go_sem]
      try simp(disch:=omega)only[go_sem]
      exact qa (j+1,1,R2) [] (hE.done (by omega)) (by show n-(j+1)<n-j;omega) rfl (by simp(disch:=omega)only[go_sem];try omega) (by simp(disch:=omega)only[go_sem])
    ·have hP:=hI.pivot hn4 (by omega) (k:=1) (by omega) hk0
     simp(disch:=omega)only[go_sem]
     refine qm rfl [⟨0,[],[]⟩,⟨1,[],[]⟩,⟨2,[],[]⟩,⟨3,[],[]⟩,⟨4,[],[]⟩,⟨5,[],[]⟩,⟨6,[],[]⟩,⟨7,[],[]⟩,⟨8,[],[]⟩,⟨9,[],[]⟩,⟨10,[],[]⟩,⟨11,[],[]⟩,⟨12,[11],[]⟩,⟨13,[11],[]⟩,⟨14,[11],[]⟩,⟨15,[11],[]⟩,⟨16,[],[]⟩,⟨17,[],[]⟩,⟨18,[],[]⟩,⟨19,[],[]⟩] (by kernel_rfl) ?_
     simp(disch:=omega)only[go_sem,Int.add_zero,Int.zero_add,Int.toNat_zero,List.getD_cons_zero,List.getD_cons_succ,show(1:Int)+1=2 from rfl,show(1:Int)+2=3 from rfl,show(2:Int)+1=3 from rfl,show(3:Int)+1=4 from rfl,show(1:Int).toNat=1 from rfl,show(2:Int).toNat=2 from rfl,show(3:Int).toNat=3 from rfl]
     refine⟨by omega,by omega,by omega,by omega,by omega,by omega,?_⟩
     rw[show((n:Int)-1).toNat=3 by omega]
     refine qc (fun x:Nat×(Nat→List ExV)=>[(3,.rf 3 0 n),(5,.v (.int .i64 1)),(6,.pt 20 0),(8,.rf 5 0 n),(39,.v (.int .i64 n)),(40,.v (.int .i64 j)),(76,.rf 3 1 3),(77,.v (.int .i64 ((3:Nat):Int))),(78,.v (.int .i64 x.1))])
      (fun x=>[(3,.own 1 [.rf 5 0 n,.rf 6 0 n,.rf 7 0 n,.rf 8 0 n]),(5,.own 3 (qg ExV.cs (x.2 0))),(6,.own 3 (qg ExV.cs (x.2 1))),(7,.own 3 (qg ExV.cs (x.2 2))),(8,.own 3 (qg ExV.cs (x.2 3))),(20,.own 0 [.v (.int .i64 j)])]) (fun x=>x.1≤3∧rkRed n L j 0 (1+x.1) x.2) (fun x=>3-x.1) (0,fun i=>R (swI 0 (0+1) i)) ⟨by omega,hP⟩
      (Le.lst [(5,6),(6,5),(7,7),(8,8),(20,80000000)] _ _ rfl (by simp(disch:=omega)only[go_sem,Int.zero_add,show(1:Int)+1=2 from rfl,show(2:Int)+1=3 from rfl,show(3:Int)+1=4 from rfl];try rfl) (by simp(disch:=omega)only[go_sem,show swI 0 (0+1) 0=1 from rfl,show swI 0 (0+1) 1=0 from rfl,show swI 0 (0+1) 2=2 from rfl,show swI 0 (0+1) 3=3 from rfl])) ?_
     rintro⟨m,R2⟩ ⟨hm,hE⟩
     dsimp only at hm hE ⊢
     have lS0:=hE.len 0 (by omega)
     have lS1:=hE.len 1 (by omega)
     have lS2:=hE.len 2 (by omega)
     have lS3:=hE.len 3 (by omega)
     rcases(show m=0∨m=1∨m=2∨m=3 by omega)with rfl|rfl|rfl|rfl
     ·have hS:=hE.step hn4 (show 1<n by omega)
      have bX:=hE.bd0 1 (by omega) (.inr (by omega))
      have bP:=hE.bd0 0 (by omega) (.inl (by omega))
      have hjX:=qk (l:=R2 1) (i:=j) (by omega)
      have hjP:=qk (l:=R2 0) (i:=j) (by omega)
      generalize hA:R2 1=X at*
      generalize hB:R2 0=P at*
      simp(disch:=omega)only[go_sem]
      simp(disch:=omega)only[go_sem,hjX]
      refine⟨by omega,by omega,?_⟩
      refine qc (fun c:Nat=>[(3,.rf 3 0 n),(5,.v (.int .i64 1)),(6,.pt 20 0),(8,.rf 5 0 n),(10,.rf 6 0 n),(11,.pt 21 0),(39,.v (.int .i64 n)),(40,.v (.int .i64 j)),(76,.rf 3 1 3),(77,.v (.int .i64 ((3:Nat):Int))),(78,.v (.int .i64 ((0:Nat):Int))),(87,.v (.int .i64 n)),(88,.v (.int .i64 c))])
       (fun c=>[(3,.own 1 [.rf 5 0 n,.rf 6 0 n,.rf 7 0 n,.rf 8 0 n]),(5,.own 3 (qg ExV.cs (P))),(6,.own 3 (qg ExV.cs (uR n X P j c))),(7,.own 3 (qg ExV.cs (R2 2))),(8,.own 3 (qg ExV.cs (R2 3))),(20,.own 0 [.v (.int .i64 j)]),(21,.own 0 [.v (.bool (X.getD j ex0).s),.sl (lim (X.getD j ex0).m).length (qh (lim (X.getD j ex0).m)),.v (.int .i64 (X.getD j ex0).e)])]) (fun c=>c≤n) (fun c=>n-c) 0 (by omega)
       (Le.lst [(21,130000000)] _ _ rfl (by simp(disch:=omega)only[go_sem];try rfl) (by simp(disch:=omega)only[go_sem,qT lS1])) ?_
      intro c hc
      simp(disch:=omega)only[go_sem]
      refine qe (fun c2=>?_) (fun c2=>?_)
      ·have hcX:=qk (l:=uR n X P j c) (i:=c) (by rw[qF];omega)
       rw[za (by omega),if_neg (show ¬c<c by omega)]at hcX
       have hcP:=qk (l:=P) (i:=c) (by omega)
       obtain⟨b1,b2,b3⟩:=zR lS1 lS0 (show c<n by omega) (show j<n by omega) bX bP
       have hj8:2^j≤2^3:=Nat.pow_le_pow_right (by decide) (by omega)
       have e8:2^(j+1)=2*2^j:=by rw[Nat.pow_succ];omega
       rw[e8]at b1 b2
       have g1:=qi bX (show c<X.length by omega)
       have g2:=qi bX (show j<X.length by omega)
       have g3:=qi bP (show c<P.length by omega)
       have g4:=qi bP (show j<P.length by omega)
       have hlu:(uR n X P j c).length=n:=qF
       have hset:=qU (L:=uR n X P j c) (i:=c) (x:=nwX X P j c) (by omega)
       rw[zl (show c<n by omega)]at hset
       have t1:=qn (X.getD c ex0) (P.getD j ex0) (g1.mono (by omega) (by omega)) (g4.mono (by omega) (by omega))
       have t2:=qn (P.getD c ex0) (X.getD j ex0) (g3.mono (by omega) (by omega)) (g2.mono (by omega) (by omega))
       have t3:=qB ((X.getD c ex0).times (P.getD j ex0)) ((P.getD c ex0).times (X.getD j ex0)) (b1.mono (by omega) (by omega)) (b2.mono (by omega) (by omega))
       change Con _ _ _ _ _ (isA (.ag [.v (.bool (nwX X P j c).s),.sl (lim (nwX X P j c).m).length (qh (lim (nwX X P j c).m)),.v (.int .i64 (nwX X P j c).e)]))at t3
       generalize nwX X P j c=Y at*
       generalize uR n X P j c=U at*
       generalize hU2:uR n X P j (c+1)=U2 at*
       simp(disch:=omega)only[go_sem,c2]
       refine qm rfl [⟨0,[],[]⟩,⟨1,[],[]⟩,⟨2,[],[]⟩,⟨3,[],[]⟩,⟨4,[],[]⟩,⟨5,[],[]⟩,⟨6,[5],[]⟩,⟨7,[5],[]⟩,⟨8,[5],[]⟩,⟨9,[5],[]⟩,⟨11,[5,7,9],[]⟩,⟨12,[5,7,9],[]⟩,⟨13,[5,7,9],[]⟩,⟨14,[5,7,9],[]⟩,⟨15,[5,7,9,14],[]⟩,⟨10,[14,15],[]⟩,⟨16,[],[]⟩,⟨17,[],[]⟩,⟨18,[],[]⟩,⟨19,[],[]⟩] (by kernel_rfl) ?_
       simp(disch:=omega)only[go_sem,hcX,hjP,hcP]
       refine⟨by omega,by omega,by omega,by omega,by omega,by omega,?_⟩
       refine qb (t1) ?_
       simp(disch:=omega)only[go_sem]
       refine qb (t2) ?_
       simp(disch:=omega)only[go_sem]
       refine qb (t3) ?_
       simp(disch:=omega)only[go_sem]
       rw[hset]
       exact⟨by omega,by omega,qa (c+1) [] (by show c+1≤n;omega) (by show n-(c+1)<n-c;omega) rfl (by simp(disch:=omega)only[go_sem];try omega) (by simp(disch:=omega)only[go_sem,hU2])⟩
      ·obtain rfl:c=n:=by omega
       simp(disch:=omega)only[go_sem,c2]
       exact qa (1,fun i=>if i=1 then uR c (R2 1) (R2 0) j c else R2 i) [] ⟨by omega,hA▸hB▸hS⟩ (by show 3-1<3-0;omega) rfl (by simp(disch:=omega)only[go_sem,Int.zero_add,show(1:Int)+1=2 from rfl,show(2:Int)+1=3 from rfl];try rfl) (by simp(disch:=omega)only[go_sem,hA,hB,show(if(0:Nat)=1 then uR c X P j c else P)=P from rfl,show(if(1:Nat)=1 then uR c X P j c else X)=uR c X P j c from rfl,show(if(2:Nat)=1 then uR c X P j c else R2 2)=R2 2 from rfl,show(if(3:Nat)=1 then uR c X P j c else R2 3)=R2 3 from rfl])
     ·have hS:=hE.step hn4 (show 2<n by omega)
      have bX:=hE.bd0 2 (by omega) (.inr (by omega))
      have bP:=hE.bd0 0 (by omega) (.inl (by omega))
      have hjX:=qk (l:=R2 2) (i:=j) (by omega)
      have hjP:=qk (l:=R2 0) (i:=j) (by omega)
      generalize hA:R2 2=X at*
      generalize hB:R2 0=P at*
      simp(disch:=omega)only[go_sem]
      simp(disch:=omega)only[go_sem,hjX]
      refine⟨by omega,by omega,?_⟩
      refine qc (fun c:Nat=>[(3,.rf 3 0 n),(5,.v (.int .i64 1)),(6,.pt 20 0),(8,.rf 5 0 n),(10,.rf 7 0 n),(11,.pt 21 0),(39,.v (.int .i64 n)),(40,.v (.int .i64 j)),(76,.rf 3 1 3),(77,.v (.int .i64 ((3:Nat):Int))),(78,.v (.int .i64 ((1:Nat):Int))),(87,.v (.int .i64 n)),(88,.v (.int .i64 c))])
       (fun c=>[(3,.own 1 [.rf 5 0 n,.rf 6 0 n,.rf 7 0 n,.rf 8 0 n]),(5,.own 3 (qg ExV.cs (P))),(6,.own 3 (qg ExV.cs (R2 1))),(7,.own 3 (qg ExV.cs (uR n X P j c))),(8,.own 3 (qg ExV.cs (R2 3))),(20,.own 0 [.v (.int .i64 j)]),(21,.own 0 [.v (.bool (X.getD j ex0).s),.sl (lim (X.getD j ex0).m).length (qh (lim (X.getD j ex0).m)),.v (.int .i64 (X.getD j ex0).e)])]) (fun c=>c≤n) (fun c=>n-c) 0 (by omega)
       (Le.lst [(21,130000000)] _ _ rfl (by simp(disch:=omega)only[go_sem];try rfl) (by simp(disch:=omega)only[go_sem,qT lS2])) ?_
      intro c hc
      simp(disch:=omega)only[go_sem]
      refine qe (fun c2=>?_) (fun c2=>?_)
      ·have hcX:=qk (l:=uR n X P j c) (i:=c) (by rw[qF];omega)
       rw[za (by omega),if_neg (show ¬c<c by omega)]at hcX
       have hcP:=qk (l:=P) (i:=c) (by omega)
       obtain⟨b1,b2,b3⟩:=zR lS2 lS0 (show c<n by omega) (show j<n by omega) bX bP
       have hj8:2^j≤2^3:=Nat.pow_le_pow_right (by decide) (by omega)
       have e8:2^(j+1)=2*2^j:=by rw[Nat.pow_succ];omega
       rw[e8]at b1 b2
       have g1:=qi bX (show c<X.length by omega)
       have g2:=qi bX (show j<X.length by omega)
       have g3:=qi bP (show c<P.length by omega)
       have g4:=qi bP (show j<P.length by omega)
       have hlu:(uR n X P j c).length=n:=qF
       have hset:=qU (L:=uR n X P j c) (i:=c) (x:=nwX X P j c) (by omega)
       rw[zl (show c<n by omega)]at hset
       have t1:=qn (X.getD c ex0) (P.getD j ex0) (g1.mono (by omega) (by omega)) (g4.mono (by omega) (by omega))
       have t2:=qn (P.getD c ex0) (X.getD j ex0) (g3.mono (by omega) (by omega)) (g2.mono (by omega) (by omega))
       have t3:=qB ((X.getD c ex0).times (P.getD j ex0)) ((P.getD c ex0).times (X.getD j ex0)) (b1.mono (by omega) (by omega)) (b2.mono (by omega) (by omega))
       change Con _ _ _ _ _ (isA (.ag [.v (.bool (nwX X P j c).s),.sl (lim (nwX X P j c).m).length (qh (lim (nwX X P j c).m)),.v (.int .i64 (nwX X P j c).e)]))at t3
       generalize nwX X P j c=Y at*
       generalize uR n X P j c=U at*
       generalize hU2:uR n X P j (c+1)=U2 at*
       simp(disch:=omega)only[go_sem,c2]
       refine qm rfl [⟨0,[],[]⟩,⟨1,[],[]⟩,⟨2,[],[]⟩,⟨3,[],[]⟩,⟨4,[],[]⟩,⟨5,[],[]⟩,⟨6,[5],[]⟩,⟨7,[5],[]⟩,⟨8,[5],[]⟩,⟨9,[5],[]⟩,⟨11,[5,7,9],[]⟩,⟨12,[5,7,9],[]⟩,⟨13,[5,7,9],[]⟩,⟨14,[5,7,9],[]⟩,⟨15,[5,7,9,14],[]⟩,⟨10,[14,15],[]⟩,⟨16,[],[]⟩,⟨17,[],[]⟩,⟨18,[],[]⟩,⟨19,[],[]⟩] (by kernel_rfl) ?_
       simp(disch:=omega)only[go_sem,hcX,hjP,hcP]
       refine⟨by omega,by omega,by omega,by omega,by omega,by omega,?_⟩
       refine qb (t1) ?_
       simp(disch:=omega)only[go_sem]
       refine qb (t2) ?_
       simp(disch:=omega)only[go_sem]
       refine qb (t3) ?_
       simp(disch:=omega)only[go_sem]
       rw[hset]
       exact⟨by omega,by omega,qa (c+1) [] (by show c+1≤n;omega) (by show n-(c+1)<n-c;omega) rfl (by simp(disch:=omega)only[go_sem];try omega) (by simp(disch:=omega)only[go_sem,hU2])⟩
      ·obtain rfl:c=n:=by omega
       simp(disch:=omega)only[go_sem,c2]
       exact qa (2,fun i=>if i=2 then uR c (R2 2) (R2 0) j c else R2 i) [] ⟨by omega,hA▸hB▸hS⟩ (by show 3-2<3-1;omega) rfl (by simp(disch:=omega)only[go_sem,Int.zero_add,show(1:Int)+1=2 from rfl,show(2:Int)+1=3 from rfl];try rfl) (by simp(disch:=omega)only[go_sem,hA,hB,show(if(0:Nat)=2 then uR c X P j c else P)=P from rfl,show(if(1:Nat)=2 then uR c X P j c else R2 1)=R2 1 from rfl,show(if(2:Nat)=2 then uR c X P j c else X)=uR c X P j c from rfl,show(if(3:Nat)=2 then uR c X P j c else R2 3)=R2 3 from rfl])
     ·have hS:=hE.step hn4 (show 3<n by omega)
      have bX:=hE.bd0 3 (by omega) (.inr (by omega))
      have bP:=hE.bd0 0 (by omega) (.inl (by omega))
      have hjX:=qk (l:=R2 3) (i:=j) (by omega)
      have hjP:=qk (l:=R2 0) (i:=j) (by omega)
      generalize hA:R2 3=X at*
      generalize hB:R2 0=P at*
      simp(disch:=omega)only[go_sem]
      simp(disch:=omega)only[go_sem,hjX]
      refine⟨by omega,by omega,?_⟩
      refine qc (fun c:Nat=>[(3,.rf 3 0 n),(5,.v (.int .i64 1)),(6,.pt 20 0),(8,.rf 5 0 n),(10,.rf 8 0 n),(11,.pt 21 0),(39,.v (.int .i64 n)),(40,.v (.int .i64 j)),(76,.rf 3 1 3),(77,.v (.int .i64 ((3:Nat):Int))),(78,.v (.int .i64 ((2:Nat):Int))),(87,.v (.int .i64 n)),(88,.v (.int .i64 c))])
       (fun c=>[(3,.own 1 [.rf 5 0 n,.rf 6 0 n,.rf 7 0 n,.rf 8 0 n]),(5,.own 3 (qg ExV.cs (P))),(6,.own 3 (qg ExV.cs (R2 1))),(7,.own 3 (qg ExV.cs (R2 2))),(8,.own 3 (qg ExV.cs (uR n X P j c))),(20,.own 0 [.v (.int .i64 j)]),(21,.own 0 [.v (.bool (X.getD j ex0).s),.sl (lim (X.getD j ex0).m).length (qh (lim (X.getD j ex0).m)),.v (.int .i64 (X.getD j ex0).e)])]) (fun c=>c≤n) (fun c=>n-c) 0 (by omega)
       (Le.lst [(21,130000000)] _ _ rfl (by simp(disch:=omega)only[go_sem];try rfl) (by simp(disch:=omega)only[go_sem,qT lS3])) ?_
      intro c hc
      simp(disch:=omega)only[go_sem]
      refine qe (fun c2=>?_) (fun c2=>?_)
      ·have hcX:=qk (l:=uR n X P j c) (i:=c) (by rw[qF];omega)
       rw[za (by omega),if_neg (show ¬c<c by omega)]at hcX
       have hcP:=qk (l:=P) (i:=c) (by omega)
       obtain⟨b1,b2,b3⟩:=zR lS3 lS0 (show c<n by omega) (show j<n by omega) bX bP
       have hj8:2^j≤2^3:=Nat.pow_le_pow_right (by decide) (by omega)
       have e8:2^(j+1)=2*2^j:=by rw[Nat.pow_succ];omega
       rw[e8]at b1 b2
       have g1:=qi bX (show c<X.length by omega)
       have g2:=qi bX (show j<X.length by omega)
       have g3:=qi bP (show c<P.length by omega)
       have g4:=qi bP (show j<P.length by omega)
       have hlu:(uR n X P j c).length=n:=qF
       have hset:=qU (L:=uR n X P j c) (i:=c) (x:=nwX X P j c) (by omega)
       rw[zl (show c<n by omega)]at hset
       have t1:=qn (X.getD c ex0) (P.getD j ex0) (g1.mono (by omega) (by omega)) (g4.mono (by omega) (by omega))
       have t2:=qn (P.getD c ex0) (X.getD j ex0) (g3.mono (by omega) (by omega)) (g2.mono (by omega) (by omega))
       have t3:=qB ((X.getD c ex0).times (P.getD j ex0)) ((P.getD c ex0).times (X.getD j ex0)) (b1.mono (by omega) (by omega)) (b2.mono (by omega) (by omega))
       change Con _ _ _ _ _ (isA (.ag [.v (.bool (nwX X P j c).s),.sl (lim (nwX X P j c).m).length (qh (lim (nwX X P j c).m)),.v (.int .i64 (nwX X P j c).e)]))at t3
       generalize nwX X P j c=Y at*
       generalize uR n X P j c=U at*
       generalize hU2:uR n X P j (c+1)=U2 at*
       simp(disch:=omega)only[go_sem,c2]
       refine qm rfl [⟨0,[],[]⟩,⟨1,[],[]⟩,⟨2,[],[]⟩,⟨3,[],[]⟩,⟨4,[],[]⟩,⟨5,[],[]⟩,⟨6,[5],[]⟩,⟨7,[5],[]⟩,⟨8,[5],[]⟩,⟨9,[5],[]⟩,⟨11,[5,7,9],[]⟩,⟨12,[5,7,9],[]⟩,⟨13,[5,7,9],[]⟩,⟨14,[5,7,9],[]⟩,⟨15,[5,7,9,14],[]⟩,⟨10,[14,15],[]⟩,⟨16,[],[]⟩,⟨17,[],[]⟩,⟨18,[],[]⟩,⟨19,[],[]⟩] (by kernel_rfl) ?_
       simp(disch:=omega)only[go_sem,hcX,hjP,hcP]
       refine⟨by omega,by omega,by omega,by omega,by omega,by omega,?_⟩
       refine qb (t1) ?_
       simp(disch:=omega)only[go_sem]
       refine qb (t2) ?_
       simp(disch:=omega)only[go_sem]
       refine qb (t3) ?_
       simp(disch:=omega)only[go_sem]
       rw[hset]
       exact⟨by omega,by omega,qa (c+1) [] (by show c+1≤n;omega) (by show n-(c+1)<n-c;omega) rfl (by simp(disch:=omega)only[go_sem];try omega) (by simp(disch:=omega)only[go_sem,hU2])⟩
      ·obtain rfl:c=n:=by omega
       simp(disch:=omega)only[go_sem,c2]
       exact qa (3,fun i=>if i=3 then uR c (R2 3) (R2 0) j c else R2 i) [] ⟨by omega,hA▸hB▸hS⟩ (by show 3-3<3-2;omega) rfl (by simp(disch:=omega)only[go_sem,Int.zero_add,show(1:Int)+1=2 from rfl,show(2:Int)+1=3 from rfl];try rfl) (by simp(disch:=omega)only[go_sem,hA,hB,show(if(0:Nat)=3 then uR c X P j c else P)=P from rfl,show(if(1:Nat)=3 then uR c X P j c else R2 1)=R2 1 from rfl,show(if(2:Nat)=3 then uR c X P j c else R2 2)=R2 2 from rfl,show(if(3:Nat)=3 then uR c X P j c else X)=uR c X P j c from rfl])
     ·simp(disch:=omega)only[go_sem]
      try simp(disch:=omega)only[go_sem]
      exact qa (j+1,1,R2) [] (hE.done (by omega)) (by show n-(j+1)<n-j;omega) rfl (by simp(disch:=omega)only[go_sem];try omega) (by simp(disch:=omega)only[go_sem])
    ·have hP:=hI.pivot hn4 (by omega) (k:=2) (by omega) hk0
     simp(disch:=omega)only[go_sem]
     refine qm rfl [⟨0,[],[]⟩,⟨1,[],[]⟩,⟨2,[],[]⟩,⟨3,[],[]⟩,⟨4,[],[]⟩,⟨5,[],[]⟩,⟨6,[],[]⟩,⟨7,[],[]⟩,⟨8,[],[]⟩,⟨9,[],[]⟩,⟨10,[],[]⟩,⟨11,[],[]⟩,⟨12,[11],[]⟩,⟨13,[11],[]⟩,⟨14,[11],[]⟩,⟨15,[11],[]⟩,⟨16,[],[]⟩,⟨17,[],[]⟩,⟨18,[],[]⟩,⟨19,[],[]⟩] (by kernel_rfl) ?_
     simp(disch:=omega)only[go_sem,Int.add_zero,Int.zero_add,Int.toNat_zero,List.getD_cons_zero,List.getD_cons_succ,show(1:Int)+1=2 from rfl,show(1:Int)+2=3 from rfl,show(2:Int)+1=3 from rfl,show(3:Int)+1=4 from rfl,show(1:Int).toNat=1 from rfl,show(2:Int).toNat=2 from rfl,show(3:Int).toNat=3 from rfl]
     refine⟨by omega,by omega,by omega,by omega,by omega,by omega,?_⟩
     rw[show((n:Int)-1).toNat=3 by omega]
     refine qc (fun x:Nat×(Nat→List ExV)=>[(3,.rf 3 0 n),(5,.v (.int .i64 1)),(6,.pt 20 0),(8,.rf 5 0 n),(39,.v (.int .i64 n)),(40,.v (.int .i64 j)),(76,.rf 3 1 3),(77,.v (.int .i64 ((3:Nat):Int))),(78,.v (.int .i64 x.1))])
      (fun x=>[(3,.own 1 [.rf 5 0 n,.rf 6 0 n,.rf 7 0 n,.rf 8 0 n]),(5,.own 3 (qg ExV.cs (x.2 0))),(6,.own 3 (qg ExV.cs (x.2 1))),(7,.own 3 (qg ExV.cs (x.2 2))),(8,.own 3 (qg ExV.cs (x.2 3))),(20,.own 0 [.v (.int .i64 j)])]) (fun x=>x.1≤3∧rkRed n L j 0 (1+x.1) x.2) (fun x=>3-x.1) (0,fun i=>R (swI 0 (0+2) i)) ⟨by omega,hP⟩
      (Le.lst [(5,7),(6,6),(7,5),(8,8),(20,80000000)] _ _ rfl (by simp(disch:=omega)only[go_sem,Int.zero_add,show(1:Int)+1=2 from rfl,show(2:Int)+1=3 from rfl,show(3:Int)+1=4 from rfl];try rfl) (by simp(disch:=omega)only[go_sem,show swI 0 (0+2) 0=2 from rfl,show swI 0 (0+2) 1=1 from rfl,show swI 0 (0+2) 2=0 from rfl,show swI 0 (0+2) 3=3 from rfl])) ?_
     rintro⟨m,R2⟩ ⟨hm,hE⟩
     dsimp only at hm hE ⊢
     have lS0:=hE.len 0 (by omega)
     have lS1:=hE.len 1 (by omega)
     have lS2:=hE.len 2 (by omega)
     have lS3:=hE.len 3 (by omega)
     rcases(show m=0∨m=1∨m=2∨m=3 by omega)with rfl|rfl|rfl|rfl
     ·have hS:=hE.step hn4 (show 1<n by omega)
      have bX:=hE.bd0 1 (by omega) (.inr (by omega))
      have bP:=hE.bd0 0 (by omega) (.inl (by omega))
      have hjX:=qk (l:=R2 1) (i:=j) (by omega)
      have hjP:=qk (l:=R2 0) (i:=j) (by omega)
      generalize hA:R2 1=X at*
      generalize hB:R2 0=P at*
      simp(disch:=omega)only[go_sem]
      simp(disch:=omega)only[go_sem,hjX]
      refine⟨by omega,by omega,?_⟩
      refine qc (fun c:Nat=>[(3,.rf 3 0 n),(5,.v (.int .i64 1)),(6,.pt 20 0),(8,.rf 5 0 n),(10,.rf 6 0 n),(11,.pt 21 0),(39,.v (.int .i64 n)),(40,.v (.int .i64 j)),(76,.rf 3 1 3),(77,.v (.int .i64 ((3:Nat):Int))),(78,.v (.int .i64 ((0:Nat):Int))),(87,.v (.int .i64 n)),(88,.v (.int .i64 c))])
       (fun c=>[(3,.own 1 [.rf 5 0 n,.rf 6 0 n,.rf 7 0 n,.rf 8 0 n]),(5,.own 3 (qg ExV.cs (P))),(6,.own 3 (qg ExV.cs (uR n X P j c))),(7,.own 3 (qg ExV.cs (R2 2))),(8,.own 3 (qg ExV.cs (R2 3))),(20,.own 0 [.v (.int .i64 j)]),(21,.own 0 [.v (.bool (X.getD j ex0).s),.sl (lim (X.getD j ex0).m).length (qh (lim (X.getD j ex0).m)),.v (.int .i64 (X.getD j ex0).e)])]) (fun c=>c≤n) (fun c=>n-c) 0 (by omega)
       (Le.lst [(21,130000000)] _ _ rfl (by simp(disch:=omega)only[go_sem];try rfl) (by simp(disch:=omega)only[go_sem,qT lS1])) ?_
      intro c hc
      simp(disch:=omega)only[go_sem]
      refine qe (fun c2=>?_) (fun c2=>?_)
      ·have hcX:=qk (l:=uR n X P j c) (i:=c) (by rw[qF];omega)
       rw[za (by omega),if_neg (show ¬c<c by omega)]at hcX
       have hcP:=qk (l:=P) (i:=c) (by omega)
       obtain⟨b1,b2,b3⟩:=zR lS1 lS0 (show c<n by omega) (show j<n by omega) bX bP
       have hj8:2^j≤2^3:=Nat.pow_le_pow_right (by decide) (by omega)
       have e8:2^(j+1)=2*2^j:=by rw[Nat.pow_succ];omega
       rw[e8]at b1 b2
       have g1:=qi bX (show c<X.length by omega)
       have g2:=qi bX (show j<X.length by omega)
       have g3:=qi bP (show c<P.length by omega)
       have g4:=qi bP (show j<P.length by omega)
       have hlu:(uR n X P j c).length=n:=qF
       have hset:=qU (L:=uR n X P j c) (i:=c) (x:=nwX X P j c) (by omega)
       rw[zl (show c<n by omega)]at hset
       have t1:=qn (X.getD c ex0) (P.getD j ex0) (g1.mono (by omega) (by omega)) (g4.mono (by omega) (by omega))
       have t2:=qn (P.getD c ex0) (X.getD j ex0) (g3.mono (by omega) (by omega)) (g2.mono (by omega) (by omega))
       have t3:=qB ((X.getD c ex0).times (P.getD j ex0)) ((P.getD c ex0).times (X.getD j ex0)) (b1.mono (by omega) (by omega)) (b2.mono (by omega) (by omega))
       change Con _ _ _ _ _ (isA (.ag [.v (.bool (nwX X P j c).s),.sl (lim (nwX X P j c).m).length (qh (lim (nwX X P j c).m)),.v (.int .i64 (nwX X P j c).e)]))at t3
       generalize nwX X P j c=Y at*
       generalize uR n X P j c=U at*
       generalize hU2:uR n X P j (c+1)=U2 at*
       simp(disch:=omega)only[go_sem,c2]
       refine qm rfl [⟨0,[],[]⟩,⟨1,[],[]⟩,⟨2,[],[]⟩,⟨3,[],[]⟩,⟨4,[],[]⟩,⟨5,[],[]⟩,⟨6,[5],[]⟩,⟨7,[5],[]⟩,⟨8,[5],[]⟩,⟨9,[5],[]⟩,⟨11,[5,7,9],[]⟩,⟨12,[5,7,9],[]⟩,⟨13,[5,7,9],[]⟩,⟨14,[5,7,9],[]⟩,⟨15,[5,7,9,14],[]⟩,⟨10,[14,15],[]⟩,⟨16,[],[]⟩,⟨17,[],[]⟩,⟨18,[],[]⟩,⟨19,[],[]⟩] (by kernel_rfl) ?_
       simp(disch:=omega)only[go_sem,hcX,hjP,hcP]
       refine⟨by omega,by omega,by omega,by omega,by omega,by omega,?_⟩
       refine qb (t1) ?_
       simp(disch:=omega)only[go_sem]
       refine qb (t2) ?_
       simp(disch:=omega)only[go_sem]
       refine qb (t3) ?_
       simp(disch:=omega)only[go_sem]
       rw[hset]
       exact⟨by omega,by omega,qa (c+1) [] (by show c+1≤n;omega) (by show n-(c+1)<n-c;omega) rfl (by simp(disch:=omega)only[go_sem];try omega) (by simp(disch:=omega)only[go_sem,hU2])⟩
      ·obtain rfl:c=n:=by omega
       simp(disch:=omega)only[go_sem,c2]
       exact qa (1,fun i=>if i=1 then uR c (R2 1) (R2 0) j c else R2 i) [] ⟨by omega,hA▸hB▸hS⟩ (by show 3-1<3-0;omega) rfl (by simp(disch:=omega)only[go_sem,Int.zero_add,show(1:Int)+1=2 from rfl,show(2:Int)+1=3 from rfl];try rfl) (by simp(disch:=omega)only[go_sem,hA,hB,show(if(0:Nat)=1 then uR c X P j c else P)=P from rfl,show(if(1:Nat)=1 then uR c X P j c else X)=uR c X P j c from rfl,show(if(2:Nat)=1 then uR c X P j c else R2 2)=R2 2 from rfl,show(if(3:Nat)=1 then uR c X P j c else R2 3)=R2 3 from rfl])
     ·have hS:=hE.step hn4 (show 2<n by omega)
      have bX:=hE.bd0 2 (by omega) (.inr (by omega))
      have bP:=hE.bd0 0 (by omega) (.inl (by omega))
      have hjX:=qk (l:=R2 2) (i:=j) (by omega)
      have hjP:=qk (l:=R2 0) (i:=j) (by omega)
      generalize hA:R2 2=X at*
      generalize hB:R2 0=P at*
      simp(disch:=omega)only[go_sem]
      simp(disch:=omega)only[go_sem,hjX]
      refine⟨by omega,by omega,?_⟩
      refine qc (fun c:Nat=>[(3,.rf 3 0 n),(5,.v (.int .i64 1)),(6,.pt 20 0),(8,.rf 5 0 n),(10,.rf 7 0 n),(11,.pt 21 0),(39,.v (.int .i64 n)),(40,.v (.int .i64 j)),(76,.rf 3 1 3),(77,.v (.int .i64 ((3:Nat):Int))),(78,.v (.int .i64 ((1:Nat):Int))),(87,.v (.int .i64 n)),(88,.v (.int .i64 c))])
       (fun c=>[(3,.own 1 [.rf 5 0 n,.rf 6 0 n,.rf 7 0 n,.rf 8 0 n]),(5,.own 3 (qg ExV.cs (P))),(6,.own 3 (qg ExV.cs (R2 1))),(7,.own 3 (qg ExV.cs (uR n X P j c))),(8,.own 3 (qg ExV.cs (R2 3))),(20,.own 0 [.v (.int .i64 j)]),(21,.own 0 [.v (.bool (X.getD j ex0).s),.sl (lim (X.getD j ex0).m).length (qh (lim (X.getD j ex0).m)),.v (.int .i64 (X.getD j ex0).e)])]) (fun c=>c≤n) (fun c=>n-c) 0 (by omega)
       (Le.lst [(21,130000000)] _ _ rfl (by simp(disch:=omega)only[go_sem];try rfl) (by simp(disch:=omega)only[go_sem,qT lS2])) ?_
      intro c hc
      simp(disch:=omega)only[go_sem]
      refine qe (fun c2=>?_) (fun c2=>?_)
      ·have hcX:=qk (l:=uR n X P j c) (i:=c) (by rw[qF];omega)
       rw[za (by omega),if_neg (show ¬c<c by omega)]at hcX
       have hcP:=qk (l:=P) (i:=c) (by omega)
       obtain⟨b1,b2,b3⟩:=zR lS2 lS0 (show c<n by omega) (show j<n by omega) bX bP
       have hj8:2^j≤2^3:=Nat.pow_le_pow_right (by decide) (by omega)
       have e8:2^(j+1)=2*2^j:=by rw[Nat.pow_succ];omega
       rw[e8]at b1 b2
       have g1:=qi bX (show c<X.length by omega)
       have g2:=qi bX (show j<X.length by omega)
       have g3:=qi bP (show c<P.length by omega)
       have g4:=qi bP (show j<P.length by omega)
       have hlu:(uR n X P j c).length=n:=qF
       have hset:=qU (L:=uR n X P j c) (i:=c) (x:=nwX X P j c) (by omega)
       rw[zl (show c<n by omega)]at hset
       have t1:=qn (X.getD c ex0) (P.getD j ex0) (g1.mono (by omega) (by omega)) (g4.mono (by omega) (by omega))
       have t2:=qn (P.getD c ex0) (X.getD j ex0) (g3.mono (by omega) (by omega)) (g2.mono (by omega) (by omega))
       have t3:=qB ((X.getD c ex0).times (P.getD j ex0)) ((P.getD c ex0).times (X.getD j ex0)) (b1.mono (by omega) (by omega)) (b2.mono (by omega) (by omega))
       change Con _ _ _ _ _ (isA (.ag [.v (.bool (nwX X P j c).s),.sl (lim (nwX X P j c).m).length (qh (lim (nwX X P j c).m)),.v (.int .i64 (nwX X P j c).e)]))at t3
       generalize nwX X P j c=Y at*
       generalize uR n X P j c=U at*
       generalize hU2:uR n X P j (c+1)=U2 at*
       simp(disch:=omega)only[go_sem,c2]
       refine qm rfl [⟨0,[],[]⟩,⟨1,[],[]⟩,⟨2,[],[]⟩,⟨3,[],[]⟩,⟨4,[],[]⟩,⟨5,[],[]⟩,⟨6,[5],[]⟩,⟨7,[5],[]⟩,⟨8,[5],[]⟩,⟨9,[5],[]⟩,⟨11,[5,7,9],[]⟩,⟨12,[5,7,9],[]⟩,⟨13,[5,7,9],[]⟩,⟨14,[5,7,9],[]⟩,⟨15,[5,7,9,14],[]⟩,⟨10,[14,15],[]⟩,⟨16,[],[]⟩,⟨17,[],[]⟩,⟨18,[],[]⟩,⟨19,[],[]⟩] (by kernel_rfl) ?_
       simp(disch:=omega)only[go_sem,hcX,hjP,hcP]
       refine⟨by omega,by omega,by omega,by omega,by omega,by omega,?_⟩
       refine qb (t1) ?_
       simp(disch:=omega)only[go_sem]
       refine qb (t2) ?_
       simp(disch:=omega)only[go_sem]
       refine qb (t3) ?_
       simp(disch:=omega)only[go_sem]
       rw[hset]
       exact⟨by omega,by omega,qa (c+1) [] (by show c+1≤n;omega) (by show n-(c+1)<n-c;omega) rfl (by simp(disch:=omega)only[go_sem];try omega) (by simp(disch:=omega)only[go_sem,hU2])⟩
      ·obtain rfl:c=n:=by omega
       simp(disch:=omega)only[go_sem,c2]
       exact qa (2,fun i=>if i=2 then uR c (R2 2) (R2 0) j c else R2 i) [] ⟨by omega,hA▸hB▸hS⟩ (by show 3-2<3-1;omega) rfl (by simp(disch:=omega)only[go_sem,Int.zero_add,show(1:Int)+1=2 from rfl,show(2:Int)+1=3 from rfl];try rfl) (by simp(disch:=omega)only[go_sem,hA,hB,show(if(0:Nat)=2 then uR c X P j c else P)=P from rfl,show(if(1:Nat)=2 then uR c X P j c else R2 1)=R2 1 from rfl,show(if(2:Nat)=2 then uR c X P j c else X)=uR c X P j c from rfl,show(if(3:Nat)=2 then uR c X P j c else R2 3)=R2 3 from rfl])
     ·have hS:=hE.step hn4 (show 3<n by omega)
      have bX:=hE.bd0 3 (by omega) (.inr (by omega))
      have bP:=hE.bd0 0 (by omega) (.inl (by omega))
      have hjX:=qk (l:=R2 3) (i:=j) (by omega)
      have hjP:=qk (l:=R2 0) (i:=j) (by omega)
      generalize hA:R2 3=X at*
      generalize hB:R2 0=P at*
      simp(disch:=omega)only[go_sem]
      simp(disch:=omega)only[go_sem,hjX]
      refine⟨by omega,by omega,?_⟩
      refine qc (fun c:Nat=>[(3,.rf 3 0 n),(5,.v (.int .i64 1)),(6,.pt 20 0),(8,.rf 5 0 n),(10,.rf 8 0 n),(11,.pt 21 0),(39,.v (.int .i64 n)),(40,.v (.int .i64 j)),(76,.rf 3 1 3),(77,.v (.int .i64 ((3:Nat):Int))),(78,.v (.int .i64 ((2:Nat):Int))),(87,.v (.int .i64 n)),(88,.v (.int .i64 c))])
       (fun c=>[(3,.own 1 [.rf 5 0 n,.rf 6 0 n,.rf 7 0 n,.rf 8 0 n]),(5,.own 3 (qg ExV.cs (P))),(6,.own 3 (qg ExV.cs (R2 1))),(7,.own 3 (qg ExV.cs (R2 2))),(8,.own 3 (qg ExV.cs (uR n X P j c))),(20,.own 0 [.v (.int .i64 j)]),(21,.own 0 [.v (.bool (X.getD j ex0).s),.sl (lim (X.getD j ex0).m).length (qh (lim (X.getD j ex0).m)),.v (.int .i64 (X.getD j ex0).e)])]) (fun c=>c≤n) (fun c=>n-c) 0 (by omega)
       (Le.lst [(21,130000000)] _ _ rfl (by simp(disch:=omega)only[go_sem];try rfl) (by simp(disch:=omega)only[go_sem,qT lS3])) ?_
      intro c hc
      simp(disch:=omega)only[go_sem]
      refine qe (fun c2=>?_) (fun c2=>?_)
      ·have hcX:=qk (l:=uR n X P j c) (i:=c) (by rw[qF];omega)
       rw[za (by omega),if_neg (show ¬c<c by omega)]at hcX
       have hcP:=qk (l:=P) (i:=c) (by omega)
       obtain⟨b1,b2,b3⟩:=zR lS3 lS0 (show c<n by omega) (show j<n by omega) bX bP
       have hj8:2^j≤2^3:=Nat.pow_le_pow_right (by decide) (by omega)
       have e8:2^(j+1)=2*2^j:=by rw[Nat.pow_succ];omega
       rw[e8]at b1 b2
       have g1:=qi bX (show c<X.length by omega)
       have g2:=qi bX (show j<X.length by omega)
       have g3:=qi bP (show c<P.length by omega)
       have g4:=qi bP (show j<P.length by omega)
       have hlu:(uR n X P j c).length=n:=qF
       have hset:=qU (L:=uR n X P j c) (i:=c) (x:=nwX X P j c) (by omega)
       rw[zl (show c<n by omega)]at hset
       have t1:=qn (X.getD c ex0) (P.getD j ex0) (g1.mono (by omega) (by omega)) (g4.mono (by omega) (by omega))
       have t2:=qn (P.getD c ex0) (X.getD j ex0) (g3.mono (by omega) (by omega)) (g2.mono (by omega) (by omega))
       have t3:=qB ((X.getD c ex0).times (P.getD j ex0)) ((P.getD c ex0).times (X.getD j ex0)) (b1.mono (by omega) (by omega)) (b2.mono (by omega) (by omega))
       change Con _ _ _ _ _ (isA (.ag [.v (.bool (nwX X P j c).s),.sl (lim (nwX X P j c).m).length (qh (lim (nwX X P j c).m)),.v (.int .i64 (nwX X P j c).e)]))at t3
       generalize nwX X P j c=Y at*
       generalize uR n X P j c=U at*
       generalize hU2:uR n X P j (c+1)=U2 at*
       simp(disch:=omega)only[go_sem,c2]
       refine qm rfl [⟨0,[],[]⟩,⟨1,[],[]⟩,⟨2,[],[]⟩,⟨3,[],[]⟩,⟨4,[],[]⟩,⟨5,[],[]⟩,⟨6,[5],[]⟩,⟨7,[5],[]⟩,⟨8,[5],[]⟩,⟨9,[5],[]⟩,⟨11,[5,7,9],[]⟩,⟨12,[5,7,9],[]⟩,⟨13,[5,7,9],[]⟩,⟨14,[5,7,9],[]⟩,⟨15,[5,7,9,14],[]⟩,⟨10,[14,15],[]⟩,⟨16,[],[]⟩,⟨17,[],[]⟩,⟨18,[],[]⟩,⟨19,[],[]⟩] (by kernel_rfl) ?_
       simp(disch:=omega)only[go_sem,hcX,hjP,hcP]
       refine⟨by omega,by omega,by omega,by omega,by omega,by omega,?_⟩
       refine qb (t1) ?_
       simp(disch:=omega)only[go_sem]
       refine qb (t2) ?_
       simp(disch:=omega)only[go_sem]
       refine qb (t3) ?_
       simp(disch:=omega)only[go_sem]
       rw[hset]
       exact⟨by omega,by omega,qa (c+1) [] (by show c+1≤n;omega) (by show n-(c+1)<n-c;omega) rfl (by simp(disch:=omega)only[go_sem];try omega) (by simp(disch:=omega)only[go_sem,hU2])⟩
      ·obtain rfl:c=n:=by omega
       simp(disch:=omega)only[go_sem,c2]
       exact qa (3,fun i=>if i=3 then uR c (R2 3) (R2 0) j c else R2 i) [] ⟨by omega,hA▸hB▸hS⟩ (by show 3-3<3-2;omega) rfl (by simp(disch:=omega)only[go_sem,Int.zero_add,show(1:Int)+1=2 from rfl,show(2:Int)+1=3 from rfl];try rfl) (by simp(disch:=omega)only[go_sem,hA,hB,show(if(0:Nat)=3 then uR c X P j c else P)=P from rfl,show(if(1:Nat)=3 then uR c X P j c else R2 1)=R2 1 from rfl,show(if(2:Nat)=3 then uR c X P j c else R2 2)=R2 2 from rfl,show(if(3:Nat)=3 then uR c X P j c else X)=uR c X P j c from rfl])
     ·simp(disch:=omega)only[go_sem]
      try simp(disch:=omega)only[go_sem]
      exact qa (j+1,1,R2) [] (hE.done (by omega)) (by show n-(j+1)<n-j;omega) rfl (by simp(disch:=omega)only[go_sem];try omega) (by simp(disch:=omega)only[go_sem])
    ·have hP:=hI.pivot hn4 (by omega) (k:=3) (by omega) hk0
     simp(disch:=omega)only[go_sem]
     refine qm rfl [⟨0,[],[]⟩,⟨1,[],[]⟩,⟨2,[],[]⟩,⟨3,[],[]⟩,⟨4,[],[]⟩,⟨5,[],[]⟩,⟨6,[],[]⟩,⟨7,[],[]⟩,⟨8,[],[]⟩,⟨9,[],[]⟩,⟨10,[],[]⟩,⟨11,[],[]⟩,⟨12,[11],[]⟩,⟨13,[11],[]⟩,⟨14,[11],[]⟩,⟨15,[11],[]⟩,⟨16,[],[]⟩,⟨17,[],[]⟩,⟨18,[],[]⟩,⟨19,[],[]⟩] (by kernel_rfl) ?_
     simp(disch:=omega)only[go_sem,Int.add_zero,Int.zero_add,Int.toNat_zero,List.getD_cons_zero,List.getD_cons_succ,show(1:Int)+1=2 from rfl,show(1:Int)+2=3 from rfl,show(2:Int)+1=3 from rfl,show(3:Int)+1=4 from rfl,show(1:Int).toNat=1 from rfl,show(2:Int).toNat=2 from rfl,show(3:Int).toNat=3 from rfl]
     refine⟨by omega,by omega,by omega,by omega,by omega,by omega,?_⟩
     rw[show((n:Int)-1).toNat=3 by omega]
     refine qc (fun x:Nat×(Nat→List ExV)=>[(3,.rf 3 0 n),(5,.v (.int .i64 1)),(6,.pt 20 0),(8,.rf 5 0 n),(39,.v (.int .i64 n)),(40,.v (.int .i64 j)),(76,.rf 3 1 3),(77,.v (.int .i64 ((3:Nat):Int))),(78,.v (.int .i64 x.1))])
      (fun x=>[(3,.own 1 [.rf 5 0 n,.rf 6 0 n,.rf 7 0 n,.rf 8 0 n]),(5,.own 3 (qg ExV.cs (x.2 0))),(6,.own 3 (qg ExV.cs (x.2 1))),(7,.own 3 (qg ExV.cs (x.2 2))),(8,.own 3 (qg ExV.cs (x.2 3))),(20,.own 0 [.v (.int .i64 j)])]) (fun x=>x.1≤3∧rkRed n L j 0 (1+x.1) x.2) (fun x=>3-x.1) (0,fun i=>R (swI 0 (0+3) i)) ⟨by omega,hP⟩
      (Le.lst [(5,8),(6,6),(7,7),(8,5),(20,80000000)] _ _ rfl (by simp(disch:=omega)only[go_sem,Int.zero_add,show(1:Int)+1=2 from rfl,show(2:Int)+1=3 from rfl,show(3:Int)+1=4 from rfl];try rfl) (by simp(disch:=omega)only[go_sem,show swI 0 (0+3) 0=3 from rfl,show swI 0 (0+3) 1=1 from rfl,show swI 0 (0+3) 2=2 from rfl,show swI 0 (0+3) 3=0 from rfl])) ?_
     rintro⟨m,R2⟩ ⟨hm,hE⟩
     dsimp only at hm hE ⊢
     have lS0:=hE.len 0 (by omega)
     have lS1:=hE.len 1 (by omega)
     have lS2:=hE.len 2 (by omega)
     have lS3:=hE.len 3 (by omega)
     rcases(show m=0∨m=1∨m=2∨m=3 by omega)with rfl|rfl|rfl|rfl
     ·have hS:=hE.step hn4 (show 1<n by omega)
      have bX:=hE.bd0 1 (by omega) (.inr (by omega))
      have bP:=hE.bd0 0 (by omega) (.inl (by omega))
      have hjX:=qk (l:=R2 1) (i:=j) (by omega)
      have hjP:=qk (l:=R2 0) (i:=j) (by omega)
      generalize hA:R2 1=X at*
      generalize hB:R2 0=P at*
      simp(disch:=omega)only[go_sem]
      simp(disch:=omega)only[go_sem,hjX]
      refine⟨by omega,by omega,?_⟩
      refine qc (fun c:Nat=>[(3,.rf 3 0 n),(5,.v (.int .i64 1)),(6,.pt 20 0),(8,.rf 5 0 n),(10,.rf 6 0 n),(11,.pt 21 0),(39,.v (.int .i64 n)),(40,.v (.int .i64 j)),(76,.rf 3 1 3),(77,.v (.int .i64 ((3:Nat):Int))),(78,.v (.int .i64 ((0:Nat):Int))),(87,.v (.int .i64 n)),(88,.v (.int .i64 c))])
       (fun c=>[(3,.own 1 [.rf 5 0 n,.rf 6 0 n,.rf 7 0 n,.rf 8 0 n]),(5,.own 3 (qg ExV.cs (P))),(6,.own 3 (qg ExV.cs (uR n X P j c))),(7,.own 3 (qg ExV.cs (R2 2))),(8,.own 3 (qg ExV.cs (R2 3))),(20,.own 0 [.v (.int .i64 j)]),(21,.own 0 [.v (.bool (X.getD j ex0).s),.sl (lim (X.getD j ex0).m).length (qh (lim (X.getD j ex0).m)),.v (.int .i64 (X.getD j ex0).e)])]) (fun c=>c≤n) (fun c=>n-c) 0 (by omega)
       (Le.lst [(21,130000000)] _ _ rfl (by simp(disch:=omega)only[go_sem];try rfl) (by simp(disch:=omega)only[go_sem,qT lS1])) ?_
      intro c hc
      simp(disch:=omega)only[go_sem]
      refine qe (fun c2=>?_) (fun c2=>?_)
      ·have hcX:=qk (l:=uR n X P j c) (i:=c) (by rw[qF];omega)
       rw[za (by omega),if_neg (show ¬c<c by omega)]at hcX
       have hcP:=qk (l:=P) (i:=c) (by omega)
       obtain⟨b1,b2,b3⟩:=zR lS1 lS0 (show c<n by omega) (show j<n by omega) bX bP
       have hj8:2^j≤2^3:=Nat.pow_le_pow_right (by decide) (by omega)
       have e8:2^(j+1)=2*2^j:=by rw[Nat.pow_succ];omega
       rw[e8]at b1 b2
       have g1:=qi bX (show c<X.length by omega)
       have g2:=qi bX (show j<X.length by omega)
       have g3:=qi bP (show c<P.length by omega)
       have g4:=qi bP (show j<P.length by omega)
       have hlu:(uR n X P j c).length=n:=qF
       have hset:=qU (L:=uR n X P j c) (i:=c) (x:=nwX X P j c) (by omega)
       rw[zl (show c<n by omega)]at hset
       have t1:=qn (X.getD c ex0) (P.getD j ex0) (g1.mono (by omega) (by omega)) (g4.mono (by omega) (by omega))
       have t2:=qn (P.getD c ex0) (X.getD j ex0) (g3.mono (by omega) (by omega)) (g2.mono (by omega) (by omega))
       have t3:=qB ((X.getD c ex0).times (P.getD j ex0)) ((P.getD c ex0).times (X.getD j ex0)) (b1.mono (by omega) (by omega)) (b2.mono (by omega) (by omega))
       change Con _ _ _ _ _ (isA (.ag [.v (.bool (nwX X P j c).s),.sl (lim (nwX X P j c).m).length (qh (lim (nwX X P j c).m)),.v (.int .i64 (nwX X P j c).e)]))at t3
       generalize nwX X P j c=Y at*
       generalize uR n X P j c=U at*
       generalize hU2:uR n X P j (c+1)=U2 at*
       simp(disch:=omega)only[go_sem,c2]
       refine qm rfl [⟨0,[],[]⟩,⟨1,[],[]⟩,⟨2,[],[]⟩,⟨3,[],[]⟩,⟨4,[],[]⟩,⟨5,[],[]⟩,⟨6,[5],[]⟩,⟨7,[5],[]⟩,⟨8,[5],[]⟩,⟨9,[5],[]⟩,⟨11,[5,7,9],[]⟩,⟨12,[5,7,9],[]⟩,⟨13,[5,7,9],[]⟩,⟨14,[5,7,9],[]⟩,⟨15,[5,7,9,14],[]⟩,⟨10,[14,15],[]⟩,⟨16,[],[]⟩,⟨17,[],[]⟩,⟨18,[],[]⟩,⟨19,[],[]⟩] (by kernel_rfl) ?_
       simp(disch:=omega)only[go_sem,hcX,hjP,hcP]
       refine⟨by omega,by omega,by omega,by omega,by omega,by omega,?_⟩
       refine qb (t1) ?_
       simp(disch:=omega)only[go_sem]
       refine qb (t2) ?_
       simp(disch:=omega)only[go_sem]
       refine qb (t3) ?_
       simp(disch:=omega)only[go_sem]
       rw[hset]
       exact⟨by omega,by omega,qa (c+1) [] (by show c+1≤n;omega) (by show n-(c+1)<n-c;omega) rfl (by simp(disch:=omega)only[go_sem];try omega) (by simp(disch:=omega)only[go_sem,hU2])⟩
      ·obtain rfl:c=n:=by omega
       simp(disch:=omega)only[go_sem,c2]
       exact qa (1,fun i=>if i=1 then uR c (R2 1) (R2 0) j c else R2 i) [] ⟨by omega,hA▸hB▸hS⟩ (by show 3-1<3-0;omega) rfl (by simp(disch:=omega)only[go_sem,Int.zero_add,show(1:Int)+1=2 from rfl,show(2:Int)+1=3 from rfl];try rfl) (by simp(disch:=omega)only[go_sem,hA,hB,show(if(0:Nat)=1 then uR c X P j c else P)=P from rfl,show(if(1:Nat)=1 then uR c X P j c else X)=uR c X P j c from rfl,show(if(2:Nat)=1 then uR c X P j c else R2 2)=R2 2 from rfl,show(if(3:Nat)=1 then uR c X P j c else R2 3)=R2 3 from rfl])
     ·have hS:=hE.step hn4 (show 2<n by omega)
      have bX:=hE.bd0 2 (by omega) (.inr (by omega))
      have bP:=hE.bd0 0 (by omega) (.inl (by omega))
      have hjX:=qk (l:=R2 2) (i:=j) (by omega)
      have hjP:=qk (l:=R2 0) (i:=j) (by omega)
      generalize hA:R2 2=X at*
      generalize hB:R2 0=P at*
      simp(disch:=omega)only[go_sem]
      simp(disch:=omega)only[go_sem,hjX]
      refine⟨by omega,by omega,?_⟩
      refine qc (fun c:Nat=>[(3,.rf 3 0 n),(5,.v (.int .i64 1)),(6,.pt 20 0),(8,.rf 5 0 n),(10,.rf 7 0 n),(11,.pt 21 0),(39,.v (.int .i64 n)),(40,.v (.int .i64 j)),(76,.rf 3 1 3),(77,.v (.int .i64 ((3:Nat):Int))),(78,.v (.int .i64 ((1:Nat):Int))),(87,.v (.int .i64 n)),(88,.v (.int .i64 c))])
       (fun c=>[(3,.own 1 [.rf 5 0 n,.rf 6 0 n,.rf 7 0 n,.rf 8 0 n]),(5,.own 3 (qg ExV.cs (P))),(6,.own 3 (qg ExV.cs (R2 1))),(7,.own 3 (qg ExV.cs (uR n X P j c))),(8,.own 3 (qg ExV.cs (R2 3))),(20,.own 0 [.v (.int .i64 j)]),(21,.own 0 [.v (.bool (X.getD j ex0).s),.sl (lim (X.getD j ex0).m).length (qh (lim (X.getD j ex0).m)),.v (.int .i64 (X.getD j ex0).e)])]) (fun c=>c≤n) (fun c=>n-c) 0 (by omega)
       (Le.lst [(21,130000000)] _ _ rfl (by simp(disch:=omega)only[go_sem];try rfl) (by simp(disch:=omega)only[go_sem,qT lS2])) ?_
      intro c hc
      simp(disch:=omega)only[go_sem]
      refine qe (fun c2=>?_) (fun c2=>?_)
      ·have hcX:=qk (l:=uR n X P j c) (i:=c) (by rw[qF];omega)
       rw[za (by omega),if_neg (show ¬c<c by omega)]at hcX
       have hcP:=qk (l:=P) (i:=c) (by omega)
       obtain⟨b1,b2,b3⟩:=zR lS2 lS0 (show c<n by omega) (show j<n by omega) bX bP
       have hj8:2^j≤2^3:=Nat.pow_le_pow_right (by decide) (by omega)
       have e8:2^(j+1)=2*2^j:=by rw[Nat.pow_succ];omega
       rw[e8]at b1 b2
       have g1:=qi bX (show c<X.length by omega)
       have g2:=qi bX (show j<X.length by omega)
       have g3:=qi bP (show c<P.length by omega)
       have g4:=qi bP (show j<P.length by omega)
       have hlu:(uR n X P j c).length=n:=qF
       have hset:=qU (L:=uR n X P j c) (i:=c) (x:=nwX X P j c) (by omega)
       rw[zl (show c<n by omega)]at hset
       have t1:=qn (X.getD c ex0) (P.getD j ex0) (g1.mono (by omega) (by omega)) (g4.mono (by omega) (by omega))
       have t2:=qn (P.getD c ex0) (X.getD j ex0) (g3.mono (by omega) (by omega)) (g2.mono (by omega) (by omega))
       have t3:=qB ((X.getD c ex0).times (P.getD j ex0)) ((P.getD c ex0).times (X.getD j ex0)) (b1.mono (by omega) (by omega)) (b2.mono (by omega) (by omega))
       change Con _ _ _ _ _ (isA (.ag [.v (.bool (nwX X P j c).s),.sl (lim (nwX X P j c).m).length (qh (lim (nwX X P j c).m)),.v (.int .i64 (nwX X P j c).e)]))at t3
       generalize nwX X P j c=Y at*
       generalize uR n X P j c=U at*
       generalize hU2:uR n X P j (c+1)=U2 at*
       simp(disch:=omega)only[go_sem,c2]
       refine qm rfl [⟨0,[],[]⟩,⟨1,[],[]⟩,⟨2,[],[]⟩,⟨3,[],[]⟩,⟨4,[],[]⟩,⟨5,[],[]⟩,⟨6,[5],[]⟩,⟨7,[5],[]⟩,⟨8,[5],[]⟩,⟨9,[5],[]⟩,⟨11,[5,7,9],[]⟩,⟨12,[5,7,9],[]⟩,⟨13,[5,7,9],[]⟩,⟨14,[5,7,9],[]⟩,⟨15,[5,7,9,14],[]⟩,⟨10,[14,15],[]⟩,⟨16,[],[]⟩,⟨17,[],[]⟩,⟨18,[],[]⟩,⟨19,[],[]⟩] (by kernel_rfl) ?_
       simp(disch:=omega)only[go_sem,hcX,hjP,hcP]
       refine⟨by omega,by omega,by omega,by omega,by omega,by omega,?_⟩
       refine qb (t1) ?_
       simp(disch:=omega)only[go_sem]
       refine qb (t2) ?_
       simp(disch:=omega)only[go_sem]
       refine qb (t3) ?_
       simp(disch:=omega)only[go_sem]
       rw[hset]
       exact⟨by omega,by omega,qa (c+1) [] (by show c+1≤n;omega) (by show n-(c+1)<n-c;omega) rfl (by simp(disch:=omega)only[go_sem];try omega) (by simp(disch:=omega)only[go_sem,hU2])⟩
      ·obtain rfl:c=n:=by omega
       simp(disch:=omega)only[go_sem,c2]
       exact qa (2,fun i=>if i=2 then uR c (R2 2) (R2 0) j c else R2 i) [] ⟨by omega,hA▸hB▸hS⟩ (by show 3-2<3-1;omega) rfl (by simp(disch:=omega)only[go_sem,Int.zero_add,show(1:Int)+1=2 from rfl,show(2:Int)+1=3 from rfl];try rfl) (by simp(disch:=omega)only[go_sem,hA,hB,show(if(0:Nat)=2 then uR c X P j c else P)=P from rfl,show(if(1:Nat)=2 then uR c X P j c else R2 1)=R2 1 from rfl,show(if(2:Nat)=2 then uR c X P j c else X)=uR c X P j c from rfl,show(if(3:Nat)=2 then uR c X P j c else R2 3)=R2 3 from rfl])
     ·have hS:=hE.step hn4 (show 3<n by omega)
      have bX:=hE.bd0 3 (by omega) (.inr (by omega))
      have bP:=hE.bd0 0 (by omega) (.inl (by omega))
      have hjX:=qk (l:=R2 3) (i:=j) (by omega)
      have hjP:=qk (l:=R2 0) (i:=j) (by omega)
      generalize hA:R2 3=X at*
      generalize hB:R2 0=P at*
      simp(disch:=omega)only[go_sem]
      simp(disch:=omega)only[go_sem,hjX]
      refine⟨by omega,by omega,?_⟩
      refine qc (fun c:Nat=>[(3,.rf 3 0 n),(5,.v (.int .i64 1)),(6,.pt 20 0),(8,.rf 5 0 n),(10,.rf 8 0 n),(11,.pt 21 0),(39,.v (.int .i64 n)),(40,.v (.int .i64 j)),(76,.rf 3 1 3),(77,.v (.int .i64 ((3:Nat):Int))),(78,.v (.int .i64 ((2:Nat):Int))),(87,.v (.int .i64 n)),(88,.v (.int .i64 c))])
       (fun c=>[(3,.own 1 [.rf 5 0 n,.rf 6 0 n,.rf 7 0 n,.rf 8 0 n]),(5,.own 3 (qg ExV.cs (P))),(6,.own 3 (qg ExV.cs (R2 1))),(7,.own 3 (qg ExV.cs (R2 2))),(8,.own 3 (qg ExV.cs (uR n X P j c))),(20,.own 0 [.v (.int .i64 j)]),(21,.own 0 [.v (.bool (X.getD j ex0).s),.sl (lim (X.getD j ex0).m).length (qh (lim (X.getD j ex0).m)),.v (.int .i64 (X.getD j ex0).e)])]) (fun c=>c≤n) (fun c=>n-c) 0 (by omega)
       (Le.lst [(21,130000000)] _ _ rfl (by simp(disch:=omega)only[go_sem];try rfl) (by simp(disch:=omega)only[go_sem,qT lS3])) ?_
      intro c hc
      simp(disch:=omega)only[go_sem]
      refine qe (fun c2=>?_) (fun c2=>?_)
      ·have hcX:=qk (l:=uR n X P j c) (i:=c) (by rw[qF];omega)
       rw[za (by omega),if_neg (show ¬c<c by omega)]at hcX
       have hcP:=qk (l:=P) (i:=c) (by omega)
       obtain⟨b1,b2,b3⟩:=zR lS3 lS0 (show c<n by omega) (show j<n by omega) bX bP
       have hj8:2^j≤2^3:=Nat.pow_le_pow_right (by decide) (by omega)
       have e8:2^(j+1)=2*2^j:=by rw[Nat.pow_succ];omega
       rw[e8]at b1 b2
       have g1:=qi bX (show c<X.length by omega)
       have g2:=qi bX (show j<X.length by omega)
       have g3:=qi bP (show c<P.length by omega)
       have g4:=qi bP (show j<P.length by omega)
       have hlu:(uR n X P j c).length=n:=qF
       have hset:=qU (L:=uR n X P j c) (i:=c) (x:=nwX X P j c) (by omega)
       rw[zl (show c<n by omega)]at hset
       have t1:=qn (X.getD c ex0) (P.getD j ex0) (g1.mono (by omega) (by omega)) (g4.mono (by omega) (by omega))
       have t2:=qn (P.getD c ex0) (X.getD j ex0) (g3.mono (by omega) (by omega)) (g2.mono (by omega) (by omega))
       have t3:=qB ((X.getD c ex0).times (P.getD j ex0)) ((P.getD c ex0).times (X.getD j ex0)) (b1.mono (by omega) (by omega)) (b2.mono (by omega) (by omega))
       change Con _ _ _ _ _ (isA (.ag [.v (.bool (nwX X P j c).s),.sl (lim (nwX X P j c).m).length (qh (lim (nwX X P j c).m)),.v (.int .i64 (nwX X P j c).e)]))at t3
       generalize nwX X P j c=Y at*
       generalize uR n X P j c=U at*
       generalize hU2:uR n X P j (c+1)=U2 at*
       simp(disch:=omega)only[go_sem,c2]
       refine qm rfl [⟨0,[],[]⟩,⟨1,[],[]⟩,⟨2,[],[]⟩,⟨3,[],[]⟩,⟨4,[],[]⟩,⟨5,[],[]⟩,⟨6,[5],[]⟩,⟨7,[5],[]⟩,⟨8,[5],[]⟩,⟨9,[5],[]⟩,⟨11,[5,7,9],[]⟩,⟨12,[5,7,9],[]⟩,⟨13,[5,7,9],[]⟩,⟨14,[5,7,9],[]⟩,⟨15,[5,7,9,14],[]⟩,⟨10,[14,15],[]⟩,⟨16,[],[]⟩,⟨17,[],[]⟩,⟨18,[],[]⟩,⟨19,[],[]⟩] (by kernel_rfl) ?_
       simp(disch:=omega)only[go_sem,hcX,hjP,hcP]
       refine⟨by omega,by omega,by omega,by omega,by omega,by omega,?_⟩
       refine qb (t1) ?_
       simp(disch:=omega)only[go_sem]
       refine qb (t2) ?_
       simp(disch:=omega)only[go_sem]
       refine qb (t3) ?_
       simp(disch:=omega)only[go_sem]
       rw[hset]
       exact⟨by omega,by omega,qa (c+1) [] (by show c+1≤n;omega) (by show n-(c+1)<n-c;omega) rfl (by simp(disch:=omega)only[go_sem];try omega) (by simp(disch:=omega)only[go_sem,hU2])⟩
      ·obtain rfl:c=n:=by omega
       simp(disch:=omega)only[go_sem,c2]
       exact qa (3,fun i=>if i=3 then uR c (R2 3) (R2 0) j c else R2 i) [] ⟨by omega,hA▸hB▸hS⟩ (by show 3-3<3-2;omega) rfl (by simp(disch:=omega)only[go_sem,Int.zero_add,show(1:Int)+1=2 from rfl,show(2:Int)+1=3 from rfl];try rfl) (by simp(disch:=omega)only[go_sem,hA,hB,show(if(0:Nat)=3 then uR c X P j c else P)=P from rfl,show(if(1:Nat)=3 then uR c X P j c else R2 1)=R2 1 from rfl,show(if(2:Nat)=3 then uR c X P j c else R2 2)=R2 2 from rfl,show(if(3:Nat)=3 then uR c X P j c else X)=uR c X P j c from rfl])
     ·simp(disch:=omega)only[go_sem]
      try simp(disch:=omega)only[go_sem]
      exact qa (j+1,1,R2) [] (hE.done (by omega)) (by show n-(j+1)<n-j;omega) rfl (by simp(disch:=omega)only[go_sem];try omega) (by simp(disch:=omega)only[go_sem])
  ·have hx:=zN n j [R 1,R 2,R 3] hn4 (by omega) (by simp[lR1,lR2,lR3]) (by simp)
   change Con _ _ _ [.sl 3 [.sl n (qg ExV.cs (R 1)),.sl n (qg ExV.cs (R 2)),.sl n (qg ExV.cs (R 3))],_] _ _ at hx
   simp(disch:=omega)only[go_sem,c1]
   rw[show((n:Int)-1).toNat=3 by omega]
   refine⟨by omega,?_⟩
   refine qy hx (by simp(disch:=omega)only[go_sem,hcR0,hcR1,hcR2,hcR3]) ?_
   rintro x hs ⟨rfl, -,(⟨rfl,hz0⟩|⟨k,hk,rfl,hk0⟩)⟩
   ·refine⟨by simp[qG],?_⟩
    simp(disch:=omega)only[go_sem]
    exact qa (j+1,1,R) [] (hI.skip (by omega) (fun i h1 h2=>by
     have:=hz0 (i-1) (by simp;omega)
     rcases(show i=1∨i=2∨i=3 by omega)with rfl|rfl|rfl
     ·exact this
     ·exact this
     ·exact this)) (by show n-(j+1)<n-j;omega) rfl (by simp(disch:=omega)only[go_sem];try omega) (by simp(disch:=omega)only[go_sem])
   ·refine⟨by simp[qG],?_⟩
    have hk:k<3:=hk
    rcases(show k=0∨k=1∨k=2 by omega)with rfl|rfl|rfl
    ·have hP:=hI.pivot hn4 (by omega) (k:=0) (by omega) hk0
     simp(disch:=omega)only[go_sem]
     refine qm rfl [⟨0,[],[]⟩,⟨1,[],[]⟩,⟨2,[],[]⟩,⟨3,[],[]⟩,⟨4,[],[]⟩,⟨5,[],[]⟩,⟨6,[],[]⟩,⟨7,[],[]⟩,⟨8,[],[]⟩,⟨9,[],[]⟩,⟨10,[],[]⟩,⟨11,[],[]⟩,⟨12,[11],[]⟩,⟨13,[11],[]⟩,⟨14,[11],[]⟩,⟨15,[11],[]⟩,⟨16,[],[]⟩,⟨17,[],[]⟩,⟨18,[],[]⟩,⟨19,[],[]⟩] (by kernel_rfl) ?_
     simp(disch:=omega)only[go_sem,Int.add_zero,Int.zero_add,Int.toNat_zero,List.getD_cons_zero,List.getD_cons_succ,show(1:Int)+1=2 from rfl,show(1:Int)+2=3 from rfl,show(2:Int)+1=3 from rfl,show(3:Int)+1=4 from rfl,show(1:Int).toNat=1 from rfl,show(2:Int).toNat=2 from rfl,show(3:Int).toNat=3 from rfl]
     refine⟨by omega,by omega,by omega,by omega,by omega,by omega,?_⟩
     rw[show((n:Int)-2).toNat=2 by omega]
     refine qc (fun x:Nat×(Nat→List ExV)=>[(3,.rf 3 0 n),(5,.v (.int .i64 2)),(6,.pt 20 0),(8,.rf 6 0 n),(39,.v (.int .i64 n)),(40,.v (.int .i64 j)),(76,.rf 3 2 2),(77,.v (.int .i64 ((2:Nat):Int))),(78,.v (.int .i64 x.1))])
      (fun x=>[(3,.own 1 [.rf 5 0 n,.rf 6 0 n,.rf 7 0 n,.rf 8 0 n]),(5,.own 3 (qg ExV.cs (x.2 0))),(6,.own 3 (qg ExV.cs (x.2 1))),(7,.own 3 (qg ExV.cs (x.2 2))),(8,.own 3 (qg ExV.cs (x.2 3))),(20,.own 0 [.v (.int .i64 j)])]) (fun x=>x.1≤2∧rkRed n L j 1 (2+x.1) x.2) (fun x=>2-x.1) (0,fun i=>R (swI 1 (1+0) i)) ⟨by omega,hP⟩
      (Le.lst [(5,5),(6,6),(7,7),(8,8),(20,80000000)] _ _ rfl (by simp(disch:=omega)only[go_sem,Int.zero_add,show(1:Int)+1=2 from rfl,show(2:Int)+1=3 from rfl,show(3:Int)+1=4 from rfl];try rfl) (by simp(disch:=omega)only[go_sem,show swI 1 (1+0) 0=0 from rfl,show swI 1 (1+0) 1=1 from rfl,show swI 1 (1+0) 2=2 from rfl,show swI 1 (1+0) 3=3 from rfl])) ?_
     rintro⟨m,R2⟩ ⟨hm,hE⟩
     dsimp only at hm hE ⊢
     have lS0:=hE.len 0 (by omega)
     have lS1:=hE.len 1 (by omega)
     have lS2:=hE.len 2 (by omega)
     have lS3:=hE.len 3 (by omega)
     rcases(show m=0∨m=1∨m=2 by omega)with rfl|rfl|rfl
     ·have hS:=hE.step hn4 (show 2<n by omega)
      have bX:=hE.bd0 2 (by omega) (.inr (by omega))
      have bP:=hE.bd0 1 (by omega) (.inl (by omega))
      have hjX:=qk (l:=R2 2) (i:=j) (by omega)
      have hjP:=qk (l:=R2 1) (i:=j) (by omega)
      generalize hA:R2 2=X at*
      generalize hB:R2 1=P at*
      simp(disch:=omega)only[go_sem]
      simp(disch:=omega)only[go_sem,hjX]
      refine⟨by omega,by omega,?_⟩
      refine qc (fun c:Nat=>[(3,.rf 3 0 n),(5,.v (.int .i64 2)),(6,.pt 20 0),(8,.rf 6 0 n),(10,.rf 7 0 n),(11,.pt 21 0),(39,.v (.int .i64 n)),(40,.v (.int .i64 j)),(76,.rf 3 2 2),(77,.v (.int .i64 ((2:Nat):Int))),(78,.v (.int .i64 ((0:Nat):Int))),(87,.v (.int .i64 n)),(88,.v (.int .i64 c))])
       (fun c=>[(3,.own 1 [.rf 5 0 n,.rf 6 0 n,.rf 7 0 n,.rf 8 0 n]),(5,.own 3 (qg ExV.cs (R2 0))),(6,.own 3 (qg ExV.cs (P))),(7,.own 3 (qg ExV.cs (uR n X P j c))),(8,.own 3 (qg ExV.cs (R2 3))),(20,.own 0 [.v (.int .i64 j)]),(21,.own 0 [.v (.bool (X.getD j ex0).s),.sl (lim (X.getD j ex0).m).length (qh (lim (X.getD j ex0).m)),.v (.int .i64 (X.getD j ex0).e)])]) (fun c=>c≤n) (fun c=>n-c) 0 (by omega)
       (Le.lst [(21,130000000)] _ _ rfl (by simp(disch:=omega)only[go_sem];try rfl) (by simp(disch:=omega)only[go_sem,qT lS2])) ?_
      intro c hc
      simp(disch:=omega)only[go_sem]
      refine qe (fun c2=>?_) (fun c2=>?_)
      ·have hcX:=qk (l:=uR n X P j c) (i:=c) (by rw[qF];omega)
       rw[za (by omega),if_neg (show ¬c<c by omega)]at hcX
       have hcP:=qk (l:=P) (i:=c) (by omega)
       obtain⟨b1,b2,b3⟩:=zR lS2 lS1 (show c<n by omega) (show j<n by omega) bX bP
       have hj8:2^j≤2^3:=Nat.pow_le_pow_right (by decide) (by omega)
       have e8:2^(j+1)=2*2^j:=by rw[Nat.pow_succ];omega
       rw[e8]at b1 b2
       have g1:=qi bX (show c<X.length by omega)
       have g2:=qi bX (show j<X.length by omega)
       have g3:=qi bP (show c<P.length by omega)
       have g4:=qi bP (show j<P.length by omega)
       have hlu:(uR n X P j c).length=n:=qF
       have hset:=qU (L:=uR n X P j c) (i:=c) (x:=nwX X P j c) (by omega)
       rw[zl (show c<n by omega)]at hset
       have t1:=qn (X.getD c ex0) (P.getD j ex0) (g1.mono (by omega) (by omega)) (g4.mono (by omega) (by omega))
       have t2:=qn (P.getD c ex0) (X.getD j ex0) (g3.mono (by omega) (by omega)) (g2.mono (by omega) (by omega))
       have t3:=qB ((X.getD c ex0).times (P.getD j ex0)) ((P.getD c ex0).times (X.getD j ex0)) (b1.mono (by omega) (by omega)) (b2.mono (by omega) (by omega))
       change Con _ _ _ _ _ (isA (.ag [.v (.bool (nwX X P j c).s),.sl (lim (nwX X P j c).m).length (qh (lim (nwX X P j c).m)),.v (.int .i64 (nwX X P j c).e)]))at t3
       generalize nwX X P j c=Y at*
       generalize uR n X P j c=U at*
       generalize hU2:uR n X P j (c+1)=U2 at*
       simp(disch:=omega)only[go_sem,c2]
       refine qm rfl [⟨0,[],[]⟩,⟨1,[],[]⟩,⟨2,[],[]⟩,⟨3,[],[]⟩,⟨4,[],[]⟩,⟨5,[],[]⟩,⟨6,[5],[]⟩,⟨7,[5],[]⟩,⟨8,[5],[]⟩,⟨9,[5],[]⟩,⟨11,[5,7,9],[]⟩,⟨12,[5,7,9],[]⟩,⟨13,[5,7,9],[]⟩,⟨14,[5,7,9],[]⟩,⟨15,[5,7,9,14],[]⟩,⟨10,[14,15],[]⟩,⟨16,[],[]⟩,⟨17,[],[]⟩,⟨18,[],[]⟩,⟨19,[],[]⟩] (by kernel_rfl) ?_
       simp(disch:=omega)only[go_sem,hcX,hjP,hcP]
       refine⟨by omega,by omega,by omega,by omega,by omega,by omega,?_⟩
       refine qb (t1) ?_
       simp(disch:=omega)only[go_sem]
       refine qb (t2) ?_
       simp(disch:=omega)only[go_sem]
       refine qb (t3) ?_
       simp(disch:=omega)only[go_sem]
       rw[hset]
       exact⟨by omega,by omega,qa (c+1) [] (by show c+1≤n;omega) (by show n-(c+1)<n-c;omega) rfl (by simp(disch:=omega)only[go_sem];try omega) (by simp(disch:=omega)only[go_sem,hU2])⟩
      ·obtain rfl:c=n:=by omega
       simp(disch:=omega)only[go_sem,c2]
       exact qa (1,fun i=>if i=2 then uR c (R2 2) (R2 1) j c else R2 i) [] ⟨by omega,hA▸hB▸hS⟩ (by show 2-1<2-0;omega) rfl (by simp(disch:=omega)only[go_sem,Int.zero_add,show(1:Int)+1=2 from rfl,show(2:Int)+1=3 from rfl];try rfl) (by simp(disch:=omega)only[go_sem,hA,hB,show(if(0:Nat)=2 then uR c X P j c else R2 0)=R2 0 from rfl,show(if(1:Nat)=2 then uR c X P j c else P)=P from rfl,show(if(2:Nat)=2 then uR c X P j c else X)=uR c X P j c from rfl,show(if(3:Nat)=2 then uR c X P j c else R2 3)=R2 3 from rfl])
     ·have hS:=hE.step hn4 (show 3<n by omega)
      have bX:=hE.bd0 3 (by omega) (.inr (by omega))
      have bP:=hE.bd0 1 (by omega) (.inl (by omega))
      have hjX:=qk (l:=R2 3) (i:=j) (by omega)
      have hjP:=qk (l:=R2 1) (i:=j) (by omega)
      generalize hA:R2 3=X at*
      generalize hB:R2 1=P at*
      simp(disch:=omega)only[go_sem]
      simp(disch:=omega)only[go_sem,hjX]
      refine⟨by omega,by omega,?_⟩
      refine qc (fun c:Nat=>[(3,.rf 3 0 n),(5,.v (.int .i64 2)),(6,.pt 20 0),(8,.rf 6 0 n),(10,.rf 8 0 n),(11,.pt 21 0),(39,.v (.int .i64 n)),(40,.v (.int .i64 j)),(76,.rf 3 2 2),(77,.v (.int .i64 ((2:Nat):Int))),(78,.v (.int .i64 ((1:Nat):Int))),(87,.v (.int .i64 n)),(88,.v (.int .i64 c))])
       (fun c=>[(3,.own 1 [.rf 5 0 n,.rf 6 0 n,.rf 7 0 n,.rf 8 0 n]),(5,.own 3 (qg ExV.cs (R2 0))),(6,.own 3 (qg ExV.cs (P))),(7,.own 3 (qg ExV.cs (R2 2))),(8,.own 3 (qg ExV.cs (uR n X P j c))),(20,.own 0 [.v (.int .i64 j)]),(21,.own 0 [.v (.bool (X.getD j ex0).s),.sl (lim (X.getD j ex0).m).length (qh (lim (X.getD j ex0).m)),.v (.int .i64 (X.getD j ex0).e)])]) (fun c=>c≤n) (fun c=>n-c) 0 (by omega)
       (Le.lst [(21,130000000)] _ _ rfl (by simp(disch:=omega)only[go_sem];try rfl) (by simp(disch:=omega)only[go_sem,qT lS3])) ?_
      intro c hc
      simp(disch:=omega)only[go_sem]
      refine qe (fun c2=>?_) (fun c2=>?_)
      ·have hcX:=qk (l:=uR n X P j c) (i:=c) (by rw[qF];omega)
       rw[za (by omega),if_neg (show ¬c<c by omega)]at hcX
       have hcP:=qk (l:=P) (i:=c) (by omega)
       obtain⟨b1,b2,b3⟩:=zR lS3 lS1 (show c<n by omega) (show j<n by omega) bX bP
       have hj8:2^j≤2^3:=Nat.pow_le_pow_right (by decide) (by omega)
       have e8:2^(j+1)=2*2^j:=by rw[Nat.pow_succ];omega
       rw[e8]at b1 b2
       have g1:=qi bX (show c<X.length by omega)
       have g2:=qi bX (show j<X.length by omega)
       have g3:=qi bP (show c<P.length by omega)
       have g4:=qi bP (show j<P.length by omega)
       have hlu:(uR n X P j c).length=n:=qF
       have hset:=qU (L:=uR n X P j c) (i:=c) (x:=nwX X P j c) (by omega)
       rw[zl (show c<n by omega)]at hset
       have t1:=qn (X.getD c ex0) (P.getD j ex0) (g1.mono (by omega) (by omega)) (g4.mono (by omega) (by omega))
       have t2:=qn (P.getD c ex0) (X.getD j ex0) (g3.mono (by omega) (by omega)) (g2.mono (by omega) (by omega))
       have t3:=qB ((X.getD c ex0).times (P.getD j ex0)) ((P.getD c ex0).times (X.getD j ex0)) (b1.mono (by omega) (by omega)) (b2.mono (by omega) (by omega))
       change Con _ _ _ _ _ (isA (.ag [.v (.bool (nwX X P j c).s),.sl (lim (nwX X P j c).m).length (qh (lim (nwX X P j c).m)),.v (.int .i64 (nwX X P j c).e)]))at t3
       generalize nwX X P j c=Y at*
       generalize uR n X P j c=U at*
       generalize hU2:uR n X P j (c+1)=U2 at*
       simp(disch:=omega)only[go_sem,c2]
       refine qm rfl [⟨0,[],[]⟩,⟨1,[],[]⟩,⟨2,[],[]⟩,⟨3,[],[]⟩,⟨4,[],[]⟩,⟨5,[],[]⟩,⟨6,[5],[]⟩,⟨7,[5],[]⟩,⟨8,[5],[]⟩,⟨9,[5],[]⟩,⟨11,[5,7,9],[]⟩,⟨12,[5,7,9],[]⟩,⟨13,[5,7,9],[]⟩,⟨14,[5,7,9],[]⟩,⟨15,[5,7,9,14],[]⟩,⟨10,[14,15],[]⟩,⟨16,[],[]⟩,⟨17,[],[]⟩,⟨18,[],[]⟩,⟨19,[],[]⟩] (by kernel_rfl) ?_
       simp(disch:=omega)only[go_sem,hcX,hjP,hcP]
       refine⟨by omega,by omega,by omega,by omega,by omega,by omega,?_⟩
       refine qb (t1) ?_
       simp(disch:=omega)only[go_sem]
       refine qb (t2) ?_
       simp(disch:=omega)only[go_sem]
       refine qb (t3) ?_
       simp(disch:=omega)only[go_sem]
       rw[hset]
       exact⟨by omega,by omega,qa (c+1) [] (by show c+1≤n;omega) (by show n-(c+1)<n-c;omega) rfl (by simp(disch:=omega)only[go_sem];try omega) (by simp(disch:=omega)only[go_sem,hU2])⟩
      ·obtain rfl:c=n:=by omega
       simp(disch:=omega)only[go_sem,c2]
       exact qa (2,fun i=>if i=3 then uR c (R2 3) (R2 1) j c else R2 i) [] ⟨by omega,hA▸hB▸hS⟩ (by show 2-2<2-1;omega) rfl (by simp(disch:=omega)only[go_sem,Int.zero_add,show(1:Int)+1=2 from rfl,show(2:Int)+1=3 from rfl];try rfl) (by simp(disch:=omega)only[go_sem,hA,hB,show(if(0:Nat)=3 then uR c X P j c else R2 0)=R2 0 from rfl,show(if(1:Nat)=3 then uR c X P j c else P)=P from rfl,show(if(2:Nat)=3 then uR c X P j c else R2 2)=R2 2 from rfl,show(if(3:Nat)=3 then uR c X P j c else X)=uR c X P j c from rfl])
     ·simp(disch:=omega)only[go_sem]
      try simp(disch:=omega)only[go_sem]
      exact qa (j+1,2,R2) [] (hE.done (by omega)) (by show n-(j+1)<n-j;omega) rfl (by simp(disch:=omega)only[go_sem];try omega) (by simp(disch:=omega)only[go_sem])
    ·have hP:=hI.pivot hn4 (by omega) (k:=1) (by omega) hk0
     simp(disch:=omega)only[go_sem]
     refine qm rfl [⟨0,[],[]⟩,⟨1,[],[]⟩,⟨2,[],[]⟩,⟨3,[],[]⟩,⟨4,[],[]⟩,⟨5,[],[]⟩,⟨6,[],[]⟩,⟨7,[],[]⟩,⟨8,[],[]⟩,⟨9,[],[]⟩,⟨10,[],[]⟩,⟨11,[],[]⟩,⟨12,[11],[]⟩,⟨13,[11],[]⟩,⟨14,[11],[]⟩,⟨15,[11],[]⟩,⟨16,[],[]⟩,⟨17,[],[]⟩,⟨18,[],[]⟩,⟨19,[],[]⟩] (by kernel_rfl) ?_
     simp(disch:=omega)only[go_sem,Int.add_zero,Int.zero_add,Int.toNat_zero,List.getD_cons_zero,List.getD_cons_succ,show(1:Int)+1=2 from rfl,show(1:Int)+2=3 from rfl,show(2:Int)+1=3 from rfl,show(3:Int)+1=4 from rfl,show(1:Int).toNat=1 from rfl,show(2:Int).toNat=2 from rfl,show(3:Int).toNat=3 from rfl]
     refine⟨by omega,by omega,by omega,by omega,by omega,by omega,?_⟩
     rw[show((n:Int)-2).toNat=2 by omega]
     refine qc (fun x:Nat×(Nat→List ExV)=>[(3,.rf 3 0 n),(5,.v (.int .i64 2)),(6,.pt 20 0),(8,.rf 6 0 n),(39,.v (.int .i64 n)),(40,.v (.int .i64 j)),(76,.rf 3 2 2),(77,.v (.int .i64 ((2:Nat):Int))),(78,.v (.int .i64 x.1))])
      (fun x=>[(3,.own 1 [.rf 5 0 n,.rf 6 0 n,.rf 7 0 n,.rf 8 0 n]),(5,.own 3 (qg ExV.cs (x.2 0))),(6,.own 3 (qg ExV.cs (x.2 1))),(7,.own 3 (qg ExV.cs (x.2 2))),(8,.own 3 (qg ExV.cs (x.2 3))),(20,.own 0 [.v (.int .i64 j)])]) (fun x=>x.1≤2∧rkRed n L j 1 (2+x.1) x.2) (fun x=>2-x.1) (0,fun i=>R (swI 1 (1+1) i)) ⟨by omega,hP⟩
      (Le.lst [(5,5),(6,7),(7,6),(8,8),(20,80000000)] _ _ rfl (by simp(disch:=omega)only[go_sem,Int.zero_add,show(1:Int)+1=2 from rfl,show(2:Int)+1=3 from rfl,show(3:Int)+1=4 from rfl];try rfl) (by simp(disch:=omega)only[go_sem,show swI 1 (1+1) 0=0 from rfl,show swI 1 (1+1) 1=2 from rfl,show swI 1 (1+1) 2=1 from rfl,show swI 1 (1+1) 3=3 from rfl])) ?_
     rintro⟨m,R2⟩ ⟨hm,hE⟩
     dsimp only at hm hE ⊢
     have lS0:=hE.len 0 (by omega)
     have lS1:=hE.len 1 (by omega)
     have lS2:=hE.len 2 (by omega)
     have lS3:=hE.len 3 (by omega)
     rcases(show m=0∨m=1∨m=2 by omega)with rfl|rfl|rfl
     ·have hS:=hE.step hn4 (show 2<n by omega)
      have bX:=hE.bd0 2 (by omega) (.inr (by omega))
      have bP:=hE.bd0 1 (by omega) (.inl (by omega))
      have hjX:=qk (l:=R2 2) (i:=j) (by omega)
      have hjP:=qk (l:=R2 1) (i:=j) (by omega)
      generalize hA:R2 2=X at*
      generalize hB:R2 1=P at*
      simp(disch:=omega)only[go_sem]
      simp(disch:=omega)only[go_sem,hjX]
      refine⟨by omega,by omega,?_⟩
      refine qc (fun c:Nat=>[(3,.rf 3 0 n),(5,.v (.int .i64 2)),(6,.pt 20 0),(8,.rf 6 0 n),(10,.rf 7 0 n),(11,.pt 21 0),(39,.v (.int .i64 n)),(40,.v (.int .i64 j)),(76,.rf 3 2 2),(77,.v (.int .i64 ((2:Nat):Int))),(78,.v (.int .i64 ((0:Nat):Int))),(87,.v (.int .i64 n)),(88,.v (.int .i64 c))])
       (fun c=>[(3,.own 1 [.rf 5 0 n,.rf 6 0 n,.rf 7 0 n,.rf 8 0 n]),(5,.own 3 (qg ExV.cs (R2 0))),(6,.own 3 (qg ExV.cs (P))),(7,.own 3 (qg ExV.cs (uR n X P j c))),(8,.own 3 (qg ExV.cs (R2 3))),(20,.own 0 [.v (.int .i64 j)]),(21,.own 0 [.v (.bool (X.getD j ex0).s),.sl (lim (X.getD j ex0).m).length (qh (lim (X.getD j ex0).m)),.v (.int .i64 (X.getD j ex0).e)])]) (fun c=>c≤n) (fun c=>n-c) 0 (by omega)
       (Le.lst [(21,130000000)] _ _ rfl (by simp(disch:=omega)only[go_sem];try rfl) (by simp(disch:=omega)only[go_sem,qT lS2])) ?_
      intro c hc
      simp(disch:=omega)only[go_sem]
      refine qe (fun c2=>?_) (fun c2=>?_)
      ·have hcX:=qk (l:=uR n X P j c) (i:=c) (by rw[qF];omega)
       rw[za (by omega),if_neg (show ¬c<c by omega)]at hcX
       have hcP:=qk (l:=P) (i:=c) (by omega)
       obtain⟨b1,b2,b3⟩:=zR lS2 lS1 (show c<n by omega) (show j<n by omega) bX bP
       have hj8:2^j≤2^3:=Nat.pow_le_pow_right (by decide) (by omega)
       have e8:2^(j+1)=2*2^j:=by rw[Nat.pow_succ];omega
       rw[e8]at b1 b2
       have g1:=qi bX (show c<X.length by omega)
       have g2:=qi bX (show j<X.length by omega)
       have g3:=qi bP (show c<P.length by omega)
       have g4:=qi bP (show j<P.length by omega)
       have hlu:(uR n X P j c).length=n:=qF
       have hset:=qU (L:=uR n X P j c) (i:=c) (x:=nwX X P j c) (by omega)
       rw[zl (show c<n by omega)]at hset
       have t1:=qn (X.getD c ex0) (P.getD j ex0) (g1.mono (by omega) (by omega)) (g4.mono (by omega) (by omega))
       have t2:=qn (P.getD c ex0) (X.getD j ex0) (g3.mono (by omega) (by omega)) (g2.mono (by omega) (by omega))
       have t3:=qB ((X.getD c ex0).times (P.getD j ex0)) ((P.getD c ex0).times (X.getD j ex0)) (b1.mono (by omega) (by omega)) (b2.mono (by omega) (by omega))
       change Con _ _ _ _ _ (isA (.ag [.v (.bool (nwX X P j c).s),.sl (lim (nwX X P j c).m).length (qh (lim (nwX X P j c).m)),.v (.int .i64 (nwX X P j c).e)]))at t3
       generalize nwX X P j c=Y at*
       generalize uR n X P j c=U at*
       generalize hU2:uR n X P j (c+1)=U2 at*
       simp(disch:=omega)only[go_sem,c2]
       refine qm rfl [⟨0,[],[]⟩,⟨1,[],[]⟩,⟨2,[],[]⟩,⟨3,[],[]⟩,⟨4,[],[]⟩,⟨5,[],[]⟩,⟨6,[5],[]⟩,⟨7,[5],[]⟩,⟨8,[5],[]⟩,⟨9,[5],[]⟩,⟨11,[5,7,9],[]⟩,⟨12,[5,7,9],[]⟩,⟨13,[5,7,9],[]⟩,⟨14,[5,7,9],[]⟩,⟨15,[5,7,9,14],[]⟩,⟨10,[14,15],[]⟩,⟨16,[],[]⟩,⟨17,[],[]⟩,⟨18,[],[]⟩,⟨19,[],[]⟩] (by kernel_rfl) ?_
       simp(disch:=omega)only[go_sem,hcX,hjP,hcP]
       refine⟨by omega,by omega,by omega,by omega,by omega,by omega,?_⟩
       refine qb (t1) ?_
       simp(disch:=omega)only[go_sem]
       refine qb (t2) ?_
       simp(disch:=omega)only[go_sem]
       refine qb (t3) ?_
       simp(disch:=omega)only[go_sem]
       rw[hset]
       exact⟨by omega,by omega,qa (c+1) [] (by show c+1≤n;omega) (by show n-(c+1)<n-c;omega) rfl (by simp(disch:=omega)only[go_sem];try omega) (by simp(disch:=omega)only[go_sem,hU2])⟩
      ·obtain rfl:c=n:=by omega
       simp(disch:=omega)only[go_sem,c2]
       exact qa (1,fun i=>if i=2 then uR c (R2 2) (R2 1) j c else R2 i) [] ⟨by omega,hA▸hB▸hS⟩ (by show 2-1<2-0;omega) rfl (by simp(disch:=omega)only[go_sem,Int.zero_add,show(1:Int)+1=2 from rfl,show(2:Int)+1=3 from rfl];try rfl) (by simp(disch:=omega)only[go_sem,hA,hB,show(if(0:Nat)=2 then uR c X P j c else R2 0)=R2 0 from rfl,show(if(1:Nat)=2 then uR c X P j c else P)=P from rfl,show(if(2:Nat)=2 then uR c X P j c else X)=uR c X P j c from rfl,show(if(3:Nat)=2 then uR c X P j c else R2 3)=R2 3 from rfl])
     ·have hS:=hE.step hn4 (show 3<n by omega)
      have bX:=hE.bd0 3 (by omega) (.inr (by omega))
      have bP:=hE.bd0 1 (by omega) (.inl (by omega))
      have hjX:=qk (l:=R2 3) (i:=j) (by omega)
      have hjP:=qk (l:=R2 1) (i:=j) (by omega)
      generalize hA:R2 3=X at*
      generalize hB:R2 1=P at*
      simp(disch:=omega)only[go_sem]
      simp(disch:=omega)only[go_sem,hjX]
      refine⟨by omega,by omega,?_⟩
      refine qc (fun c:Nat=>[(3,.rf 3 0 n),(5,.v (.int .i64 2)),(6,.pt 20 0),(8,.rf 6 0 n),(10,.rf 8 0 n),(11,.pt 21 0),(39,.v (.int .i64 n)),(40,.v (.int .i64 j)),(76,.rf 3 2 2),(77,.v (.int .i64 ((2:Nat):Int))),(78,.v (.int .i64 ((1:Nat):Int))),(87,.v (.int .i64 n)),(88,.v (.int .i64 c))])
       (fun c=>[(3,.own 1 [.rf 5 0 n,.rf 6 0 n,.rf 7 0 n,.rf 8 0 n]),(5,.own 3 (qg ExV.cs (R2 0))),(6,.own 3 (qg ExV.cs (P))),(7,.own 3 (qg ExV.cs (R2 2))),(8,.own 3 (qg ExV.cs (uR n X P j c))),(20,.own 0 [.v (.int .i64 j)]),(21,.own 0 [.v (.bool (X.getD j ex0).s),.sl (lim (X.getD j ex0).m).length (qh (lim (X.getD j ex0).m)),.v (.int .i64 (X.getD j ex0).e)])]) (fun c=>c≤n) (fun c=>n-c) 0 (by omega)
       (Le.lst [(21,130000000)] _ _ rfl (by simp(disch:=omega)only[go_sem];try rfl) (by simp(disch:=omega)only[go_sem,qT lS3])) ?_
      intro c hc
      simp(disch:=omega)only[go_sem]
      refine qe (fun c2=>?_) (fun c2=>?_)
      ·have hcX:=qk (l:=uR n X P j c) (i:=c) (by rw[qF];omega)
       rw[za (by omega),if_neg (show ¬c<c by omega)]at hcX
       have hcP:=qk (l:=P) (i:=c) (by omega)
       obtain⟨b1,b2,b3⟩:=zR lS3 lS1 (show c<n by omega) (show j<n by omega) bX bP
       have hj8:2^j≤2^3:=Nat.pow_le_pow_right (by decide) (by omega)
       have e8:2^(j+1)=2*2^j:=by rw[Nat.pow_succ];omega
       rw[e8]at b1 b2
       have g1:=qi bX (show c<X.length by omega)
       have g2:=qi bX (show j<X.length by omega)
       have g3:=qi bP (show c<P.length by omega)
       have g4:=qi bP (show j<P.length by omega)
       have hlu:(uR n X P j c).length=n:=qF
       have hset:=qU (L:=uR n X P j c) (i:=c) (x:=nwX X P j c) (by omega)
       rw[zl (show c<n by omega)]at hset
       have t1:=qn (X.getD c ex0) (P.getD j ex0) (g1.mono (by omega) (by omega)) (g4.mono (by omega) (by omega))
       have t2:=qn (P.getD c ex0) (X.getD j ex0) (g3.mono (by omega) (by omega)) (g2.mono (by omega) (by omega))
       have t3:=qB ((X.getD c ex0).times (P.getD j ex0)) ((P.getD c ex0).times (X.getD j ex0)) (b1.mono (by omega) (by omega)) (b2.mono (by omega) (by omega))
       change Con _ _ _ _ _ (isA (.ag [.v (.bool (nwX X P j c).s),.sl (lim (nwX X P j c).m).length (qh (lim (nwX X P j c).m)),.v (.int .i64 (nwX X P j c).e)]))at t3
       generalize nwX X P j c=Y at*
       generalize uR n X P j c=U at*
       generalize hU2:uR n X P j (c+1)=U2 at*
       simp(disch:=omega)only[go_sem,c2]
       refine qm rfl [⟨0,[],[]⟩,⟨1,[],[]⟩,⟨2,[],[]⟩,⟨3,[],[]⟩,⟨4,[],[]⟩,⟨5,[],[]⟩,⟨6,[5],[]⟩,⟨7,[5],[]⟩,⟨8,[5],[]⟩,⟨9,[5],[]⟩,⟨11,[5,7,9],[]⟩,⟨12,[5,7,9],[]⟩,⟨13,[5,7,9],[]⟩,⟨14,[5,7,9],[]⟩,⟨15,[5,7,9,14],[]⟩,⟨10,[14,15],[]⟩,⟨16,[],[]⟩,⟨17,[],[]⟩,⟨18,[],[]⟩,⟨19,[],[]⟩] (by kernel_rfl) ?_
       simp(disch:=omega)only[go_sem,hcX,hjP,hcP]
       refine⟨by omega,by omega,by omega,by omega,by omega,by omega,?_⟩
       refine qb (t1) ?_
       simp(disch:=omega)only[go_sem]
       refine qb (t2) ?_
       simp(disch:=omega)only[go_sem]
       refine qb (t3) ?_
       simp(disch:=omega)only[go_sem]
       rw[hset]
       exact⟨by omega,by omega,qa (c+1) [] (by show c+1≤n;omega) (by show n-(c+1)<n-c;omega) rfl (by simp(disch:=omega)only[go_sem];try omega) (by simp(disch:=omega)only[go_sem,hU2])⟩
      ·obtain rfl:c=n:=by omega
       simp(disch:=omega)only[go_sem,c2]
       exact qa (2,fun i=>if i=3 then uR c (R2 3) (R2 1) j c else R2 i) [] ⟨by omega,hA▸hB▸hS⟩ (by show 2-2<2-1;omega) rfl (by simp(disch:=omega)only[go_sem,Int.zero_add,show(1:Int)+1=2 from rfl,show(2:Int)+1=3 from rfl];try rfl) (by simp(disch:=omega)only[go_sem,hA,hB,show(if(0:Nat)=3 then uR c X P j c else R2 0)=R2 0 from rfl,show(if(1:Nat)=3 then uR c X P j c else P)=P from rfl,show(if(2:Nat)=3 then uR c X P j c else R2 2)=R2 2 from rfl,show(if(3:Nat)=3 then uR c X P j c else X)=uR c X P j c from rfl])
     ·simp(disch:=omega)only[go_sem]
      try simp(disch:=omega)only[go_sem]
      exact qa (j+1,2,R2) [] (hE.done (by omega)) (by show n-(j+1)<n-j;omega) rfl (by simp(disch:=omega)only[go_sem];try omega) (by simp(disch:=omega)only[go_sem])
    ·have hP:=hI.pivot hn4 (by omega) (k:=2) (by omega) hk0
     simp(disch:=omega)only[go_sem]
     refine qm rfl [⟨0,[],[]⟩,⟨1,[],[]⟩,⟨2,[],[]⟩,⟨3,[],[]⟩,⟨4,[],[]⟩,⟨5,[],[]⟩,⟨6,[],[]⟩,⟨7,[],[]⟩,⟨8,[],[]⟩,⟨9,[],[]⟩,⟨10,[],[]⟩,⟨11,[],[]⟩,⟨12,[11],[]⟩,⟨13,[11],[]⟩,⟨14,[11],[]⟩,⟨15,[11],[]⟩,⟨16,[],[]⟩,⟨17,[],[]⟩,⟨18,[],[]⟩,⟨19,[],[]⟩] (by kernel_rfl) ?_
     simp(disch:=omega)only[go_sem,Int.add_zero,Int.zero_add,Int.toNat_zero,List.getD_cons_zero,List.getD_cons_succ,show(1:Int)+1=2 from rfl,show(1:Int)+2=3 from rfl,show(2:Int)+1=3 from rfl,show(3:Int)+1=4 from rfl,show(1:Int).toNat=1 from rfl,show(2:Int).toNat=2 from rfl,show(3:Int).toNat=3 from rfl]
     refine⟨by omega,by omega,by omega,by omega,by omega,by omega,?_⟩
     rw[show((n:Int)-2).toNat=2 by omega]
     refine qc (fun x:Nat×(Nat→List ExV)=>[(3,.rf 3 0 n),(5,.v (.int .i64 2)),(6,.pt 20 0),(8,.rf 6 0 n),(39,.v (.int .i64 n)),(40,.v (.int .i64 j)),(76,.rf 3 2 2),(77,.v (.int .i64 ((2:Nat):Int))),(78,.v (.int .i64 x.1))])
      (fun x=>[(3,.own 1 [.rf 5 0 n,.rf 6 0 n,.rf 7 0 n,.rf 8 0 n]),(5,.own 3 (qg ExV.cs (x.2 0))),(6,.own 3 (qg ExV.cs (x.2 1))),(7,.own 3 (qg ExV.cs (x.2 2))),(8,.own 3 (qg ExV.cs (x.2 3))),(20,.own 0 [.v (.int .i64 j)])]) (fun x=>x.1≤2∧rkRed n L j 1 (2+x.1) x.2) (fun x=>2-x.1) (0,fun i=>R (swI 1 (1+2) i)) ⟨by omega,hP⟩
      (Le.lst [(5,5),(6,8),(7,7),(8,6),(20,80000000)] _ _ rfl (by simp(disch:=omega)only[go_sem,Int.zero_add,show(1:Int)+1=2 from rfl,show(2:Int)+1=3 from rfl,show(3:Int)+1=4 from rfl];try rfl) (by simp(disch:=omega)only[go_sem,show swI 1 (1+2) 0=0 from rfl,show swI 1 (1+2) 1=3 from rfl,show swI 1 (1+2) 2=2 from rfl,show swI 1 (1+2) 3=1 from rfl])) ?_
     rintro⟨m,R2⟩ ⟨hm,hE⟩
     dsimp only at hm hE ⊢
     have lS0:=hE.len 0 (by omega)
     have lS1:=hE.len 1 (by omega)
     have lS2:=hE.len 2 (by omega)
     have lS3:=hE.len 3 (by omega)
     rcases(show m=0∨m=1∨m=2 by omega)with rfl|rfl|rfl
     ·have hS:=hE.step hn4 (show 2<n by omega)
      have bX:=hE.bd0 2 (by omega) (.inr (by omega))
      have bP:=hE.bd0 1 (by omega) (.inl (by omega))
      have hjX:=qk (l:=R2 2) (i:=j) (by omega)
      have hjP:=qk (l:=R2 1) (i:=j) (by omega)
      generalize hA:R2 2=X at*
      generalize hB:R2 1=P at*
      simp(disch:=omega)only[go_sem]
      simp(disch:=omega)only[go_sem,hjX]
      refine⟨by omega,by omega,?_⟩
      refine qc (fun c:Nat=>[(3,.rf 3 0 n),(5,.v (.int .i64 2)),(6,.pt 20 0),(8,.rf 6 0 n),(10,.rf 7 0 n),(11,.pt 21 0),(39,.v (.int .i64 n)),(40,.v (.int .i64 j)),(76,.rf 3 2 2),(77,.v (.int .i64 ((2:Nat):Int))),(78,.v (.int .i64 ((0:Nat):Int))),(87,.v (.int .i64 n)),(88,.v (.int .i64 c))])
       (fun c=>[(3,.own 1 [.rf 5 0 n,.rf 6 0 n,.rf 7 0 n,.rf 8 0 n]),(5,.own 3 (qg ExV.cs (R2 0))),(6,.own 3 (qg ExV.cs (P))),(7,.own 3 (qg ExV.cs (uR n X P j c))),(8,.own 3 (qg ExV.cs (R2 3))),(20,.own 0 [.v (.int .i64 j)]),(21,.own 0 [.v (.bool (X.getD j ex0).s),.sl (lim (X.getD j ex0).m).length (qh (lim (X.getD j ex0).m)),.v (.int .i64 (X.getD j ex0).e)])]) (fun c=>c≤n) (fun c=>n-c) 0 (by omega)
       (Le.lst [(21,130000000)] _ _ rfl (by simp(disch:=omega)only[go_sem];try rfl) (by simp(disch:=omega)only[go_sem,qT lS2])) ?_
      intro c hc
      simp(disch:=omega)only[go_sem]
      refine qe (fun c2=>?_) (fun c2=>?_)
      ·have hcX:=qk (l:=uR n X P j c) (i:=c) (by rw[qF];omega)
       rw[za (by omega),if_neg (show ¬c<c by omega)]at hcX
       have hcP:=qk (l:=P) (i:=c) (by omega)
       obtain⟨b1,b2,b3⟩:=zR lS2 lS1 (show c<n by omega) (show j<n by omega) bX bP
       have hj8:2^j≤2^3:=Nat.pow_le_pow_right (by decide) (by omega)
       have e8:2^(j+1)=2*2^j:=by rw[Nat.pow_succ];omega
       rw[e8]at b1 b2
       have g1:=qi bX (show c<X.length by omega)
       have g2:=qi bX (show j<X.length by omega)
       have g3:=qi bP (show c<P.length by omega)
       have g4:=qi bP (show j<P.length by omega)
       have hlu:(uR n X P j c).length=n:=qF
       have hset:=qU (L:=uR n X P j c) (i:=c) (x:=nwX X P j c) (by omega)
       rw[zl (show c<n by omega)]at hset
       have t1:=qn (X.getD c ex0) (P.getD j ex0) (g1.mono (by omega) (by omega)) (g4.mono (by omega) (by omega))
       have t2:=qn (P.getD c ex0) (X.getD j ex0) (g3.mono (by omega) (by omega)) (g2.mono (by omega) (by omega))
       have t3:=qB ((X.getD c ex0).times (P.getD j ex0)) ((P.getD c ex0).times (X.getD j ex0)) (b1.mono (by omega) (by omega)) (b2.mono (by omega) (by omega))
       change Con _ _ _ _ _ (isA (.ag [.v (.bool (nwX X P j c).s),.sl (lim (nwX X P j c).m).length (qh (lim (nwX X P j c).m)),.v (.int .i64 (nwX X P j c).e)]))at t3
       generalize nwX X P j c=Y at*
       generalize uR n X P j c=U at*
       generalize hU2:uR n X P j (c+1)=U2 at*
       simp(disch:=omega)only[go_sem,c2]
       refine qm rfl [⟨0,[],[]⟩,⟨1,[],[]⟩,⟨2,[],[]⟩,⟨3,[],[]⟩,⟨4,[],[]⟩,⟨5,[],[]⟩,⟨6,[5],[]⟩,⟨7,[5],[]⟩,⟨8,[5],[]⟩,⟨9,[5],[]⟩,⟨11,[5,7,9],[]⟩,⟨12,[5,7,9],[]⟩,⟨13,[5,7,9],[]⟩,⟨14,[5,7,9],[]⟩,⟨15,[5,7,9,14],[]⟩,⟨10,[14,15],[]⟩,⟨16,[],[]⟩,⟨17,[],[]⟩,⟨18,[],[]⟩,⟨19,[],[]⟩] (by kernel_rfl) ?_
       simp(disch:=omega)only[go_sem,hcX,hjP,hcP]
       refine⟨by omega,by omega,by omega,by omega,by omega,by omega,?_⟩
       refine qb (t1) ?_
       simp(disch:=omega)only[go_sem]
       refine qb (t2) ?_
       simp(disch:=omega)only[go_sem]
       refine qb (t3) ?_
       simp(disch:=omega)only[go_sem]
       rw[hset]
       exact⟨by omega,by omega,qa (c+1) [] (by show c+1≤n;omega) (by show n-(c+1)<n-c;omega) rfl (by simp(disch:=omega)only[go_sem];try omega) (by simp(disch:=omega)only[go_sem,hU2])⟩
      ·obtain rfl:c=n:=by omega
       simp(disch:=omega)only[go_sem,c2]
       exact qa (1,fun i=>if i=2 then uR c (R2 2) (R2 1) j c else R2 i) [] ⟨by omega,hA▸hB▸hS⟩ (by show 2-1<2-0;omega) rfl (by simp(disch:=omega)only[go_sem,Int.zero_add,show(1:Int)+1=2 from rfl,show(2:Int)+1=3 from rfl];try rfl) (by simp(disch:=omega)only[go_sem,hA,hB,show(if(0:Nat)=2 then uR c X P j c else R2 0)=R2 0 from rfl,show(if(1:Nat)=2 then uR c X P j c else P)=P from rfl,show(if(2:Nat)=2 then uR c X P j c else X)=uR c X P j c from rfl,show(if(3:Nat)=2 then uR c X P j c else R2 3)=R2 3 from rfl])
     ·have hS:=hE.step hn4 (show 3<n by omega)
      have bX:=hE.bd0 3 (by omega) (.inr (by omega))
      have bP:=hE.bd0 1 (by omega) (.inl (by omega))
      have hjX:=qk (l:=R2 3) (i:=j) (by omega)
      have hjP:=qk (l:=R2 1) (i:=j) (by omega)
      generalize hA:R2 3=X at*
      generalize hB:R2 1=P at*
      simp(disch:=omega)only[go_sem]
      simp(disch:=omega)only[go_sem,hjX]
      refine⟨by omega,by omega,?_⟩
      refine qc (fun c:Nat=>[(3,.rf 3 0 n),(5,.v (.int .i64 2)),(6,.pt 20 0),(8,.rf 6 0 n),(10,.rf 8 0 n),(11,.pt 21 0),(39,.v (.int .i64 n)),(40,.v (.int .i64 j)),(76,.rf 3 2 2),(77,.v (.int .i64 ((2:Nat):Int))),(78,.v (.int .i64 ((1:Nat):Int))),(87,.v (.int .i64 n)),(88,.v (.int .i64 c))])
       (fun c=>[(3,.own 1 [.rf 5 0 n,.rf 6 0 n,.rf 7 0 n,.rf 8 0 n]),(5,.own 3 (qg ExV.cs (R2 0))),(6,.own 3 (qg ExV.cs (P))),(7,.own 3 (qg ExV.cs (R2 2))),(8,.own 3 (qg ExV.cs (uR n X P j c))),(20,.own 0 [.v (.int .i64 j)]),(21,.own 0 [.v (.bool (X.getD j ex0).s),.sl (lim (X.getD j ex0).m).length (qh (lim (X.getD j ex0).m)),.v (.int .i64 (X.getD j ex0).e)])]) (fun c=>c≤n) (fun c=>n-c) 0 (by omega)
       (Le.lst [(21,130000000)] _ _ rfl (by simp(disch:=omega)only[go_sem];try rfl) (by simp(disch:=omega)only[go_sem,qT lS3])) ?_
      intro c hc
      simp(disch:=omega)only[go_sem]
      refine qe (fun c2=>?_) (fun c2=>?_)
      ·have hcX:=qk (l:=uR n X P j c) (i:=c) (by rw[qF];omega)
       rw[za (by omega),if_neg (show ¬c<c by omega)]at hcX
       have hcP:=qk (l:=P) (i:=c) (by omega)
       obtain⟨b1,b2,b3⟩:=zR lS3 lS1 (show c<n by omega) (show j<n by omega) bX bP
       have hj8:2^j≤2^3:=Nat.pow_le_pow_right (by decide) (by omega)
       have e8:2^(j+1)=2*2^j:=by rw[Nat.pow_succ];omega
       rw[e8]at b1 b2
       have g1:=qi bX (show c<X.length by omega)
       have g2:=qi bX (show j<X.length by omega)
       have g3:=qi bP (show c<P.length by omega)
       have g4:=qi bP (show j<P.length by omega)
       have hlu:(uR n X P j c).length=n:=qF
       have hset:=qU (L:=uR n X P j c) (i:=c) (x:=nwX X P j c) (by omega)
       rw[zl (show c<n by omega)]at hset
       have t1:=qn (X.getD c ex0) (P.getD j ex0) (g1.mono (by omega) (by omega)) (g4.mono (by omega) (by omega))
       have t2:=qn (P.getD c ex0) (X.getD j ex0) (g3.mono (by omega) (by omega)) (g2.mono (by omega) (by omega))
       have t3:=qB ((X.getD c ex0).times (P.getD j ex0)) ((P.getD c ex0).times (X.getD j ex0)) (b1.mono (by omega) (by omega)) (b2.mono (by omega) (by omega))
       change Con _ _ _ _ _ (isA (.ag [.v (.bool (nwX X P j c).s),.sl (lim (nwX X P j c).m).length (qh (lim (nwX X P j c).m)),.v (.int .i64 (nwX X P j c).e)]))at t3
       generalize nwX X P j c=Y at*
       generalize uR n X P j c=U at*
       generalize hU2:uR n X P j (c+1)=U2 at*
       simp(disch:=omega)only[go_sem,c2]
       refine qm rfl [⟨0,[],[]⟩,⟨1,[],[]⟩,⟨2,[],[]⟩,⟨3,[],[]⟩,⟨4,[],[]⟩,⟨5,[],[]⟩,⟨6,[5],[]⟩,⟨7,[5],[]⟩,⟨8,[5],[]⟩,⟨9,[5],[]⟩,⟨11,[5,7,9],[]⟩,⟨12,[5,7,9],[]⟩,⟨13,[5,7,9],[]⟩,⟨14,[5,7,9],[]⟩,⟨15,[5,7,9,14],[]⟩,⟨10,[14,15],[]⟩,⟨16,[],[]⟩,⟨17,[],[]⟩,⟨18,[],[]⟩,⟨19,[],[]⟩] (by kernel_rfl) ?_
       simp(disch:=omega)only[go_sem,hcX,hjP,hcP]
       refine⟨by omega,by omega,by omega,by omega,by omega,by omega,?_⟩
       refine qb (t1) ?_
       simp(disch:=omega)only[go_sem]
       refine qb (t2) ?_
       simp(disch:=omega)only[go_sem]
       refine qb (t3) ?_
       simp(disch:=omega)only[go_sem]
       rw[hset]
       exact⟨by omega,by omega,qa (c+1) [] (by show c+1≤n;omega) (by show n-(c+1)<n-c;omega) rfl (by simp(disch:=omega)only[go_sem];try omega) (by simp(disch:=omega)only[go_sem,hU2])⟩
      ·obtain rfl:c=n:=by omega
       simp(disch:=omega)only[go_sem,c2]
       exact qa (2,fun i=>if i=3 then uR c (R2 3) (R2 1) j c else R2 i) [] ⟨by omega,hA▸hB▸hS⟩ (by show 2-2<2-1;omega) rfl (by simp(disch:=omega)only[go_sem,Int.zero_add,show(1:Int)+1=2 from rfl,show(2:Int)+1=3 from rfl];try rfl) (by simp(disch:=omega)only[go_sem,hA,hB,show(if(0:Nat)=3 then uR c X P j c else R2 0)=R2 0 from rfl,show(if(1:Nat)=3 then uR c X P j c else P)=P from rfl,show(if(2:Nat)=3 then uR c X P j c else R2 2)=R2 2 from rfl,show(if(3:Nat)=3 then uR c X P j c else X)=uR c X P j c from rfl])
     ·simp(disch:=omega)only[go_sem]
      try simp(disch:=omega)only[go_sem]
      exact qa (j+1,2,R2) [] (hE.done (by omega)) (by show n-(j+1)<n-j;omega) rfl (by simp(disch:=omega)only[go_sem];try omega) (by simp(disch:=omega)only[go_sem])
  ·have hx:=zN n j [R 2,R 3] hn4 (by omega) (by simp[lR2,lR3]) (by simp)
   change Con _ _ _ [.sl 2 [.sl n (qg ExV.cs (R 2)),.sl n (qg ExV.cs (R 3))],_] _ _ at hx
   simp(disch:=omega)only[go_sem,c1]
   rw[show((n:Int)-2).toNat=2 by omega]
   refine⟨by omega,?_⟩
   refine qy hx (by simp(disch:=omega)only[go_sem,hcR0,hcR1,hcR2,hcR3]) ?_
   rintro x hs ⟨rfl, -,(⟨rfl,hz0⟩|⟨k,hk,rfl,hk0⟩)⟩
   ·refine⟨by simp[qG],?_⟩
    simp(disch:=omega)only[go_sem]
    exact qa (j+1,2,R) [] (hI.skip (by omega) (fun i h1 h2=>by
     have:=hz0 (i-2) (by simp;omega)
     rcases(show i=2∨i=3 by omega)with rfl|rfl
     ·exact this
     ·exact this)) (by show n-(j+1)<n-j;omega) rfl (by simp(disch:=omega)only[go_sem];try omega) (by simp(disch:=omega)only[go_sem])
   ·refine⟨by simp[qG],?_⟩
    have hk:k<2:=hk
    rcases(show k=0∨k=1 by omega)with rfl|rfl
    ·have hP:=hI.pivot hn4 (by omega) (k:=0) (by omega) hk0
     simp(disch:=omega)only[go_sem]
     refine qm rfl [⟨0,[],[]⟩,⟨1,[],[]⟩,⟨2,[],[]⟩,⟨3,[],[]⟩,⟨4,[],[]⟩,⟨5,[],[]⟩,⟨6,[],[]⟩,⟨7,[],[]⟩,⟨8,[],[]⟩,⟨9,[],[]⟩,⟨10,[],[]⟩,⟨11,[],[]⟩,⟨12,[11],[]⟩,⟨13,[11],[]⟩,⟨14,[11],[]⟩,⟨15,[11],[]⟩,⟨16,[],[]⟩,⟨17,[],[]⟩,⟨18,[],[]⟩,⟨19,[],[]⟩] (by kernel_rfl) ?_
     simp(disch:=omega)only[go_sem,Int.add_zero,Int.zero_add,Int.toNat_zero,List.getD_cons_zero,List.getD_cons_succ,show(1:Int)+1=2 from rfl,show(1:Int)+2=3 from rfl,show(2:Int)+1=3 from rfl,show(3:Int)+1=4 from rfl,show(1:Int).toNat=1 from rfl,show(2:Int).toNat=2 from rfl,show(3:Int).toNat=3 from rfl]
     refine⟨by omega,by omega,by omega,by omega,by omega,by omega,?_⟩
     rw[show((n:Int)-3).toNat=1 by omega]
     refine qc (fun x:Nat×(Nat→List ExV)=>[(3,.rf 3 0 n),(5,.v (.int .i64 3)),(6,.pt 20 0),(8,.rf 7 0 n),(39,.v (.int .i64 n)),(40,.v (.int .i64 j)),(76,.rf 3 3 1),(77,.v (.int .i64 ((1:Nat):Int))),(78,.v (.int .i64 x.1))])
      (fun x=>[(3,.own 1 [.rf 5 0 n,.rf 6 0 n,.rf 7 0 n,.rf 8 0 n]),(5,.own 3 (qg ExV.cs (x.2 0))),(6,.own 3 (qg ExV.cs (x.2 1))),(7,.own 3 (qg ExV.cs (x.2 2))),(8,.own 3 (qg ExV.cs (x.2 3))),(20,.own 0 [.v (.int .i64 j)])]) (fun x=>x.1≤1∧rkRed n L j 2 (3+x.1) x.2) (fun x=>1-x.1) (0,fun i=>R (swI 2 (2+0) i)) ⟨by omega,hP⟩
      (Le.lst [(5,5),(6,6),(7,7),(8,8),(20,80000000)] _ _ rfl (by simp(disch:=omega)only[go_sem,Int.zero_add,show(1:Int)+1=2 from rfl,show(2:Int)+1=3 from rfl,show(3:Int)+1=4 from rfl];try rfl) (by simp(disch:=omega)only[go_sem,show swI 2 (2+0) 0=0 from rfl,show swI 2 (2+0) 1=1 from rfl,show swI 2 (2+0) 2=2 from rfl,show swI 2 (2+0) 3=3 from rfl])) ?_
     rintro⟨m,R2⟩ ⟨hm,hE⟩
     dsimp only at hm hE ⊢
     have lS0:=hE.len 0 (by omega)
     have lS1:=hE.len 1 (by omega)
     have lS2:=hE.len 2 (by omega)
     have lS3:=hE.len 3 (by omega)
     rcases(show m=0∨m=1 by omega)with rfl|rfl
     ·have hS:=hE.step hn4 (show 3<n by omega)
      have bX:=hE.bd0 3 (by omega) (.inr (by omega))
      have bP:=hE.bd0 2 (by omega) (.inl (by omega))
      have hjX:=qk (l:=R2 3) (i:=j) (by omega)
      have hjP:=qk (l:=R2 2) (i:=j) (by omega)
      generalize hA:R2 3=X at*
      generalize hB:R2 2=P at*
      simp(disch:=omega)only[go_sem]
      simp(disch:=omega)only[go_sem,hjX]
      refine⟨by omega,by omega,?_⟩
      refine qc (fun c:Nat=>[(3,.rf 3 0 n),(5,.v (.int .i64 3)),(6,.pt 20 0),(8,.rf 7 0 n),(10,.rf 8 0 n),(11,.pt 21 0),(39,.v (.int .i64 n)),(40,.v (.int .i64 j)),(76,.rf 3 3 1),(77,.v (.int .i64 ((1:Nat):Int))),(78,.v (.int .i64 ((0:Nat):Int))),(87,.v (.int .i64 n)),(88,.v (.int .i64 c))])
       (fun c=>[(3,.own 1 [.rf 5 0 n,.rf 6 0 n,.rf 7 0 n,.rf 8 0 n]),(5,.own 3 (qg ExV.cs (R2 0))),(6,.own 3 (qg ExV.cs (R2 1))),(7,.own 3 (qg ExV.cs (P))),(8,.own 3 (qg ExV.cs (uR n X P j c))),(20,.own 0 [.v (.int .i64 j)]),(21,.own 0 [.v (.bool (X.getD j ex0).s),.sl (lim (X.getD j ex0).m).length (qh (lim (X.getD j ex0).m)),.v (.int .i64 (X.getD j ex0).e)])]) (fun c=>c≤n) (fun c=>n-c) 0 (by omega)
       (Le.lst [(21,130000000)] _ _ rfl (by simp(disch:=omega)only[go_sem];try rfl) (by simp(disch:=omega)only[go_sem,qT lS3])) ?_
      intro c hc
      simp(disch:=omega)only[go_sem]
      refine qe (fun c2=>?_) (fun c2=>?_)
      ·have hcX:=qk (l:=uR n X P j c) (i:=c) (by rw[qF];omega)
       rw[za (by omega),if_neg (show ¬c<c by omega)]at hcX
       have hcP:=qk (l:=P) (i:=c) (by omega)
       obtain⟨b1,b2,b3⟩:=zR lS3 lS2 (show c<n by omega) (show j<n by omega) bX bP
       have hj8:2^j≤2^3:=Nat.pow_le_pow_right (by decide) (by omega)
       have e8:2^(j+1)=2*2^j:=by rw[Nat.pow_succ];omega
       rw[e8]at b1 b2
       have g1:=qi bX (show c<X.length by omega)
       have g2:=qi bX (show j<X.length by omega)
       have g3:=qi bP (show c<P.length by omega)
       have g4:=qi bP (show j<P.length by omega)
       have hlu:(uR n X P j c).length=n:=qF
       have hset:=qU (L:=uR n X P j c) (i:=c) (x:=nwX X P j c) (by omega)
       rw[zl (show c<n by omega)]at hset
       have t1:=qn (X.getD c ex0) (P.getD j ex0) (g1.mono (by omega) (by omega)) (g4.mono (by omega) (by omega))
       have t2:=qn (P.getD c ex0) (X.getD j ex0) (g3.mono (by omega) (by omega)) (g2.mono (by omega) (by omega))
       have t3:=qB ((X.getD c ex0).times (P.getD j ex0)) ((P.getD c ex0).times (X.getD j ex0)) (b1.mono (by omega) (by omega)) (b2.mono (by omega) (by omega))
       change Con _ _ _ _ _ (isA (.ag [.v (.bool (nwX X P j c).s),.sl (lim (nwX X P j c).m).length (qh (lim (nwX X P j c).m)),.v (.int .i64 (nwX X P j c).e)]))at t3
       generalize nwX X P j c=Y at*
       generalize uR n X P j c=U at*
       generalize hU2:uR n X P j (c+1)=U2 at*
       simp(disch:=omega)only[go_sem,c2]
       refine qm rfl [⟨0,[],[]⟩,⟨1,[],[]⟩,⟨2,[],[]⟩,⟨3,[],[]⟩,⟨4,[],[]⟩,⟨5,[],[]⟩,⟨6,[5],[]⟩,⟨7,[5],[]⟩,⟨8,[5],[]⟩,⟨9,[5],[]⟩,⟨11,[5,7,9],[]⟩,⟨12,[5,7,9],[]⟩,⟨13,[5,7,9],[]⟩,⟨14,[5,7,9],[]⟩,⟨15,[5,7,9,14],[]⟩,⟨10,[14,15],[]⟩,⟨16,[],[]⟩,⟨17,[],[]⟩,⟨18,[],[]⟩,⟨19,[],[]⟩] (by kernel_rfl) ?_
       simp(disch:=omega)only[go_sem,hcX,hjP,hcP]
       refine⟨by omega,by omega,by omega,by omega,by omega,by omega,?_⟩
       refine qb (t1) ?_
       simp(disch:=omega)only[go_sem]
       refine qb (t2) ?_
       simp(disch:=omega)only[go_sem]
       refine qb (t3) ?_
       simp(disch:=omega)only[go_sem]
       rw[hset]
       exact⟨by omega,by omega,qa (c+1) [] (by show c+1≤n;omega) (by show n-(c+1)<n-c;omega) rfl (by simp(disch:=omega)only[go_sem];try omega) (by simp(disch:=omega)only[go_sem,hU2])⟩
      ·obtain rfl:c=n:=by omega
       simp(disch:=omega)only[go_sem,c2]
       exact qa (1,fun i=>if i=3 then uR c (R2 3) (R2 2) j c else R2 i) [] ⟨by omega,hA▸hB▸hS⟩ (by show 1-1<1-0;omega) rfl (by simp(disch:=omega)only[go_sem,Int.zero_add,show(1:Int)+1=2 from rfl,show(2:Int)+1=3 from rfl];try rfl) (by simp(disch:=omega)only[go_sem,hA,hB,show(if(0:Nat)=3 then uR c X P j c else R2 0)=R2 0 from rfl,show(if(1:Nat)=3 then uR c X P j c else R2 1)=R2 1 from rfl,show(if(2:Nat)=3 then uR c X P j c else P)=P from rfl,show(if(3:Nat)=3 then uR c X P j c else X)=uR c X P j c from rfl])
     ·simp(disch:=omega)only[go_sem]
      try simp(disch:=omega)only[go_sem]
      exact qa (j+1,3,R2) [] (hE.done (by omega)) (by show n-(j+1)<n-j;omega) rfl (by simp(disch:=omega)only[go_sem];try omega) (by simp(disch:=omega)only[go_sem])
    ·have hP:=hI.pivot hn4 (by omega) (k:=1) (by omega) hk0
     simp(disch:=omega)only[go_sem]
     refine qm rfl [⟨0,[],[]⟩,⟨1,[],[]⟩,⟨2,[],[]⟩,⟨3,[],[]⟩,⟨4,[],[]⟩,⟨5,[],[]⟩,⟨6,[],[]⟩,⟨7,[],[]⟩,⟨8,[],[]⟩,⟨9,[],[]⟩,⟨10,[],[]⟩,⟨11,[],[]⟩,⟨12,[11],[]⟩,⟨13,[11],[]⟩,⟨14,[11],[]⟩,⟨15,[11],[]⟩,⟨16,[],[]⟩,⟨17,[],[]⟩,⟨18,[],[]⟩,⟨19,[],[]⟩] (by kernel_rfl) ?_
     simp(disch:=omega)only[go_sem,Int.add_zero,Int.zero_add,Int.toNat_zero,List.getD_cons_zero,List.getD_cons_succ,show(1:Int)+1=2 from rfl,show(1:Int)+2=3 from rfl,show(2:Int)+1=3 from rfl,show(3:Int)+1=4 from rfl,show(1:Int).toNat=1 from rfl,show(2:Int).toNat=2 from rfl,show(3:Int).toNat=3 from rfl]
     refine⟨by omega,by omega,by omega,by omega,by omega,by omega,?_⟩
     rw[show((n:Int)-3).toNat=1 by omega]
     refine qc (fun x:Nat×(Nat→List ExV)=>[(3,.rf 3 0 n),(5,.v (.int .i64 3)),(6,.pt 20 0),(8,.rf 7 0 n),(39,.v (.int .i64 n)),(40,.v (.int .i64 j)),(76,.rf 3 3 1),(77,.v (.int .i64 ((1:Nat):Int))),(78,.v (.int .i64 x.1))])
      (fun x=>[(3,.own 1 [.rf 5 0 n,.rf 6 0 n,.rf 7 0 n,.rf 8 0 n]),(5,.own 3 (qg ExV.cs (x.2 0))),(6,.own 3 (qg ExV.cs (x.2 1))),(7,.own 3 (qg ExV.cs (x.2 2))),(8,.own 3 (qg ExV.cs (x.2 3))),(20,.own 0 [.v (.int .i64 j)])]) (fun x=>x.1≤1∧rkRed n L j 2 (3+x.1) x.2) (fun x=>1-x.1) (0,fun i=>R (swI 2 (2+1) i)) ⟨by omega,hP⟩
      (Le.lst [(5,5),(6,6),(7,8),(8,7),(20,80000000)] _ _ rfl (by simp(disch:=omega)only[go_sem,Int.zero_add,show(1:Int)+1=2 from rfl,show(2:Int)+1=3 from rfl,show(3:Int)+1=4 from rfl];try rfl) (by simp(disch:=omega)only[go_sem,show swI 2 (2+1) 0=0 from rfl,show swI 2 (2+1) 1=1 from rfl,show swI 2 (2+1) 2=3 from rfl,show swI 2 (2+1) 3=2 from rfl])) ?_
     rintro⟨m,R2⟩ ⟨hm,hE⟩
     dsimp only at hm hE ⊢
     have lS0:=hE.len 0 (by omega)
     have lS1:=hE.len 1 (by omega)
     have lS2:=hE.len 2 (by omega)
     have lS3:=hE.len 3 (by omega)
     rcases(show m=0∨m=1 by omega)with rfl|rfl
     ·have hS:=hE.step hn4 (show 3<n by omega)
      have bX:=hE.bd0 3 (by omega) (.inr (by omega))
      have bP:=hE.bd0 2 (by omega) (.inl (by omega))
      have hjX:=qk (l:=R2 3) (i:=j) (by omega)
      have hjP:=qk (l:=R2 2) (i:=j) (by omega)
      generalize hA:R2 3=X at*
      generalize hB:R2 2=P at*
      simp(disch:=omega)only[go_sem]
      simp(disch:=omega)only[go_sem,hjX]
      refine⟨by omega,by omega,?_⟩
      refine qc (fun c:Nat=>[(3,.rf 3 0 n),(5,.v (.int .i64 3)),(6,.pt 20 0),(8,.rf 7 0 n),(10,.rf 8 0 n),(11,.pt 21 0),(39,.v (.int .i64 n)),(40,.v (.int .i64 j)),(76,.rf 3 3 1),(77,.v (.int .i64 ((1:Nat):Int))),(78,.v (.int .i64 ((0:Nat):Int))),(87,.v (.int .i64 n)),(88,.v (.int .i64 c))])
       (fun c=>[(3,.own 1 [.rf 5 0 n,.rf 6 0 n,.rf 7 0 n,.rf 8 0 n]),(5,.own 3 (qg ExV.cs (R2 0))),(6,.own 3 (qg ExV.cs (R2 1))),(7,.own 3 (qg ExV.cs (P))),(8,.own 3 (qg ExV.cs (uR n X P j c))),(20,.own 0 [.v (.int .i64 j)]),(21,.own 0 [.v (.bool (X.getD j ex0).s),.sl (lim (X.getD j ex0).m).length (qh (lim (X.getD j ex0).m)),.v (.int .i64 (X.getD j ex0).e)])]) (fun c=>c≤n) (fun c=>n-c) 0 (by omega)
       (Le.lst [(21,130000000)] _ _ rfl (by simp(disch:=omega)only[go_sem];try rfl) (by simp(disch:=omega)only[go_sem,qT lS3])) ?_
      intro c hc
      simp(disch:=omega)only[go_sem]
      refine qe (fun c2=>?_) (fun c2=>?_)
      ·have hcX:=qk (l:=uR n X P j c) (i:=c) (by rw[qF];omega)
       rw[za (by omega),if_neg (show ¬c<c by omega)]at hcX
       have hcP:=qk (l:=P) (i:=c) (by omega)
       obtain⟨b1,b2,b3⟩:=zR lS3 lS2 (show c<n by omega) (show j<n by omega) bX bP
       have hj8:2^j≤2^3:=Nat.pow_le_pow_right (by decide) (by omega)
       have e8:2^(j+1)=2*2^j:=by rw[Nat.pow_succ];omega
       rw[e8]at b1 b2
       have g1:=qi bX (show c<X.length by omega)
       have g2:=qi bX (show j<X.length by omega)
       have g3:=qi bP (show c<P.length by omega)
       have g4:=qi bP (show j<P.length by omega)
       have hlu:(uR n X P j c).length=n:=qF
       have hset:=qU (L:=uR n X P j c) (i:=c) (x:=nwX X P j c) (by omega)
       rw[zl (show c<n by omega)]at hset
       have t1:=qn (X.getD c ex0) (P.getD j ex0) (g1.mono (by omega) (by omega)) (g4.mono (by omega) (by omega))
       have t2:=qn (P.getD c ex0) (X.getD j ex0) (g3.mono (by omega) (by omega)) (g2.mono (by omega) (by omega))
       have t3:=qB ((X.getD c ex0).times (P.getD j ex0)) ((P.getD c ex0).times (X.getD j ex0)) (b1.mono (by omega) (by omega)) (b2.mono (by omega) (by omega))
       change Con _ _ _ _ _ (isA (.ag [.v (.bool (nwX X P j c).s),.sl (lim (nwX X P j c).m).length (qh (lim (nwX X P j c).m)),.v (.int .i64 (nwX X P j c).e)]))at t3
       generalize nwX X P j c=Y at*
       generalize uR n X P j c=U at*
       generalize hU2:uR n X P j (c+1)=U2 at*
       simp(disch:=omega)only[go_sem,c2]
       refine qm rfl [⟨0,[],[]⟩,⟨1,[],[]⟩,⟨2,[],[]⟩,⟨3,[],[]⟩,⟨4,[],[]⟩,⟨5,[],[]⟩,⟨6,[5],[]⟩,⟨7,[5],[]⟩,⟨8,[5],[]⟩,⟨9,[5],[]⟩,⟨11,[5,7,9],[]⟩,⟨12,[5,7,9],[]⟩,⟨13,[5,7,9],[]⟩,⟨14,[5,7,9],[]⟩,⟨15,[5,7,9,14],[]⟩,⟨10,[14,15],[]⟩,⟨16,[],[]⟩,⟨17,[],[]⟩,⟨18,[],[]⟩,⟨19,[],[]⟩] (by kernel_rfl) ?_
       simp(disch:=omega)only[go_sem,hcX,hjP,hcP]
       refine⟨by omega,by omega,by omega,by omega,by omega,by omega,?_⟩
       refine qb (t1) ?_
       simp(disch:=omega)only[go_sem]
       refine qb (t2) ?_
       simp(disch:=omega)only[go_sem]
       refine qb (t3) ?_
       simp(disch:=omega)only[go_sem]
       rw[hset]
       exact⟨by omega,by omega,qa (c+1) [] (by show c+1≤n;omega) (by show n-(c+1)<n-c;omega) rfl (by simp(disch:=omega)only[go_sem];try omega) (by simp(disch:=omega)only[go_sem,hU2])⟩
      ·obtain rfl:c=n:=by omega
       simp(disch:=omega)only[go_sem,c2]
       exact qa (1,fun i=>if i=3 then uR c (R2 3) (R2 2) j c else R2 i) [] ⟨by omega,hA▸hB▸hS⟩ (by show 1-1<1-0;omega) rfl (by simp(disch:=omega)only[go_sem,Int.zero_add,show(1:Int)+1=2 from rfl,show(2:Int)+1=3 from rfl];try rfl) (by simp(disch:=omega)only[go_sem,hA,hB,show(if(0:Nat)=3 then uR c X P j c else R2 0)=R2 0 from rfl,show(if(1:Nat)=3 then uR c X P j c else R2 1)=R2 1 from rfl,show(if(2:Nat)=3 then uR c X P j c else P)=P from rfl,show(if(3:Nat)=3 then uR c X P j c else X)=uR c X P j c from rfl])
     ·simp(disch:=omega)only[go_sem]
      try simp(disch:=omega)only[go_sem]
      exact qa (j+1,3,R2) [] (hE.done (by omega)) (by show n-(j+1)<n-j;omega) rfl (by simp(disch:=omega)only[go_sem];try omega) (by simp(disch:=omega)only[go_sem])
  ·have hx:=zN n j [R 3] hn4 (by omega) (by simp[lR3]) (by simp)
   change Con _ _ _ [.sl 1 [.sl n (qg ExV.cs (R 3))],_] _ _ at hx
   simp(disch:=omega)only[go_sem,c1]
   rw[show((n:Int)-3).toNat=1 by omega]
   refine⟨by omega,?_⟩
   refine qy hx (by simp(disch:=omega)only[go_sem,hcR0,hcR1,hcR2,hcR3]) ?_
   rintro x hs ⟨rfl, -,(⟨rfl,hz0⟩|⟨k,hk,rfl,hk0⟩)⟩
   ·refine⟨by simp[qG],?_⟩
    simp(disch:=omega)only[go_sem]
    exact qa (j+1,3,R) [] (hI.skip (by omega) (fun i h1 h2=>by
     have:=hz0 (i-3) (by simp;omega)
     rcases(show i=3 by omega)with rfl
     ·exact this)) (by show n-(j+1)<n-j;omega) rfl (by simp(disch:=omega)only[go_sem];try omega) (by simp(disch:=omega)only[go_sem])
   ·refine⟨by simp[qG],?_⟩
    have hk:k<1:=hk
    rcases(show k=0 by omega)with rfl
    ·have hP:=hI.pivot hn4 (by omega) (k:=0) (by omega) hk0
     simp(disch:=omega)only[go_sem]
     refine qm rfl [⟨0,[],[]⟩,⟨1,[],[]⟩,⟨2,[],[]⟩,⟨3,[],[]⟩,⟨4,[],[]⟩,⟨5,[],[]⟩,⟨6,[],[]⟩,⟨7,[],[]⟩,⟨8,[],[]⟩,⟨9,[],[]⟩,⟨10,[],[]⟩,⟨11,[],[]⟩,⟨12,[11],[]⟩,⟨13,[11],[]⟩,⟨14,[11],[]⟩,⟨15,[11],[]⟩,⟨16,[],[]⟩,⟨17,[],[]⟩,⟨18,[],[]⟩,⟨19,[],[]⟩] (by kernel_rfl) ?_
     simp(disch:=omega)only[go_sem,Int.add_zero,Int.zero_add,Int.toNat_zero,List.getD_cons_zero,List.getD_cons_succ,show(1:Int)+1=2 from rfl,show(1:Int)+2=3 from rfl,show(2:Int)+1=3 from rfl,show(3:Int)+1=4 from rfl,show(1:Int).toNat=1 from rfl,show(2:Int).toNat=2 from rfl,show(3:Int).toNat=3 from rfl]
     refine⟨by omega,by omega,by omega,by omega,by omega,by omega,?_⟩
     rw[show((n:Int)-4).toNat=0 by omega]
     refine qc (fun x:Nat×(Nat→List ExV)=>[(3,.rf 3 0 n),(5,.v (.int .i64 4)),(6,.pt 20 0),(8,.rf 8 0 n),(39,.v (.int .i64 n)),(40,.v (.int .i64 j)),(76,.rf 3 4 0),(77,.v (.int .i64 ((0:Nat):Int))),(78,.v (.int .i64 x.1))])
      (fun x=>[(3,.own 1 [.rf 5 0 n,.rf 6 0 n,.rf 7 0 n,.rf 8 0 n]),(5,.own 3 (qg ExV.cs (x.2 0))),(6,.own 3 (qg ExV.cs (x.2 1))),(7,.own 3 (qg ExV.cs (x.2 2))),(8,.own 3 (qg ExV.cs (x.2 3))),(20,.own 0 [.v (.int .i64 j)])]) (fun x=>x.1≤0∧rkRed n L j 3 (4+x.1) x.2) (fun x=>0-x.1) (0,fun i=>R (swI 3 (3+0) i)) ⟨by omega,hP⟩
      (Le.lst [(5,5),(6,6),(7,7),(8,8),(20,80000000)] _ _ rfl (by simp(disch:=omega)only[go_sem,Int.zero_add,show(1:Int)+1=2 from rfl,show(2:Int)+1=3 from rfl,show(3:Int)+1=4 from rfl];try rfl) (by simp(disch:=omega)only[go_sem,show swI 3 (3+0) 0=0 from rfl,show swI 3 (3+0) 1=1 from rfl,show swI 3 (3+0) 2=2 from rfl,show swI 3 (3+0) 3=3 from rfl])) ?_
     rintro⟨m,R2⟩ ⟨hm,hE⟩
     dsimp only at hm hE ⊢
     have lS0:=hE.len 0 (by omega)
     have lS1:=hE.len 1 (by omega)
     have lS2:=hE.len 2 (by omega)
     have lS3:=hE.len 3 (by omega)
     rcases(show m=0 by omega)with rfl
     ·simp(disch:=omega)only[go_sem]
      try simp(disch:=omega)only[go_sem]
      exact qa (j+1,4,R2) [] (hE.done (by omega)) (by show n-(j+1)<n-j;omega) rfl (by simp(disch:=omega)only[go_sem];try omega) (by simp(disch:=omega)only[go_sem])
end Go.Ab
